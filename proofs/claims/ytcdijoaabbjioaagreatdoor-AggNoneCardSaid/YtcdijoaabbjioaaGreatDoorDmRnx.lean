/- A machine over Go's operations in which slices are values: it can be run (second make: small steps, temporaries in a tree, panics, calls that defer). -/
import Derived.Test.YtcdijoaabbjioaaGreatDoorDpAx
set_option linter.unusedSimpArgs false
set_option linter.unusedVariables false
namespace Go.DM
open Go Go.AM
abbrev Hint:=FuncId×Nat×List Nat×Nat×Option (Nat×List Nat)
structure Hints where
 open_:List Hint
 own:List (FuncId×Nat×Nat)
 low:List (FuncId×Nat×Nat)
 pure:List FuncId
 defers:List FuncId
 gcs:List (FuncId×Nat×List Nat×Bool)
 keeps:List FuncId
 lib:FuncId→List D→Mem→Option (D×Mem)
abbrev Seen:=DEnv×Op×D
def eqL (f:D→D→Bool):List D→List D→Bool
 | [],[]=>true
 | a::xs,b::ys=>f a b&&eqL f xs ys
 | _,_=>false
def eqD:Nat→D→D→Bool
 | 0,_,_=>false
 | n+1,a,b=>
  match a,b with
  | .bool a,.bool b=>a==b
  | .int k a,.int l b=>decide (k=l)&&decide (a=b)
  | .str a,.str b=>decide (a=b)
  | .nilp,.nilp=>true
  | .ptr a b,.ptr c d=>a==c&&b==d
  | .eptr a b,.eptr c d=>eqL (eqD n) a c&&b==d
  | .nils,.nils=>true
  | .sl0,.sl0=>true
  | .slx,.slx=>true
  | .sl a b c d,.sl x y z w=>decide (a=x)&&b==y&&c==z&&eqL (eqD n) d w
  | .msl a b c,.msl x y z=>a==x&&b==y&&c==z
  | .nilf,.nilf=>true
  | .nili,.nili=>true
  | .agg a,.agg b=>eqL (eqD n) a b
  | _,_=>false
theorem eqL_ok {f:D→D→Bool} (h : ∀ a b,f a b=true→a=b) : ∀ {xs ys:List D},eqL f xs ys=true→xs=ys
 | [],[],_=>rfl
 | [],_::_,q=>by simp [eqL] at q
 | _::_,[],q=>by simp [eqL] at q
 | a::xs,b::ys,q=>by
  simp only [eqL,Bool.and_eq_true] at q
  rw [h _ _ q.1,eqL_ok h q.2]
theorem eqD_ok : ∀ {n:Nat} {a b:D},eqD n a b=true→a=b
 | 0,_,_,h=>by simp [eqD] at h
 | n+1,a,b,h=>by
  have ih:=fun a b => @eqD_ok n a b
  cases a<;>cases b<;>simp only [eqD,Bool.and_eq_true,beq_iff_eq,decide_eq_true_eq,Bool.false_eq_true] at h<;>first | rfl | (subst h;rfl) | (obtain ⟨rfl,rfl⟩:=h;rfl) | (rw [eqL_ok ih h]) | (obtain ⟨h1,rfl⟩:=h;rw [eqL_ok ih h1]) | (obtain ⟨⟨rfl,rfl⟩,rfl⟩:=h;rfl) | (obtain ⟨⟨⟨rfl,rfl⟩,rfl⟩,h1⟩:=h;rw [eqL_ok ih h1])
def readsSo (P:Program) (q:Seen) (H:Mem):Bool:=
 match q.2.1 with
 | .load t x=>match loadD P t (evalD q.1 x) H with | some v=>eqD 1000 v q.2.2 | none=>false
 | _=>false
theorem readsSo_ok {P:Program} {q:Seen} {H:Mem} (h:readsSo P q H=true):opD P q.1 q.2.1 H=some (q.2.2,H):=by
 unfold readsSo at h
 split at h
 ·rename_i e
  rw [e]
  simp only [opD]
  split at h
  ·rename_i e2
   rw [e2,eqD_ok h]
   rfl
  ·cases h
 ·cases h
def hintOf (hs:List Hint) (f r:Nat):Option (List Nat×Nat×Option (Nat×List Nat)):=(hs.find? fun h=>h.1==f&&h.2.1==r).map (·.2.2)
def openOk (P:Program) (ops:Array Oper) (x:List Nat×Nat×Option (Nat×List Nat)):Bool:=
 (x.1.all fun a=>decide (a<x.2.1)) &&
 match x.2.2 with
 | none=>drawnFineD ops x.1&&fenceOk ops x.1 x.2.1
 | some (a,ms)=>drawnFineD (plus ops a ms) x.1&&fenceOk (plus ops a ms) x.1 x.2.1&&lateOk ops a ms &&
  match ops[a]? with
  | some ⟨some _,.alloc ty,_,_,_,none⟩=>match zeroA P ty with | some z=>z.cells.all scalarV | none=>false
  | _=>false
def lowN (n:Nat):Nat→D→Bool
 | 0,_=>false
 | k+1,d=>
  match d with
  | .bool _=>true
  | .int _ _=>true
  | .str _=>true
  | .nilp=>true
  | .ptr o _=>decide (o<n)
  | .eptr c _=>c.all (lowN n k)
  | .nils=>true
  | .sl0=>true
  | .slx=>true
  | .sl own _ _ c=>(match own with | some id=>decide (id<n) | none=>true)&&c.all (lowN n k)
  | .msl o _ _=>decide (o<n)
  | .fn _ xs cs=>xs.all (lowN n k)&&cs.all (lowN n k)
  | .nilf=>true
  | .iface _ d=>lowN n k d
  | .nili=>true
  | .agg c=>c.all (lowN n k)
  | .tup c=>c.all (lowN n k)
  | .bot=>true
theorem lowN_ok {n:Nat} : ∀ {k:Nat} {d:D},lowN n k d=true→DLow n d
 | 0,_,h=>by simp [lowN] at h
 | k+1,d,h=>by
  have ih:=fun d => @lowN_ok n k d
  cases d with
  | sl own sz len cells=>
   simp only [lowN,List.all_eq_true,Bool.and_eq_true] at h
   refine .sl own _ _ _ (fun id e => ?_) fun i hi=>ih _ (h.2 _ (List.getElem_mem hi))
   subst e
   simpa using h.1
  | agg xs=>
   simp only [lowN,List.all_eq_true] at h
   exact .agg _ fun i hi=>ih _ (h _ (List.getElem_mem hi))
  | tup xs=>
   simp only [lowN,List.all_eq_true] at h
   exact .tup _ fun i hi=>ih _ (h _ (List.getElem_mem hi))
  | eptr xs off=>
   simp only [lowN,List.all_eq_true] at h
   exact .eptr _ _ fun i hi=>ih _ (h _ (List.getElem_mem hi))
  | fn g xs cs=>
   simp only [lowN,List.all_eq_true,Bool.and_eq_true] at h
   exact .fn _ _ _ (fun i hi=>ih _ (h.1 _ (List.getElem_mem hi))) fun i hi=>ih _ (h.2 _ (List.getElem_mem hi))
  | iface t d=>exact .iface _ _ (ih _ (by simpa [lowN] using h))
  | ptr o off=>exact .ptr _ _ (by simpa [lowN] using h)
  | msl o z len=>exact .msl _ _ _ (by simpa [lowN] using h)
  | bool b=>exact .bool b
  | int k x=>exact .int k x
  | str s=>exact .str s
  | nilp=>exact .nilp
  | nils=>exact .nils
  | sl0=>exact .sl0
  | slx=>exact .slx
  | nilf=>exact .nilf
  | nili=>exact .nili
  | bot=>exact .bot
def stripD:Nat→D→D
 | 0,d=>d
 | n+1,d=>
  match d with
  | .sl _ sz len c=>.sl none sz len (c.map (stripD n))
  | .agg c=>.agg (c.map (stripD n))
  | .tup c=>.tup (c.map (stripD n))
  | d=>d
theorem WfL.map {f:D→D} (h : ∀ d,Wf d (f d)) : ∀ l:List D,WfL l (l.map f)
 | []=>.nil
 | d::l=>.cons (h d) (WfL.map h l)
theorem stripD_wf : ∀ (n:Nat) (d:D),Wf d (stripD n d)
 | 0,_=>.refl
 | n+1,d=>by
  have ih:=stripD_wf n
  cases d with
  | sl own sz len c=>exact .sl' (WfL.map ih c)
  | agg c=>exact .agg' (WfL.map ih c)
  | tup c=>exact .tup' (WfL.map ih c)
  | _=>exact .refl
def oldLow (n:Nat) (S1:Mem):Bool:=decide (n≤S1.length)&&(S1.take n).all fun x=>match x with | .obj cells=>cells.all (lowN n 100) | _=>true
theorem CallD.pureN {P:Program} {orc:DOracle} {f:FuncId} {args:List D} {S S1:Mem} {d:D} (h:CallD P orc f args S fun d' S'=>d'=d∧S'=S1) (h1:lowN S.length 100 (stripD 100 d)=true) (h2:oldLow S.length S1=true) :
  CallD P orc f args S fun d' S'=>d'=stripD 100 d∧S'=S1.take S.length:=by
 obtain ⟨_,_,hb,rfl,rfl⟩:=h
 simp only [oldLow,Bool.and_eq_true,decide_eq_true_eq,List.all_eq_true] at h2
 refine ⟨_,_,.drop hb h2.1 ((stripD_wf 100 _).to_Wk (lowN_ok h1)) fun o cells ho hc=>.inr fun c hcm => ?_,rfl,rfl⟩
 have hx:Ob.obj cells∈List.take S.length _:=List.mem_of_getElem? (i:=o) (by rw [List.getElem?_take,if_pos ho];exact objAt_some hc)
 have:=h2.2 _ hx
 simp only [List.all_eq_true] at this
 exact lowN_ok (this c hcm)
def madeNew (P:Program) (ρ:DEnv) (c:Call) (H:Mem):Option (Nat×Nat×List D):=
 match c.callee,c.args.toList.map (evalD ρ) with
 | .builtin .append,[s,x]=>
  match s with
  | .nils | .sl0=>match appendD P c.argTypes s x H with | some (.sl (some _) z len cells,_)=>some (z,len,cells) | _=>none
  | _=>none
 | _,_=>none
theorem appendD_new {P:Program} {at_:Array TypeId} {s x:D} {S S1:Mem} {id z len:Nat} {cells:List D} (hs:s = .nils∨s = .sl0) (h:appendD P at_ s x S=some (.sl (some id) z len cells,S1)):id=S.length∧S1=S++[.own]:=by
 unfold appendD at h
 cases h1:at_[0]? with
 | none=>simp [h1] at h
 | some st=>
 cases h2:P.underlying st with
 | none=>simp [h1,h2] at h
 | some d=>
 cases d<;>simp only [h1,h2,Option.bind_eq_bind,Option.bind_some,reduceCtorEq] at h
 rename_i e
 cases h3:at_[1]? with
 | none=>simp [h3] at h
 | some xt=>
 simp only [h3,Option.bind_some] at h
 split at h
 ·cases h
 cases h4:P.info? e with
 | none=>simp [h4] at h
 | some info=>
 cases h5:info.zero with
 | none=>simp [h4,h5] at h
 | some zz=>
 simp only [h4,h5,Option.bind_some] at h
 split at h
 ·cases h
 cases h6:elemsD info.size (srcD S info.size x) with
 | none=>simp [h6] at h
 | some r=>
 simp only [h6,Option.bind_some] at h
 rcases hs with rfl | rfl
 all_goals
  simp only at h
  split at h
  ·cases h
  ·split at h
   ·cases h;exact ⟨rfl,rfl⟩
   ·cases h
theorem madeNew_ok {P:Program} {ρ:DEnv} {c:Call} {H:Mem} {z len:Nat} {cells:List D} (h:madeNew P ρ c H=some (z,len,cells)):opD P ρ (.call c) H=some (.sl (some H.length) z len cells,H++[.own]):=by
 obtain ⟨callee,args,argTypes⟩:=c
 unfold madeNew at h
 split at h
 ·rename_i s x e1 e2
  simp only at e1 e2
  subst e1
  have hop:opD P ρ (.call ⟨.builtin .append,args,argTypes⟩) H=appendD P argTypes s x H:=by simp only [opD,e2,builtinD]
  rw [hop]
  split at h
  all_goals first | (cases h;done) | skip
  all_goals
   split at h
   ·rename_i id zz ll cc S1 e3
    cases h
    obtain ⟨rfl,rfl⟩:=appendD_new (by first | exact .inl rfl | exact .inr rfl) e3
    exact e3
   ·cases h
 ·cases h
theorem buildSliceD_own {P:Program} {t n:Nat} {ps:List (Nat×D)} {S S1:Mem} {id sz len:Nat} {cells:List D} (h:buildSliceD P t n ps S=some (.sl (some id) sz len cells,S1)):id=S.length∧S1=S++[.own]:=by
 unfold buildSliceD at h
 cases hu:P.underlying t with
 | none=>simp [hu] at h
 | some d=>
 cases d<;>simp only [hu,Option.bind_eq_bind,Option.bind_some,reduceCtorEq] at h
 rename_i e
 cases hs:sizeA P e with
 | none=>simp [hs] at h
 | some size=>
 cases hz:zeroA P e with
 | none=>simp [hs,hz] at h
 | some z=>
 simp only [hs,hz,Option.bind_some] at h
 split at h
 ·cases h
 ·cases hf:fillD (fun i=>some (i*size,size)) (repD (z.cells.toList.map ofS) n) ps with
  | none=>simp [hf] at h
  | some c=>
   simp only [hf,Option.bind_some] at h
   split at h
   ·cases h;exact ⟨rfl,rfl⟩
   ·cases h
theorem take_next {α:Type} {p:α→Prop} {x:α} {l:List α} {F i:Nat} (h : ∀ m∈(x::l).take (F - i),p m):(i<F→p x) ∧ ∀ m∈l.take (F - (i+1)),p m:=by
 rcases Nat.lt_or_ge i F with hi | hi
 ·rw [show F - i=(F - (i+1))+1 by omega,List.take_succ_cons] at h
  exact ⟨fun _=>h x (List.mem_cons_self ..),fun m hm=>h m (List.mem_cons_of_mem _ hm)⟩
 ·refine ⟨fun h=>by omega,fun m hm => ?_⟩
  rw [show F - (i+1)=0 by omega] at hm
  simp at hm
inductive Dg where
 | a0 | a1 | a2 | a3 | a4 | a5 | a6 | a7
instance:DecidableEq Dg:=fun a b=>by cases a<;>cases b<;>first | exact isTrue rfl | exact isFalse fun h=>by cases h
inductive T where
 | e
 | b
 | n (v:D) (a0 a1 a2 a3 a4 a5 a6 a7:T)
def dig (k:Nat):Dg:=match k with | 0=>.a0 | 1=>.a1 | 2=>.a2 | 3=>.a3 | 4=>.a4 | 5=>.a5 | 6=>.a6 | _=>.a7
def bits:Nat→Nat→List Dg
 | 0,_=>[]
 | f+1,k=>match k with | 0=>[] | k+1=>dig (Nat.mod k 8)::bits f (Nat.div k 8)
def path (k:Nat):List Dg:=bits k k
theorem dig_inj {a b:Nat} (ha:a<8) (hb:b<8) (h:dig a=dig b):a=b:=by
 have key : ∀ a b:Fin 8,dig a.1=dig b.1→a.1=b.1:=by
  intro a b
  match a,b with
  | 0,0=>simp [dig]
  | 0,1=>simp [dig]
  | 0,2=>simp [dig]
  | 0,3=>simp [dig]
  | 0,4=>simp [dig]
  | 0,5=>simp [dig]
  | 0,6=>simp [dig]
  | 0,7=>simp [dig]
  | 1,0=>simp [dig]
  | 1,1=>simp [dig]
  | 1,2=>simp [dig]
  | 1,3=>simp [dig]
  | 1,4=>simp [dig]
  | 1,5=>simp [dig]
  | 1,6=>simp [dig]
  | 1,7=>simp [dig]
  | 2,0=>simp [dig]
  | 2,1=>simp [dig]
  | 2,2=>simp [dig]
  | 2,3=>simp [dig]
  | 2,4=>simp [dig]
  | 2,5=>simp [dig]
  | 2,6=>simp [dig]
  | 2,7=>simp [dig]
  | 3,0=>simp [dig]
  | 3,1=>simp [dig]
  | 3,2=>simp [dig]
  | 3,3=>simp [dig]
  | 3,4=>simp [dig]
  | 3,5=>simp [dig]
  | 3,6=>simp [dig]
  | 3,7=>simp [dig]
  | 4,0=>simp [dig]
  | 4,1=>simp [dig]
  | 4,2=>simp [dig]
  | 4,3=>simp [dig]
  | 4,4=>simp [dig]
  | 4,5=>simp [dig]
  | 4,6=>simp [dig]
  | 4,7=>simp [dig]
  | 5,0=>simp [dig]
  | 5,1=>simp [dig]
  | 5,2=>simp [dig]
  | 5,3=>simp [dig]
  | 5,4=>simp [dig]
  | 5,5=>simp [dig]
  | 5,6=>simp [dig]
  | 5,7=>simp [dig]
  | 6,0=>simp [dig]
  | 6,1=>simp [dig]
  | 6,2=>simp [dig]
  | 6,3=>simp [dig]
  | 6,4=>simp [dig]
  | 6,5=>simp [dig]
  | 6,6=>simp [dig]
  | 6,7=>simp [dig]
  | 7,0=>simp [dig]
  | 7,1=>simp [dig]
  | 7,2=>simp [dig]
  | 7,3=>simp [dig]
  | 7,4=>simp [dig]
  | 7,5=>simp [dig]
  | 7,6=>simp [dig]
  | 7,7=>simp [dig]
 exact key ⟨a,ha⟩ ⟨b,hb⟩ h
theorem bits_inj : ∀ (f k f' k':Nat),k≤f→k'≤f'→bits f k=bits f' k'→k=k'
 | 0,k,f',k',h,h',e=>by
  obtain rfl:k=0:=by omega
  cases f' with
  | zero=>omega
  | succ f'=>cases k' with
   | zero=>rfl
   | succ k'=>simp [bits] at e
 | f+1,0,f',k',h,h',e=>by
  cases f' with
  | zero=>omega
  | succ f'=>cases k' with
   | zero=>rfl
   | succ k'=>simp [bits] at e
 | f+1,k+1,f',k',h,h',e=>by
  cases f' with
  | zero=>simp [bits] at e
  | succ f'=>cases k' with
   | zero=>simp [bits] at e
   | succ k' =>
    simp only [bits,List.cons.injEq] at e
    obtain ⟨e1,e2⟩:=e
    have h2:=bits_inj f (Nat.div k 8) f' (Nat.div k' 8) (Nat.le_trans (Nat.div_le_self k 8) (by omega)) (Nat.le_trans (Nat.div_le_self k' 8) (by omega)) e2
    have h1:=dig_inj (Nat.mod_lt k (by decide)) (Nat.mod_lt k' (by decide)) e1
    have b1:Nat.mod k 8=k%8:=rfl
    have b2:Nat.mod k' 8=k'%8:=rfl
    have b3:Nat.div k 8=k/8:=rfl
    have b4:Nat.div k' 8=k'/8:=rfl
    have b5:k%8=k'%8:=h1
    rw [b3,b4] at h2
    omega
theorem path_inj {k k':Nat} : path k=path k'↔k=k':=⟨bits_inj _ _ _ _ (Nat.le_refl _) (Nat.le_refl _),fun h=>h▸rfl⟩
noncomputable def T.top (t:T):D:=T.rec (motive:=fun _=>D) dUndef .bot (fun v _ _ _ _ _ _ _ _ _ _ _ _ _ _ _ _=>v) t
noncomputable def T.kid (t:T) (x:Dg):T:=T.rec (motive:=fun _=>T) .e .b (fun _ a0 a1 a2 a3 a4 a5 a6 a7 _ _ _ _ _ _ _ _=>Dg.rec a0 a1 a2 a3 a4 a5 a6 a7 x) t
noncomputable def T.get (t:T) (p:List Dg):D:=List.rec (motive:=fun _=>T→D) T.top (fun x _ ih t=>ih (T.kid t x)) p t
noncomputable def T.set (t:T) (p:List Dg) (v:D):T:=
 List.rec (motive:=fun _=>T→T) (fun t=>T.rec (motive:=fun _=>T) (.n v .e .e .e .e .e .e .e .e) (.n v .b .b .b .b .b .b .b .b) (fun _ a0 a1 a2 a3 a4 a5 a6 a7 _ _ _ _ _ _ _ _=>.n v a0 a1 a2 a3 a4 a5 a6 a7) t)
  (fun x _ ih t=>T.rec (motive:=fun _=>T) (Dg.rec (.n dUndef (ih .e) .e .e .e .e .e .e .e) (.n dUndef .e (ih .e) .e .e .e .e .e .e) (.n dUndef .e .e (ih .e) .e .e .e .e .e) (.n dUndef .e .e .e (ih .e) .e .e .e .e) (.n dUndef .e .e .e .e (ih .e) .e .e .e) (.n dUndef .e .e .e .e .e (ih .e) .e .e) (.n dUndef .e .e .e .e .e .e (ih .e) .e) (.n dUndef .e .e .e .e .e .e .e (ih .e)) x) (Dg.rec (.n .bot (ih .b) .b .b .b .b .b .b .b) (.n .bot .b (ih .b) .b .b .b .b .b .b) (.n .bot .b .b (ih .b) .b .b .b .b .b) (.n .bot .b .b .b (ih .b) .b .b .b .b) (.n .bot .b .b .b .b (ih .b) .b .b .b) (.n .bot .b .b .b .b .b (ih .b) .b .b) (.n .bot .b .b .b .b .b .b (ih .b) .b) (.n .bot .b .b .b .b .b .b .b (ih .b)) x) (fun w a0 a1 a2 a3 a4 a5 a6 a7 _ _ _ _ _ _ _ _=>Dg.rec (.n w (ih a0) a1 a2 a3 a4 a5 a6 a7) (.n w a0 (ih a1) a2 a3 a4 a5 a6 a7) (.n w a0 a1 (ih a2) a3 a4 a5 a6 a7) (.n w a0 a1 a2 (ih a3) a4 a5 a6 a7) (.n w a0 a1 a2 a3 (ih a4) a5 a6 a7) (.n w a0 a1 a2 a3 a4 (ih a5) a6 a7) (.n w a0 a1 a2 a3 a4 a5 (ih a6) a7) (.n w a0 a1 a2 a3 a4 a5 a6 (ih a7)) x) t) p t
theorem T.get_set (v:D) : ∀ (p q:List Dg) (t:T),(t.set p v).get q=if q=p then v else t.get q
 | [],[],t=>by cases t<;>rfl
 | [],y::q,t=>by cases t<;>cases y<;>rfl
 | x::p,[],t=>by cases t<;>cases x<;>rfl
 | x::p,y::q,t=>by
  have ih:=T.get_set v p q
  have key:((t.set (x::p) v).kid y).get q=if y::q=x::p then v else (t.kid y).get q:=by
   cases x<;>cases y<;>simp only [List.cons.injEq,true_and,reduceCtorEq,false_and,if_false]<;>cases t
   all_goals first | exact ih _ | rfl
  exact key
noncomputable def env (ρ:T):DEnv:=fun t=>ρ.get (path t)
noncomputable def setT (ρ:T) (dst:Option Tmp) (v:D):T:=match dst with | some t=>ρ.set (path t) v | none=>ρ
theorem env_set (ρ:T) (t:Nat) (v:D):env (ρ.set (path t) v)=updD (env ρ) t v:=by
 funext u
 simp only [env,T.get_set,path_inj,updD]
theorem env_setT (ρ:T) (dst:Option Tmp) (v:D):env (setT ρ dst v)=putD (env ρ) dst v:=by
 cases dst with
 | none=>rfl
 | some t=>exact env_set ρ t v
noncomputable def initT:Nat→List D→T→T
 | _,[],t=>t
 | i,d::ds,t=>initT (i+1) ds (t.set (path i) d)
theorem env_init' : ∀ (ds:List D) (i:Nat) (t:T) (u:Nat),env (initT i ds t) u=if i≤u then (match ds[u - i]? with | some d=>d | none=>env t u) else env t u
 | [],i,t,u=>by simp [initT]
 | d::ds,i,t,u=>by
  simp only [initT]
  rw [env_init' ds (i+1) _ u,env_set]
  rcases Nat.lt_trichotomy u i with h | rfl | h
  ·simp [show ¬ i+1≤u by omega,show ¬ i≤u by omega,updD,show u≠i by omega]
  ·rw [if_neg (by omega),if_pos (Nat.le_refl _),Nat.sub_self];simp [updD]
  ·obtain ⟨m,rfl⟩:=Nat.exists_eq_add_of_lt h
   simp only [show i+1≤i+m+1 by omega,show i≤i+m+1 by omega,if_true,show i+m+1 - (i+1)=m by omega,show i+m+1 - i=m+1 by omega,List.getElem?_cons_succ]
   cases ds[m]? with
   | some x=>rfl
   | none=>simp [updD,show i+m+1≠i by omega]
theorem env_e:env .e=fun _=>dUndef:=by
 funext t
 have : ∀ p:List Dg,T.get .e p=dUndef:=by
  intro p
  induction p with
  | nil=>rfl
  | cons x p ih=>cases x<;>exact ih
 exact this _
theorem env_b:env .b=fun _=>.bot:=by
 funext t
 have : ∀ p:List Dg,T.get .b p = .bot:=by
  intro p
  induction p with
  | nil=>rfl
  | cons x p ih=>cases x<;>exact ih
 exact this _
theorem env_init (ds:List D):env (initT 0 ds .e)=initD ds:=by
 funext u
 rw [env_init',env_e]
 simp only [Nat.zero_le,if_true,Nat.sub_zero,initD,List.getD_eq_getElem?_getD]
 cases ds[u]?<;>rfl
structure Cx where
 P:Program
 hs:Hints
structure Rg where
 f:FuncId
 r:Nat
 fl:Nat
 sz:Nat
 ops:Array Oper
 loose:List Nat
inductive EJ where
 | ops (g:Rg) (i:Nat) (os:List Oper) (ρ:T)
 | opsW (g:Rg) (i:Nat) (os:List Oper) (ρ:T)
 | code (f fl sz:Nat) (c:Code) (ρ:T)
 | defc (f fl sz:Nat) (c:Code) (ρ:T)
 | call (f:FuncId) (args:List D)
inductive EO where
 | env (ρ:T)
 | envW (ρ:T) (Hs:List Mem) (qs:List Seen)
 | exit (e:AExit) (ρ:T)
 | pexit (d:D) (ρ:T)
 | defd (e:AExit) (ρ:T) (g:FuncId) (vs:List D)
 | defp (d:D) (ρ:T) (g:FuncId) (vs:List D)
 | val (d:D)
 | pan (d:D) (i:Nat) (ρ:T)
inductive RO where
 | no (e f r i:Nat)
 | yes (o:EO) (H:Mem)
abbrev IH:=EJ→Mem→RO
def callable (P : Program) (h : FuncId) : Bool := match P.funcs[h]? with | some fn => !(fn.name == "runtime.NumGoroutine") && !fn.body.isNone | none => false
theorem callable_ok {P:Program} {h:FuncId} (q:callable P h=true):FnAt P h:=by
 unfold callable at q
 split at q
 ·rename_i fn e
  simp only [Bool.and_eq_true,Bool.not_eq_true'] at q
  exact ⟨fn,e,q.1,q.2⟩
 ·cases q
def has3 (l:List (FuncId×Nat×Nat)) (f r i:Nat):Bool:=l.any fun x=>Nat.beq x.1 f&&Nat.beq x.2.1 r&&Nat.beq x.2.2 i
noncomputable def madeE (P:Program) (ρ:T) (op:Op) (H:Mem):Option (Nat×Nat×List D):=
 match op with
 | .buildSlice t m parts=>match buildSliceD P t m (parts.toList.map fun (i,x)=>(i,evalD (env ρ) x)) H with | some (.sl (some _) z len cells,_)=>some (z,len,cells) | _=>none
 | .call c=>madeNew P (env ρ) c H
 | _=>none
theorem madeE_ok {P:Program} {ρ:T} {op:Op} {H:Mem} {z len:Nat} {cells:List D} (h:madeE P ρ op H=some (z,len,cells)):opD P (env ρ) op H=some (.sl (some H.length) z len cells,H++[.own]):=by
 unfold madeE at h
 split at h
 ·rename_i t m parts
  split at h
  ·rename_i id z' len' cells' S1 e
   cases h
   obtain ⟨rfl,rfl⟩:=buildSliceD_own e
   exact e
  ·cases h
 ·exact madeNew_ok h
 ·cases h
noncomputable def opE (C:Cx) (f r i:Nat) (ρ:T) (op:Op) (H:Mem):Option (D×Mem):=
 match has3 C.hs.own f r i with
 | true=>match madeE C.P ρ op H with | some (z,len,cells)=>some (.msl H.length z len,H++[.obj cells]) | none=>opD C.P (env ρ) op H
 | false=>
  match has3 C.hs.low f r i with
  | true=>match madeE C.P ρ op H with | some (z,len,cells)=>(match cells.all (lowN 0 100) with | true=>some (.sl none z len cells,H) | false=>none) | none=>none
  | false=>opD C.P (env ρ) op H
theorem opE_ok {C:Cx} {f r i:Nat} {ρ:T} {op:Op} {H H1:Mem} {v:D} (h:opE C f r i ρ op H=some (v,H1)):opM C.P (env ρ) op H v H1:=by
 unfold opE at h
 split at h
 ·split at h
  ·rename_i z len cells e
   cases h
   exact .inr (.inl ⟨z,len,cells,madeE_ok e,rfl,rfl⟩)
  ·exact .inl h
 ·split at h
  ·split at h
   ·rename_i z len cells e
    split at h
    ·rename_i ha
     cases h
     simp only [List.all_eq_true] at ha
     exact .inr (.inr ⟨z,len,cells,madeE_ok e,fun j hj=>lowN_ok (ha _ (List.getElem_mem hj)),rfl,rfl⟩)
    ·cases h
   ·cases h
  ·exact .inl h
noncomputable def wantE (ops:Array Oper) (ρ:T) (g:Option (Nat×Bool)):Option Bool:=
 match g with
 | none=>some true
 | some x=>match (ops[x.1]?).bind (·.dst) with
  | some t=>match ρ.get (path t) with
   | .bool b=>some (b==x.2)
   | .tup []=>some false
   | _=>none
  | none=>none
theorem wantE_true {ops:Array Oper} {ρ:T} {g:Option (Nat×Bool)} (h:wantE ops ρ g=some true):wantB ops (env ρ) g=true:=by
 cases g with
 | none=>rfl
 | some x=>
  simp only [wantE] at h
  simp only [wantB,yieldedD]
  cases ht:(ops[x.1]?).bind (·.dst) with
  | none=>rw [ht] at h;cases h
  | some t=>
   rw [ht] at h
   simp only at h ⊢
   show (match ρ.get (path t) with | .bool b=>some b | _=>none)==some x.2
   split at h
   ·rename_i b e
    rw [e]
    simp only [Option.some.injEq] at h
    simpa using h
   ·cases h
   ·cases h
theorem wantE_false {ops:Array Oper} {ρ:T} {g:Option (Nat×Bool)} (h:wantE ops ρ g=some false) : ∃ x b,g=some x∧yieldS ops (env ρ) x.1=some b∧(b==some x.2)=false:=by
 cases g with
 | none=>cases h
 | some x=>
  simp only [wantE] at h
  have hy : ∀ t,(ops[x.1]?).bind (·.dst)=some t→yieldS ops (env ρ) x.1=match ρ.get (path t) with | .bool b=>some (some b) | .tup []=>some none | _=>none:=fun t ht=>by
   simp only [yieldS,ht]
   rfl
  cases ht:(ops[x.1]?).bind (·.dst) with
  | none=>rw [ht] at h;cases h
  | some t=>
   rw [ht] at h
   have hy:=hy t ht
   simp only at h
   split at h
   ·rename_i b e
    rw [e] at hy
    exact ⟨x,_,rfl,hy,by simpa using h⟩
   ·rename_i e
    rw [e] at hy
    exact ⟨x,_,rfl,hy,rfl⟩
   ·cases h
noncomputable def T.map (f:D→D) (t:T):T:=T.rec (motive:=fun _=>T) .e .b (fun v _ _ _ _ _ _ _ _ a0 a1 a2 a3 a4 a5 a6 a7=>.n (f v) a0 a1 a2 a3 a4 a5 a6 a7) t
theorem T.map_wz {S1:Mem} {F:List Nat} {ι:Nat→Nat} {n:Nat} {f:D→D} (h : ∀ d,Wz S1 F ι n d (f d)) : ∀ (p:List Dg) (t:T),Wz S1 F ι n (t.get p) ((t.map f).get p)
 | [],t=>by
  cases t with
  | e=>exact Wz.of_low (m:=0) (fun i hi=>by omega) (Nat.zero_le _) (.tup _ fun i hi=>by simp at hi)
  | b=>exact .bot
  | n v=>exact h v
 | x::p,t=>by
  cases t with
  | e=>cases x<;>exact T.map_wz h p .e
  | b=>cases x<;>exact T.map_wz h p .b
  | n=>cases x<;>exact T.map_wz h p _
noncomputable def T.vals (t:T):List D:=T.rec (motive:=fun _=>List D) [] [] (fun v _ _ _ _ _ _ _ _ a0 a1 a2 a3 a4 a5 a6 a7=>v::(a0++(a1++(a2++(a3++(a4++(a5++(a6++(a7))))))))) t
def refsD:Nat→D→List Nat
 | 0,_=>[]
 | k+1,d=>
  match d with
  | .ptr o _=>[o]
  | .msl o _ _=>[o]
  | .sl own _ _ c=>(match own with | some o=>[o] | none=>[])++c.flatMap (refsD k)
  | .eptr c _=>c.flatMap (refsD k)
  | .fn _ xs cs=>xs.flatMap (refsD k)++cs.flatMap (refsD k)
  | .iface _ d=>refsD k d
  | .agg c=>c.flatMap (refsD k)
  | .tup c=>c.flatMap (refsD k)
  | _=>[]
def addN (o:Nat):List Nat→Option (List Nat)
 | []=>some [o]
 | x::l=>match Nat.beq x o with | true=>none | false=>match Nat.blt o x with | true=>some (o::x::l) | false=>match addN o l with | some l=>some (x::l) | none=>none
def markN (H:Mem) (F:List Nat) (fl:Nat):Nat→List Nat→List Nat→List Nat
 | 0,_,seen=>seen
 | _+1,[],seen=>seen
 | k+1,o::w,seen=>
  match Nat.blt o fl with
  | true=>markN H F fl k w seen
  | false=>
   match hasN F o with
   | true=>markN H F fl k ((match H[o]? with | some (.obj c)=>c.flatMap (refsD 100) | _=>[])++w) seen
   | false=>
    match addN o seen with
    | none=>markN H F fl k w seen
    | some seen' =>
     match H[o]? with
     | some (.obj c)=>markN H F fl k (c.flatMap (refsD 100)++w) seen'
     | some .own=>markN H F fl k w seen'
     | _=>markN H F fl k w seen
def oldRefs (fl:Nat) (H:Mem):List Nat:=(H.take fl).flatMap fun x=>match x with | .obj c=>c.flatMap (refsD 100) | _=>[]
def gcOf (gs:List (FuncId×Nat×List Nat×Bool)) (f r:Nat):Option (List Nat×Bool):=(gs.find? fun g=>Nat.beq g.1 f&&Nat.beq g.2.1 r).map (·.2.2)
noncomputable def frzOf (ρ:T) (ts:List Nat):List Nat:=ts.filterMap fun t=>match ρ.get (path t) with | .msl o _ _=>some o | _=>none
noncomputable def gcPre2 (fl:Nat) (ks F:List Nat) (ρ:T) (H:Mem):Option (T×Mem):=
 match gcOk fl ks F H with
 | true=>some (ρ.map (renD (mpG fl ks F) (fzG F H) 100),memG fl ks F (renD (mpG fl ks F) (fzG F H) 100) H)
 | false=>none
noncomputable def gcPre1 (fl:Nat) (F:List Nat) (col:Bool) (ρ:T) (H:Mem):Option (T×Mem):=
 match col with
 | true=>gcPre2 fl (markN H F fl 100000 (ρ.vals.flatMap (refsD 100)++oldRefs fl H) []) F ρ H
 | false=>gcPre2 fl ((List.range' fl (H.length - fl)).filter fun o => !hasN F o) F ρ H
noncomputable def gcPre (C:Cx) (f fl id:Nat) (ρ:T) (H:Mem):Option (T×Mem):=
 match gcOf C.hs.gcs f id with
 | none=>none
 | some x=>gcPre1 fl (frzOf ρ x.1) x.2 ρ H
theorem gcPre_ok {C:Cx} {f fl id:Nat} {ρ ρ':T} {H H':Mem} (h:gcPre C f fl id ρ H=some (ρ',H')) {orc:DOracle} {sz:Nat} {k:List K} {Q:AExit→DEnv→Mem→Prop} {c:Code} (hg:Go C.P orc fl sz (.code c::k) .normal (env ρ') H' Q):Go C.P orc fl sz (.code c::k) .normal (env ρ) H Q:=by
 have key : ∀ {ks F:List Nat},gcPre2 fl ks F ρ H=some (ρ',H')→Go C.P orc fl sz (.code c::k) .normal (env ρ) H Q:=by
  intro ks F h
  unfold gcPre2 at h
  split at h
  ·rename_i hok
   cases h
   exact Go.gc (kk:=100) hok (fun t=>T.map_wz (gc_ok (kk:=100) hok).ren (path t) ρ) hg
  ·cases h
 unfold gcPre at h
 split at h
 ·cases h
 ·unfold gcPre1 at h
  split at h
  ·exact key h
  ·exact key h
noncomputable section
variable (C:Cx) (ih:IH)
def kCall (g:Rg) (i:Nat) (os:List Oper) (dst:Option Tmp) (ρ:T) (r:RO):RO:=
 match r with
 | .yes (.val v) H1=>ih (.ops g (i+1) os (setT ρ dst v)) H1
 | .yes (.pan d _ _) H1=>.yes (.pan d i ρ) H1
 | .no a b c d=>.no a b c d
 | _=>.no 1 g.f g.r i
def kOp (g:Rg) (i:Nat) (os:List Oper) (dst:Option Tmp) (ρ:T) (r:Option (D×Mem)):RO:=
 match r with
 | some (v,H1)=>ih (.ops g (i+1) os (setT ρ dst v)) H1
 | none=>.no 2 g.f g.r i
def doOp (g:Rg) (i:Nat) (os:List Oper) (dst:Option Tmp) (op:Op) (ρ:T) (H:Mem):RO:=
 match op with
 | .call c=>
  match targetD (env ρ) (.call c) with
  | some (h,args)=>match callable C.P h with | true=>kCall ih g i os dst ρ (ih (.call h args) H) | false=>.no 3 g.f g.r i
  | none=>kOp ih g i os dst ρ (opE C g.f g.r i ρ (.call c) H)
 | .panic x=>match okOperand x,evalD (env ρ) x with | true,.iface t v=>.yes (.pan (.iface t v) i ρ) H | _,_=>.no 4 g.f g.r i
 | op=>kOp ih g i os dst ρ (opE C g.f g.r i ρ op H)
def stepOp (g:Rg) (i:Nat) (os:List Oper) (o:Oper) (ρ:T) (H:Mem):RO:=
 match okDstB g.sz o.dst&&o.op.operands.toList.all okOperand with
 | false=>.no 5 g.f g.r i
 | true=>
  match wantE g.ops ρ o.guard with
  | some true=>doOp C ih g i os o.dst o.op ρ H
  | some false=>ih (.ops g (i+1) os (setT ρ o.dst dUndef)) H
  | none=>.no 6 g.f g.r i
def stepOps (g:Rg) (i:Nat) (os:List Oper) (ρ:T) (H:Mem):RO:=
 match os with
 | []=>.yes (.env ρ) H
 | o::os=>stepOp C ih g i os o ρ H
def kW (g:Rg) (i:Nat) (H1:Mem) (q:List Seen) (r:RO):RO:=
 match r with
 | .yes (.envW ρ' Hs qs) H'=>.yes (.envW ρ' (H1::Hs) (q++qs)) H'
 | .yes (.pan d j ρ) H'=>.yes (.pan d j ρ) H'
 | .no a b c d=>.no a b c d
 | _=>.no 7 g.f g.r i
def kCallW (g:Rg) (i:Nat) (os:List Oper) (dst:Option Tmp) (ρ:T) (r:RO):RO:=
 match r with
 | .yes (.val v) H1=>kW g i H1 [] (ih (.opsW g (i+1) os (setT ρ dst v)) H1)
 | .yes (.pan d _ _) H1=>.yes (.pan d i ρ) H1
 | .no a b c d=>.no a b c d
 | _=>.no 8 g.f g.r i
def kOpW (g:Rg) (i:Nat) (os:List Oper) (dst:Option Tmp) (ρ:T) (r:Option (D×Mem)):RO:=
 match r with
 | some (v,H1)=>kW g i H1 [] (ih (.opsW g (i+1) os (setT ρ dst v)) H1)
 | none=>.no 9 g.f g.r i
def doOpW (g:Rg) (i:Nat) (os:List Oper) (dst:Option Tmp) (op:Op) (ρ:T) (H:Mem):RO:=
 match g.loose.contains i with
 | true=>
  match opD C.P (env ρ) op H with
  | some (v,H1)=>kW g i H1 [(env ρ,op,v)] (ih (.opsW g (i+1) os (setT ρ dst v)) H1)
  | none=>.no 9 g.f g.r i
 | false=>
  match targetD (env ρ) op with
  | some (h,args)=>match callable C.P h with | true=>kCallW ih g i os dst ρ (ih (.call h args) H) | false=>.no 10 g.f g.r i
  | none=>kOpW ih g i os dst ρ (opE C g.f g.r i ρ op H)
def doLowW (g:Rg) (i:Nat) (os:List Oper) (dst:Option Tmp) (op:Op) (gd:Option (Nat×Bool)) (ρ:T) (H:Mem):RO:=
 match gd,op,has3 C.hs.low g.f g.r i&&g.loose.contains i with
 | none,.buildSlice _ _ _,true=>
  match madeE C.P ρ op H with
  | some (z,len,cells)=>(match cells.all (lowN 0 100) with | true=>kW g i H [] (ih (.opsW g (i+1) os (setT ρ dst (.sl none z len cells))) H) | false=>.no 11 g.f g.r i)
  | none=>.no 12 g.f g.r i
 | _,_,_=>doOpW C ih g i os dst op ρ H
def stepOpW (g:Rg) (i:Nat) (os:List Oper) (o:Oper) (ρ:T) (H:Mem):RO:=
 match okDstB g.sz o.dst&&o.op.operands.toList.all okOperand with
 | false=>.no 5 g.f g.r i
 | true=>
  match wantE g.ops ρ o.guard with
  | some true=>doLowW C ih g i os o.dst o.op o.guard ρ H
  | some false=>kW g i H [] (ih (.opsW g (i+1) os (setT ρ o.dst dUndef)) H)
  | none=>.no 6 g.f g.r i
def stepOpsW (g:Rg) (i:Nat) (os:List Oper) (ρ:T) (H:Mem):RO:=
 match os with
 | []=>(match Nat.beq i g.ops.size with | true=>.yes (.envW ρ [] []) H | false=>.no 13 g.f g.r i)
 | o::os=>stepOpW C ih g i os o ρ H
def kSeq (f fl sz:Nat) (d:Code) (r:RO):RO:=
 match r with
 | .yes (.exit .normal ρ1) H1=>ih (.code f fl sz d ρ1) H1
 | .yes (.exit e ρ1) H1=>.yes (.exit e ρ1) H1
 | .yes (.pexit d ρ1) H1=>.yes (.pexit d ρ1) H1
 | .no a b c d=>.no a b c d
 | _=>.no 14 f 0 0
def kLoop (f fl sz:Nat) (c:Code) (r:RO):RO:=
 match r with
 | .yes (.exit .normal ρ1) H1=>ih (.code f fl sz (.loop c) ρ1) H1
 | .yes (.exit e ρ1) H1=>.yes (.exit e ρ1) H1
 | .yes (.pexit d ρ1) H1=>.yes (.pexit d ρ1) H1
 | .no a b c d=>.no a b c d
 | _=>.no 15 f 0 0
def kBlock (f id:Nat) (r:RO):RO:=
 match r with
 | .yes (.exit (.exit id') ρ1) H1=>(match Nat.beq id' id with | true=>.yes (.exit .normal ρ1) H1 | false=>.yes (.exit (.exit id') ρ1) H1)
 | .yes (.exit e ρ1) H1=>.yes (.exit e ρ1) H1
 | .yes (.pexit d ρ1) H1=>.yes (.pexit d ρ1) H1
 | .no a b c d=>.no a b c d
 | _=>.no 16 f 0 0
def kReg (f id:Nat) (r:RO):RO:=
 match r with
 | .yes (.env ρ1) H1=>.yes (.exit .normal ρ1) H1
 | .yes (.pan d _ ρ1) H1=>.yes (.pexit d ρ1) H1
 | .no a b c d=>.no a b c d
 | _=>.no 17 f id 0
def kPan3 (f id:Nat) (r:RO):RO:=
 match r with
 | .yes (.pan d _ _) H1=>.yes (.pexit d .b) H1
 | .no a b c d=>.no a b c d
 | _=>.no 18 f id 0
def kPan2 (f id:Nat) (ops:Array Oper) (j:Nat) (r:RO):RO:=
 match r with
 | .yes (.env ρ1) H1=>
  match dstOf ops j with
  | some tX=>(match ρ1.get (path tX) with | .fn (.func g) args []=>(match callable C.P g with | true=>kPan3 f id (ih (.call g args) H1) | false=>.no 19 f id j) | _=>.no 20 f id j)
  | none=>.no 21 f id j
 | .no a b c d=>.no a b c d
 | _=>.no 22 f id j
def kPan (f id fl sz:Nat) (ops:Array Oper) (j:Nat) (ρ:T) (H:Mem):RO:=
 match panOk ops.toList j&&drawnFineD (cutAt ops.toList j).toArray [] with
 | true=>kPan2 C ih f id ops j (ih (.ops ⟨f,id,fl,sz,(cutAt ops.toList j).toArray,[]⟩ 0 (cutAt ops.toList j) ρ) H)
 | false=>.no 23 f id j
def kDraw (f id fl sz:Nat) (ops:Array Oper) (ρ:T) (H:Mem) (r:RO):RO:=
 match r with
 | .yes (.env ρ1) H1=>.yes (.exit .normal ρ1) H1
 | .yes (.pan _ j _) _=>kPan C ih f id fl sz ops j ρ H
 | .no a b c d=>.no a b c d
 | _=>.no 24 f id 0
def kDrawW (f id fl sz:Nat) (ops:Array Oper) (F:Nat) (ρ:T) (H:Mem) (r:RO):RO:=
 match r with
 | .yes (.envW ρ1 Hs qs) H1=>(match qs.all fun q=>readsSo C.P q H&&(Hs.take F).all (readsSo C.P q) with | true=>.yes (.exit .normal ρ1) H1 | false=>.no 25 f id 0)
 | .yes (.pan _ j _) _=>kPan C ih f id fl sz ops j ρ H
 | .no a b c d=>.no a b c d
 | _=>.no 26 f id 0
def stepRegion1 (f fl sz id:Nat) (ops:Array Oper) (d:Bool) (ρ:T) (H:Mem):RO:=
 match d with
 | false=>kReg f id (ih (.ops ⟨f,id,fl,sz,ops,[]⟩ 0 ops.toList ρ) H)
 | true=>
  match hintOf C.hs.open_ f id with
  | none=>(match drawnFineD ops [] with | true=>kDraw C ih f id fl sz ops ρ H (ih (.ops ⟨f,id,fl,sz,ops,[]⟩ 0 ops.toList ρ) H) | false=>.no 27 f id 0)
  | some x=>(match openOk C.P ops x with | true=>kDrawW C ih f id fl sz ops x.2.1 ρ H (ih (.opsW ⟨f,id,fl,sz,ops,x.1⟩ 0 ops.toList ρ) H) | false=>.no 28 f id 0)
def kCode (f:Nat) (r:RO):RO:=
 match r with
 | .yes (.exit e ρ1) H1=>.yes (.exit e ρ1) H1
 | .yes (.pexit d ρ1) H1=>.yes (.pexit d ρ1) H1
 | .no a b c d=>.no a b c d
 | _=>.no 48 f 0 0
def kDef2 (f:Nat) (g:FuncId) (vs:List D) (r:RO):RO:=
 match r with
 | .yes (.exit e ρ1) H1=>.yes (.defd e ρ1 g vs) H1
 | .yes (.pexit d ρ1) H1=>.yes (.defp d ρ1 g vs) H1
 | .no a b c d=>.no a b c d
 | _=>.no 32 f 0 0
def kDef (f fl sz:Nat) (d:Code) (r:RO):RO:=
 match r with
 | .yes (.defd .normal ρ1 g vs) H1=>kDef2 f g vs (ih (.code f H1.length sz d ρ1) H1)
 | .yes (.exit .normal ρ1) H1=>ih (.defc f fl sz d ρ1) H1
 | .yes (.exit e ρ1) H1=>.yes (.exit e ρ1) H1
 | .yes (.pexit d ρ1) H1=>.yes (.pexit d ρ1) H1
 | .yes (.defd e ρ1 g vs) H1=>.yes (.defd e ρ1 g vs) H1
 | .yes (.defp d ρ1 g vs) H1=>.yes (.defp d ρ1 g vs) H1
 | .no a b c d=>.no a b c d
 | _=>.no 33 f 0 0
def stepDefc (f fl sz:Nat) (c:Code) (ρ:T) (H:Mem):RO:=
 match c with
 | .seq c d=>kDef ih f fl sz d (ih (.defc f fl sz c ρ) H)
 | .region _ ⟨[o1,⟨none,.defer ⟨.value x,⟨[]⟩,_⟩,_,_,_,none⟩]⟩ false=>
  (match o1.guard,okOp sz o1.dst o1.op&&okOperand x,opD C.P (env ρ) o1.op H with
  | none,true,some (v,H1)=>
   (match evalD (env (setT ρ o1.dst v)) x with
   | .fn (.func g) first captured=>.yes (.defd .normal (setT ρ o1.dst v) g (first++captured)) H1
   | _=>.no 34 f 0 0)
  | _,_,_=>.no 35 f 0 0)
 | c=>kCode f (ih (.code f fl sz c ρ) H)
def recOf (P:Program) (g:FuncId):Option (Nat×Tmp×Code):=
 match P.funcs[g]? with
 | some gn => (match gn.body, gn.name == "runtime.NumGoroutine", gn.results.isEmpty with
  | some (.seq (.region _ ⟨[⟨some t0,.call ⟨.builtin .recover,⟨[]⟩,⟨[]⟩⟩,_,_,_,none⟩]⟩ false) c),false,true=>some (gn.ntmps,t0,c)
  | _,_,_=>none)
 | none=>none
def kKeep2 (n:Nat) (ks:List Nat) (v:D) (H':Mem):RO:=
 match gcOk n ks [] H' with
 | true=>.yes (.val (renD (mpG n ks []) (fzG [] H') 100 v)) (memG n ks [] (renD (mpG n ks []) (fzG [] H') 100) H')
 | false=>.yes (.val v) H'
def kKeep (f:FuncId) (H:Mem) (v:D) (H':Mem):RO:=
 match C.hs.keeps.contains f with
 | true=>kKeep2 H.length (markN H' [] H.length 100000 (refsD 100 v++oldRefs H.length H') []) v H'
 | false=>.yes (.val v) H'
def kFin (f:FuncId) (H:Mem) (v:Option D) (H':Mem):RO:=
 match v with
 | some v=>
  (match C.hs.pure.contains f with
  | false=>kKeep C f H v H'
  | true=>(match lowN H.length 100 (stripD 100 v)&&oldLow H.length H' with | true=>.yes (.val (stripD 100 v)) (H'.take H.length) | false=>.no 36 f 0 0))
 | none=>.no 37 f 0 0
def kRec (f:FuncId) (fn:Func) (H:Mem) (ρ:T) (r:RO):RO:=
 match r with
 | .yes (.exit (.exit _) _) _=>.no 38 f 0 0
 | .yes (.exit _ _) H2=>kFin C f H (resultsD C.P fn (updD (env ρ) PANT .bot) H2) H2
 | .no a b c d=>.no a b c d
 | _=>.no 39 f 0 0
def doRec (f:FuncId) (fn:Func) (H:Mem) (ρ:T) (g:FuncId) (vs:List D) (x:D) (H1:Mem):RO:=
 match recOf C.P g with
 | some (n',t0,c)=>(match decide (vs.length≤n')&&decide (t0<n') with | true=>kRec C f fn H ρ (ih (.code g H1.length n' c ((initT 0 vs .e).set (path t0) x)) H1) | false=>.no 40 f 0 0)
 | none=>.no 41 f 0 0
def kRet (f:FuncId) (fn:Func) (H:Mem) (r:RO):RO:=
 match r with
 | .yes (.exit (.exit _) _) _=>.no 42 f 0 0
 | .yes (.exit _ ρ1) H1=>kFin C f H (resultsD C.P fn (env ρ1) H1) H1
 | .yes (.pexit d _) H1=>.yes (.pan d 0 .b) H1
 | .yes (.defd (.exit _) _ _ _) _=>.no 43 f 0 0
 | .yes (.defd _ ρ1 g vs) H1=>doRec C ih f fn H ρ1 g vs .nili H1
 | .yes (.defp d ρ1 g vs) H1=>doRec C ih f fn H ρ1 g vs d H1
 | .no a b c d=>.no a b c d
 | _=>.no 44 f 0 0
end
section
variable {P:Program} {orc:DOracle} {fl sz:Nat} {ops:Array Oper} {loose:List Nat} {Inv:Mem→Prop} {F:Nat} {k:List AM.K} {ρ:DEnv} {H H1:Mem} {v:D} {Q:AM.AExit→DEnv→Mem→Prop} {i:Nat} {os:List Oper} {dst:Option Tmp} {op:Op} {ty:TypeId} {pos:String} {after:Array Edge} {g:Option (Nat×Bool)}
theorem GoW.oX (h0:okOpW loose i sz dst op=true) (h2:wantB ops ρ g=true) (hop:DM.opM P ρ op H v H1) (h:(i<F→Inv H1)∧GoW P orc fl sz ops loose Inv F (i+1) os k (putD ρ dst v) H1 Q):GoW P orc fl sz ops loose Inv F i (⟨dst,op,ty,pos,after,g⟩::os) k ρ H Q:=fun hi=>by
 obtain ⟨hd,hc,hl⟩:=okOpW_ok h0
 obtain ⟨h1,h3⟩:=get_of_drop hi
 obtain ⟨l,ρ',H',t,q⟩:=h.2 h3
 have e:dstOf ops i=dst:=by simp [dstOf,h1]
 rw [← e] at t
 exact ⟨_,ρ',H',.cons ⟨_,h1,hd,.inr ⟨wantB_ok h2,hc,.inl hop⟩⟩ (fun hm=>by simp [hm] at hl) h.1 t,q⟩
theorem GoR.oX (h0:okOp sz dst op=true) (h3:wantB ops ρ g=true) (hop:DM.opM P ρ op H v H1) (h:GoR P orc fl sz ops os k (putD ρ dst v) H1 Q):GoR P orc fl sz ops (⟨dst,op,ty,pos,after,g⟩::os) k ρ H Q:=fun i hi=>by
 obtain ⟨hd,hc⟩:=okOp_ok h0
 obtain ⟨h1,h2⟩:=get_of_drop hi
 unfold GoI
 rw [range_cons (lt_of_get h1)]
 obtain ⟨ρ',H',hb,h⟩:=h (i+1) h2
 exact ⟨ρ',H',.opsOp h1 (wantB_ok h3) hd hc hop hb,h⟩
theorem GoP.oX (h0:okOp sz dst op=true) (h3:wantB ops ρ g=true) (hop:DM.opM P ρ op H v H1) (h:GoP P orc fl sz ops os k (putD ρ dst v) H1 Q):GoP P orc fl sz ops (⟨dst,op,ty,pos,after,g⟩::os) k ρ H Q:=fun i hi=>by
 obtain ⟨hd,hc⟩:=okOp_ok h0
 obtain ⟨h1,h2⟩:=get_of_drop hi
 rw [range_cons (lt_of_get h1)]
 obtain ⟨out,H',hb,h⟩:=h (i+1) h2
 exact ⟨out,H',.opsOp h1 (wantB_ok h3) hd hc hop hb,h⟩
theorem GoP.cX {cl:Call} {f:FuncId} {args:List D} (hf:FnAt P f) (h1:okOp sz dst (.call cl)=true) (h2:wantB ops ρ g=true) (ht:targetD ρ (.call cl)=some (f,args)) {d:D} (h:CallP P orc f args H fun d' S'=>d'=d∧S'=H1) (hg:Go P orc fl sz k (.exit PAN) (updD ρ PANT d) H1 Q) :
  GoP P orc fl sz ops (⟨dst,.call cl,ty,pos,after,g⟩::os) k ρ H Q:=by
 obtain ⟨d',ρ1,H',hb,rfl,rfl⟩:=h
 exact GoP.cP hf h1 h2 ht ⟨_,ρ1,_,hb,hg⟩
end
section
variable {C:Cx} {orc:DOracle}
def RM (P:Program) (orc:DOracle) (j:EJ) (H:Mem) (out:EO) (H':Mem):Prop:=
 match j,out with
 | .ops g _ os ρ,.env ρ' => ∀ (k:List K) (Q:AExit→DEnv→Mem→Prop),Go P orc g.fl g.sz k .normal (env ρ') H' Q→GoR P orc g.fl g.sz g.ops os k (env ρ) H Q
 | .ops g _ os ρ,.pan d _ ρ' => ∀ (k:List K) (Q:AExit→DEnv→Mem→Prop),Go P orc g.fl g.sz k (.exit PAN) (updD (env ρ') PANT d) H' Q→GoP P orc g.fl g.sz g.ops os k (env ρ) H Q
 | .opsW g i os ρ,.envW ρ' Hs qs => ∀ (k:List K) (Q:AExit→DEnv→Mem→Prop),Go P orc g.fl g.sz k .normal (env ρ') H' Q → ∀ (Inv:Mem→Prop) (F:Nat),(i≤F→Inv H)→(∀ q∈qs,∀ M,Inv M→opD P q.1 q.2.1 M=some (q.2.2,M))→(∀ M∈Hs.take (F - i),Inv M)→(∀ a∈g.loose,a<F)→GoW P orc g.fl g.sz g.ops g.loose Inv F i os k (env ρ) H Q
 | .code _ fl sz c ρ,.exit e ρ' | .defc _ fl sz c ρ,.exit e ρ' => ∀ (k:List K) (Q:AExit→DEnv→Mem→Prop),Go P orc fl sz k e (env ρ') H' Q→Go P orc fl sz (.code c::k) .normal (env ρ) H Q
 | .code _ fl sz c ρ,.pexit d ρ' | .defc _ fl sz c ρ,.pexit d ρ' => ∀ (k:List K) (Q:AExit→DEnv→Mem→Prop),Go P orc fl sz k (.exit PAN) (updD (env ρ') PANT d) H' Q→Go P orc fl sz (.code c::k) .normal (env ρ) H Q
 | .defc _ fl sz c ρ,.defd e ρ' g vs=>WPdD P orc fl sz c (env ρ) H fun e' ρ'' g' vs' H''=>e'=e∧ρ''=env ρ'∧g'=g∧vs'=vs∧H''=H'
 | .defc _ fl sz c ρ,.defp d ρ' g vs=>WPdD P orc fl sz c (env ρ) H fun e' ρ'' g' vs' H''=>e' = .exit PAN∧ρ''=updD (env ρ') PANT d∧g'=g∧vs'=vs∧H''=H'
 | .call f args,.val d=>CallD P orc f args H fun d' S'=>d'=d∧S'=H'
 | .call f args,.pan d _ _=>CallP P orc f args H fun d' S'=>d'=d∧S'=H'
 | _,_=>True
def Snd (P:Program) (orc:DOracle) (ih:IH):Prop := ∀ {j:EJ} {H:Mem} {out:EO} {H':Mem},ih j H = .yes out H'→RM P orc j H out H'
variable {ih:IH} (hs:Snd C.P orc ih)
include hs
theorem kOp_ok {g:Rg} {i:Nat} {os:List Oper} {dst:Option Tmp} {op:Op} {ty:TypeId} {pos:String} {after:Array Edge} {gd:Option (Nat×Bool)} {ρ:T} {H H':Mem} {out:EO}
  (ho:okOp g.sz dst op=true) (hg:wantB g.ops (env ρ) gd=true) (h:kOp ih g i os dst ρ (opE C g.f g.r i ρ op H) = .yes out H'):RM C.P orc (.ops g i (⟨dst,op,ty,pos,after,gd⟩::os) ρ) H out H':=by
 unfold kOp at h
 split at h
 ·rename_i v H1 e
  have hop:=opE_ok e
  have:=hs h
  cases out<;>first | trivial | skip
  ·exact fun k Q hk=>GoR.oX ho hg hop (by rw [← env_setT];exact this k Q hk)
  ·exact fun k Q hk=>GoP.oX ho hg hop (by rw [← env_setT];exact this k Q hk)
 ·cases h
theorem kCall_ok {g:Rg} {i:Nat} {os:List Oper} {dst:Option Tmp} {c:Call} {ty:TypeId} {pos:String} {after:Array Edge} {gd:Option (Nat×Bool)} {ρ:T} {H H':Mem} {out:EO} {f:FuncId} {args:List D}
  (ho:okOp g.sz dst (.call c)=true) (hg:wantB g.ops (env ρ) gd=true) (ht:targetD (env ρ) (.call c)=some (f,args)) (hf:FnAt C.P f) (h:kCall ih g i os dst ρ (ih (.call f args) H) = .yes out H'):RM C.P orc (.ops g i (⟨dst,.call c,ty,pos,after,gd⟩::os) ρ) H out H':=by
 unfold kCall at h
 split at h
 ·rename_i v H1 e
  have hc:CallD C.P orc f args H fun d' S'=>d'=v∧S'=H1:=hs e
  have:=hs h
  cases out<;>first | trivial | skip
  ·exact fun k Q hk=>GoR.c hf ho hg ht (hc.mono fun v' S' ⟨h1,h2⟩=>by subst h1;subst h2;rw [← env_setT];exact this k Q hk)
  ·exact fun k Q hk=>GoP.c hf ho hg ht (hc.mono fun v' S' ⟨h1,h2⟩=>by subst h1;subst h2;rw [← env_setT];exact this k Q hk)
 ·rename_i d j ρ1 H1 e
  cases h
  exact fun k Q hk=>GoP.cX hf ho hg ht (hs e) hk
 ·cases h
 ·cases h
theorem doOp_ok {g:Rg} {i:Nat} {os:List Oper} {dst:Option Tmp} {op:Op} {ty:TypeId} {pos:String} {after:Array Edge} {gd:Option (Nat×Bool)} {ρ:T} {H H':Mem} {out:EO}
  (ho:okOp g.sz dst op=true) (hg:wantB g.ops (env ρ) gd=true) (h:doOp C ih g i os dst op ρ H = .yes out H'):RM C.P orc (.ops g i (⟨dst,op,ty,pos,after,gd⟩::os) ρ) H out H':=by
 unfold doOp at h
 split at h
 ·rename_i c
  split at h
  ·rename_i f args ht
   split at h
   ·rename_i hc
    exact kCall_ok hs ho hg ht (callable_ok hc) h
   ·cases h
  ·exact kOp_ok hs ho hg h
 ·rename_i x
  split at h
  ·rename_i t v hk hx
   cases h
   exact fun k Q hq=>GoP.p hk hg ⟨t,v,hx⟩ (by rw [hx];exact hq)
  ·cases h
 ·exact kOp_ok hs ho hg h
theorem stepOps_ok {g:Rg} {i:Nat} {os:List Oper} {ρ:T} {H H':Mem} {out:EO} (h:stepOps C ih g i os ρ H = .yes out H'):RM C.P orc (.ops g i os ρ) H out H':=by
 unfold stepOps at h
 split at h
 ·cases h
  exact fun k Q hk=>.nil hk
 ·rename_i o os
  obtain ⟨dst,op,ty,pos,after,gd⟩:=o
  unfold stepOp at h
  split at h
  ·cases h
  ·rename_i hok
   split at h
   ·rename_i hw
    exact doOp_ok hs hok (wantE_true hw) h
   ·rename_i hw
    obtain ⟨x,b,rfl,hy,hb⟩:=wantE_false hw
    have:=hs h
    cases out<;>first | trivial | skip
    ·exact fun k Q hk=>GoR.s hok hy hb (by rw [← env_setT];exact this k Q hk)
    ·exact fun k Q hk=>GoP.s hok hy hb (by rw [← env_setT];exact this k Q hk)
   ·cases h
omit hs in
theorem kW_ok {g:Rg} {i:Nat} {H1 H':Mem} {q:List Seen} {r:RO} {out:EO} (h:kW g i H1 q r = .yes out H'):(∃ ρ' Hs qs,r = .yes (.envW ρ' Hs qs) H'∧out = .envW ρ' (H1::Hs) (q++qs)) ∨ ∃ d j ρ,out = .pan d j ρ:=by
 unfold kW at h
 split at h
 ·cases h;exact .inl ⟨_,_,_,rfl,rfl⟩
 ·cases h;exact .inr ⟨_,_,_,rfl⟩
 ·cases h
 ·cases h
theorem stepOpsW_ok {g:Rg} {i:Nat} {os:List Oper} {ρ:T} {H H':Mem} {out:EO} (h:stepOpsW C ih g i os ρ H = .yes out H'):RM C.P orc (.opsW g i os ρ) H out H':=by
 unfold stepOpsW at h
 split at h
 ·split at h
  ·rename_i hi
   cases h
   exact fun k Q hk Inv F _ _ _ _=>.nil (by simpa using hi) hk
  ·cases h
 ·rename_i o os
  obtain ⟨dst,op,ty,pos,after,gd⟩:=o
  unfold stepOpW at h
  split at h
  ·cases h
  ·rename_i hok
   have hoW:g.loose.contains i=false→okOpW g.loose i g.sz dst op=true:=fun hl=>by simp only [okOpW,hl,Bool.not_false,Bool.and_true];exact hok
   split at h
   ·rename_i hw
    have hg:=wantE_true hw
    have main : ∀ {out H'},doOpW C ih g i os dst op ρ H = .yes out H'→RM C.P orc (.opsW g i (⟨dst,op,ty,pos,after,gd⟩::os) ρ) H out H':=by
     intro out H' h
     unfold doOpW at h
     split at h
     ·rename_i hl
      split at h
      ·rename_i v H1 hop
       rcases kW_ok h with ⟨ρ',Hs,qs,e,rfl⟩ | ⟨d,j,ρ',rfl⟩
       ·have:=hs e
        intro k Q hk Inv F h0 hq hM hF
        obtain ⟨m1,m2⟩:=take_next hM
        have b:=this k Q hk Inv F (fun h=>m1 h) (fun q hq2=>hq q (List.mem_append_right _ hq2)) m2 hF
        have hiF:i<F:=hF i (by simpa using hl)
        have hrd:=hq (env ρ,op,v) (by simp)
        have hH:=hrd H (h0 (Nat.le_of_lt hiF))
        simp only at hH
        rw [hop] at hH
        cases hH
        exact GoW.rd hok hg (by rw [hop];exact ⟨rfl,h0 (Nat.le_of_lt hiF),hrd,by rw [← env_setT];exact b⟩)
       ·trivial
      ·cases h
     ·rename_i hl
      split at h
      ·rename_i f args ht
       split at h
       ·rename_i hc
        unfold kCallW at h
        split at h
        ·rename_i v H1 e
         have hcall:CallD C.P orc f args H fun d' S'=>d'=v∧S'=H1:=hs e
         rcases kW_ok h with ⟨ρ',Hs,qs,e,rfl⟩ | ⟨d,j,ρ',rfl⟩
         ·have:=hs e
          intro k Q hk Inv F h0 hq hM hF
          obtain ⟨m1,m2⟩:=take_next hM
          have b:=this k Q hk Inv F (fun h=>m1 h) (fun q hq2=>hq q (List.mem_append_right _ hq2)) m2 hF
          cases op with
          | call cl=>exact GoW.c (callable_ok hc) (hoW hl) hg ht (hcall.mono fun v' S' ⟨h1,h2⟩=>by subst h1;subst h2;rw [← env_setT];exact ⟨m1,b⟩)
          | _=>cases ht
         ·trivial
        ·cases h;trivial
        ·cases h
        ·cases h
       ·cases h
      ·unfold kOpW at h
       split at h
       ·rename_i v H1 e
        have hop:=opE_ok e
        rcases kW_ok h with ⟨ρ',Hs,qs,e,rfl⟩ | ⟨d,j,ρ',rfl⟩
        ·have:=hs e
         intro k Q hk Inv F h0 hq hM hF
         obtain ⟨m1,m2⟩:=take_next hM
         have b:=this k Q hk Inv F (fun h=>m1 h) (fun q hq2=>hq q (List.mem_append_right _ hq2)) m2 hF
         exact GoW.oX (hoW hl) hg hop (by rw [← env_setT];exact ⟨m1,b⟩)
        ·trivial
       ·cases h
    simp only at h
    unfold doLowW at h
    split at h
    ·rename_i t m parts hlw
     split at h
     ·rename_i z len cells hm
      split at h
      ·rename_i hall
       rcases kW_ok h with ⟨ρ',Hs,qs,e,rfl⟩ | ⟨d,j,ρ',rfl⟩
       ·have:=hs e
        intro k Q hk Inv F h0 hq hM hF
        obtain ⟨m1,m2⟩:=take_next hM
        have b:=this k Q hk Inv F (fun h=>m1 h) (fun q hq2=>hq q (List.mem_append_right _ hq2)) m2 hF
        have hiF:i<F:=hF i (by
         simp only [Bool.and_eq_true] at hlw
         simpa using hlw.2)
        have hop:=madeE_ok hm
        simp only [List.all_eq_true] at hall
        obtain ⟨q1,q2⟩:=okOp_ok hok
        simp only [Bool.and_eq_true] at hlw
        exact GoW.newL q1 q2 hlw.2 (h0 (Nat.le_of_lt hiF)) (by rw [hop];exact ⟨rfl,rfl,fun c hc=>lowN_ok (hall c hc),by show GoW _ _ _ _ _ _ _ _ _ _ _ (putD _ _ _) _ _;rw [← env_setT];exact b⟩)
       ·trivial
      ·cases h
     ·cases h
    ·exact main h
   ·rename_i hw
    obtain ⟨x,b,rfl,hy,hb⟩:=wantE_false hw
    rcases kW_ok h with ⟨ρ',Hs,qs,e,rfl⟩ | ⟨d,j,ρ',rfl⟩
    ·have:=hs e
     intro k Q hk Inv F h0 hq hM hF
     obtain ⟨m1,m2⟩:=take_next hM
     exact GoW.s hok hy hb m1 (by rw [← env_setT];exact this k Q hk Inv F (fun h=>m1 h) (fun q hq2=>hq q (List.mem_append_right _ hq2)) m2 hF)
    ·trivial
   ·cases h
end
section
variable {C:Cx} {orc:DOracle} {ih:IH} (hs:Snd C.P orc ih)
include hs
theorem kLoop_ok {f fl sz:Nat} {c:Code} {ρ:T} {H H':Mem} {out:EO} {r:RO} (hr : ∀ o H1,r = .yes o H1→RM C.P orc (.code f fl sz c ρ) H o H1) (h:kLoop ih f fl sz c r = .yes out H'):RM C.P orc (.code f fl sz (.loop c) ρ) H out H':=by
 unfold kLoop at h
 split at h
 ·rename_i ρ1 H1
  have h1:=hr _ _ rfl
  have h2:=hs h
  cases out<;>first | trivial | skip
  ·exact fun k Q hk=>Go.loop (h1 _ Q (Go.lp (h2 k Q hk)))
  ·exact fun k Q hk=>Go.loop (h1 _ Q (Go.lp (h2 k Q hk)))
 ·rename_i e ρ1 H1 hne
  cases h
  have h1:=hr _ _ rfl
  cases e with
  | normal=>exact (by exfalso;first | exact hne rfl | exact hne _ rfl | exact hne _ _ rfl | exact hne _ _ _ rfl | exact hne _ _ _ _ rfl)
  | exit id=>exact fun k Q hk=>Go.loop (h1 _ Q hk)
  | ret=>exact fun k Q hk=>Go.loop (h1 _ Q hk)
 ·cases h
  exact fun k Q hk=>Go.loop (hr _ _ rfl _ Q hk)
 ·cases h
 ·cases h
omit hs in
theorem kBlock_ok {f fl sz id:Nat} {c:Code} {ρ:T} {H H':Mem} {out:EO} {r:RO} (hp:id≠PAN) (hr : ∀ o H1,r = .yes o H1→RM C.P orc (.code f fl sz c ρ) H o H1) (h:kBlock f id r = .yes out H'):RM C.P orc (.code f fl sz (.block id c) ρ) H out H':=by
 unfold kBlock at h
 split at h
 ·rename_i id' ρ1 H1
  have h1:=hr _ _ rfl
  split at h
  ·rename_i hi
   cases h
   obtain rfl:id'=id:=Nat.eq_of_beq_eq_true hi
   exact fun k Q hk=>Go.block (h1 _ Q (Go.blkX hk)) hp
  ·rename_i hi
   cases h
   exact fun k Q hk=>Go.block (h1 _ Q (Go.blkE (Nat.ne_of_beq_eq_false hi) hk)) hp
 ·rename_i e ρ1 H1 hne
  cases h
  have h1:=hr _ _ rfl
  cases e with
  | normal=>exact fun k Q hk=>Go.block (h1 _ Q hk) hp
  | exit id=>exact (by exfalso;first | exact hne rfl | exact hne _ rfl | exact hne _ _ rfl | exact hne _ _ _ rfl | exact hne _ _ _ _ rfl)
  | ret=>exact fun k Q hk=>Go.block (h1 _ Q hk) hp
 ·cases h
  exact fun k Q hk=>Go.block (hr _ _ rfl _ Q (Go.blkE (fun e=>hp e.symm) hk)) hp
 ·cases h
 ·cases h
theorem kPan_ok (hm:C.P.follows .mixedOrders=true) {f id fl sz j:Nat} {ops:Array Oper} {ρ:T} {H H':Mem} {out:EO} (h:kPan C ih f id fl sz ops j ρ H = .yes out H'):RM C.P orc (.code f fl sz (.region id ops true) ρ) H out H':=by
 unfold kPan at h
 split at h
 ·rename_i hc
  simp only [Bool.and_eq_true] at hc
  unfold kPan2 at h
  split at h
  ·rename_i ρ1 H1 e
   have h1:=hs e
   split at h
   ·rename_i tX htX
    split at h
    ·rename_i g args hv
     split at h
     ·rename_i hg
      unfold kPan3 at h
      split at h
      ·rename_i d j' ρ2 H2 e2
       cases h
       have h2:CallP C.P orc g args H1 fun d' S'=>d'=d∧S'=H':=hs e2
       exact fun k Q hk=>Go.rgDS (l:=ops.toList) j hm hc.2 hc.1 (callable_ok hg) (h1 [] _ ⟨rfl,tX,args,htX,hv,by
        obtain ⟨d',ρ3,H3,hb,rfl,rfl⟩:=h2
        exact ⟨_,ρ3,_,hb,by rw [← env_b];exact hk⟩⟩)
      ·cases h
      ·cases h
     ·cases h
    ·cases h
   ·cases h
  ·cases h
  ·cases h
 ·cases h
theorem stepRegion1_ok (hm:C.P.follows .mixedOrders=true) {f fl sz id:Nat} {ops:Array Oper} {d:Bool} {ρ:T} {H H':Mem} {out:EO} (h:stepRegion1 C ih f fl sz id ops d ρ H = .yes out H'):RM C.P orc (.code f fl sz (.region id ops d) ρ) H out H':=by
 unfold stepRegion1 at h
 split at h
 ·unfold kReg at h
  split at h
  ·rename_i ρ1 H1 e
   cases h
   have:=hs e
   exact fun k Q hk=>Go.rg (l:=ops.toList) (this k Q hk)
  ·rename_i d' j ρ1 H1 e
   cases h
   have:=hs e
   exact fun k Q hk=>Go.rgP (l:=ops.toList) (this k Q hk)
  ·cases h
  ·cases h
 ·split at h
  ·split at h
   ·rename_i hd
    unfold kDraw at h
    split at h
    ·rename_i ρ1 H1 e
     cases h
     have:=hs e
     exact fun k Q hk=>Go.rgS (l:=ops.toList) hm hd (this k Q hk)
    ·exact kPan_ok hs hm h
    ·cases h
    ·cases h
   ·cases h
  ·rename_i x hx
   split at h
   ·rename_i hd
    unfold kDrawW at h
    split at h
    ·rename_i ρ1 Hs qs H1 e
     split at h
     ·rename_i hq
      cases h
      have hsd:=hs e
      simp only [List.all_eq_true,Bool.and_eq_true] at hq
      intro k Q hk
      obtain ⟨loose,F,fl2⟩:=x
      simp only [openOk,Bool.and_eq_true,List.all_eq_true,decide_eq_true_eq] at hd
      have hI : ∀ q∈qs,opD C.P q.1 q.2.1 H=some (q.2.2,H):=fun q hq2=>readsSo_ok (hq q hq2).1
      have hw:=hsd k Q hk (fun M => ∀ q∈qs,opD C.P q.1 q.2.1 M=some (q.2.2,M)) F (fun _=>hI) (fun q hq2 M hM=>hM q hq2) (fun M hM q hq2=>readsSo_ok ((hq q hq2).2 M hM)) hd.1
      obtain ⟨_,hd⟩:=hd
      cases fl2 with
      | none=>
       simp only [Bool.and_eq_true] at hd
       exact Go.rgD (l:=ops.toList) loose _ hm hd.1 F hd.2 hI hw
      | some am=>
       obtain ⟨a,ms⟩:=am
       simp only [Bool.and_eq_true] at hd
       obtain ⟨⟨⟨h1,h2⟩,h3⟩,h4⟩:=hd
       split at h4
       ·rename_i hoa
        split at h4
        ·rename_i hz
         exact Go.rgF (l:=ops.toList) a ms loose _ hm h1 F h2 h3 hoa rfl rfl rfl hz h4 hI hw
        ·cases h4
       ·cases h4
     ·cases h
    ·exact kPan_ok hs hm h
    ·cases h
    ·cases h
   ·cases h
theorem kDef_ok {f fl sz:Nat} {c d:Code} {ρ:T} {H H':Mem} {out:EO} {r:RO} (hr : ∀ o H1,r = .yes o H1→RM C.P orc (.defc f fl sz c ρ) H o H1) (h:kDef ih f fl sz d r = .yes out H'):RM C.P orc (.defc f fl sz (.seq c d) ρ) H out H':=by
 unfold kDef at h
 split at h
 ·rename_i ρ1 g vs H1
  have h1:=hr _ _ rfl
  unfold kDef2 at h
  split at h
  ·rename_i e ρ2 H2 e2
   cases h
   have h2:=hs e2
   refine WPdD.seqL ?_
   obtain ⟨e',ρ',g',vs',H'',hb,rfl,rfl,rfl,rfl,rfl⟩:=h1
   exact ⟨_,_,_,_,_,hb,rfl,h2 [] _ ⟨rfl,rfl,rfl,rfl,rfl⟩⟩
  ·rename_i d' ρ2 H2 e2
   cases h
   have h2:=hs e2
   refine WPdD.seqL ?_
   obtain ⟨e',ρ',g',vs',H'',hb,rfl,rfl,rfl,rfl,rfl⟩:=h1
   exact ⟨_,_,_,_,_,hb,rfl,h2 [] _ ⟨rfl,rfl,rfl,rfl,rfl⟩⟩
  ·cases h
  ·cases h
 ·rename_i ρ1 H1
  have h1:=hr _ _ rfl
  have h2:=hs h
  cases out<;>first | trivial | skip
  ·exact fun k Q hk=>Go.seq (h1 _ Q (h2 k Q hk))
  ·exact fun k Q hk=>Go.seq (h1 _ Q (h2 k Q hk))
  ·exact WPdD.seqR (h1 [] _ ⟨rfl,h2⟩)
  ·exact WPdD.seqR (h1 [] _ ⟨rfl,h2⟩)
 ·rename_i e ρ1 H1 hne
  cases h
  have h1:=hr _ _ rfl
  cases e with
  | normal=>exact (by exfalso;first | exact hne rfl | exact hne _ rfl | exact hne _ _ rfl | exact hne _ _ _ rfl | exact hne _ _ _ _ rfl)
  | exit id=>exact fun k Q hk=>Go.seq (h1 _ Q hk)
  | ret=>exact fun k Q hk=>Go.seq (h1 _ Q hk)
 ·cases h
  exact fun k Q hk=>Go.seq (hr _ _ rfl _ Q hk)
 ·rename_i e ρ1 g vs H1 hne
  cases h
  have h1:=hr _ _ rfl
  obtain ⟨e',ρ',g',vs',H'',hb,rfl,rfl,rfl,rfl,rfl⟩:=h1
  exact ⟨_,_,_,_,_,.defSeqE hb (fun q=>by subst q;first | exact hne rfl | exact hne _ rfl | exact hne _ _ rfl | exact hne _ _ _ rfl | exact hne _ _ _ _ rfl),rfl,rfl,rfl,rfl,rfl⟩
 ·cases h
  have h1:=hr _ _ rfl
  obtain ⟨e',ρ',g',vs',H'',hb,rfl,rfl,rfl,rfl,rfl⟩:=h1
  exact ⟨_,_,_,_,_,.defSeqE hb (by simp),rfl,rfl,rfl,rfl,rfl⟩
 ·cases h
 ·cases h
omit hs in
theorem kCode_ok {f:Nat} {r:RO} {out:EO} {H':Mem} (h:kCode f r = .yes out H'):(∃ e ρ,r = .yes (.exit e ρ) H'∧out = .exit e ρ) ∨ ∃ d ρ,r = .yes (.pexit d ρ) H'∧out = .pexit d ρ:=by
 unfold kCode at h
 split at h
 ·cases h;exact .inl ⟨_,_,rfl,rfl⟩
 ·cases h;exact .inr ⟨_,_,rfl,rfl⟩
 ·cases h
 ·cases h
theorem stepDefc_ok {f fl sz:Nat} {c:Code} {ρ:T} {H H':Mem} {out:EO} (h:stepDefc C ih f fl sz c ρ H = .yes out H'):RM C.P orc (.defc f fl sz c ρ) H out H':=by
 unfold stepDefc at h
 split at h
 ·exact kDef_ok hs (fun o H1 e=>hs e) h
 ·rename_i id o1 x at_ ty pos after
  split at h
  ·rename_i v H1 hg1 hok hop
   simp only [Bool.and_eq_true] at hok
   split at h
   ·rename_i g first captured hx
    cases h
    exact WPdD.at hg1 hok.1 rfl rfl rfl hok.2 rfl rfl (by rw [hop];exact ⟨by rw [← env_setT];exact hx,rfl,env_setT _ _ _▸rfl,rfl,rfl,rfl⟩)
   ·cases h
  ·cases h
 ·obtain ⟨e,ρ1,h1,rfl⟩ | ⟨d,ρ1,h1,rfl⟩:=kCode_ok h
  ·exact (hs h1:RM C.P orc (.code f fl sz c ρ) H (.exit e ρ1) H')
  ·exact (hs h1:RM C.P orc (.code f fl sz c ρ) H (.pexit d ρ1) H')
omit hs in
theorem recOf_ok {P:Program} {g:FuncId} {n:Nat} {t0:Tmp} {c:Code} (h:recOf P g=some (n,t0,c)):RecAt P g n t0 c:=by
 unfold recOf at h
 split at h
 ·rename_i gn e
  split at h
  ·rename_i id t0' ty pos after c' hb hn hr
   cases h
   exact ⟨gn,id,ty,pos,after,e,hb,by simpa using hn,rfl,by simpa using hr⟩
  ·cases h
 ·cases h
omit hs in
theorem kFin_ok {f:FuncId} {args:List D} {H H':Mem} {v:Option D} {S:Mem} {out:EO} (hv : ∀ d,v=some d→CallD C.P orc f args H fun d' S'=>d'=d∧S'=S) (h:kFin C f H v S = .yes out H'):RM C.P orc (.call f args) H out H':=by
 unfold kFin at h
 split at h
 ·rename_i d
  have hc:=hv d rfl
  split at h
  ·unfold kKeep at h
   split at h
   ·unfold kKeep2 at h
    split at h
    ·rename_i hok
     cases h
     exact hc.gc (kk:=100) hok
    ·cases h;exact hc
   ·cases h;exact hc
  ·split at h
   ·rename_i hl
    cases h
    simp only [Bool.and_eq_true] at hl
    exact hc.pureN hl.1 hl.2
   ·cases h
 ·cases h
theorem doRec_ok {f:FuncId} {fn:Func} {c:Code} {args:List D} {H H1 H':Mem} {ρ:T} {g:FuncId} {vs:List D} {x:D} {out:EO} (hf:C.P.funcs[f]?=some fn) (hb:fn.body=some c) (ha:decide (args.length≤fn.ntmps)=true)
  (hd:WPdD C.P orc H.length fn.ntmps c (initD args) H fun e' ρ'' g' vs' H''=>(e' = .normal∨e' = .ret∨e' = .exit PAN)∧(match e' with | .exit _=>ρ'' PANT | _=>D.nili)=x∧updD ρ'' PANT .bot=updD (env ρ) PANT .bot∧g'=g∧vs'=vs∧H''=H1)
  (h:doRec C ih f fn H ρ g vs x H1 = .yes out H'):RM C.P orc (.call f args) H out H':=by
 unfold doRec at h
 split at h
 ·rename_i n' t0 c' hrec
  split at h
  ·rename_i hok
   simp only [Bool.and_eq_true,decide_eq_true_eq] at hok
   unfold kRec at h
   split at h
   ·cases h
   ·rename_i e2 ρ2 H2 hne e3
    have h2:=hs e3
    refine kFin_ok (v:=resultsD C.P fn (updD (env ρ) PANT .bot) H2) (fun d hd' => ?_) h
    refine CallD.recv hf hb rfl ha ?_
    obtain ⟨e',ρ',g',vs',H'',hbig,he,rfl,hu,rfl,rfl,rfl⟩:=hd
    refine ⟨_,_,_,_,_,hbig,he,n',t0,c',recOf_ok hrec,hok.1,hok.2,?_⟩
    rw [← env_init,← env_set]
    have he2:e2 = .normal∨e2 = .ret:=by
     cases e2 with
     | normal=>exact .inl rfl
     | ret=>exact .inr rfl
     | exit id=>exfalso;first | exact hne e3 | exact hne rfl | exact hne _ e3 | exact hne _ rfl | exact hne _ _ rfl
    have fin:=h2 [] (fun e2' ρ2' H2'=>(e2' = .normal∨e2' = .ret) ∧ ∃ v,resultsD C.P fn (updD ρ' PANT .bot) H2'=some v∧v=d∧H2'=H2)
    refine fin ?_
    rcases he2 with rfl | rfl
    ·exact ⟨.inl rfl,d,by rw [hu];exact hd',rfl,rfl⟩
    ·exact ⟨.inr rfl,d,by rw [hu];exact hd',rfl,rfl⟩
   ·cases h
   ·cases h
  ·cases h
 ·cases h
theorem kRet_ok {f:FuncId} {fn:Func} {c:Code} {args:List D} {H H':Mem} {r:RO} {out:EO} (hf:C.P.funcs[f]?=some fn) (hb:fn.body=some c) (ha:decide (args.length≤fn.ntmps)=true)
  (hr : ∀ o H1,r = .yes o H1→RM C.P orc (.code f H.length fn.ntmps c (initT 0 args .e)) H o H1∨RM C.P orc (.defc f H.length fn.ntmps c (initT 0 args .e)) H o H1)
  (hr2 : ∀ e ρ1 g vs H1,r = .yes (.defd e ρ1 g vs) H1→RM C.P orc (.defc f H.length fn.ntmps c (initT 0 args .e)) H (.defd e ρ1 g vs) H1) (hr3 : ∀ d ρ1 g vs H1,r = .yes (.defp d ρ1 g vs) H1→RM C.P orc (.defc f H.length fn.ntmps c (initT 0 args .e)) H (.defp d ρ1 g vs) H1)
  (h:kRet C ih f fn H r = .yes out H'):RM C.P orc (.call f args) H out H':=by
 have hx : ∀ e ρ1 H1,r = .yes (.exit e ρ1) H1 → ∀ (k:List K) (Q:AExit→DEnv→Mem→Prop),Go C.P orc H.length fn.ntmps k e (env ρ1) H1 Q→Go C.P orc H.length fn.ntmps (.code c::k) .normal (initD args) H Q:=by
  intro e ρ1 H1 he k Q hk
  rw [← env_init]
  rcases hr _ _ he with h | h
  ·exact h k Q hk
  ·exact h k Q hk
 have hp : ∀ d ρ1 H1,r = .yes (.pexit d ρ1) H1 → ∀ (k:List K) (Q:AExit→DEnv→Mem→Prop),Go C.P orc H.length fn.ntmps k (.exit PAN) (updD (env ρ1) PANT d) H1 Q→Go C.P orc H.length fn.ntmps (.code c::k) .normal (initD args) H Q:=by
  intro d ρ1 H1 he k Q hk
  rw [← env_init]
  rcases hr _ _ he with h | h
  ·exact h k Q hk
  ·exact h k Q hk
 unfold kRet at h
 split at h
 ·cases h
 ·rename_i e ρ1 H1 hne
  refine kFin_ok (v:=resultsD C.P fn (env ρ1) H1) (fun d hd => ?_) h
  cases e with
  | exit id=>exact (by exfalso;first | exact hne rfl | exact hne _ rfl | exact hne _ _ rfl | exact hne _ _ _ rfl | exact hne _ _ _ _ rfl)
  | normal=>exact CallD.body hf hb (by simpa using ha) (hx _ _ _ rfl [] _ ⟨.inl rfl,d,hd,rfl,rfl⟩)
  | ret=>exact CallD.body hf hb (by simpa using ha) (hx _ _ _ rfl [] _ ⟨.inr rfl,d,hd,rfl,rfl⟩)
 ·rename_i d ρ1 H1
  cases h
  exact CallP.body hf hb rfl ha (hp _ _ _ rfl [] _ ⟨rfl,by simp [updD],rfl⟩)
 ·cases h
 ·rename_i e ρ1 g vs H1 hne
  have h1:=hr2 _ _ _ _ _ rfl
  refine doRec_ok hs hf hb ha ?_ h
  rw [← env_init]
  obtain ⟨e',ρ',g',vs',H'',hbig,rfl,rfl,rfl,rfl,rfl⟩:=h1
  refine ⟨_,_,_,_,_,hbig,?_,?_,rfl,rfl,rfl,rfl⟩
  ·cases e' with
   | normal=>exact .inl rfl
   | ret=>exact .inr (.inl rfl)
   | exit id=>exact (by exfalso;first | exact hne rfl | exact hne _ rfl | exact hne _ _ rfl | exact hne _ _ _ rfl | exact hne _ _ _ _ rfl)
  ·cases e' with
   | normal=>rfl
   | ret=>rfl
   | exit id=>exact (by exfalso;first | exact hne rfl | exact hne _ rfl | exact hne _ _ rfl | exact hne _ _ _ rfl | exact hne _ _ _ _ rfl)
 ·rename_i d ρ1 g vs H1
  have h1:=hr3 _ _ _ _ _ rfl
  refine doRec_ok hs hf hb ha ?_ h
  rw [← env_init]
  obtain ⟨e',ρ',g',vs',H'',hbig,rfl,rfl,rfl,rfl,rfl⟩:=h1
  refine ⟨_,_,_,_,_,hbig,.inr (.inr rfl),by simp [updD],?_,rfl,rfl,rfl⟩
  funext t
  simp only [updD]
  split<;>rfl
 ·cases h
 ·cases h
end
section
variable {C:Cx} {orc:DOracle}
def isTrue (r:RO):Bool:=match r with | .yes (.val (.bool true)) _=>true | _=>false
end
end Go.DM
namespace Go.DM
open Go Go.AM
inductive O1 where
 | mk (f:T→D)
inductive L1 where
 | mk (f:T→List D)
inductive P1 where
 | mk (f:T→List (Nat×D))
inductive S1 where
 | mk (f:T→D→T)
inductive R2 where
 | no
 | yes (v:D) (H:Mem)
inductive O2 where
 | mk (f:T→Mem→R2)
inductive K1 where
 | mk (f:IH→Nat→T→Mem→RO)
abbrev KF:=IH→Nat→T→Mem→RO
def O1.run:O1→T→D | .mk f=>f
def L1.run:L1→T→List D | .mk f=>f
def P1.run:P1→T→List (Nat×D) | .mk f=>f
def O2.run:O2→T→Mem→R2 | .mk f=>f
def K1.run:K1→KF | .mk f=>f
noncomputable section
def getC:List Dg→O1
 | []=>.mk T.top
 | x::p=>match getC p with | .mk g=>.mk fun t=>g (T.kid t x)
theorem getC_ok : ∀ (p:List Dg) (t:T),(getC p).run t=t.get p
 | [],t=>rfl
 | x::p,t=>by
  have ih:=getC_ok p (T.kid t x)
  simp only [getC]
  cases h:getC p with
  | mk g=>rw [h] at ih;exact ih
def cOpd (x:Operand):O1:=
 match x with
 | .tmp t=>getC (path t)
 | .const v=>.mk fun _=>ofV v
 | .global _=>.mk fun _=>.bot
 | .func f=>.mk fun _=>.fn (.func f) [] []
theorem cOpd_ok (x:Operand) (ρ:T):(cOpd x).run ρ=evalD (env ρ) x:=by
 cases x with
 | tmp t=>exact getC_ok _ _
 | _=>rfl
def cArgs:List Operand→L1
 | []=>.mk fun _=>[]
 | x::xs=>match cOpd x with | .mk X=>match cArgs xs with | .mk Y=>.mk fun ρ=>X ρ::Y ρ
theorem cArgs_ok : ∀ (xs:List Operand) (ρ:T),(cArgs xs).run ρ=xs.map (evalD (env ρ))
 | [],_=>rfl
 | x::xs,ρ=>by
  have h1:=cOpd_ok x ρ
  have h2:=cArgs_ok xs ρ
  simp only [cArgs]
  cases hx:cOpd x with
  | mk X=>
   cases hy:cArgs xs with
   | mk Y=>
    rw [hx] at h1;rw [hy] at h2
    show X ρ::Y ρ=_
    rw [List.map_cons,← h1,← h2]
    rfl
def cParts:List (Nat×Operand)→P1
 | []=>.mk fun _=>[]
 | (i,x)::xs=>match cOpd x with | .mk X=>match cParts xs with | .mk Y=>.mk fun ρ=>(i,X ρ)::Y ρ
theorem cParts_ok : ∀ (xs:List (Nat×Operand)) (ρ:T),(cParts xs).run ρ=xs.map fun (i,x)=>(i,evalD (env ρ) x)
 | [],_=>rfl
 | (i,x)::xs,ρ=>by
  have h1:=cOpd_ok x ρ
  have h2:=cParts_ok xs ρ
  simp only [cParts]
  cases hx:cOpd x with
  | mk X=>
   cases hy:cParts xs with
   | mk Y=>
    rw [hx] at h1;rw [hy] at h2
    show (i,X ρ)::Y ρ=_
    rw [List.map_cons,← h1,← h2]
    rfl
def ofO (x:Option (D×Mem)):R2:=match x with | some (v,H)=>.yes v H | none=>.no
def ofV1 (x:Option D) (H:Mem):R2:=match x with | some v=>.yes v H | none=>.no
theorem ofV1_eq (x:Option D) (H:Mem):ofV1 x H=ofO (x.map (·,H)):=by cases x<;>rfl
def cLoad (P:Program) (t:TypeId) (X:T→D):O2:=
 match isAggA P t,sizeA P t with
 | some true,some n=>.mk fun ρ H=>match cellsAt (X ρ) H with | some (cells,off)=>(match Nat.ble (off+n) cells.length with | true=>.yes (.agg ((cells.drop off).take n)) H | false=>.no) | none=>.no
 | some false,_=>.mk fun ρ H=>match cellsAt (X ρ) H with | some (cells,off)=>(match cells[off]? with | some v=>.yes v H | none=>.no) | none=>.no
 | _,_=>.mk fun _ _=>.no
theorem cLoad_ok (P:Program) (t:TypeId) (X:T→D) (ρ:T) (H:Mem):(cLoad P t X).run ρ H=ofV1 (loadD P t (X ρ) H) H:=by
 unfold cLoad loadD
 cases h1:isAggA P t with
 | none=>simp only;cases cellsAt (X ρ) H<;>rfl
 | some b=>
  cases b with
  | false=>
   show (match cellsAt (X ρ) H with | some (cells,off)=>(match cells[off]? with | some v=>R2.yes v H | none=>.no) | none=>.no)=_
   cases hc:cellsAt (X ρ) H with
   | none=>rfl
   | some c=>
    obtain ⟨cells,off⟩:=c
    simp only
    cases cells[off]?<;>rfl
  | true=>
   cases h2:sizeA P t with
   | none=>simp only;cases cellsAt (X ρ) H<;>rfl
   | some n=>
    show (match cellsAt (X ρ) H with | some (cells,off)=>(match Nat.ble (off+n) cells.length with | true=>R2.yes (.agg ((cells.drop off).take n)) H | false=>.no) | none=>.no)=_
    cases hc:cellsAt (X ρ) H with
    | none=>rfl
    | some c=>
     obtain ⟨cells,off⟩:=c
     simp only
     cases hb:Nat.ble (off+n) cells.length with
     | true=>rw [if_pos (Nat.le_of_ble_eq_true hb)];rfl
     | false=>rw [if_neg (Nat.not_le_of_not_ble_eq_true (by simp [hb]))];rfl
def cOp (P:Program) (op:Op):O2:=
 match op with
 | .move x=>match cOpd x with | .mk X=>.mk fun ρ H=>.yes (X ρ) H
 | .assign x=>match cOpd x with | .mk X=>.mk fun ρ H=>.yes (X ρ) H
 | .load t a=>match cOpd a with | .mk A=>cLoad P t A
 | .binOp o t x y _=>match cOpd x with | .mk X=>match cOpd y with | .mk Y=>.mk fun ρ H=>ofV1 (binD P o t x y (X ρ) (Y ρ)) H
 | .nilCheck x=>match cOpd x with | .mk X=>.mk fun ρ H=>match X ρ with | .ptr o off=>.yes (.ptr o off) H | .eptr c off=>.yes (.eptr c off) H | .fn (.func f) a b=>.yes (.fn (.func f) a b) H | _=>.no
 | .fieldAddr s x f=>match cOpd x with | .mk X=>.mk fun ρ H=>ofV1 (fieldAtD P s (X ρ) f) H
 | .field s x f=>match cOpd x with | .mk X=>.mk fun ρ H=>ofV1 (fieldVD P s (X ρ) f) H
 | .indexAddr t x i=>match cOpd x with | .mk X=>match cOpd i with | .mk I=>.mk fun ρ H=>ofV1 (indexAtD P t (X ρ) (I ρ)) H
 | .store t a x=>match cOpd a with | .mk A=>match cOpd x with | .mk X=>.mk fun ρ H=>match storeD P t (A ρ) (X ρ) H with | some H'=>.yes dUndef H' | none=>.no
 | .extract x i=>match cOpd x with | .mk X=>.mk fun ρ H=>match X ρ with | .tup vs=>ofV1 vs[i]? H | _=>.no
 | .pick c a b=>match cOpd c with | .mk Q=>match cOpd a with | .mk A=>match cOpd b with | .mk B=>.mk fun ρ H=>match Q ρ with | .bool true=>.yes (A ρ) H | .bool false=>.yes (B ρ) H | _=>.no
 | .convert s d x=>match cOpd x with | .mk X=>.mk fun ρ H=>ofO (convD P s d (X ρ) H)
 | .box _ x=>match cOpd x with | .mk X=>.mk fun ρ H=>match cellsD (X ρ) with | some cs=>.yes (.ptr H.length 0) (H++[.obj cs]) | none=>.no
 | .build t ps=>match cParts ps.toList with | .mk Y=>.mk fun ρ H=>ofV1 (buildD P t (Y ρ)) H
 | .buildSlice t n ps=>match cParts ps.toList with | .mk Y=>.mk fun ρ H=>ofO (buildSliceD P t n (Y ρ) H)
 | .alloc t=>(match zeroA P t with
  | some z=>(match z.cells.all scalarV with | true=>.mk fun _ H=>.yes (.ptr H.length 0) (H++[.obj (z.cells.toList.map ofS)]) | false=>.mk fun _ _=>.no)
  | none=>.mk fun _ _=>.no)
 | .call ⟨.builtin b,args,ats⟩=>match cArgs args.toList with | .mk Y=>.mk fun ρ H=>ofO (builtinD P b ats (Y ρ) H)
 | op=>.mk fun ρ H=>ofO (opD P (env ρ) op H)
theorem cOp_ok (P:Program) (op:Op) (ρ:T) (H:Mem):(cOp P op).run ρ H=ofO (opD P (env ρ) op H):=by
 have opd:=fun x=>cOpd_ok x ρ
 have args:=fun x=>cArgs_ok x ρ
 have parts:=fun x=>cParts_ok x ρ
 cases op with
 | move x=>
  have:=opd x
  simp only [cOp,opD]
  cases h:cOpd x with | mk X=>rw [h] at this;show R2.yes (X ρ) H=_;rw [← this];rfl
 | assign x=>
  have:=opd x
  simp only [cOp,opD]
  cases h:cOpd x with | mk X=>rw [h] at this;show R2.yes (X ρ) H=_;rw [← this];rfl
 | load t a=>
  have:=opd a
  simp only [cOp,opD]
  cases h:cOpd a with | mk X=>rw [h] at this;rw [← this,← ofV1_eq];exact cLoad_ok P t X ρ H
 | binOp o t x y u=>
  have h1:=opd x
  have h2:=opd y
  simp only [cOp,opD]
  cases hx:cOpd x with | mk X=>cases hy:cOpd y with | mk Y=>rw [hx] at h1;rw [hy] at h2;rw [← h1,← h2,← ofV1_eq];rfl
 | nilCheck x=>
  have:=opd x
  simp only [cOp,opD]
  cases h:cOpd x with | mk X=>
   rw [h] at this;rw [← this]
   show (match X ρ with | .ptr o off=>R2.yes (.ptr o off) H | .eptr c off=>.yes (.eptr c off) H | .fn (.func f) a b=>.yes (.fn (.func f) a b) H | _=>.no)=ofO (match X ρ with | .ptr o off=>some (.ptr o off,H) | .eptr c off=>some (.eptr c off,H) | .fn (.func f) a b=>some (.fn (.func f) a b,H) | _=>none)
   split<;>rfl
 | fieldAddr s x f=>
  have:=opd x
  simp only [cOp,opD]
  cases h:cOpd x with | mk X=>rw [h] at this;rw [← this,← ofV1_eq];rfl
 | field s x f=>
  have:=opd x
  simp only [cOp,opD]
  cases h:cOpd x with | mk X=>rw [h] at this;rw [← this,← ofV1_eq];rfl
 | indexAddr t x i=>
  have h1:=opd x
  have h2:=opd i
  simp only [cOp,opD]
  cases hx:cOpd x with | mk X=>cases hy:cOpd i with | mk Y=>rw [hx] at h1;rw [hy] at h2;rw [← h1,← h2,← ofV1_eq];rfl
 | store t a x=>
  have h1:=opd a
  have h2:=opd x
  simp only [cOp,opD]
  cases hx:cOpd a with | mk X=>cases hy:cOpd x with | mk Y=>
   rw [hx] at h1;rw [hy] at h2;rw [← h1,← h2]
   show (match storeD P t (X ρ) (Y ρ) H with | some H'=>R2.yes dUndef H' | none=>.no)=ofO ((storeD P t (X ρ) (Y ρ) H).map (dUndef,·))
   cases storeD P t (X ρ) (Y ρ) H<;>rfl
 | extract x i=>
  have:=opd x
  simp only [cOp,opD]
  cases h:cOpd x with | mk X=>
   rw [h] at this;rw [← this]
   show (match X ρ with | .tup vs=>ofV1 vs[i]? H | _=>R2.no)=ofO (match X ρ with | .tup vs=>_ | _=>_)
   split
   ·rw [ofV1_eq]
   ·rfl
 | pick c a b=>
  have h1:=opd c
  have h2:=opd a
  have h3:=opd b
  simp only [cOp,opD]
  cases hx:cOpd c with | mk X=>cases hy:cOpd a with | mk Y=>cases hz:cOpd b with | mk Z=>
   rw [hx] at h1;rw [hy] at h2;rw [hz] at h3;rw [← h1,← h2,← h3]
   show (match X ρ with | .bool true=>R2.yes (Y ρ) H | .bool false=>.yes (Z ρ) H | _=>.no)=ofO (match X ρ with | .bool t=>some (if t then Y ρ else Z ρ,H) | _=>none)
   cases hq:X ρ with
   | bool t=>cases t<;>rfl
   | _=>rfl
 | convert s d x=>
  have:=opd x
  simp only [cOp,opD]
  cases h:cOpd x with | mk X=>rw [h] at this;rw [← this];rfl
 | box t x=>
  have:=opd x
  simp only [cOp,opD]
  cases h:cOpd x with | mk X=>
   rw [h] at this;rw [← this]
   show (match cellsD (X ρ) with | some cs=>R2.yes (.ptr H.length 0) (H++[.obj cs]) | none=>.no)=ofO ((cellsD (X ρ)).map fun cs=>(.ptr H.length 0,H++[.obj cs]))
   cases cellsD (X ρ)<;>rfl
 | build t ps=>
  have:=parts ps.toList
  simp only [cOp,opD]
  cases h:cParts ps.toList with | mk X=>rw [h] at this;rw [← this,← ofV1_eq];rfl
 | buildSlice t n ps=>
  have:=parts ps.toList
  simp only [cOp,opD]
  cases h:cParts ps.toList with | mk X=>rw [h] at this;rw [← this];rfl
 | alloc t=>
  simp only [cOp,opD]
  cases hz:zeroA P t with
  | none=>rfl
  | some z=>
   simp only
   cases hs:z.cells.all scalarV<;>rfl
 | call c=>
  obtain ⟨callee,as_,ats⟩:=c
  cases callee with
  | builtin b=>
   have:=args as_.toList
   simp only [cOp,opD]
   cases h:cArgs as_.toList with | mk X=>rw [h] at this;rw [← this];rfl
  | value x=>rfl
  | invoke r m=>rfl
 | _=>rfl
def kOpC (f r i:Nat) (dst:Option Tmp) (G:KF) (ih:IH) (fl:Nat) (ρ:T) (x:R2):RO:=
 match x with
 | .yes v H1=>G ih fl (setT ρ dst v) H1
 | .no=>.no 2 f r i
def kCallC2 (f r i:Nat) (dst:Option Tmp) (G:KF) (ih:IH) (fl:Nat) (ρ:T) (x:RO):RO:=
 match x with
 | .yes (.val v) H1=>G ih fl (setT ρ dst v) H1
 | .yes (.pan d _ _) H1=>.yes (.pan d i ρ) H1
 | .no a b c d=>.no a b c d
 | _=>.no 1 f r i
def kCallC (P:Program) (f r i:Nat) (dst:Option Tmp) (G:KF) (ih:IH) (fl:Nat) (ρ:T) (H:Mem) (fv:D) (args:List D):RO:=
 match fv with
 | .fn (.func h) first captured=>(match callable P h with | true=>kCallC2 f r i dst G ih fl ρ (ih (.call h (first++args++captured)) H) | false=>.no 3 f r i)
 | _=>.no 49 f r i
def kPanC (f r i:Nat) (ρ:T) (H:Mem) (d:D):RO:=match d with | .iface t v=>.yes (.pan (.iface t v) i ρ) H | _=>.no 4 f r i
def cDo (C:Cx) (f r i:Nat) (dst:Option Tmp) (op:Op) (G:KF):K1:=
 match op with
 | .call ⟨.value x,args,_⟩=>match cOpd x with | .mk X=>match cArgs args.toList with | .mk Y=>.mk fun ih fl ρ H=>kCallC C.P f r i dst G ih fl ρ H (X ρ) (Y ρ)
 | .panic x=>(match okOperand x with | true=>(match cOpd x with | .mk X=>.mk fun _ _ ρ H=>kPanC f r i ρ H (X ρ)) | false=>.mk fun _ _ _ _=>.no 4 f r i)
 | op=>
  match has3 C.hs.own f r i || has3 C.hs.low f r i with
  | true=>.mk fun ih fl ρ H=>kOpC f r i dst G ih fl ρ (ofO (opE C f r i ρ op H))
  | false=>match cOp C.P op with | .mk F=>.mk fun ih fl ρ H=>kOpC f r i dst G ih fl ρ (F ρ H)
def kWant (f r i:Nat) (w:Option Bool) (a b:RO):RO:=match w with | some true=>a | some false=>b | none=>.no 6 f r i
def cOper (C:Cx) (f r sz:Nat) (ops:Array Oper) (i:Nat) (o:Oper) (G:KF):K1:=
 match okDstB sz o.dst&&o.op.operands.toList.all okOperand with
 | false=>.mk fun _ _ _ _=>.no 5 f r i
 | true=>
  match o.guard with
  | none=>cDo C f r i o.dst o.op G
  | some x=>match cDo C f r i o.dst o.op G with | .mk F=>.mk fun ih fl ρ H=>kWant f r i (wantE ops ρ (some x)) (F ih fl ρ H) (G ih fl (setT ρ o.dst dUndef) H)
def cOps (C:Cx) (f r sz:Nat) (ops:Array Oper):Nat→List Oper→K1
 | _,[]=>.mk fun _ _ ρ H=>.yes (.env ρ) H
 | i,o::os=>match cOps C f r sz ops (i+1) os with | .mk G=>cOper C f r sz ops i o G
def kGc (F:KF) (ih:IH) (fl:Nat) (x:Option (T×Mem)) (ρ:T) (H:Mem):RO:=match x with | some (ρ',H')=>F ih fl ρ' H' | none=>F ih fl ρ H
def cRegion1 (C:Cx) (f sz id:Nat) (ops:Array Oper) (d:Bool):K1:=
 match d with
 | false=>match cOps C f id sz ops 0 ops.toList with | .mk F=>.mk fun ih fl ρ H=>kReg f id (F ih fl ρ H)
 | true=>
  match hintOf C.hs.open_ f id with
  | none=>(match drawnFineD ops [] with | true=>(match cOps C f id sz ops 0 ops.toList with | .mk F=>.mk fun ih fl ρ H=>kDraw C ih f id fl sz ops ρ H (F ih fl ρ H)) | false=>.mk fun _ _ _ _=>.no 27 f id 0)
  | some x=>(match openOk C.P ops x with | true=>.mk fun ih fl ρ H=>kDrawW C ih f id fl sz ops x.2.1 ρ H (ih (.opsW ⟨f,id,fl,sz,ops,x.1⟩ 0 ops.toList ρ) H) | false=>.mk fun _ _ _ _=>.no 28 f id 0)
def cRegion (C:Cx) (f sz id:Nat) (ops:Array Oper) (d:Bool):K1:=
 match gcOf C.hs.gcs f id with
 | none=>cRegion1 C f sz id ops d
 | some _=>match cRegion1 C f sz id ops d with | .mk F=>.mk fun ih fl ρ H=>kGc F ih fl (gcPre C f fl id ρ H) ρ H
def kSeqC (f:Nat) (G:KF) (ih:IH) (fl:Nat) (r:RO):RO:=
 match r with
 | .yes (.exit .normal ρ1) H1=>G ih fl ρ1 H1
 | .yes (.exit e ρ1) H1=>.yes (.exit e ρ1) H1
 | .yes (.pexit d ρ1) H1=>.yes (.pexit d ρ1) H1
 | .no a b c d=>.no a b c d
 | _=>.no 14 f 0 0
def kCond (f:Nat) (d:D) (a b:RO):RO:=match d with | .bool true=>a | .bool false=>b | _=>.no 30 f 0 0
def cCode (C:Cx) (f sz:Nat):Code→K1
 | .skip=>.mk fun _ _ ρ H=>.yes (.exit .normal ρ) H
 | .exit id=>(match Nat.beq id PAN with | true=>.mk fun _ _ _ _=>.no 29 f 0 0 | false=>.mk fun _ _ ρ H=>.yes (.exit (.exit id) ρ) H)
 | .ret=>.mk fun _ _ ρ H=>.yes (.exit .ret ρ) H
 | .seq c d=>match cCode C f sz c with | .mk F=>match cCode C f sz d with | .mk G=>.mk fun ih fl ρ H=>kSeqC f G ih fl (F ih fl ρ H)
 | .cond x a b=>(match okOperand x with
  | true=>(match cOpd x with | .mk X=>match cCode C f sz a with | .mk F=>match cCode C f sz b with | .mk G=>.mk fun ih fl ρ H=>kCond f (X ρ) (F ih fl ρ H) (G ih fl ρ H))
  | false=>.mk fun _ _ _ _=>.no 30 f 0 0)
 | .block id c=>(match Nat.beq id PAN with | true=>.mk fun _ _ _ _=>.no 29 f 0 0 | false=>match cCode C f sz c with | .mk F=>.mk fun ih fl ρ H=>kBlock f id (F ih fl ρ H))
 | .loop c=>match cCode C f sz c with | .mk F=>.mk fun ih fl ρ H=>kLoop ih f fl sz c (F ih fl ρ H)
 | .region id ops d=>cRegion C f sz id ops d
 | _=>.mk fun _ _ _ _=>.no 31 f 0 0
inductive C1 where
 | no
 | mk (fn:Func) (d:Bool) (c:Code) (F:KF)
def cCall (C:Cx) (f:FuncId):C1:=
 match C.P.funcs[f]? with
 | none=>.no
 | some fn=>match fn.body with
  | none=>.no
  | some c=>match cCode C f fn.ntmps c with | .mk F=>.mk fn (C.hs.defers.contains f) c F
def stepCallC2 (C:Cx) (ih:IH) (f:FuncId) (args:List D) (H:Mem):RO:=
 match cCall C f with
 | .no=>.no 45 f 0 0
 | .mk fn d c F=>
  match decide (args.length≤fn.ntmps),d with
  | true,false=>kRet C ih f fn H (kCode f (F ih H.length (initT 0 args .e) H))
  | true,true=>kRet C ih f fn H (ih (.defc f H.length fn.ntmps c (initT 0 args .e)) H)
  | _,_=>.no 47 f 0 0
def stepCallC (C:Cx) (ih:IH) (f:FuncId) (args:List D) (H:Mem):RO:=
 match C.hs.lib f args H with
 | some (v,H1)=>.yes (.val v) H1
 | none=>stepCallC2 C ih f args H
def stepC (C:Cx) (ih:IH) (j:EJ) (H:Mem):RO:=
 match j with
 | .code f fl sz c ρ=>(match cCode C f sz c with | .mk F=>F ih fl ρ H)
 | .call f args=>stepCallC C ih f args H
 | .ops g i os ρ=>stepOps C ih g i os ρ H
 | .opsW g i os ρ=>stepOpsW C ih g i os ρ H
 | .defc f fl sz c ρ=>stepDefc C ih f fl sz c ρ H
end
noncomputable def runC (C:Cx) (n:Nat):IH:=Nat.rec (motive:=fun _=>IH) (fun _ _=>.no 0 0 0 0) (fun _ ih=>stepC C ih) n
section
variable {C:Cx} {orc:DOracle} {ih:IH} (hs:Snd C.P orc ih)
theorem ofO_yes {x:Option (D×Mem)} {v:D} {H:Mem} (h:ofO x = .yes v H):x=some (v,H):=by
 cases x with
 | none=>cases h
 | some y=>obtain ⟨a,b⟩:=y;cases h;rfl
theorem kOpC_ok {g:Rg} {i:Nat} {os:List Oper} {dst:Option Tmp} {op:Op} {ty:TypeId} {pos:String} {after:Array Edge} {gd:Option (Nat×Bool)} {ρ:T} {H H':Mem} {out:EO} {G:KF} {x:R2}
  (hG : ∀ ρ1 H1 out H',G ih g.fl ρ1 H1 = .yes out H'→RM C.P orc (.ops g (i+1) os ρ1) H1 out H') (ho:okOp g.sz dst op=true) (hg:wantB g.ops (env ρ) gd=true)
  (hx : ∀ v H1,x = .yes v H1→opM C.P (env ρ) op H v H1) (h:kOpC g.f g.r i dst G ih g.fl ρ x = .yes out H'):RM C.P orc (.ops g i (⟨dst,op,ty,pos,after,gd⟩::os) ρ) H out H':=by
 unfold kOpC at h
 split at h
 ·rename_i v H1
  have hop:=hx _ _ rfl
  have:=hG _ _ _ _ h
  cases out<;>first | trivial | skip
  ·exact fun k Q hk=>GoR.oX ho hg hop (by rw [← env_setT];exact this k Q hk)
  ·exact fun k Q hk=>GoP.oX ho hg hop (by rw [← env_setT];exact this k Q hk)
 ·cases h
include hs
theorem cDo_ok {g:Rg} {i:Nat} {os:List Oper} {dst:Option Tmp} {op:Op} {ty:TypeId} {pos:String} {after:Array Edge} {gd:Option (Nat×Bool)} {ρ:T} {H H':Mem} {out:EO} {G:KF}
  (hG : ∀ ρ1 H1 out H',G ih g.fl ρ1 H1 = .yes out H'→RM C.P orc (.ops g (i+1) os ρ1) H1 out H') (ho:okOp g.sz dst op=true) (hg:wantB g.ops (env ρ) gd=true)
  (h:(cDo C g.f g.r i dst op G).run ih g.fl ρ H = .yes out H'):RM C.P orc (.ops g i (⟨dst,op,ty,pos,after,gd⟩::os) ρ) H out H':=by
 unfold cDo at h
 split at h
 ·rename_i x args ats
  have h1:=cOpd_ok x ρ
  have h2:=cArgs_ok args.toList ρ
  cases hx:cOpd x with | mk X=>cases hy:cArgs args.toList with | mk Y=>
  rw [hx] at h1;rw [hy] at h2
  rw [hx,hy] at h
  change kCallC C.P g.f g.r i dst G ih g.fl ρ H (X ρ) (Y ρ)=_ at h
  unfold kCallC at h
  split at h
  ·rename_i f first captured hf
   have ht:targetD (env ρ) (.call ⟨.value x,args,ats⟩)=some (f,first++Y ρ++captured):=by
    have e1:evalD (env ρ) x = .fn (.func f) first captured:=by rw [← h1];exact hf
    have e2:args.toList.map (evalD (env ρ))=Y ρ:=h2.symm
    simp only [targetD,e1,e2]
   split at h
   ·rename_i hc
    unfold kCallC2 at h
    split at h
    ·rename_i v H1 e
     have hcall:CallD C.P orc f (first++Y ρ++captured) H fun d' S'=>d'=v∧S'=H1:=hs e
     have:=hG _ _ _ _ h
     cases out<;>first | trivial | skip
     ·exact fun k Q hk=>GoR.c (callable_ok hc) ho hg ht (hcall.mono fun v' S' ⟨h1,h2⟩=>by subst h1;subst h2;rw [← env_setT];exact this k Q hk)
     ·exact fun k Q hk=>GoP.c (callable_ok hc) ho hg ht (hcall.mono fun v' S' ⟨h1,h2⟩=>by subst h1;subst h2;rw [← env_setT];exact this k Q hk)
    ·rename_i d j ρ1 H1 e
     cases h
     exact fun k Q hk=>GoP.cX (callable_ok hc) ho hg ht (hs e) hk
    ·cases h
    ·cases h
   ·cases h
  ·cases h
 ·rename_i x
  split at h
  ·rename_i hk
   have h1:=cOpd_ok x ρ
   cases hx:cOpd x with | mk X=>
   rw [hx] at h1 h
   change kPanC g.f g.r i ρ H (X ρ)=_ at h
   unfold kPanC at h
   split at h
   ·rename_i t v e
    cases h
    have e1:evalD (env ρ) x = .iface t v:=by rw [← h1];exact e
    exact fun k Q hq=>GoP.p hk hg ⟨t,v,e1⟩ (by rw [e1];exact hq)
   ·cases h
  ·cases h
 ·split at h
  ·exact kOpC_ok hG ho hg (fun v H1 e=>opE_ok (ofO_yes e)) h
  ·have h1:=cOp_ok C.P op ρ H
   cases hF:cOp C.P op with | mk F=>
   rw [hF] at h1 h
   refine kOpC_ok hG ho hg (fun v H1 e=>.inl (ofO_yes ?_)) h
   rw [← h1]
   exact e
theorem cOps_ok {f r fl sz:Nat} {ops:Array Oper} : ∀ (os:List Oper) (i:Nat) {ρ:T} {H H':Mem} {out:EO},(cOps C f r sz ops i os).run ih fl ρ H = .yes out H'→RM C.P orc (.ops ⟨f,r,fl,sz,ops,[]⟩ i os ρ) H out H'
 | [],i,ρ,H,H',out,h=>by
  cases h
  exact fun k Q hk=>.nil hk
 | o::os,i,ρ,H,H',out,h=>by
  have ihG := @cOps_ok f r fl sz ops os (i+1)
  simp only [cOps] at h
  cases hG:cOps C f r sz ops (i+1) os with | mk G=>
  rw [hG] at h
  have hGo : ∀ ρ1 H1 out H',G ih fl ρ1 H1 = .yes out H'→RM C.P orc (.ops ⟨f,r,fl,sz,ops,[]⟩ (i+1) os ρ1) H1 out H':=fun ρ1 H1 out H' e=>ihG (by rw [hG];exact e)
  obtain ⟨dst,op,ty,pos,after,gd⟩:=o
  unfold cOper at h
  split at h
  ·cases h
  ·rename_i hok
   cases gd with
   | none=>exact cDo_ok hs (g:=⟨f,r,fl,sz,ops,[]⟩) hGo hok rfl h
   | some x=>
    simp only at h
    cases hF:cDo C f r i dst op G with | mk F=>
    rw [hF] at h
    change kWant f r i (wantE ops ρ (some x)) (F ih fl ρ H) (G ih fl (setT ρ dst dUndef) H)=_ at h
    unfold kWant at h
    split at h
    ·rename_i hw
     exact cDo_ok hs (g:=⟨f,r,fl,sz,ops,[]⟩) hGo hok (wantE_true hw) (by rw [hF];exact h)
    ·rename_i hw
     obtain ⟨x',b,hx,hy,hb⟩:=wantE_false hw
     cases hx
     have:=hGo _ _ _ _ h
     cases out<;>first | trivial | skip
     ·exact fun k Q hk=>GoR.s hok hy hb (by rw [← env_setT];exact this k Q hk)
     ·exact fun k Q hk=>GoP.s hok hy hb (by rw [← env_setT];exact this k Q hk)
    ·cases h
theorem cRegion1_ok (hm:C.P.follows .mixedOrders=true) {f fl sz id:Nat} {ops:Array Oper} {d:Bool} {ρ:T} {H H':Mem} {out:EO} (h:(cRegion1 C f sz id ops d).run ih fl ρ H = .yes out H'):RM C.P orc (.code f fl sz (.region id ops d) ρ) H out H':=by
 have key := @cOps_ok C orc ih hs f id fl sz ops ops.toList 0
 unfold cRegion1 at h
 split at h
 ·cases hF:cOps C f id sz ops 0 ops.toList with | mk F=>
  rw [hF] at h
  change kReg f id (F ih fl ρ H)=_ at h
  unfold kReg at h
  split at h
  ·rename_i ρ1 H1 e
   cases h
   have:=key (ρ:=ρ) (H:=H) (by rw [hF];exact e)
   exact fun k Q hk=>Go.rg (l:=ops.toList) (this k Q hk)
  ·rename_i d' j ρ1 H1 e
   cases h
   have:=key (ρ:=ρ) (H:=H) (by rw [hF];exact e)
   exact fun k Q hk=>Go.rgP (l:=ops.toList) (this k Q hk)
  ·cases h
  ·cases h
 ·split at h
  ·split at h
   ·rename_i hd
    cases hF:cOps C f id sz ops 0 ops.toList with | mk F=>
    rw [hF] at h
    change kDraw C ih f id fl sz ops ρ H (F ih fl ρ H)=_ at h
    unfold kDraw at h
    split at h
    ·rename_i ρ1 H1 e
     cases h
     have:=key (ρ:=ρ) (H:=H) (by rw [hF];exact e)
     exact fun k Q hk=>Go.rgS (l:=ops.toList) hm hd (this k Q hk)
    ·exact kPan_ok hs hm h
    ·cases h
    ·cases h
   ·cases h
  ·rename_i x hx
   split at h
   ·rename_i hd
    refine stepRegion1_ok hs hm (d:=true) ?_
    unfold stepRegion1
    rw [hx]
    simp only [hd]
    exact h
   ·cases h
theorem cRegion_ok (hm:C.P.follows .mixedOrders=true) {f fl sz id:Nat} {ops:Array Oper} {d:Bool} {ρ:T} {H H':Mem} {out:EO} (h:(cRegion C f sz id ops d).run ih fl ρ H = .yes out H'):RM C.P orc (.code f fl sz (.region id ops d) ρ) H out H':=by
 unfold cRegion at h
 split at h
 ·exact cRegion1_ok hs hm h
 ·cases hF:cRegion1 C f sz id ops d with | mk F=>
  rw [hF] at h
  change kGc F ih fl (gcPre C f fl id ρ H) ρ H=_ at h
  unfold kGc at h
  split at h
  ·rename_i ρ1 H1 hg
   have:=cRegion1_ok hs hm (fl:=fl) (ρ:=ρ1) (H:=H1) (by rw [hF];exact h)
   cases out<;>first | trivial | skip
   ·exact fun k Q hk=>gcPre_ok hg (this k Q hk)
   ·exact fun k Q hk=>gcPre_ok hg (this k Q hk)
  ·exact cRegion1_ok hs hm (by rw [hF];exact h)
theorem cCode_ok (hm:C.P.follows .mixedOrders=true) {f sz:Nat} : ∀ (c:Code) {fl:Nat} {ρ:T} {H H':Mem} {out:EO},(cCode C f sz c).run ih fl ρ H = .yes out H'→RM C.P orc (.code f fl sz c ρ) H out H':=by
 intro c
 induction c with
 | skip=>intro fl ρ H H' out h;cases h;exact fun k Q hk=>Go.skip hk
 | ret=>intro fl ρ H H' out h;cases h;exact fun k Q hk=>⟨_,_,_,.ret,hk⟩
 | exit id=>
  intro fl ρ H H' out h
  simp only [cCode] at h
  split at h
  ·cases h
  ·rename_i hp
   cases h
   exact fun k Q hk=>Go.exit hk (Nat.ne_of_beq_eq_false hp)
 | seq c d ihc ihd=>
  intro fl ρ H H' out h
  simp only [cCode] at h
  cases hF:cCode C f sz c with | mk F=>cases hG:cCode C f sz d with | mk G=>
  rw [hF,hG] at h
  change kSeqC f G ih fl (F ih fl ρ H)=_ at h
  have hc : ∀ o H1,F ih fl ρ H = .yes o H1→RM C.P orc (.code f fl sz c ρ) H o H1:=fun o H1 e=>ihc (by rw [hF];exact e)
  unfold kSeqC at h
  split at h
  ·rename_i ρ1 H1 e
   have h1:=hc _ _ e
   have h2:=ihd (fl:=fl) (ρ:=ρ1) (H:=H1) (by rw [hG];exact h)
   cases out<;>first | trivial | skip
   ·exact fun k Q hk=>Go.seq (h1 _ Q (h2 k Q hk))
   ·exact fun k Q hk=>Go.seq (h1 _ Q (h2 k Q hk))
  ·rename_i e ρ1 H1 hne e2
   cases h
   have h1:=hc _ _ e2
   cases e with
   | normal=>exfalso;first | exact hne rfl | exact hne _ rfl | exact hne _ _ rfl | exact hne e2 | exact hne _ e2 | exact hne _ _ e2
   | exit id=>exact fun k Q hk=>Go.seq (h1 _ Q hk)
   | ret=>exact fun k Q hk=>Go.seq (h1 _ Q hk)
  ·rename_i d' ρ1 H1 e
   cases h
   exact fun k Q hk=>Go.seq (hc _ _ e _ Q hk)
  ·cases h
  ·cases h
 | cond x a b iha ihb=>
  intro fl ρ H H' out h
  simp only [cCode] at h
  split at h
  ·rename_i hk1
   have h1:=cOpd_ok x ρ
   cases hX:cOpd x with | mk X=>cases hF:cCode C f sz a with | mk F=>cases hG:cCode C f sz b with | mk G=>
   rw [hX,hF,hG] at h
   rw [hX] at h1
   change kCond f (X ρ) (F ih fl ρ H) (G ih fl ρ H)=_ at h
   unfold kCond at h
   split at h
   ·rename_i e
    have hv:evalD (env ρ) x = .bool true:=by rw [← h1];exact e
    have:=iha (fl:=fl) (ρ:=ρ) (H:=H) (by rw [hF];exact h)
    cases out<;>first | trivial | skip
    ·exact fun k Q hk=>Go.cond hk1 hv (this k Q hk)
    ·exact fun k Q hk=>Go.cond hk1 hv (this k Q hk)
   ·rename_i e
    have hv:evalD (env ρ) x = .bool false:=by rw [← h1];exact e
    have:=ihb (fl:=fl) (ρ:=ρ) (H:=H) (by rw [hG];exact h)
    cases out<;>first | trivial | skip
    ·exact fun k Q hk=>Go.cond hk1 hv (this k Q hk)
    ·exact fun k Q hk=>Go.cond hk1 hv (this k Q hk)
   ·cases h
  ·cases h
 | block id c ihc=>
  intro fl ρ H H' out h
  simp only [cCode] at h
  split at h
  ·cases h
  ·rename_i hp
   cases hF:cCode C f sz c with | mk F=>
   rw [hF] at h
   exact kBlock_ok (Nat.ne_of_beq_eq_false hp) (fun o H1 e=>ihc (by rw [hF];exact e)) h
 | loop c ihc=>
  intro fl ρ H H' out h
  simp only [cCode] at h
  cases hF:cCode C f sz c with | mk F=>
  rw [hF] at h
  exact kLoop_ok hs (fun o H1 e=>ihc (by rw [hF];exact e)) h
 | region id ops d=>intro fl ρ H H' out h;exact cRegion_ok hs hm h
 | _=>intro fl ρ H H' out h;cases h
theorem stepC_ok (hm:C.P.follows .mixedOrders=true) (hlib : ∀ f args H v H1,C.hs.lib f args H=some (v,H1)→CallD C.P orc f args H fun d' S'=>d'=v∧S'=H1):Snd C.P orc (stepC C ih):=by
 intro j H out H' h
 unfold stepC at h
 split at h
 ·rename_i f fl sz c ρ
  cases hF:cCode C f sz c with | mk F=>
  rw [hF] at h
  exact cCode_ok hs hm c (by rw [hF];exact h)
 ·rename_i f args
  unfold stepCallC at h
  split at h
  ·rename_i v H1 e
   cases h
   exact hlib _ _ _ _ _ e
  ·unfold stepCallC2 at h
   split at h
   ·cases h
   ·rename_i fn d c F hcall
    unfold cCall at hcall
    split at hcall
    ·cases hcall
    ·rename_i fn' hf
     split at hcall
     ·cases hcall
     ·rename_i c' hb
      cases hG:cCode C f fn'.ntmps c' with | mk G=>
      rw [hG] at hcall
      cases hcall
      split at h
      ·rename_i ha hd
       refine kRet_ok hs hf hb ha (fun o H1 e => ?_) (fun e ρ1 g vs H1 e2 => ?_) (fun d ρ1 g vs H1 e2 => ?_) h
       ·obtain ⟨e',ρ1,h1,rfl⟩ | ⟨d,ρ1,h1,rfl⟩:=kCode_ok e
        ·exact .inl (cCode_ok hs hm c (by rw [hG];exact h1))
        ·exact .inl (cCode_ok hs hm c (by rw [hG];exact h1))
       ·obtain ⟨e',ρ1,h1,h2⟩ | ⟨d,ρ1,h1,h2⟩:=kCode_ok e2<;>cases h2
       ·obtain ⟨e',ρ1,h1,h2⟩ | ⟨d,ρ1,h1,h2⟩:=kCode_ok e2<;>cases h2
      ·rename_i ha hd
       exact kRet_ok hs hf hb ha (fun o H1 e=>.inr (hs e)) (fun e ρ1 g vs H1 e2=>hs e2) (fun d ρ1 g vs H1 e2=>hs e2) h
      ·cases h
 ·exact stepOps_ok hs h
 ·exact stepOpsW_ok hs h
 ·exact stepDefc_ok hs h
end
section
variable {C:Cx} {orc:DOracle}
theorem runC_sound (hm:C.P.follows .mixedOrders=true) (hlib : ∀ f args H v H1,C.hs.lib f args H=some (v,H1)→CallD C.P orc f args H fun d' S'=>d'=v∧S'=H1) : ∀ n,Snd C.P orc (runC C n)
 | 0=>fun h=>by cases h
 | n+1=>stepC_ok (runC_sound hm hlib n) hm hlib
theorem CallD.runsC (hm:C.P.follows .mixedOrders=true) (hlib : ∀ f args H v H1,C.hs.lib f args H=some (v,H1)→CallD C.P orc f args H fun d' S'=>d'=v∧S'=H1) (n:Nat) {f:FuncId} {args:List D} {H H':Mem} {d:D} (h:runC C n (.call f args) H = .yes (.val d) H') :
  CallD C.P orc f args H fun d' S'=>d'=d∧S'=H':=runC_sound hm hlib n h
theorem CallD.runTrueC (hm:C.P.follows .mixedOrders=true) (hlib : ∀ f args H v H1,C.hs.lib f args H=some (v,H1)→CallD C.P orc f args H fun d' S'=>d'=v∧S'=H1) (n:Nat) {f:FuncId} {args:List D} (h:isTrue (runC C n (.call f args) [])=true) :
  CallD C.P orc f args [] fun d S'=>S'=[]∧d = .bool true:=by
 unfold isTrue at h
 split at h
 ·rename_i H1 hr
  exact CallD.drop ((CallD.runsC hm hlib n hr).mono fun d' S' ⟨h1,h2⟩=>⟨.bool true,S',by simp,by subst h1;exact .of_low (.bool _),rfl⟩)
 ·cases h
end
end Go.DM
