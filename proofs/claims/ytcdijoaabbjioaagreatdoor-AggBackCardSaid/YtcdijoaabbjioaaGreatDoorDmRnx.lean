/- A machine over Go's operations in which slices are values: it can be run (second make: small steps, temporaries in a tree, panics, calls that defer). -/
import Derived.Test.YtcdijoaabbjioaaGreatDoorDpAx
set_option linter.unusedSimpArgs false
set_option linter.unusedVariables false
namespace Go.DM
open Go Go.AM
abbrev Hint:=FuncId×Nat×List Nat×Nat×Option (Nat×List Nat)
structure Hints where
 open_:List Hint
 own:List (FuncId×Nat×Nat)
 low:List (FuncId×Nat×Nat)
 pure:List FuncId
 defers:List FuncId
 gcs:List (FuncId×Nat×List Nat×Bool)
 keeps:List FuncId
 lib:FuncId→List D→Mem→Option (D×Mem)
abbrev Seen:=e1a×Op×D
def eqL (f:D→D→Bool):List D→List D→Bool
 | [],[]=>true
 | a::xs,b::ys=>f a b&&eqL f xs ys
 | _,_=>false
def eqD:Nat→D→D→Bool
 | 0,_,_=>false
 | n+1,a,b=>
  match a,b with
  | .bool a,.bool b=>a==b
  | .int k a,.int l b=>decide (k=l)&&decide (a=b)
  | .str a,.str b=>decide (a=b)
  | .d9b,.d9b=>true
  | .ptr a b,.ptr c d=>a==c&&b==d
  | .h5a a b,.h5a c d=>eqL (eqD n) a c&&b==d
  | .c5a,.c5a=>true
  | .sl0,.sl0=>true
  | .slx,.slx=>true
  | .sl a b c d,.sl x y z w=>decide (a=x)&&b==y&&c==z&&eqL (eqD n) d w
  | .msl a b c,.msl x y z=>a==x&&b==y&&c==z
  | .p1b,.p1b=>true
  | .u9a,.u9a=>true
  | .agg a,.agg b=>eqL (eqD n) a b
  | _,_=>false
theorem y4c {f:D→D→Bool} (h : ∀ a b,f a b=true→a=b) : ∀ {xs ys:List D},eqL f xs ys=true→xs=ys
 | [],[],_=>rfl
 | [],_::_,q=>by simp [eqL] at q
 | _::_,[],q=>by simp [eqL] at q
 | a::xs,b::ys,q=>by
  simp only [eqL,Bool.and_eq_true] at q
  rw [h _ _ q.1,y4c h q.2]
theorem c9e : ∀ {n:Nat} {a b:D},eqD n a b=true→a=b
 | 0,_,_,h=>by simp [eqD] at h
 | n+1,a,b,h=>by
  have ih:=fun a b => @c9e n a b
  cases a<;>cases b<;>simp only [eqD,Bool.and_eq_true,beq_iff_eq,decide_eq_true_eq,Bool.false_eq_true] at h<;>first | rfl | (subst h;rfl) | (obtain ⟨rfl,rfl⟩:=h;rfl) | (rw [y4c ih h]) | (obtain ⟨h1,rfl⟩:=h;rw [y4c ih h1]) | (obtain ⟨⟨rfl,rfl⟩,rfl⟩:=h;rfl) | (obtain ⟨⟨⟨rfl,rfl⟩,rfl⟩,h1⟩:=h;rw [y4c ih h1])
def h2c (P:Program) (q:Seen) (H:Mem):Bool:=
 match q.2.1 with
 | .load t x=>match l5a P t (d1a q.1 x) H with | some v=>eqD 1000 v q.2.2 | none=>false
 | _=>false
theorem c5c {P:Program} {q:Seen} {H:Mem} (h:h2c P q H=true):opD P q.1 q.2.1 H=some (q.2.2,H):=by
 unfold h2c at h
 split at h
 ·rename_i e
  rw [e]
  simp only [opD]
  split at h
  ·rename_i e2
   rw [e2,c9e h]
   rfl
  ·cases h
 ·cases h
def hintOf (hs:List Hint) (f r:Nat):Option (List Nat×Nat×Option (Nat×List Nat)):=(hs.find? fun h=>h.1==f&&h.2.1==r).map (·.2.2)
def p6d (P:Program) (ops:Array Oper) (x:List Nat×Nat×Option (Nat×List Nat)):Bool:=
 (x.1.all fun a=>decide (a<x.2.1)) &&
 match x.2.2 with
 | none=>i0a ops x.1&&v5a ops x.1 x.2.1
 | some (a,ms)=>i0a (plus ops a ms) x.1&&v5a (plus ops a ms) x.1 x.2.1&&m4d ops a ms &&
  match ops[a]? with
  | some ⟨some _,.alloc ty,_,_,_,none⟩=>match i3a P ty with | some z=>z.cells.all b3a | none=>false
  | _=>false
def z6b (n:Nat):Nat→D→Bool
 | 0,_=>false
 | k+1,d=>
  match d with
  | .bool _=>true
  | .int _ _=>true
  | .str _=>true
  | .d9b=>true
  | .ptr o _=>decide (o<n)
  | .h5a c _=>c.all (z6b n k)
  | .c5a=>true
  | .sl0=>true
  | .slx=>true
  | .sl own _ _ c=>(match own with | some id=>decide (id<n) | none=>true)&&c.all (z6b n k)
  | .msl o _ _=>decide (o<n)
  | .fn _ xs cs=>xs.all (z6b n k)&&cs.all (z6b n k)
  | .p1b=>true
  | .iface _ d=>z6b n k d
  | .u9a=>true
  | .agg c=>c.all (z6b n k)
  | .tup c=>c.all (z6b n k)
  | .bot=>true
theorem v8b {n:Nat} : ∀ {k:Nat} {d:D},z6b n k d=true→p2a n d
 | 0,_,h=>by simp [z6b] at h
 | k+1,d,h=>by
  have ih:=fun d => @v8b n k d
  cases d with
  | sl own sz len cells=>
   simp only [z6b,List.all_eq_true,Bool.and_eq_true] at h
   refine .sl own _ _ _ (fun id e => ?_) fun i hi=>ih _ (h.2 _ (List.getElem_mem hi))
   subst e
   simpa using h.1
  | agg xs=>
   simp only [z6b,List.all_eq_true] at h
   exact .agg _ fun i hi=>ih _ (h _ (List.getElem_mem hi))
  | tup xs=>
   simp only [z6b,List.all_eq_true] at h
   exact .tup _ fun i hi=>ih _ (h _ (List.getElem_mem hi))
  | h5a xs off=>
   simp only [z6b,List.all_eq_true] at h
   exact .h5a _ _ fun i hi=>ih _ (h _ (List.getElem_mem hi))
  | fn g xs cs=>
   simp only [z6b,List.all_eq_true,Bool.and_eq_true] at h
   exact .fn _ _ _ (fun i hi=>ih _ (h.1 _ (List.getElem_mem hi))) fun i hi=>ih _ (h.2 _ (List.getElem_mem hi))
  | iface t d=>exact .iface _ _ (ih _ (by simpa [z6b] using h))
  | ptr o off=>exact .ptr _ _ (by simpa [z6b] using h)
  | msl o z len=>exact .msl _ _ _ (by simpa [z6b] using h)
  | bool b=>exact .bool b
  | int k x=>exact .int k x
  | str s=>exact .str s
  | d9b=>exact .d9b
  | c5a=>exact .c5a
  | sl0=>exact .sl0
  | slx=>exact .slx
  | p1b=>exact .p1b
  | u9a=>exact .u9a
  | bot=>exact .bot
def p7b:Nat→D→D
 | 0,d=>d
 | n+1,d=>
  match d with
  | .sl _ sz len c=>.sl none sz len (c.map (p7b n))
  | .agg c=>.agg (c.map (p7b n))
  | .tup c=>.tup (c.map (p7b n))
  | d=>d
theorem WfL.map {f:D→D} (h : ∀ d,Wf d (f d)) : ∀ l:List D,WfL l (l.map f)
 | []=>.nil
 | d::l=>.cons (h d) (WfL.map h l)
theorem p4c : ∀ (n:Nat) (d:D),Wf d (p7b n d)
 | 0,_=>.refl
 | n+1,d=>by
  have ih:=p4c n
  cases d with
  | sl own sz len c=>exact .sl' (WfL.map ih c)
  | agg c=>exact .agg' (WfL.map ih c)
  | tup c=>exact .a2b (WfL.map ih c)
  | _=>exact .refl
def o8d (n:Nat) (S1:Mem):Bool:=decide (n≤S1.length)&&(S1.take n).all fun x=>match x with | .obj cells=>cells.all (z6b n 100) | _=>true
theorem a3a.h2f {P:Program} {orc:c3a} {f:FuncId} {args:List D} {S S1:Mem} {d:D} (h:a3a P orc f args S fun d' S'=>d'=d∧S'=S1) (h1:z6b S.length 100 (p7b 100 d)=true) (h2:o8d S.length S1=true) :
  a3a P orc f args S fun d' S'=>d'=p7b 100 d∧S'=S1.take S.length:=by
 obtain ⟨_,_,hb,rfl,rfl⟩:=h
 simp only [o8d,Bool.and_eq_true,decide_eq_true_eq,List.all_eq_true] at h2
 refine ⟨_,_,.drop hb h2.1 ((p4c 100 _).y9b (v8b h1)) fun o cells ho hc=>.inr fun c hcm => ?_,rfl,rfl⟩
 have hx:Ob.obj cells∈List.take S.length _:=List.mem_of_getElem? (i:=o) (by rw [List.getElem?_take,if_pos ho];exact f7a hc)
 have:=h2.2 _ hx
 simp only [List.all_eq_true] at this
 exact v8b (this c hcm)
def u6c (P:Program) (ρ:e1a) (c:Call) (H:Mem):Option (Nat×Nat×List D):=
 match c.callee,c.args.toList.map (d1a ρ) with
 | .builtin .append,[s,x]=>
  match s with
  | .c5a | .sl0=>match b4a P c.argTypes s x H with | some (.sl (some _) z len cells,_)=>some (z,len,cells) | _=>none
  | _=>none
 | _,_=>none
theorem r3c {P:Program} {at_:Array TypeId} {s x:D} {S S1:Mem} {id z len:Nat} {cells:List D} (hs:s = .c5a∨s = .sl0) (h:b4a P at_ s x S=some (.sl (some id) z len cells,S1)):id=S.length∧S1=S++[.own]:=by
 unfold b4a at h
 cases h1:at_[0]? with
 | none=>simp [h1] at h
 | some st=>
 cases h2:P.underlying st with
 | none=>simp [h1,h2] at h
 | some d=>
 cases d<;>simp only [h1,h2,Option.bind_eq_bind,Option.bind_some,reduceCtorEq] at h
 rename_i e
 cases h3:at_[1]? with
 | none=>simp [h3] at h
 | some xt=>
 simp only [h3,Option.bind_some] at h
 split at h
 ·cases h
 cases h4:P.info? e with
 | none=>simp [h4] at h
 | some info=>
 cases h5:info.zero with
 | none=>simp [h4,h5] at h
 | some zz=>
 simp only [h4,h5,Option.bind_some] at h
 split at h
 ·cases h
 cases h6:o4a info.size (u5d S info.size x) with
 | none=>simp [h6] at h
 | some r=>
 simp only [h6,Option.bind_some] at h
 rcases hs with rfl | rfl
 all_goals
  simp only at h
  split at h
  ·cases h
  ·split at h
   ·cases h;exact ⟨rfl,rfl⟩
   ·cases h
theorem e0d {P:Program} {ρ:e1a} {c:Call} {H:Mem} {z len:Nat} {cells:List D} (h:u6c P ρ c H=some (z,len,cells)):opD P ρ (.call c) H=some (.sl (some H.length) z len cells,H++[.own]):=by
 obtain ⟨callee,args,argTypes⟩:=c
 unfold u6c at h
 split at h
 ·rename_i s x e1 e2
  simp only at e1 e2
  subst e1
  have hop:opD P ρ (.call ⟨.builtin .append,args,argTypes⟩) H=b4a P argTypes s x H:=by simp only [opD,e2,b8a]
  rw [hop]
  split at h
  all_goals first | (cases h;done) | skip
  all_goals
   split at h
   ·rename_i id zz ll cc S1 e3
    cases h
    obtain ⟨rfl,rfl⟩:=r3c (by first | exact .inl rfl | exact .inr rfl) e3
    exact e3
   ·cases h
 ·cases h
theorem s4b {P:Program} {t n:Nat} {ps:List (Nat×D)} {S S1:Mem} {id sz len:Nat} {cells:List D} (h:f2a P t n ps S=some (.sl (some id) sz len cells,S1)):id=S.length∧S1=S++[.own]:=by
 unfold f2a at h
 cases hu:P.underlying t with
 | none=>simp [hu] at h
 | some d=>
 cases d<;>simp only [hu,Option.bind_eq_bind,Option.bind_some,reduceCtorEq] at h
 rename_i e
 cases hs:f3a P e with
 | none=>simp [hs] at h
 | some size=>
 cases hz:i3a P e with
 | none=>simp [hs,hz] at h
 | some z=>
 simp only [hs,hz,Option.bind_some] at h
 split at h
 ·cases h
 ·cases hf:l8a (fun i=>some (i*size,size)) (k4b (z.cells.toList.map ofS) n) ps with
  | none=>simp [hf] at h
  | some c=>
   simp only [hf,Option.bind_some] at h
   split at h
   ·cases h;exact ⟨rfl,rfl⟩
   ·cases h
theorem c1b {α:Type} {p:α→Prop} {x:α} {l:List α} {F i:Nat} (h : ∀ m∈(x::l).take (F - i),p m):(i<F→p x) ∧ ∀ m∈l.take (F - (i+1)),p m:=by
 rcases Nat.lt_or_ge i F with hi | hi
 ·rw [show F - i=(F - (i+1))+1 by omega,List.take_succ_cons] at h
  exact ⟨fun _=>h x (List.mem_cons_self ..),fun m hm=>h m (List.mem_cons_of_mem _ hm)⟩
 ·refine ⟨fun h=>by omega,fun m hm => ?_⟩
  rw [show F - (i+1)=0 by omega] at hm
  simp at hm
inductive Dg where
 | a0 | a1 | a2 | a3 | a4 | a5 | a6 | a7
instance:DecidableEq Dg:=fun a b=>by cases a<;>cases b<;>first | exact isTrue rfl | exact isFalse fun h=>by cases h
inductive T where
 | e
 | b
 | n (v:D) (a0 a1 a2 a3 a4 a5 a6 a7:T)
def dig (k:Nat):Dg:=match k with | 0=>.a0 | 1=>.a1 | 2=>.a2 | 3=>.a3 | 4=>.a4 | 5=>.a5 | 6=>.a6 | _=>.a7
def bits:Nat→Nat→List Dg
 | 0,_=>[]
 | f+1,k=>match k with | 0=>[] | k+1=>dig (Nat.mod k 8)::bits f (Nat.div k 8)
def path (k:Nat):List Dg:=bits k k
theorem h7e {a b:Nat} (ha:a<8) (hb:b<8) (h:dig a=dig b):a=b:=by
 have key : ∀ a b:Fin 8,dig a.1=dig b.1→a.1=b.1:=by
  intro a b
  match a,b with
  | 0,0=>simp [dig]
  | 0,1=>simp [dig]
  | 0,2=>simp [dig]
  | 0,3=>simp [dig]
  | 0,4=>simp [dig]
  | 0,5=>simp [dig]
  | 0,6=>simp [dig]
  | 0,7=>simp [dig]
  | 1,0=>simp [dig]
  | 1,1=>simp [dig]
  | 1,2=>simp [dig]
  | 1,3=>simp [dig]
  | 1,4=>simp [dig]
  | 1,5=>simp [dig]
  | 1,6=>simp [dig]
  | 1,7=>simp [dig]
  | 2,0=>simp [dig]
  | 2,1=>simp [dig]
  | 2,2=>simp [dig]
  | 2,3=>simp [dig]
  | 2,4=>simp [dig]
  | 2,5=>simp [dig]
  | 2,6=>simp [dig]
  | 2,7=>simp [dig]
  | 3,0=>simp [dig]
  | 3,1=>simp [dig]
  | 3,2=>simp [dig]
  | 3,3=>simp [dig]
  | 3,4=>simp [dig]
  | 3,5=>simp [dig]
  | 3,6=>simp [dig]
  | 3,7=>simp [dig]
  | 4,0=>simp [dig]
  | 4,1=>simp [dig]
  | 4,2=>simp [dig]
  | 4,3=>simp [dig]
  | 4,4=>simp [dig]
  | 4,5=>simp [dig]
  | 4,6=>simp [dig]
  | 4,7=>simp [dig]
  | 5,0=>simp [dig]
  | 5,1=>simp [dig]
  | 5,2=>simp [dig]
  | 5,3=>simp [dig]
  | 5,4=>simp [dig]
  | 5,5=>simp [dig]
  | 5,6=>simp [dig]
  | 5,7=>simp [dig]
  | 6,0=>simp [dig]
  | 6,1=>simp [dig]
  | 6,2=>simp [dig]
  | 6,3=>simp [dig]
  | 6,4=>simp [dig]
  | 6,5=>simp [dig]
  | 6,6=>simp [dig]
  | 6,7=>simp [dig]
  | 7,0=>simp [dig]
  | 7,1=>simp [dig]
  | 7,2=>simp [dig]
  | 7,3=>simp [dig]
  | 7,4=>simp [dig]
  | 7,5=>simp [dig]
  | 7,6=>simp [dig]
  | 7,7=>simp [dig]
 exact key ⟨a,ha⟩ ⟨b,hb⟩ h
theorem x5c : ∀ (f k f' k':Nat),k≤f→k'≤f'→bits f k=bits f' k'→k=k'
 | 0,k,f',k',h,h',e=>by
  obtain rfl:k=0:=by omega
  cases f' with
  | zero=>omega
  | succ f'=>cases k' with
   | zero=>rfl
   | succ k'=>simp [bits] at e
 | f+1,0,f',k',h,h',e=>by
  cases f' with
  | zero=>omega
  | succ f'=>cases k' with
   | zero=>rfl
   | succ k'=>simp [bits] at e
 | f+1,k+1,f',k',h,h',e=>by
  cases f' with
  | zero=>simp [bits] at e
  | succ f'=>cases k' with
   | zero=>simp [bits] at e
   | succ k' =>
    simp only [bits,List.cons.injEq] at e
    obtain ⟨e1,e2⟩:=e
    have h2:=x5c f (Nat.div k 8) f' (Nat.div k' 8) (Nat.le_trans (Nat.div_le_self k 8) (by omega)) (Nat.le_trans (Nat.div_le_self k' 8) (by omega)) e2
    have h1:=h7e (Nat.mod_lt k (by decide)) (Nat.mod_lt k' (by decide)) e1
    have b1:Nat.mod k 8=k%8:=rfl
    have b2:Nat.mod k' 8=k'%8:=rfl
    have b3:Nat.div k 8=k/8:=rfl
    have b4:Nat.div k' 8=k'/8:=rfl
    have b5:k%8=k'%8:=h1
    rw [b3,b4] at h2
    omega
theorem z7d {k k':Nat} : path k=path k'↔k=k':=⟨x5c _ _ _ _ (Nat.le_refl _) (Nat.le_refl _),fun h=>h▸rfl⟩
noncomputable def T.top (t:T):D:=T.rec (motive:=fun _=>D) j1a .bot (fun v _ _ _ _ _ _ _ _ _ _ _ _ _ _ _ _=>v) t
noncomputable def T.kid (t:T) (x:Dg):T:=T.rec (motive:=fun _=>T) .e .b (fun _ a0 a1 a2 a3 a4 a5 a6 a7 _ _ _ _ _ _ _ _=>Dg.rec a0 a1 a2 a3 a4 a5 a6 a7 x) t
noncomputable def T.get (t:T) (p:List Dg):D:=List.rec (motive:=fun _=>T→D) T.top (fun x _ ih t=>ih (T.kid t x)) p t
noncomputable def T.set (t:T) (p:List Dg) (v:D):T:=
 List.rec (motive:=fun _=>T→T) (fun t=>T.rec (motive:=fun _=>T) (.n v .e .e .e .e .e .e .e .e) (.n v .b .b .b .b .b .b .b .b) (fun _ a0 a1 a2 a3 a4 a5 a6 a7 _ _ _ _ _ _ _ _=>.n v a0 a1 a2 a3 a4 a5 a6 a7) t)
  (fun x _ ih t=>T.rec (motive:=fun _=>T) (Dg.rec (.n j1a (ih .e) .e .e .e .e .e .e .e) (.n j1a .e (ih .e) .e .e .e .e .e .e) (.n j1a .e .e (ih .e) .e .e .e .e .e) (.n j1a .e .e .e (ih .e) .e .e .e .e) (.n j1a .e .e .e .e (ih .e) .e .e .e) (.n j1a .e .e .e .e .e (ih .e) .e .e) (.n j1a .e .e .e .e .e .e (ih .e) .e) (.n j1a .e .e .e .e .e .e .e (ih .e)) x) (Dg.rec (.n .bot (ih .b) .b .b .b .b .b .b .b) (.n .bot .b (ih .b) .b .b .b .b .b .b) (.n .bot .b .b (ih .b) .b .b .b .b .b) (.n .bot .b .b .b (ih .b) .b .b .b .b) (.n .bot .b .b .b .b (ih .b) .b .b .b) (.n .bot .b .b .b .b .b (ih .b) .b .b) (.n .bot .b .b .b .b .b .b (ih .b) .b) (.n .bot .b .b .b .b .b .b .b (ih .b)) x) (fun w a0 a1 a2 a3 a4 a5 a6 a7 _ _ _ _ _ _ _ _=>Dg.rec (.n w (ih a0) a1 a2 a3 a4 a5 a6 a7) (.n w a0 (ih a1) a2 a3 a4 a5 a6 a7) (.n w a0 a1 (ih a2) a3 a4 a5 a6 a7) (.n w a0 a1 a2 (ih a3) a4 a5 a6 a7) (.n w a0 a1 a2 a3 (ih a4) a5 a6 a7) (.n w a0 a1 a2 a3 a4 (ih a5) a6 a7) (.n w a0 a1 a2 a3 a4 a5 (ih a6) a7) (.n w a0 a1 a2 a3 a4 a5 a6 (ih a7)) x) t) p t
theorem T.k3d (v:D) : ∀ (p q:List Dg) (t:T),(t.set p v).get q=if q=p then v else t.get q
 | [],[],t=>by cases t<;>rfl
 | [],y::q,t=>by cases t<;>cases y<;>rfl
 | x::p,[],t=>by cases t<;>cases x<;>rfl
 | x::p,y::q,t=>by
  have ih:=T.k3d v p q
  have key:((t.set (x::p) v).kid y).get q=if y::q=x::p then v else (t.kid y).get q:=by
   cases x<;>cases y<;>simp only [List.cons.injEq,true_and,reduceCtorEq,false_and,if_false]<;>cases t
   all_goals first | exact ih _ | rfl
  exact key
noncomputable def env (ρ:T):e1a:=fun t=>ρ.get (path t)
noncomputable def v6c (ρ:T) (dst:Option Tmp) (v:D):T:=match dst with | some t=>ρ.set (path t) v | none=>ρ
theorem s7c (ρ:T) (t:Nat) (v:D):env (ρ.set (path t) v)=r6a (env ρ) t v:=by
 funext u
 simp only [env,T.k3d,z7d,r6a]
theorem j6a (ρ:T) (dst:Option Tmp) (v:D):env (v6c ρ dst v)=m3a (env ρ) dst v:=by
 cases dst with
 | none=>rfl
 | some t=>exact s7c ρ t v
noncomputable def q1b:Nat→List D→T→T
 | _,[],t=>t
 | i,d::ds,t=>q1b (i+1) ds (t.set (path i) d)
theorem l2c : ∀ (ds:List D) (i:Nat) (t:T) (u:Nat),env (q1b i ds t) u=if i≤u then (match ds[u - i]? with | some d=>d | none=>env t u) else env t u
 | [],i,t,u=>by simp [q1b]
 | d::ds,i,t,u=>by
  simp only [q1b]
  rw [l2c ds (i+1) _ u,s7c]
  rcases Nat.lt_trichotomy u i with h | rfl | h
  ·simp [show ¬ i+1≤u by omega,show ¬ i≤u by omega,r6a,show u≠i by omega]
  ·rw [if_neg (by omega),if_pos (Nat.le_refl _),Nat.sub_self];simp [r6a]
  ·obtain ⟨m,rfl⟩:=Nat.exists_eq_add_of_lt h
   simp only [show i+1≤i+m+1 by omega,show i≤i+m+1 by omega,if_true,show i+m+1 - (i+1)=m by omega,show i+m+1 - i=m+1 by omega,List.getElem?_cons_succ]
   cases ds[m]? with
   | some x=>rfl
   | none=>simp [r6a,show i+m+1≠i by omega]
theorem e3f:env .e=fun _=>j1a:=by
 funext t
 have : ∀ p:List Dg,T.get .e p=j1a:=by
  intro p
  induction p with
  | nil=>rfl
  | cons x p ih=>cases x<;>exact ih
 exact this _
theorem e2f:env .b=fun _=>.bot:=by
 funext t
 have : ∀ p:List Dg,T.get .b p = .bot:=by
  intro p
  induction p with
  | nil=>rfl
  | cons x p ih=>cases x<;>exact ih
 exact this _
theorem i7b (ds:List D):env (q1b 0 ds .e)=r1a ds:=by
 funext u
 rw [l2c,e3f]
 simp only [Nat.zero_le,if_true,Nat.sub_zero,r1a,List.getD_eq_getElem?_getD]
 cases ds[u]?<;>rfl
structure Cx where
 P:Program
 hs:Hints
structure Rg where
 f:FuncId
 r:Nat
 fl:Nat
 sz:Nat
 ops:Array Oper
 loose:List Nat
inductive EJ where
 | ops (g:Rg) (i:Nat) (os:List Oper) (ρ:T)
 | p7d (g:Rg) (i:Nat) (os:List Oper) (ρ:T)
 | code (f fl sz:Nat) (c:Code) (ρ:T)
 | o6b (f fl sz:Nat) (c:Code) (ρ:T)
 | call (f:FuncId) (args:List D)
inductive EO where
 | env (ρ:T)
 | i6e (ρ:T) (Hs:List Mem) (qs:List Seen)
 | exit (e:h6a) (ρ:T)
 | v0a (d:D) (ρ:T)
 | u1d (e:h6a) (ρ:T) (g:FuncId) (vs:List D)
 | h6e (d:D) (ρ:T) (g:FuncId) (vs:List D)
 | val (d:D)
 | pan (d:D) (i:Nat) (ρ:T)
inductive RO where
 | no (e f r i:Nat)
 | yes (o:EO) (H:Mem)
abbrev IH:=EJ→Mem→RO
def callable (P : Program) (h : FuncId) : Bool := match P.funcs[h]? with | some fn => !(fn.name == "runtime.NumGoroutine") && !fn.body.isNone | none => false
theorem q9a {P:Program} {h:FuncId} (q:callable P h=true):j9a P h:=by
 unfold callable at q
 split at q
 ·rename_i fn e
  simp only [Bool.and_eq_true,Bool.not_eq_true'] at q
  exact ⟨fn,e,q.1,q.2⟩
 ·cases q
def t1e (l:List (FuncId×Nat×Nat)) (f r i:Nat):Bool:=l.any fun x=>Nat.beq x.1 f&&Nat.beq x.2.1 r&&Nat.beq x.2.2 i
noncomputable def n9d (P:Program) (ρ:T) (op:Op) (H:Mem):Option (Nat×Nat×List D):=
 match op with
 | .buildSlice t m parts=>match f2a P t m (parts.toList.map fun (i,x)=>(i,d1a (env ρ) x)) H with | some (.sl (some _) z len cells,_)=>some (z,len,cells) | _=>none
 | .call c=>u6c P (env ρ) c H
 | _=>none
theorem f9c {P:Program} {ρ:T} {op:Op} {H:Mem} {z len:Nat} {cells:List D} (h:n9d P ρ op H=some (z,len,cells)):opD P (env ρ) op H=some (.sl (some H.length) z len cells,H++[.own]):=by
 unfold n9d at h
 split at h
 ·rename_i t m parts
  split at h
  ·rename_i id z' len' cells' S1 e
   cases h
   obtain ⟨rfl,rfl⟩:=s4b e
   exact e
  ·cases h
 ·exact e0d h
 ·cases h
noncomputable def opE (C:Cx) (f r i:Nat) (ρ:T) (op:Op) (H:Mem):Option (D×Mem):=
 match t1e C.hs.own f r i with
 | true=>match n9d C.P ρ op H with | some (z,len,cells)=>some (.msl H.length z len,H++[.obj cells]) | none=>opD C.P (env ρ) op H
 | false=>
  match t1e C.hs.low f r i with
  | true=>match n9d C.P ρ op H with | some (z,len,cells)=>(match cells.all (z6b 0 100) with | true=>some (.sl none z len cells,H) | false=>none) | none=>none
  | false=>opD C.P (env ρ) op H
theorem p2d {C:Cx} {f r i:Nat} {ρ:T} {op:Op} {H H1:Mem} {v:D} (h:opE C f r i ρ op H=some (v,H1)):opM C.P (env ρ) op H v H1:=by
 unfold opE at h
 split at h
 ·split at h
  ·rename_i z len cells e
   cases h
   exact .inr (.inl ⟨z,len,cells,f9c e,rfl,rfl⟩)
  ·exact .inl h
 ·split at h
  ·split at h
   ·rename_i z len cells e
    split at h
    ·rename_i ha
     cases h
     simp only [List.all_eq_true] at ha
     exact .inr (.inr ⟨z,len,cells,f9c e,fun j hj=>v8b (ha _ (List.getElem_mem hj)),rfl,rfl⟩)
    ·cases h
   ·cases h
  ·exact .inl h
noncomputable def q0c (ops:Array Oper) (ρ:T) (g:Option (Nat×Bool)):Option Bool:=
 match g with
 | none=>some true
 | some x=>match (ops[x.1]?).bind (·.dst) with
  | some t=>match ρ.get (path t) with
   | .bool b=>some (b==x.2)
   | .tup []=>some false
   | _=>none
  | none=>none
theorem n9b {ops:Array Oper} {ρ:T} {g:Option (Nat×Bool)} (h:q0c ops ρ g=some true):v9a ops (env ρ) g=true:=by
 cases g with
 | none=>rfl
 | some x=>
  simp only [q0c] at h
  simp only [v9a,e9a]
  cases ht:(ops[x.1]?).bind (·.dst) with
  | none=>rw [ht] at h;cases h
  | some t=>
   rw [ht] at h
   simp only at h ⊢
   show (match ρ.get (path t) with | .bool b=>some b | _=>none)==some x.2
   split at h
   ·rename_i b e
    rw [e]
    simp only [Option.some.injEq] at h
    simpa using h
   ·cases h
   ·cases h
theorem h7b {ops:Array Oper} {ρ:T} {g:Option (Nat×Bool)} (h:q0c ops ρ g=some false) : ∃ x b,g=some x∧m6a ops (env ρ) x.1=some b∧(b==some x.2)=false:=by
 cases g with
 | none=>cases h
 | some x=>
  simp only [q0c] at h
  have hy : ∀ t,(ops[x.1]?).bind (·.dst)=some t→m6a ops (env ρ) x.1=match ρ.get (path t) with | .bool b=>some (some b) | .tup []=>some none | _=>none:=fun t ht=>by
   simp only [m6a,ht]
   rfl
  cases ht:(ops[x.1]?).bind (·.dst) with
  | none=>rw [ht] at h;cases h
  | some t=>
   rw [ht] at h
   have hy:=hy t ht
   simp only at h
   split at h
   ·rename_i b e
    rw [e] at hy
    exact ⟨x,_,rfl,hy,by simpa using h⟩
   ·rename_i e
    rw [e] at hy
    exact ⟨x,_,rfl,hy,rfl⟩
   ·cases h
noncomputable def T.map (f:D→D) (t:T):T:=T.rec (motive:=fun _=>T) .e .b (fun v _ _ _ _ _ _ _ _ a0 a1 a2 a3 a4 a5 a6 a7=>.n (f v) a0 a1 a2 a3 a4 a5 a6 a7) t
theorem T.a2d {S1:Mem} {F:List Nat} {ι:Nat→Nat} {n:Nat} {f:D→D} (h : ∀ d,Wz S1 F ι n d (f d)) : ∀ (p:List Dg) (t:T),Wz S1 F ι n (t.get p) ((t.map f).get p)
 | [],t=>by
  cases t with
  | e=>exact Wz.of_low (m:=0) (fun i hi=>by omega) (Nat.zero_le _) (.tup _ fun i hi=>by simp at hi)
  | b=>exact .bot
  | n v=>exact h v
 | x::p,t=>by
  cases t with
  | e=>cases x<;>exact T.a2d h p .e
  | b=>cases x<;>exact T.a2d h p .b
  | n=>cases x<;>exact T.a2d h p _
noncomputable def T.vals (t:T):List D:=T.rec (motive:=fun _=>List D) [] [] (fun v _ _ _ _ _ _ _ _ a0 a1 a2 a3 a4 a5 a6 a7=>v::(a0++(a1++(a2++(a3++(a4++(a5++(a6++(a7))))))))) t
def q3b:Nat→D→List Nat
 | 0,_=>[]
 | k+1,d=>
  match d with
  | .ptr o _=>[o]
  | .msl o _ _=>[o]
  | .sl own _ _ c=>(match own with | some o=>[o] | none=>[])++c.flatMap (q3b k)
  | .h5a c _=>c.flatMap (q3b k)
  | .fn _ xs cs=>xs.flatMap (q3b k)++cs.flatMap (q3b k)
  | .iface _ d=>q3b k d
  | .agg c=>c.flatMap (q3b k)
  | .tup c=>c.flatMap (q3b k)
  | _=>[]
def addN (o:Nat):List Nat→Option (List Nat)
 | []=>some [o]
 | x::l=>match Nat.beq x o with | true=>none | false=>match Nat.blt o x with | true=>some (o::x::l) | false=>match addN o l with | some l=>some (x::l) | none=>none
def n3c (H:Mem) (F:List Nat) (fl:Nat):Nat→List Nat→List Nat→List Nat
 | 0,_,seen=>seen
 | _+1,[],seen=>seen
 | k+1,o::w,seen=>
  match Nat.blt o fl with
  | true=>n3c H F fl k w seen
  | false=>
   match d3e F o with
   | true=>n3c H F fl k ((match H[o]? with | some (.obj c)=>c.flatMap (q3b 100) | _=>[])++w) seen
   | false=>
    match addN o seen with
    | none=>n3c H F fl k w seen
    | some seen' =>
     match H[o]? with
     | some (.obj c)=>n3c H F fl k (c.flatMap (q3b 100)++w) seen'
     | some .own=>n3c H F fl k w seen'
     | _=>n3c H F fl k w seen
def o9d (fl:Nat) (H:Mem):List Nat:=(H.take fl).flatMap fun x=>match x with | .obj c=>c.flatMap (q3b 100) | _=>[]
def j1f (gs:List (FuncId×Nat×List Nat×Bool)) (f r:Nat):Option (List Nat×Bool):=(gs.find? fun g=>Nat.beq g.1 f&&Nat.beq g.2.1 r).map (·.2.2)
noncomputable def e5f (ρ:T) (ts:List Nat):List Nat:=ts.filterMap fun t=>match ρ.get (path t) with | .msl o _ _=>some o | _=>none
noncomputable def y9c (fl:Nat) (ks F:List Nat) (ρ:T) (H:Mem):Option (T×Mem):=
 match n0e fl ks F H with
 | true=>some (ρ.map (a7b (mpG fl ks F) (fzG F H) 100),g2c fl ks F (a7b (mpG fl ks F) (fzG F H) 100) H)
 | false=>none
noncomputable def d2e (fl:Nat) (F:List Nat) (col:Bool) (ρ:T) (H:Mem):Option (T×Mem):=
 match col with
 | true=>y9c fl (n3c H F fl 100000 (ρ.vals.flatMap (q3b 100)++o9d fl H) []) F ρ H
 | false=>y9c fl ((List.range' fl (H.length - fl)).filter fun o => !d3e F o) F ρ H
noncomputable def x2d (C:Cx) (f fl id:Nat) (ρ:T) (H:Mem):Option (T×Mem):=
 match j1f C.hs.gcs f id with
 | none=>none
 | some x=>d2e fl (e5f ρ x.1) x.2 ρ H
theorem z0c {C:Cx} {f fl id:Nat} {ρ ρ':T} {H H':Mem} (h:x2d C f fl id ρ H=some (ρ',H')) {orc:c3a} {sz:Nat} {k:List K} {Q:h6a→e1a→Mem→Prop} {c:Code} (hg:Go C.P orc fl sz (.code c::k) .normal (env ρ') H' Q):Go C.P orc fl sz (.code c::k) .normal (env ρ) H Q:=by
 have key : ∀ {ks F:List Nat},y9c fl ks F ρ H=some (ρ',H')→Go C.P orc fl sz (.code c::k) .normal (env ρ) H Q:=by
  intro ks F h
  unfold y9c at h
  split at h
  ·rename_i hok
   cases h
   exact Go.gc (kk:=100) hok (fun t=>T.a2d (i8e (kk:=100) hok).ren (path t) ρ) hg
  ·cases h
 unfold x2d at h
 split at h
 ·cases h
 ·unfold d2e at h
  split at h
  ·exact key h
  ·exact key h
noncomputable section
variable (C:Cx) (ih:IH)
def j4e (g:Rg) (i:Nat) (os:List Oper) (dst:Option Tmp) (ρ:T) (r:RO):RO:=
 match r with
 | .yes (.val v) H1=>ih (.ops g (i+1) os (v6c ρ dst v)) H1
 | .yes (.pan d _ _) H1=>.yes (.pan d i ρ) H1
 | .no a b c d=>.no a b c d
 | _=>.no 1 g.f g.r i
def kOp (g:Rg) (i:Nat) (os:List Oper) (dst:Option Tmp) (ρ:T) (r:Option (D×Mem)):RO:=
 match r with
 | some (v,H1)=>ih (.ops g (i+1) os (v6c ρ dst v)) H1
 | none=>.no 2 g.f g.r i
def c2f (g:Rg) (i:Nat) (os:List Oper) (dst:Option Tmp) (op:Op) (ρ:T) (H:Mem):RO:=
 match op with
 | .call c=>
  match h0a (env ρ) (.call c) with
  | some (h,args)=>match callable C.P h with | true=>j4e ih g i os dst ρ (ih (.call h args) H) | false=>.no 3 g.f g.r i
  | none=>kOp ih g i os dst ρ (opE C g.f g.r i ρ (.call c) H)
 | .panic x=>match b5a x,d1a (env ρ) x with | true,.iface t v=>.yes (.pan (.iface t v) i ρ) H | _,_=>.no 4 g.f g.r i
 | op=>kOp ih g i os dst ρ (opE C g.f g.r i ρ op H)
def e9e (g:Rg) (i:Nat) (os:List Oper) (o:Oper) (ρ:T) (H:Mem):RO:=
 match j8b g.sz o.dst&&o.op.operands.toList.all b5a with
 | false=>.no 5 g.f g.r i
 | true=>
  match q0c g.ops ρ o.guard with
  | some true=>c2f C ih g i os o.dst o.op ρ H
  | some false=>ih (.ops g (i+1) os (v6c ρ o.dst j1a)) H
  | none=>.no 6 g.f g.r i
def w4c (g:Rg) (i:Nat) (os:List Oper) (ρ:T) (H:Mem):RO:=
 match os with
 | []=>.yes (.env ρ) H
 | o::os=>e9e C ih g i os o ρ H
def kW (g:Rg) (i:Nat) (H1:Mem) (q:List Seen) (r:RO):RO:=
 match r with
 | .yes (.i6e ρ' Hs qs) H'=>.yes (.i6e ρ' (H1::Hs) (q++qs)) H'
 | .yes (.pan d j ρ) H'=>.yes (.pan d j ρ) H'
 | .no a b c d=>.no a b c d
 | _=>.no 7 g.f g.r i
def d9e (g:Rg) (i:Nat) (os:List Oper) (dst:Option Tmp) (ρ:T) (r:RO):RO:=
 match r with
 | .yes (.val v) H1=>kW g i H1 [] (ih (.p7d g (i+1) os (v6c ρ dst v)) H1)
 | .yes (.pan d _ _) H1=>.yes (.pan d i ρ) H1
 | .no a b c d=>.no a b c d
 | _=>.no 8 g.f g.r i
def k1f (g:Rg) (i:Nat) (os:List Oper) (dst:Option Tmp) (ρ:T) (r:Option (D×Mem)):RO:=
 match r with
 | some (v,H1)=>kW g i H1 [] (ih (.p7d g (i+1) os (v6c ρ dst v)) H1)
 | none=>.no 9 g.f g.r i
def h8e (g:Rg) (i:Nat) (os:List Oper) (dst:Option Tmp) (op:Op) (ρ:T) (H:Mem):RO:=
 match g.loose.contains i with
 | true=>
  match opD C.P (env ρ) op H with
  | some (v,H1)=>kW g i H1 [(env ρ,op,v)] (ih (.p7d g (i+1) os (v6c ρ dst v)) H1)
  | none=>.no 9 g.f g.r i
 | false=>
  match h0a (env ρ) op with
  | some (h,args)=>match callable C.P h with | true=>d9e ih g i os dst ρ (ih (.call h args) H) | false=>.no 10 g.f g.r i
  | none=>k1f ih g i os dst ρ (opE C g.f g.r i ρ op H)
def c6e (g:Rg) (i:Nat) (os:List Oper) (dst:Option Tmp) (op:Op) (gd:Option (Nat×Bool)) (ρ:T) (H:Mem):RO:=
 match gd,op,t1e C.hs.low g.f g.r i&&g.loose.contains i with
 | none,.buildSlice _ _ _,true=>
  match n9d C.P ρ op H with
  | some (z,len,cells)=>(match cells.all (z6b 0 100) with | true=>kW g i H [] (ih (.p7d g (i+1) os (v6c ρ dst (.sl none z len cells))) H) | false=>.no 11 g.f g.r i)
  | none=>.no 12 g.f g.r i
 | _,_,_=>h8e C ih g i os dst op ρ H
def s1d (g:Rg) (i:Nat) (os:List Oper) (o:Oper) (ρ:T) (H:Mem):RO:=
 match j8b g.sz o.dst&&o.op.operands.toList.all b5a with
 | false=>.no 5 g.f g.r i
 | true=>
  match q0c g.ops ρ o.guard with
  | some true=>c6e C ih g i os o.dst o.op o.guard ρ H
  | some false=>kW g i H [] (ih (.p7d g (i+1) os (v6c ρ o.dst j1a)) H)
  | none=>.no 6 g.f g.r i
def i5c (g:Rg) (i:Nat) (os:List Oper) (ρ:T) (H:Mem):RO:=
 match os with
 | []=>(match Nat.beq i g.ops.size with | true=>.yes (.i6e ρ [] []) H | false=>.no 13 g.f g.r i)
 | o::os=>s1d C ih g i os o ρ H
def p3f (f fl sz:Nat) (d:Code) (r:RO):RO:=
 match r with
 | .yes (.exit .normal ρ1) H1=>ih (.code f fl sz d ρ1) H1
 | .yes (.exit e ρ1) H1=>.yes (.exit e ρ1) H1
 | .yes (.v0a d ρ1) H1=>.yes (.v0a d ρ1) H1
 | .no a b c d=>.no a b c d
 | _=>.no 14 f 0 0
def j7e (f fl sz:Nat) (c:Code) (r:RO):RO:=
 match r with
 | .yes (.exit .normal ρ1) H1=>ih (.code f fl sz (.loop c) ρ1) H1
 | .yes (.exit e ρ1) H1=>.yes (.exit e ρ1) H1
 | .yes (.v0a d ρ1) H1=>.yes (.v0a d ρ1) H1
 | .no a b c d=>.no a b c d
 | _=>.no 15 f 0 0
def l2d (f id:Nat) (r:RO):RO:=
 match r with
 | .yes (.exit (.exit id') ρ1) H1=>(match Nat.beq id' id with | true=>.yes (.exit .normal ρ1) H1 | false=>.yes (.exit (.exit id') ρ1) H1)
 | .yes (.exit e ρ1) H1=>.yes (.exit e ρ1) H1
 | .yes (.v0a d ρ1) H1=>.yes (.v0a d ρ1) H1
 | .no a b c d=>.no a b c d
 | _=>.no 16 f 0 0
def u8e (f id:Nat) (r:RO):RO:=
 match r with
 | .yes (.env ρ1) H1=>.yes (.exit .normal ρ1) H1
 | .yes (.pan d _ ρ1) H1=>.yes (.v0a d ρ1) H1
 | .no a b c d=>.no a b c d
 | _=>.no 17 f id 0
def u7e (f id:Nat) (r:RO):RO:=
 match r with
 | .yes (.pan d _ _) H1=>.yes (.v0a d .b) H1
 | .no a b c d=>.no a b c d
 | _=>.no 18 f id 0
def u6e (f id:Nat) (ops:Array Oper) (j:Nat) (r:RO):RO:=
 match r with
 | .yes (.env ρ1) H1=>
  match e6a ops j with
  | some tX=>(match ρ1.get (path tX) with | .fn (.func g) args []=>(match callable C.P g with | true=>u7e f id (ih (.call g args) H1) | false=>.no 19 f id j) | _=>.no 20 f id j)
  | none=>.no 21 f id j
 | .no a b c d=>.no a b c d
 | _=>.no 22 f id j
def y9e (f id fl sz:Nat) (ops:Array Oper) (j:Nat) (ρ:T) (H:Mem):RO:=
 match e5d ops.toList j&&i0a (cutAt ops.toList j).toArray [] with
 | true=>u6e C ih f id ops j (ih (.ops ⟨f,id,fl,sz,(cutAt ops.toList j).toArray,[]⟩ 0 (cutAt ops.toList j) ρ) H)
 | false=>.no 23 f id j
def l6d (f id fl sz:Nat) (ops:Array Oper) (ρ:T) (H:Mem) (r:RO):RO:=
 match r with
 | .yes (.env ρ1) H1=>.yes (.exit .normal ρ1) H1
 | .yes (.pan _ j _) _=>y9e C ih f id fl sz ops j ρ H
 | .no a b c d=>.no a b c d
 | _=>.no 24 f id 0
def l7d (f id fl sz:Nat) (ops:Array Oper) (F:Nat) (ρ:T) (H:Mem) (r:RO):RO:=
 match r with
 | .yes (.i6e ρ1 Hs qs) H1=>(match qs.all fun q=>h2c C.P q H&&(Hs.take F).all (h2c C.P q) with | true=>.yes (.exit .normal ρ1) H1 | false=>.no 25 f id 0)
 | .yes (.pan _ j _) _=>y9e C ih f id fl sz ops j ρ H
 | .no a b c d=>.no a b c d
 | _=>.no 26 f id 0
def h5b (f fl sz id:Nat) (ops:Array Oper) (d:Bool) (ρ:T) (H:Mem):RO:=
 match d with
 | false=>u8e f id (ih (.ops ⟨f,id,fl,sz,ops,[]⟩ 0 ops.toList ρ) H)
 | true=>
  match hintOf C.hs.open_ f id with
  | none=>(match i0a ops [] with | true=>l6d C ih f id fl sz ops ρ H (ih (.ops ⟨f,id,fl,sz,ops,[]⟩ 0 ops.toList ρ) H) | false=>.no 27 f id 0)
  | some x=>(match p6d C.P ops x with | true=>l7d C ih f id fl sz ops x.2.1 ρ H (ih (.p7d ⟨f,id,fl,sz,ops,x.1⟩ 0 ops.toList ρ) H) | false=>.no 28 f id 0)
def y3d (f:Nat) (r:RO):RO:=
 match r with
 | .yes (.exit e ρ1) H1=>.yes (.exit e ρ1) H1
 | .yes (.v0a d ρ1) H1=>.yes (.v0a d ρ1) H1
 | .no a b c d=>.no a b c d
 | _=>.no 48 f 0 0
def u4e (f:Nat) (g:FuncId) (vs:List D) (r:RO):RO:=
 match r with
 | .yes (.exit e ρ1) H1=>.yes (.u1d e ρ1 g vs) H1
 | .yes (.v0a d ρ1) H1=>.yes (.h6e d ρ1 g vs) H1
 | .no a b c d=>.no a b c d
 | _=>.no 32 f 0 0
def g2f (f fl sz:Nat) (d:Code) (r:RO):RO:=
 match r with
 | .yes (.u1d .normal ρ1 g vs) H1=>u4e f g vs (ih (.code f H1.length sz d ρ1) H1)
 | .yes (.exit .normal ρ1) H1=>ih (.o6b f fl sz d ρ1) H1
 | .yes (.exit e ρ1) H1=>.yes (.exit e ρ1) H1
 | .yes (.v0a d ρ1) H1=>.yes (.v0a d ρ1) H1
 | .yes (.u1d e ρ1 g vs) H1=>.yes (.u1d e ρ1 g vs) H1
 | .yes (.h6e d ρ1 g vs) H1=>.yes (.h6e d ρ1 g vs) H1
 | .no a b c d=>.no a b c d
 | _=>.no 33 f 0 0
def i4c (f fl sz:Nat) (c:Code) (ρ:T) (H:Mem):RO:=
 match c with
 | .seq c d=>g2f ih f fl sz d (ih (.o6b f fl sz c ρ) H)
 | .region _ ⟨[o1,⟨none,.defer ⟨.value x,⟨[]⟩,_⟩,_,_,_,none⟩]⟩ false=>
  (match o1.guard,a6c sz o1.dst o1.op&&b5a x,opD C.P (env ρ) o1.op H with
  | none,true,some (v,H1)=>
   (match d1a (env (v6c ρ o1.dst v)) x with
   | .fn (.func g) first captured=>.yes (.u1d .normal (v6c ρ o1.dst v) g (first++captured)) H1
   | _=>.no 34 f 0 0)
  | _,_,_=>.no 35 f 0 0)
 | c=>y3d f (ih (.code f fl sz c ρ) H)
def l7e (P:Program) (g:FuncId):Option (Nat×Tmp×Code):=
 match P.funcs[g]? with
 | some gn => (match gn.body, gn.name == "runtime.NumGoroutine", gn.results.isEmpty with
  | some (.seq (.region _ ⟨[⟨some t0,.call ⟨.builtin .recover,⟨[]⟩,⟨[]⟩⟩,_,_,_,none⟩]⟩ false) c),false,true=>some (gn.ntmps,t0,c)
  | _,_,_=>none)
 | none=>none
def e0e (n:Nat) (ks:List Nat) (v:D) (H':Mem):RO:=
 match n0e n ks [] H' with
 | true=>.yes (.val (a7b (mpG n ks []) (fzG [] H') 100 v)) (g2c n ks [] (a7b (mpG n ks []) (fzG [] H') 100) H')
 | false=>.yes (.val v) H'
def u5e (f:FuncId) (H:Mem) (v:D) (H':Mem):RO:=
 match C.hs.keeps.contains f with
 | true=>e0e H.length (n3c H' [] H.length 100000 (q3b 100 v++o9d H.length H') []) v H'
 | false=>.yes (.val v) H'
def y7e (f:FuncId) (H:Mem) (v:Option D) (H':Mem):RO:=
 match v with
 | some v=>
  (match C.hs.pure.contains f with
  | false=>u5e C f H v H'
  | true=>(match z6b H.length 100 (p7b 100 v)&&o8d H.length H' with | true=>.yes (.val (p7b 100 v)) (H'.take H.length) | false=>.no 36 f 0 0))
 | none=>.no 37 f 0 0
def k2f (f:FuncId) (fn:Func) (H:Mem) (ρ:T) (r:RO):RO:=
 match r with
 | .yes (.exit (.exit _) _) _=>.no 38 f 0 0
 | .yes (.exit _ _) H2=>y7e C f H (g9a C.P fn (r6a (env ρ) a9b .bot) H2) H2
 | .no a b c d=>.no a b c d
 | _=>.no 39 f 0 0
def w2d (f:FuncId) (fn:Func) (H:Mem) (ρ:T) (g:FuncId) (vs:List D) (x:D) (H1:Mem):RO:=
 match l7e C.P g with
 | some (n',t0,c)=>(match decide (vs.length≤n')&&decide (t0<n') with | true=>k2f C f fn H ρ (ih (.code g H1.length n' c ((q1b 0 vs .e).set (path t0) x)) H1) | false=>.no 40 f 0 0)
 | none=>.no 41 f 0 0
def z0e (f:FuncId) (fn:Func) (H:Mem) (r:RO):RO:=
 match r with
 | .yes (.exit (.exit _) _) _=>.no 42 f 0 0
 | .yes (.exit _ ρ1) H1=>y7e C f H (g9a C.P fn (env ρ1) H1) H1
 | .yes (.v0a d _) H1=>.yes (.pan d 0 .b) H1
 | .yes (.u1d (.exit _) _ _ _) _=>.no 43 f 0 0
 | .yes (.u1d _ ρ1 g vs) H1=>w2d C ih f fn H ρ1 g vs .u9a H1
 | .yes (.h6e d ρ1 g vs) H1=>w2d C ih f fn H ρ1 g vs d H1
 | .no a b c d=>.no a b c d
 | _=>.no 44 f 0 0
end
section
variable {P:Program} {orc:c3a} {fl sz:Nat} {ops:Array Oper} {loose:List Nat} {Inv:Mem→Prop} {F:Nat} {k:List AM.K} {ρ:e1a} {H H1:Mem} {v:D} {Q:AM.h6a→e1a→Mem→Prop} {i:Nat} {os:List Oper} {dst:Option Tmp} {op:Op} {ty:TypeId} {pos:String} {after:Array Edge} {g:Option (Nat×Bool)}
theorem GoW.oX (h0:u8c loose i sz dst op=true) (h2:v9a ops ρ g=true) (hop:DM.opM P ρ op H v H1) (h:(i<F→Inv H1)∧GoW P orc fl sz ops loose Inv F (i+1) os k (m3a ρ dst v) H1 Q):GoW P orc fl sz ops loose Inv F i (⟨dst,op,ty,pos,after,g⟩::os) k ρ H Q:=fun hi=>by
 obtain ⟨hd,hc,hl⟩:=g7c h0
 obtain ⟨h1,h3⟩:=d6a hi
 obtain ⟨l,ρ',H',t,q⟩:=h.2 h3
 have e:e6a ops i=dst:=by simp [e6a,h1]
 rw [← e] at t
 exact ⟨_,ρ',H',.cons ⟨_,h1,hd,.inr ⟨z8a h2,hc,.inl hop⟩⟩ (fun hm=>by simp [hm] at hl) h.1 t,q⟩
theorem GoR.oX (h0:a6c sz dst op=true) (h3:v9a ops ρ g=true) (hop:DM.opM P ρ op H v H1) (h:GoR P orc fl sz ops os k (m3a ρ dst v) H1 Q):GoR P orc fl sz ops (⟨dst,op,ty,pos,after,g⟩::os) k ρ H Q:=fun i hi=>by
 obtain ⟨hd,hc⟩:=r2a h0
 obtain ⟨h1,h2⟩:=d6a hi
 unfold GoI
 rw [j4a (k1a h1)]
 obtain ⟨ρ',H',hb,h⟩:=h (i+1) h2
 exact ⟨ρ',H',.w5b h1 (z8a h3) hd hc hop hb,h⟩
theorem GoP.oX (h0:a6c sz dst op=true) (h3:v9a ops ρ g=true) (hop:DM.opM P ρ op H v H1) (h:GoP P orc fl sz ops os k (m3a ρ dst v) H1 Q):GoP P orc fl sz ops (⟨dst,op,ty,pos,after,g⟩::os) k ρ H Q:=fun i hi=>by
 obtain ⟨hd,hc⟩:=r2a h0
 obtain ⟨h1,h2⟩:=d6a hi
 rw [j4a (k1a h1)]
 obtain ⟨out,H',hb,h⟩:=h (i+1) h2
 exact ⟨out,H',.w5b h1 (z8a h3) hd hc hop hb,h⟩
theorem GoP.cX {cl:Call} {f:FuncId} {args:List D} (hf:j9a P f) (h1:a6c sz dst (.call cl)=true) (h2:v9a ops ρ g=true) (ht:h0a ρ (.call cl)=some (f,args)) {d:D} (h:i5a P orc f args H fun d' S'=>d'=d∧S'=H1) (hg:Go P orc fl sz k (.exit PAN) (r6a ρ a9b d) H1 Q) :
  GoP P orc fl sz ops (⟨dst,.call cl,ty,pos,after,g⟩::os) k ρ H Q:=by
 obtain ⟨d',ρ1,H',hb,rfl,rfl⟩:=h
 exact GoP.cP hf h1 h2 ht ⟨_,ρ1,_,hb,hg⟩
end
section
variable {C:Cx} {orc:c3a}
def RM (P:Program) (orc:c3a) (j:EJ) (H:Mem) (out:EO) (H':Mem):Prop:=
 match j,out with
 | .ops g _ os ρ,.env ρ' => ∀ (k:List K) (Q:h6a→e1a→Mem→Prop),Go P orc g.fl g.sz k .normal (env ρ') H' Q→GoR P orc g.fl g.sz g.ops os k (env ρ) H Q
 | .ops g _ os ρ,.pan d _ ρ' => ∀ (k:List K) (Q:h6a→e1a→Mem→Prop),Go P orc g.fl g.sz k (.exit PAN) (r6a (env ρ') a9b d) H' Q→GoP P orc g.fl g.sz g.ops os k (env ρ) H Q
 | .p7d g i os ρ,.i6e ρ' Hs qs => ∀ (k:List K) (Q:h6a→e1a→Mem→Prop),Go P orc g.fl g.sz k .normal (env ρ') H' Q → ∀ (Inv:Mem→Prop) (F:Nat),(i≤F→Inv H)→(∀ q∈qs,∀ M,Inv M→opD P q.1 q.2.1 M=some (q.2.2,M))→(∀ M∈Hs.take (F - i),Inv M)→(∀ a∈g.loose,a<F)→GoW P orc g.fl g.sz g.ops g.loose Inv F i os k (env ρ) H Q
 | .code _ fl sz c ρ,.exit e ρ' | .o6b _ fl sz c ρ,.exit e ρ' => ∀ (k:List K) (Q:h6a→e1a→Mem→Prop),Go P orc fl sz k e (env ρ') H' Q→Go P orc fl sz (.code c::k) .normal (env ρ) H Q
 | .code _ fl sz c ρ,.v0a d ρ' | .o6b _ fl sz c ρ,.v0a d ρ' => ∀ (k:List K) (Q:h6a→e1a→Mem→Prop),Go P orc fl sz k (.exit PAN) (r6a (env ρ') a9b d) H' Q→Go P orc fl sz (.code c::k) .normal (env ρ) H Q
 | .o6b _ fl sz c ρ,.u1d e ρ' g vs=>z5b P orc fl sz c (env ρ) H fun e' ρ'' g' vs' H''=>e'=e∧ρ''=env ρ'∧g'=g∧vs'=vs∧H''=H'
 | .o6b _ fl sz c ρ,.h6e d ρ' g vs=>z5b P orc fl sz c (env ρ) H fun e' ρ'' g' vs' H''=>e' = .exit PAN∧ρ''=r6a (env ρ') a9b d∧g'=g∧vs'=vs∧H''=H'
 | .call f args,.val d=>a3a P orc f args H fun d' S'=>d'=d∧S'=H'
 | .call f args,.pan d _ _=>i5a P orc f args H fun d' S'=>d'=d∧S'=H'
 | _,_=>True
def Snd (P:Program) (orc:c3a) (ih:IH):Prop := ∀ {j:EJ} {H:Mem} {out:EO} {H':Mem},ih j H = .yes out H'→RM P orc j H out H'
variable {ih:IH} (hs:Snd C.P orc ih)
include hs
theorem e1e {g:Rg} {i:Nat} {os:List Oper} {dst:Option Tmp} {op:Op} {ty:TypeId} {pos:String} {after:Array Edge} {gd:Option (Nat×Bool)} {ρ:T} {H H':Mem} {out:EO}
  (ho:a6c g.sz dst op=true) (hg:v9a g.ops (env ρ) gd=true) (h:kOp ih g i os dst ρ (opE C g.f g.r i ρ op H) = .yes out H'):RM C.P orc (.ops g i (⟨dst,op,ty,pos,after,gd⟩::os) ρ) H out H':=by
 unfold kOp at h
 split at h
 ·rename_i v H1 e
  have hop:=p2d e
  have:=hs h
  cases out<;>first | trivial | skip
  ·exact fun k Q hk=>GoR.oX ho hg hop (by rw [← j6a];exact this k Q hk)
  ·exact fun k Q hk=>GoP.oX ho hg hop (by rw [← j6a];exact this k Q hk)
 ·cases h
theorem y2d {g:Rg} {i:Nat} {os:List Oper} {dst:Option Tmp} {c:Call} {ty:TypeId} {pos:String} {after:Array Edge} {gd:Option (Nat×Bool)} {ρ:T} {H H':Mem} {out:EO} {f:FuncId} {args:List D}
  (ho:a6c g.sz dst (.call c)=true) (hg:v9a g.ops (env ρ) gd=true) (ht:h0a (env ρ) (.call c)=some (f,args)) (hf:j9a C.P f) (h:j4e ih g i os dst ρ (ih (.call f args) H) = .yes out H'):RM C.P orc (.ops g i (⟨dst,.call c,ty,pos,after,gd⟩::os) ρ) H out H':=by
 unfold j4e at h
 split at h
 ·rename_i v H1 e
  have hc:a3a C.P orc f args H fun d' S'=>d'=v∧S'=H1:=hs e
  have:=hs h
  cases out<;>first | trivial | skip
  ·exact fun k Q hk=>GoR.c hf ho hg ht (hc.mono fun v' S' ⟨h1,h2⟩=>by subst h1;subst h2;rw [← j6a];exact this k Q hk)
  ·exact fun k Q hk=>GoP.c hf ho hg ht (hc.mono fun v' S' ⟨h1,h2⟩=>by subst h1;subst h2;rw [← j6a];exact this k Q hk)
 ·rename_i d j ρ1 H1 e
  cases h
  exact fun k Q hk=>GoP.cX hf ho hg ht (hs e) hk
 ·cases h
 ·cases h
theorem h9e {g:Rg} {i:Nat} {os:List Oper} {dst:Option Tmp} {op:Op} {ty:TypeId} {pos:String} {after:Array Edge} {gd:Option (Nat×Bool)} {ρ:T} {H H':Mem} {out:EO}
  (ho:a6c g.sz dst op=true) (hg:v9a g.ops (env ρ) gd=true) (h:c2f C ih g i os dst op ρ H = .yes out H'):RM C.P orc (.ops g i (⟨dst,op,ty,pos,after,gd⟩::os) ρ) H out H':=by
 unfold c2f at h
 split at h
 ·rename_i c
  split at h
  ·rename_i f args ht
   split at h
   ·rename_i hc
    exact y2d hs ho hg ht (q9a hc) h
   ·cases h
  ·exact e1e hs ho hg h
 ·rename_i x
  split at h
  ·rename_i t v hk hx
   cases h
   exact fun k Q hq=>GoP.p hk hg ⟨t,v,hx⟩ (by rw [hx];exact hq)
  ·cases h
 ·exact e1e hs ho hg h
theorem f4d {g:Rg} {i:Nat} {os:List Oper} {ρ:T} {H H':Mem} {out:EO} (h:w4c C ih g i os ρ H = .yes out H'):RM C.P orc (.ops g i os ρ) H out H':=by
 unfold w4c at h
 split at h
 ·cases h
  exact fun k Q hk=>.nil hk
 ·rename_i o os
  obtain ⟨dst,op,ty,pos,after,gd⟩:=o
  unfold e9e at h
  split at h
  ·cases h
  ·rename_i hok
   split at h
   ·rename_i hw
    exact h9e hs hok (n9b hw) h
   ·rename_i hw
    obtain ⟨x,b,rfl,hy,hb⟩:=h7b hw
    have:=hs h
    cases out<;>first | trivial | skip
    ·exact fun k Q hk=>GoR.s hok hy hb (by rw [← j6a];exact this k Q hk)
    ·exact fun k Q hk=>GoP.s hok hy hb (by rw [← j6a];exact this k Q hk)
   ·cases h
omit hs in
theorem m1d {g:Rg} {i:Nat} {H1 H':Mem} {q:List Seen} {r:RO} {out:EO} (h:kW g i H1 q r = .yes out H'):(∃ ρ' Hs qs,r = .yes (.i6e ρ' Hs qs) H'∧out = .i6e ρ' (H1::Hs) (q++qs)) ∨ ∃ d j ρ,out = .pan d j ρ:=by
 unfold kW at h
 split at h
 ·cases h;exact .inl ⟨_,_,_,rfl,rfl⟩
 ·cases h;exact .inr ⟨_,_,_,rfl⟩
 ·cases h
 ·cases h
theorem w5c {g:Rg} {i:Nat} {os:List Oper} {ρ:T} {H H':Mem} {out:EO} (h:i5c C ih g i os ρ H = .yes out H'):RM C.P orc (.p7d g i os ρ) H out H':=by
 unfold i5c at h
 split at h
 ·split at h
  ·rename_i hi
   cases h
   exact fun k Q hk Inv F _ _ _ _=>.nil (by simpa using hi) hk
  ·cases h
 ·rename_i o os
  obtain ⟨dst,op,ty,pos,after,gd⟩:=o
  unfold s1d at h
  split at h
  ·cases h
  ·rename_i hok
   have hoW:g.loose.contains i=false→u8c g.loose i g.sz dst op=true:=fun hl=>by simp only [u8c,hl,Bool.not_false,Bool.and_true];exact hok
   split at h
   ·rename_i hw
    have hg:=n9b hw
    have main : ∀ {out H'},h8e C ih g i os dst op ρ H = .yes out H'→RM C.P orc (.p7d g i (⟨dst,op,ty,pos,after,gd⟩::os) ρ) H out H':=by
     intro out H' h
     unfold h8e at h
     split at h
     ·rename_i hl
      split at h
      ·rename_i v H1 hop
       rcases m1d h with ⟨ρ',Hs,qs,e,rfl⟩ | ⟨d,j,ρ',rfl⟩
       ·have:=hs e
        intro k Q hk Inv F h0 hq hM hF
        obtain ⟨m1,m2⟩:=c1b hM
        have b:=this k Q hk Inv F (fun h=>m1 h) (fun q hq2=>hq q (List.mem_append_right _ hq2)) m2 hF
        have hiF:i<F:=hF i (by simpa using hl)
        have hrd:=hq (env ρ,op,v) (by simp)
        have hH:=hrd H (h0 (Nat.le_of_lt hiF))
        simp only at hH
        rw [hop] at hH
        cases hH
        exact GoW.rd hok hg (by rw [hop];exact ⟨rfl,h0 (Nat.le_of_lt hiF),hrd,by rw [← j6a];exact b⟩)
       ·trivial
      ·cases h
     ·rename_i hl
      split at h
      ·rename_i f args ht
       split at h
       ·rename_i hc
        unfold d9e at h
        split at h
        ·rename_i v H1 e
         have hcall:a3a C.P orc f args H fun d' S'=>d'=v∧S'=H1:=hs e
         rcases m1d h with ⟨ρ',Hs,qs,e,rfl⟩ | ⟨d,j,ρ',rfl⟩
         ·have:=hs e
          intro k Q hk Inv F h0 hq hM hF
          obtain ⟨m1,m2⟩:=c1b hM
          have b:=this k Q hk Inv F (fun h=>m1 h) (fun q hq2=>hq q (List.mem_append_right _ hq2)) m2 hF
          cases op with
          | call cl=>exact GoW.c (q9a hc) (hoW hl) hg ht (hcall.mono fun v' S' ⟨h1,h2⟩=>by subst h1;subst h2;rw [← j6a];exact ⟨m1,b⟩)
          | _=>cases ht
         ·trivial
        ·cases h;trivial
        ·cases h
        ·cases h
       ·cases h
      ·unfold k1f at h
       split at h
       ·rename_i v H1 e
        have hop:=p2d e
        rcases m1d h with ⟨ρ',Hs,qs,e,rfl⟩ | ⟨d,j,ρ',rfl⟩
        ·have:=hs e
         intro k Q hk Inv F h0 hq hM hF
         obtain ⟨m1,m2⟩:=c1b hM
         have b:=this k Q hk Inv F (fun h=>m1 h) (fun q hq2=>hq q (List.mem_append_right _ hq2)) m2 hF
         exact GoW.oX (hoW hl) hg hop (by rw [← j6a];exact ⟨m1,b⟩)
        ·trivial
       ·cases h
    simp only at h
    unfold c6e at h
    split at h
    ·rename_i t m parts hlw
     split at h
     ·rename_i z len cells hm
      split at h
      ·rename_i hall
       rcases m1d h with ⟨ρ',Hs,qs,e,rfl⟩ | ⟨d,j,ρ',rfl⟩
       ·have:=hs e
        intro k Q hk Inv F h0 hq hM hF
        obtain ⟨m1,m2⟩:=c1b hM
        have b:=this k Q hk Inv F (fun h=>m1 h) (fun q hq2=>hq q (List.mem_append_right _ hq2)) m2 hF
        have hiF:i<F:=hF i (by
         simp only [Bool.and_eq_true] at hlw
         simpa using hlw.2)
        have hop:=f9c hm
        simp only [List.all_eq_true] at hall
        obtain ⟨q1,q2⟩:=r2a hok
        simp only [Bool.and_eq_true] at hlw
        exact GoW.newL q1 q2 hlw.2 (h0 (Nat.le_of_lt hiF)) (by rw [hop];exact ⟨rfl,rfl,fun c hc=>v8b (hall c hc),by show GoW _ _ _ _ _ _ _ _ _ _ _ (m3a _ _ _) _ _;rw [← j6a];exact b⟩)
       ·trivial
      ·cases h
     ·cases h
    ·exact main h
   ·rename_i hw
    obtain ⟨x,b,rfl,hy,hb⟩:=h7b hw
    rcases m1d h with ⟨ρ',Hs,qs,e,rfl⟩ | ⟨d,j,ρ',rfl⟩
    ·have:=hs e
     intro k Q hk Inv F h0 hq hM hF
     obtain ⟨m1,m2⟩:=c1b hM
     exact GoW.s hok hy hb m1 (by rw [← j6a];exact this k Q hk Inv F (fun h=>m1 h) (fun q hq2=>hq q (List.mem_append_right _ hq2)) m2 hF)
    ·trivial
   ·cases h
end
section
variable {C:Cx} {orc:c3a} {ih:IH} (hs:Snd C.P orc ih)
include hs
theorem y4d {f fl sz:Nat} {c:Code} {ρ:T} {H H':Mem} {out:EO} {r:RO} (hr : ∀ o H1,r = .yes o H1→RM C.P orc (.code f fl sz c ρ) H o H1) (h:j7e ih f fl sz c r = .yes out H'):RM C.P orc (.code f fl sz (.loop c) ρ) H out H':=by
 unfold j7e at h
 split at h
 ·rename_i ρ1 H1
  have h1:=hr _ _ rfl
  have h2:=hs h
  cases out<;>first | trivial | skip
  ·exact fun k Q hk=>Go.loop (h1 _ Q (Go.lp (h2 k Q hk)))
  ·exact fun k Q hk=>Go.loop (h1 _ Q (Go.lp (h2 k Q hk)))
 ·rename_i e ρ1 H1 hne
  cases h
  have h1:=hr _ _ rfl
  cases e with
  | normal=>exact (by exfalso;first | exact hne rfl | exact hne _ rfl | exact hne _ _ rfl | exact hne _ _ _ rfl | exact hne _ _ _ _ rfl)
  | exit id=>exact fun k Q hk=>Go.loop (h1 _ Q hk)
  | ret=>exact fun k Q hk=>Go.loop (h1 _ Q hk)
 ·cases h
  exact fun k Q hk=>Go.loop (hr _ _ rfl _ Q hk)
 ·cases h
 ·cases h
omit hs in
theorem l3d {f fl sz id:Nat} {c:Code} {ρ:T} {H H':Mem} {out:EO} {r:RO} (hp:id≠PAN) (hr : ∀ o H1,r = .yes o H1→RM C.P orc (.code f fl sz c ρ) H o H1) (h:l2d f id r = .yes out H'):RM C.P orc (.code f fl sz (.block id c) ρ) H out H':=by
 unfold l2d at h
 split at h
 ·rename_i id' ρ1 H1
  have h1:=hr _ _ rfl
  split at h
  ·rename_i hi
   cases h
   obtain rfl:id'=id:=Nat.eq_of_beq_eq_true hi
   exact fun k Q hk=>Go.block (h1 _ Q (Go.z8e hk)) hp
  ·rename_i hi
   cases h
   exact fun k Q hk=>Go.block (h1 _ Q (Go.p1e (Nat.ne_of_beq_eq_false hi) hk)) hp
 ·rename_i e ρ1 H1 hne
  cases h
  have h1:=hr _ _ rfl
  cases e with
  | normal=>exact fun k Q hk=>Go.block (h1 _ Q hk) hp
  | exit id=>exact (by exfalso;first | exact hne rfl | exact hne _ rfl | exact hne _ _ rfl | exact hne _ _ _ rfl | exact hne _ _ _ _ rfl)
  | ret=>exact fun k Q hk=>Go.block (h1 _ Q hk) hp
 ·cases h
  exact fun k Q hk=>Go.block (hr _ _ rfl _ Q (Go.p1e (fun e=>hp e.symm) hk)) hp
 ·cases h
 ·cases h
theorem t8c (hm:C.P.follows .mixedOrders=true) {f id fl sz j:Nat} {ops:Array Oper} {ρ:T} {H H':Mem} {out:EO} (h:y9e C ih f id fl sz ops j ρ H = .yes out H'):RM C.P orc (.code f fl sz (.region id ops true) ρ) H out H':=by
 unfold y9e at h
 split at h
 ·rename_i hc
  simp only [Bool.and_eq_true] at hc
  unfold u6e at h
  split at h
  ·rename_i ρ1 H1 e
   have h1:=hs e
   split at h
   ·rename_i tX htX
    split at h
    ·rename_i g args hv
     split at h
     ·rename_i hg
      unfold u7e at h
      split at h
      ·rename_i d j' ρ2 H2 e2
       cases h
       have h2:i5a C.P orc g args H1 fun d' S'=>d'=d∧S'=H':=hs e2
       exact fun k Q hk=>Go.m0e (l:=ops.toList) j hm hc.2 hc.1 (q9a hg) (h1 [] _ ⟨rfl,tX,args,htX,hv,by
        obtain ⟨d',ρ3,H3,hb,rfl,rfl⟩:=h2
        exact ⟨_,ρ3,_,hb,by rw [← e2f];exact hk⟩⟩)
      ·cases h
      ·cases h
     ·cases h
    ·cases h
   ·cases h
  ·cases h
  ·cases h
 ·cases h
theorem a9c (hm:C.P.follows .mixedOrders=true) {f fl sz id:Nat} {ops:Array Oper} {d:Bool} {ρ:T} {H H':Mem} {out:EO} (h:h5b C ih f fl sz id ops d ρ H = .yes out H'):RM C.P orc (.code f fl sz (.region id ops d) ρ) H out H':=by
 unfold h5b at h
 split at h
 ·unfold u8e at h
  split at h
  ·rename_i ρ1 H1 e
   cases h
   have:=hs e
   exact fun k Q hk=>Go.rg (l:=ops.toList) (this k Q hk)
  ·rename_i d' j ρ1 H1 e
   cases h
   have:=hs e
   exact fun k Q hk=>Go.rgP (l:=ops.toList) (this k Q hk)
  ·cases h
  ·cases h
 ·split at h
  ·split at h
   ·rename_i hd
    unfold l6d at h
    split at h
    ·rename_i ρ1 H1 e
     cases h
     have:=hs e
     exact fun k Q hk=>Go.rgS (l:=ops.toList) hm hd (this k Q hk)
    ·exact t8c hs hm h
    ·cases h
    ·cases h
   ·cases h
  ·rename_i x hx
   split at h
   ·rename_i hd
    unfold l7d at h
    split at h
    ·rename_i ρ1 Hs qs H1 e
     split at h
     ·rename_i hq
      cases h
      have hsd:=hs e
      simp only [List.all_eq_true,Bool.and_eq_true] at hq
      intro k Q hk
      obtain ⟨loose,F,fl2⟩:=x
      simp only [p6d,Bool.and_eq_true,List.all_eq_true,decide_eq_true_eq] at hd
      have hI : ∀ q∈qs,opD C.P q.1 q.2.1 H=some (q.2.2,H):=fun q hq2=>c5c (hq q hq2).1
      have hw:=hsd k Q hk (fun M => ∀ q∈qs,opD C.P q.1 q.2.1 M=some (q.2.2,M)) F (fun _=>hI) (fun q hq2 M hM=>hM q hq2) (fun M hM q hq2=>c5c ((hq q hq2).2 M hM)) hd.1
      obtain ⟨_,hd⟩:=hd
      cases fl2 with
      | none=>
       simp only [Bool.and_eq_true] at hd
       exact Go.rgD (l:=ops.toList) loose _ hm hd.1 F hd.2 hI hw
      | some am=>
       obtain ⟨a,ms⟩:=am
       simp only [Bool.and_eq_true] at hd
       obtain ⟨⟨⟨h1,h2⟩,h3⟩,h4⟩:=hd
       split at h4
       ·rename_i hoa
        split at h4
        ·rename_i hz
         exact Go.rgF (l:=ops.toList) a ms loose _ hm h1 F h2 h3 hoa rfl rfl rfl hz h4 hI hw
        ·cases h4
       ·cases h4
     ·cases h
    ·exact t8c hs hm h
    ·cases h
    ·cases h
   ·cases h
theorem j6e {f fl sz:Nat} {c d:Code} {ρ:T} {H H':Mem} {out:EO} {r:RO} (hr : ∀ o H1,r = .yes o H1→RM C.P orc (.o6b f fl sz c ρ) H o H1) (h:g2f ih f fl sz d r = .yes out H'):RM C.P orc (.o6b f fl sz (.seq c d) ρ) H out H':=by
 unfold g2f at h
 split at h
 ·rename_i ρ1 g vs H1
  have h1:=hr _ _ rfl
  unfold u4e at h
  split at h
  ·rename_i e ρ2 H2 e2
   cases h
   have h2:=hs e2
   refine z5b.h7f ?_
   obtain ⟨e',ρ',g',vs',H'',hb,rfl,rfl,rfl,rfl,rfl⟩:=h1
   exact ⟨_,_,_,_,_,hb,rfl,h2 [] _ ⟨rfl,rfl,rfl,rfl,rfl⟩⟩
  ·rename_i d' ρ2 H2 e2
   cases h
   have h2:=hs e2
   refine z5b.h7f ?_
   obtain ⟨e',ρ',g',vs',H'',hb,rfl,rfl,rfl,rfl,rfl⟩:=h1
   exact ⟨_,_,_,_,_,hb,rfl,h2 [] _ ⟨rfl,rfl,rfl,rfl,rfl⟩⟩
  ·cases h
  ·cases h
 ·rename_i ρ1 H1
  have h1:=hr _ _ rfl
  have h2:=hs h
  cases out<;>first | trivial | skip
  ·exact fun k Q hk=>Go.seq (h1 _ Q (h2 k Q hk))
  ·exact fun k Q hk=>Go.seq (h1 _ Q (h2 k Q hk))
  ·exact z5b.w5e (h1 [] _ ⟨rfl,h2⟩)
  ·exact z5b.w5e (h1 [] _ ⟨rfl,h2⟩)
 ·rename_i e ρ1 H1 hne
  cases h
  have h1:=hr _ _ rfl
  cases e with
  | normal=>exact (by exfalso;first | exact hne rfl | exact hne _ rfl | exact hne _ _ rfl | exact hne _ _ _ rfl | exact hne _ _ _ _ rfl)
  | exit id=>exact fun k Q hk=>Go.seq (h1 _ Q hk)
  | ret=>exact fun k Q hk=>Go.seq (h1 _ Q hk)
 ·cases h
  exact fun k Q hk=>Go.seq (hr _ _ rfl _ Q hk)
 ·rename_i e ρ1 g vs H1 hne
  cases h
  have h1:=hr _ _ rfl
  obtain ⟨e',ρ',g',vs',H'',hb,rfl,rfl,rfl,rfl,rfl⟩:=h1
  exact ⟨_,_,_,_,_,.s4c hb (fun q=>by subst q;first | exact hne rfl | exact hne _ rfl | exact hne _ _ rfl | exact hne _ _ _ rfl | exact hne _ _ _ _ rfl),rfl,rfl,rfl,rfl,rfl⟩
 ·cases h
  have h1:=hr _ _ rfl
  obtain ⟨e',ρ',g',vs',H'',hb,rfl,rfl,rfl,rfl,rfl⟩:=h1
  exact ⟨_,_,_,_,_,.s4c hb (by simp),rfl,rfl,rfl,rfl,rfl⟩
 ·cases h
 ·cases h
omit hs in
theorem r3b {f:Nat} {r:RO} {out:EO} {H':Mem} (h:y3d f r = .yes out H'):(∃ e ρ,r = .yes (.exit e ρ) H'∧out = .exit e ρ) ∨ ∃ d ρ,r = .yes (.v0a d ρ) H'∧out = .v0a d ρ:=by
 unfold y3d at h
 split at h
 ·cases h;exact .inl ⟨_,_,rfl,rfl⟩
 ·cases h;exact .inr ⟨_,_,rfl,rfl⟩
 ·cases h
 ·cases h
theorem w3c {f fl sz:Nat} {c:Code} {ρ:T} {H H':Mem} {out:EO} (h:i4c C ih f fl sz c ρ H = .yes out H'):RM C.P orc (.o6b f fl sz c ρ) H out H':=by
 unfold i4c at h
 split at h
 ·exact j6e hs (fun o H1 e=>hs e) h
 ·rename_i id o1 x at_ ty pos after
  split at h
  ·rename_i v H1 hg1 hok hop
   simp only [Bool.and_eq_true] at hok
   split at h
   ·rename_i g first captured hx
    cases h
    exact z5b.at hg1 hok.1 rfl rfl rfl hok.2 rfl rfl (by rw [hop];exact ⟨by rw [← j6a];exact hx,rfl,j6a _ _ _▸rfl,rfl,rfl,rfl⟩)
   ·cases h
  ·cases h
 ·obtain ⟨e,ρ1,h1,rfl⟩ | ⟨d,ρ1,h1,rfl⟩:=r3b h
  ·exact (hs h1:RM C.P orc (.code f fl sz c ρ) H (.exit e ρ1) H')
  ·exact (hs h1:RM C.P orc (.code f fl sz c ρ) H (.v0a d ρ1) H')
omit hs in
theorem z9d {P:Program} {g:FuncId} {n:Nat} {t0:Tmp} {c:Code} (h:l7e P g=some (n,t0,c)):o3e P g n t0 c:=by
 unfold l7e at h
 split at h
 ·rename_i gn e
  split at h
  ·rename_i id t0' ty pos after c' hb hn hr
   cases h
   exact ⟨gn,id,ty,pos,after,e,hb,by simpa using hn,rfl,by simpa using hr⟩
  ·cases h
 ·cases h
omit hs in
theorem l8d {f:FuncId} {args:List D} {H H':Mem} {v:Option D} {S:Mem} {out:EO} (hv : ∀ d,v=some d→a3a C.P orc f args H fun d' S'=>d'=d∧S'=S) (h:y7e C f H v S = .yes out H'):RM C.P orc (.call f args) H out H':=by
 unfold y7e at h
 split at h
 ·rename_i d
  have hc:=hv d rfl
  split at h
  ·unfold u5e at h
   split at h
   ·unfold e0e at h
    split at h
    ·rename_i hok
     cases h
     exact hc.gc (kk:=100) hok
    ·cases h;exact hc
   ·cases h;exact hc
  ·split at h
   ·rename_i hl
    cases h
    simp only [Bool.and_eq_true] at hl
    exact hc.h2f hl.1 hl.2
   ·cases h
 ·cases h
theorem y2c {f:FuncId} {fn:Func} {c:Code} {args:List D} {H H1 H':Mem} {ρ:T} {g:FuncId} {vs:List D} {x:D} {out:EO} (hf:C.P.funcs[f]?=some fn) (hb:fn.body=some c) (ha:decide (args.length≤fn.ntmps)=true)
  (hd:z5b C.P orc H.length fn.ntmps c (r1a args) H fun e' ρ'' g' vs' H''=>(e' = .normal∨e' = .ret∨e' = .exit PAN)∧(match e' with | .exit _=>ρ'' a9b | _=>D.u9a)=x∧r6a ρ'' a9b .bot=r6a (env ρ) a9b .bot∧g'=g∧vs'=vs∧H''=H1)
  (h:w2d C ih f fn H ρ g vs x H1 = .yes out H'):RM C.P orc (.call f args) H out H':=by
 unfold w2d at h
 split at h
 ·rename_i n' t0 c' hrec
  split at h
  ·rename_i hok
   simp only [Bool.and_eq_true,decide_eq_true_eq] at hok
   unfold k2f at h
   split at h
   ·cases h
   ·rename_i e2 ρ2 H2 hne e3
    have h2:=hs e3
    refine l8d (v:=g9a C.P fn (r6a (env ρ) a9b .bot) H2) (fun d hd' => ?_) h
    refine a3a.recv hf hb rfl ha ?_
    obtain ⟨e',ρ',g',vs',H'',hbig,he,rfl,hu,rfl,rfl,rfl⟩:=hd
    refine ⟨_,_,_,_,_,hbig,he,n',t0,c',z9d hrec,hok.1,hok.2,?_⟩
    rw [← i7b,← s7c]
    have he2:e2 = .normal∨e2 = .ret:=by
     cases e2 with
     | normal=>exact .inl rfl
     | ret=>exact .inr rfl
     | exit id=>exfalso;first | exact hne e3 | exact hne rfl | exact hne _ e3 | exact hne _ rfl | exact hne _ _ rfl
    have fin:=h2 [] (fun e2' ρ2' H2'=>(e2' = .normal∨e2' = .ret) ∧ ∃ v,g9a C.P fn (r6a ρ' a9b .bot) H2'=some v∧v=d∧H2'=H2)
    refine fin ?_
    rcases he2 with rfl | rfl
    ·exact ⟨.inl rfl,d,by rw [hu];exact hd',rfl,rfl⟩
    ·exact ⟨.inr rfl,d,by rw [hu];exact hd',rfl,rfl⟩
   ·cases h
   ·cases h
  ·cases h
 ·cases h
theorem m0d {f:FuncId} {fn:Func} {c:Code} {args:List D} {H H':Mem} {r:RO} {out:EO} (hf:C.P.funcs[f]?=some fn) (hb:fn.body=some c) (ha:decide (args.length≤fn.ntmps)=true)
  (hr : ∀ o H1,r = .yes o H1→RM C.P orc (.code f H.length fn.ntmps c (q1b 0 args .e)) H o H1∨RM C.P orc (.o6b f H.length fn.ntmps c (q1b 0 args .e)) H o H1)
  (hr2 : ∀ e ρ1 g vs H1,r = .yes (.u1d e ρ1 g vs) H1→RM C.P orc (.o6b f H.length fn.ntmps c (q1b 0 args .e)) H (.u1d e ρ1 g vs) H1) (hr3 : ∀ d ρ1 g vs H1,r = .yes (.h6e d ρ1 g vs) H1→RM C.P orc (.o6b f H.length fn.ntmps c (q1b 0 args .e)) H (.h6e d ρ1 g vs) H1)
  (h:z0e C ih f fn H r = .yes out H'):RM C.P orc (.call f args) H out H':=by
 have hx : ∀ e ρ1 H1,r = .yes (.exit e ρ1) H1 → ∀ (k:List K) (Q:h6a→e1a→Mem→Prop),Go C.P orc H.length fn.ntmps k e (env ρ1) H1 Q→Go C.P orc H.length fn.ntmps (.code c::k) .normal (r1a args) H Q:=by
  intro e ρ1 H1 he k Q hk
  rw [← i7b]
  rcases hr _ _ he with h | h
  ·exact h k Q hk
  ·exact h k Q hk
 have hp : ∀ d ρ1 H1,r = .yes (.v0a d ρ1) H1 → ∀ (k:List K) (Q:h6a→e1a→Mem→Prop),Go C.P orc H.length fn.ntmps k (.exit PAN) (r6a (env ρ1) a9b d) H1 Q→Go C.P orc H.length fn.ntmps (.code c::k) .normal (r1a args) H Q:=by
  intro d ρ1 H1 he k Q hk
  rw [← i7b]
  rcases hr _ _ he with h | h
  ·exact h k Q hk
  ·exact h k Q hk
 unfold z0e at h
 split at h
 ·cases h
 ·rename_i e ρ1 H1 hne
  refine l8d (v:=g9a C.P fn (env ρ1) H1) (fun d hd => ?_) h
  cases e with
  | exit id=>exact (by exfalso;first | exact hne rfl | exact hne _ rfl | exact hne _ _ rfl | exact hne _ _ _ rfl | exact hne _ _ _ _ rfl)
  | normal=>exact a3a.body hf hb (by simpa using ha) (hx _ _ _ rfl [] _ ⟨.inl rfl,d,hd,rfl,rfl⟩)
  | ret=>exact a3a.body hf hb (by simpa using ha) (hx _ _ _ rfl [] _ ⟨.inr rfl,d,hd,rfl,rfl⟩)
 ·rename_i d ρ1 H1
  cases h
  exact i5a.body hf hb rfl ha (hp _ _ _ rfl [] _ ⟨rfl,by simp [r6a],rfl⟩)
 ·cases h
 ·rename_i e ρ1 g vs H1 hne
  have h1:=hr2 _ _ _ _ _ rfl
  refine y2c hs hf hb ha ?_ h
  rw [← i7b]
  obtain ⟨e',ρ',g',vs',H'',hbig,rfl,rfl,rfl,rfl,rfl⟩:=h1
  refine ⟨_,_,_,_,_,hbig,?_,?_,rfl,rfl,rfl,rfl⟩
  ·cases e' with
   | normal=>exact .inl rfl
   | ret=>exact .inr (.inl rfl)
   | exit id=>exact (by exfalso;first | exact hne rfl | exact hne _ rfl | exact hne _ _ rfl | exact hne _ _ _ rfl | exact hne _ _ _ _ rfl)
  ·cases e' with
   | normal=>rfl
   | ret=>rfl
   | exit id=>exact (by exfalso;first | exact hne rfl | exact hne _ rfl | exact hne _ _ rfl | exact hne _ _ _ rfl | exact hne _ _ _ _ rfl)
 ·rename_i d ρ1 g vs H1
  have h1:=hr3 _ _ _ _ _ rfl
  refine y2c hs hf hb ha ?_ h
  rw [← i7b]
  obtain ⟨e',ρ',g',vs',H'',hbig,rfl,rfl,rfl,rfl,rfl⟩:=h1
  refine ⟨_,_,_,_,_,hbig,.inr (.inr rfl),by simp [r6a],?_,rfl,rfl,rfl⟩
  funext t
  simp only [r6a]
  split<;>rfl
 ·cases h
 ·cases h
end
section
variable {C:Cx} {orc:c3a}
def isTrue (r:RO):Bool:=match r with | .yes (.val (.bool true)) _=>true | _=>false
end
end Go.DM
namespace Go.DM
open Go Go.AM
inductive O1 where
 | mk (f:T→D)
inductive L1 where
 | mk (f:T→List D)
inductive P1 where
 | mk (f:T→List (Nat×D))
inductive S1 where
 | mk (f:T→D→T)
inductive R2 where
 | no
 | yes (v:D) (H:Mem)
inductive O2 where
 | mk (f:T→Mem→R2)
inductive K1 where
 | mk (f:IH→Nat→T→Mem→RO)
abbrev KF:=IH→Nat→T→Mem→RO
def O1.run:O1→T→D | .mk f=>f
def L1.run:L1→T→List D | .mk f=>f
def P1.run:P1→T→List (Nat×D) | .mk f=>f
def O2.run:O2→T→Mem→R2 | .mk f=>f
def K1.run:K1→KF | .mk f=>f
noncomputable section
def s9e:List Dg→O1
 | []=>.mk T.top
 | x::p=>match s9e p with | .mk g=>.mk fun t=>g (T.kid t x)
theorem k2d : ∀ (p:List Dg) (t:T),(s9e p).run t=t.get p
 | [],t=>rfl
 | x::p,t=>by
  have ih:=k2d p (T.kid t x)
  simp only [s9e]
  cases h:s9e p with
  | mk g=>rw [h] at ih;exact ih
def t9a (x:Operand):O1:=
 match x with
 | .tmp t=>s9e (path t)
 | .const v=>.mk fun _=>ofV v
 | .global _=>.mk fun _=>.bot
 | .func f=>.mk fun _=>.fn (.func f) [] []
theorem l3b (x:Operand) (ρ:T):(t9a x).run ρ=d1a (env ρ) x:=by
 cases x with
 | tmp t=>exact k2d _ _
 | _=>rfl
def k1c:List Operand→L1
 | []=>.mk fun _=>[]
 | x::xs=>match t9a x with | .mk X=>match k1c xs with | .mk Y=>.mk fun ρ=>X ρ::Y ρ
theorem e5c : ∀ (xs:List Operand) (ρ:T),(k1c xs).run ρ=xs.map (d1a (env ρ))
 | [],_=>rfl
 | x::xs,ρ=>by
  have h1:=l3b x ρ
  have h2:=e5c xs ρ
  simp only [k1c]
  cases hx:t9a x with
  | mk X=>
   cases hy:k1c xs with
   | mk Y=>
    rw [hx] at h1;rw [hy] at h2
    show X ρ::Y ρ=_
    rw [List.map_cons,← h1,← h2]
    rfl
def o4b:List (Nat×Operand)→P1
 | []=>.mk fun _=>[]
 | (i,x)::xs=>match t9a x with | .mk X=>match o4b xs with | .mk Y=>.mk fun ρ=>(i,X ρ)::Y ρ
theorem k2c : ∀ (xs:List (Nat×Operand)) (ρ:T),(o4b xs).run ρ=xs.map fun (i,x)=>(i,d1a (env ρ) x)
 | [],_=>rfl
 | (i,x)::xs,ρ=>by
  have h1:=l3b x ρ
  have h2:=k2c xs ρ
  simp only [o4b]
  cases hx:t9a x with
  | mk X=>
   cases hy:o4b xs with
   | mk Y=>
    rw [hx] at h1;rw [hy] at h2
    show (i,X ρ)::Y ρ=_
    rw [List.map_cons,← h1,← h2]
    rfl
def ofO (x:Option (D×Mem)):R2:=match x with | some (v,H)=>.yes v H | none=>.no
def z5d (x:Option D) (H:Mem):R2:=match x with | some v=>.yes v H | none=>.no
theorem g8b (x:Option D) (H:Mem):z5d x H=ofO (x.map (·,H)):=by cases x<;>rfl
def h0e (P:Program) (t:TypeId) (X:T→D):O2:=
 match g8a P t,f3a P t with
 | some true,some n=>.mk fun ρ H=>match e5a (X ρ) H with | some (cells,off)=>(match Nat.ble (off+n) cells.length with | true=>.yes (.agg ((cells.drop off).take n)) H | false=>.no) | none=>.no
 | some false,_=>.mk fun ρ H=>match e5a (X ρ) H with | some (cells,off)=>(match cells[off]? with | some v=>.yes v H | none=>.no) | none=>.no
 | _,_=>.mk fun _ _=>.no
theorem v4d (P:Program) (t:TypeId) (X:T→D) (ρ:T) (H:Mem):(h0e P t X).run ρ H=z5d (l5a P t (X ρ) H) H:=by
 unfold h0e l5a
 cases h1:g8a P t with
 | none=>simp only;cases e5a (X ρ) H<;>rfl
 | some b=>
  cases b with
  | false=>
   show (match e5a (X ρ) H with | some (cells,off)=>(match cells[off]? with | some v=>R2.yes v H | none=>.no) | none=>.no)=_
   cases hc:e5a (X ρ) H with
   | none=>rfl
   | some c=>
    obtain ⟨cells,off⟩:=c
    simp only
    cases cells[off]?<;>rfl
  | true=>
   cases h2:f3a P t with
   | none=>simp only;cases e5a (X ρ) H<;>rfl
   | some n=>
    show (match e5a (X ρ) H with | some (cells,off)=>(match Nat.ble (off+n) cells.length with | true=>R2.yes (.agg ((cells.drop off).take n)) H | false=>.no) | none=>.no)=_
    cases hc:e5a (X ρ) H with
    | none=>rfl
    | some c=>
     obtain ⟨cells,off⟩:=c
     simp only
     cases hb:Nat.ble (off+n) cells.length with
     | true=>rw [if_pos (Nat.le_of_ble_eq_true hb)];rfl
     | false=>rw [if_neg (Nat.not_le_of_not_ble_eq_true (by simp [hb]))];rfl
def cOp (P:Program) (op:Op):O2:=
 match op with
 | .move x=>match t9a x with | .mk X=>.mk fun ρ H=>.yes (X ρ) H
 | .assign x=>match t9a x with | .mk X=>.mk fun ρ H=>.yes (X ρ) H
 | .load t a=>match t9a a with | .mk A=>h0e P t A
 | .binOp o t x y _=>match t9a x with | .mk X=>match t9a y with | .mk Y=>.mk fun ρ H=>z5d (i6a P o t x y (X ρ) (Y ρ)) H
 | .nilCheck x=>match t9a x with | .mk X=>.mk fun ρ H=>match X ρ with | .ptr o off=>.yes (.ptr o off) H | .h5a c off=>.yes (.h5a c off) H | .fn (.func f) a b=>.yes (.fn (.func f) a b) H | _=>.no
 | .fieldAddr s x f=>match t9a x with | .mk X=>.mk fun ρ H=>z5d (a9a P s (X ρ) f) H
 | .field s x f=>match t9a x with | .mk X=>.mk fun ρ H=>z5d (u2b P s (X ρ) f) H
 | .indexAddr t x i=>match t9a x with | .mk X=>match t9a i with | .mk I=>.mk fun ρ H=>z5d (m5a P t (X ρ) (I ρ)) H
 | .store t a x=>match t9a a with | .mk A=>match t9a x with | .mk X=>.mk fun ρ H=>match j0a P t (A ρ) (X ρ) H with | some H'=>.yes j1a H' | none=>.no
 | .extract x i=>match t9a x with | .mk X=>.mk fun ρ H=>match X ρ with | .tup vs=>z5d vs[i]? H | _=>.no
 | .pick c a b=>match t9a c with | .mk Q=>match t9a a with | .mk A=>match t9a b with | .mk B=>.mk fun ρ H=>match Q ρ with | .bool true=>.yes (A ρ) H | .bool false=>.yes (B ρ) H | _=>.no
 | .convert s d x=>match t9a x with | .mk X=>.mk fun ρ H=>ofO (k2a P s d (X ρ) H)
 | .box _ x=>match t9a x with | .mk X=>.mk fun ρ H=>match cellsD (X ρ) with | some cs=>.yes (.ptr H.length 0) (H++[.obj cs]) | none=>.no
 | .build t ps=>match o4b ps.toList with | .mk Y=>.mk fun ρ H=>z5d (r8a P t (Y ρ)) H
 | .buildSlice t n ps=>match o4b ps.toList with | .mk Y=>.mk fun ρ H=>ofO (f2a P t n (Y ρ) H)
 | .alloc t=>(match i3a P t with
  | some z=>(match z.cells.all b3a with | true=>.mk fun _ H=>.yes (.ptr H.length 0) (H++[.obj (z.cells.toList.map ofS)]) | false=>.mk fun _ _=>.no)
  | none=>.mk fun _ _=>.no)
 | .call ⟨.builtin b,args,ats⟩=>match k1c args.toList with | .mk Y=>.mk fun ρ H=>ofO (b8a P b ats (Y ρ) H)
 | op=>.mk fun ρ H=>ofO (opD P (env ρ) op H)
theorem p4e (P:Program) (op:Op) (ρ:T) (H:Mem):(cOp P op).run ρ H=ofO (opD P (env ρ) op H):=by
 have opd:=fun x=>l3b x ρ
 have args:=fun x=>e5c x ρ
 have parts:=fun x=>k2c x ρ
 cases op with
 | move x=>
  have:=opd x
  simp only [cOp,opD]
  cases h:t9a x with | mk X=>rw [h] at this;show R2.yes (X ρ) H=_;rw [← this];rfl
 | assign x=>
  have:=opd x
  simp only [cOp,opD]
  cases h:t9a x with | mk X=>rw [h] at this;show R2.yes (X ρ) H=_;rw [← this];rfl
 | load t a=>
  have:=opd a
  simp only [cOp,opD]
  cases h:t9a a with | mk X=>rw [h] at this;rw [← this,← g8b];exact v4d P t X ρ H
 | binOp o t x y u=>
  have h1:=opd x
  have h2:=opd y
  simp only [cOp,opD]
  cases hx:t9a x with | mk X=>cases hy:t9a y with | mk Y=>rw [hx] at h1;rw [hy] at h2;rw [← h1,← h2,← g8b];rfl
 | nilCheck x=>
  have:=opd x
  simp only [cOp,opD]
  cases h:t9a x with | mk X=>
   rw [h] at this;rw [← this]
   show (match X ρ with | .ptr o off=>R2.yes (.ptr o off) H | .h5a c off=>.yes (.h5a c off) H | .fn (.func f) a b=>.yes (.fn (.func f) a b) H | _=>.no)=ofO (match X ρ with | .ptr o off=>some (.ptr o off,H) | .h5a c off=>some (.h5a c off,H) | .fn (.func f) a b=>some (.fn (.func f) a b,H) | _=>none)
   split<;>rfl
 | fieldAddr s x f=>
  have:=opd x
  simp only [cOp,opD]
  cases h:t9a x with | mk X=>rw [h] at this;rw [← this,← g8b];rfl
 | field s x f=>
  have:=opd x
  simp only [cOp,opD]
  cases h:t9a x with | mk X=>rw [h] at this;rw [← this,← g8b];rfl
 | indexAddr t x i=>
  have h1:=opd x
  have h2:=opd i
  simp only [cOp,opD]
  cases hx:t9a x with | mk X=>cases hy:t9a i with | mk Y=>rw [hx] at h1;rw [hy] at h2;rw [← h1,← h2,← g8b];rfl
 | store t a x=>
  have h1:=opd a
  have h2:=opd x
  simp only [cOp,opD]
  cases hx:t9a a with | mk X=>cases hy:t9a x with | mk Y=>
   rw [hx] at h1;rw [hy] at h2;rw [← h1,← h2]
   show (match j0a P t (X ρ) (Y ρ) H with | some H'=>R2.yes j1a H' | none=>.no)=ofO ((j0a P t (X ρ) (Y ρ) H).map (j1a,·))
   cases j0a P t (X ρ) (Y ρ) H<;>rfl
 | extract x i=>
  have:=opd x
  simp only [cOp,opD]
  cases h:t9a x with | mk X=>
   rw [h] at this;rw [← this]
   show (match X ρ with | .tup vs=>z5d vs[i]? H | _=>R2.no)=ofO (match X ρ with | .tup vs=>_ | _=>_)
   split
   ·rw [g8b]
   ·rfl
 | pick c a b=>
  have h1:=opd c
  have h2:=opd a
  have h3:=opd b
  simp only [cOp,opD]
  cases hx:t9a c with | mk X=>cases hy:t9a a with | mk Y=>cases hz:t9a b with | mk Z=>
   rw [hx] at h1;rw [hy] at h2;rw [hz] at h3;rw [← h1,← h2,← h3]
   show (match X ρ with | .bool true=>R2.yes (Y ρ) H | .bool false=>.yes (Z ρ) H | _=>.no)=ofO (match X ρ with | .bool t=>some (if t then Y ρ else Z ρ,H) | _=>none)
   cases hq:X ρ with
   | bool t=>cases t<;>rfl
   | _=>rfl
 | convert s d x=>
  have:=opd x
  simp only [cOp,opD]
  cases h:t9a x with | mk X=>rw [h] at this;rw [← this];rfl
 | box t x=>
  have:=opd x
  simp only [cOp,opD]
  cases h:t9a x with | mk X=>
   rw [h] at this;rw [← this]
   show (match cellsD (X ρ) with | some cs=>R2.yes (.ptr H.length 0) (H++[.obj cs]) | none=>.no)=ofO ((cellsD (X ρ)).map fun cs=>(.ptr H.length 0,H++[.obj cs]))
   cases cellsD (X ρ)<;>rfl
 | build t ps=>
  have:=parts ps.toList
  simp only [cOp,opD]
  cases h:o4b ps.toList with | mk X=>rw [h] at this;rw [← this,← g8b];rfl
 | buildSlice t n ps=>
  have:=parts ps.toList
  simp only [cOp,opD]
  cases h:o4b ps.toList with | mk X=>rw [h] at this;rw [← this];rfl
 | alloc t=>
  simp only [cOp,opD]
  cases hz:i3a P t with
  | none=>rfl
  | some z=>
   simp only
   cases hs:z.cells.all b3a<;>rfl
 | call c=>
  obtain ⟨callee,as_,ats⟩:=c
  cases callee with
  | builtin b=>
   have:=args as_.toList
   simp only [cOp,opD]
   cases h:k1c as_.toList with | mk X=>rw [h] at this;rw [← this];rfl
  | value x=>rfl
  | invoke r m=>rfl
 | _=>rfl
def y8e (f r i:Nat) (dst:Option Tmp) (G:KF) (ih:IH) (fl:Nat) (ρ:T) (x:R2):RO:=
 match x with
 | .yes v H1=>G ih fl (v6c ρ dst v) H1
 | .no=>.no 2 f r i
def l5d (f r i:Nat) (dst:Option Tmp) (G:KF) (ih:IH) (fl:Nat) (ρ:T) (x:RO):RO:=
 match x with
 | .yes (.val v) H1=>G ih fl (v6c ρ dst v) H1
 | .yes (.pan d _ _) H1=>.yes (.pan d i ρ) H1
 | .no a b c d=>.no a b c d
 | _=>.no 1 f r i
def l4d (P:Program) (f r i:Nat) (dst:Option Tmp) (G:KF) (ih:IH) (fl:Nat) (ρ:T) (H:Mem) (fv:D) (args:List D):RO:=
 match fv with
 | .fn (.func h) first captured=>(match callable P h with | true=>l5d f r i dst G ih fl ρ (ih (.call h (first++args++captured)) H) | false=>.no 3 f r i)
 | _=>.no 49 f r i
def j8e (f r i:Nat) (ρ:T) (H:Mem) (d:D):RO:=match d with | .iface t v=>.yes (.pan (.iface t v) i ρ) H | _=>.no 4 f r i
def cDo (C:Cx) (f r i:Nat) (dst:Option Tmp) (op:Op) (G:KF):K1:=
 match op with
 | .call ⟨.value x,args,_⟩=>match t9a x with | .mk X=>match k1c args.toList with | .mk Y=>.mk fun ih fl ρ H=>l4d C.P f r i dst G ih fl ρ H (X ρ) (Y ρ)
 | .panic x=>(match b5a x with | true=>(match t9a x with | .mk X=>.mk fun _ _ ρ H=>j8e f r i ρ H (X ρ)) | false=>.mk fun _ _ _ _=>.no 4 f r i)
 | op=>
  match t1e C.hs.own f r i || t1e C.hs.low f r i with
  | true=>.mk fun ih fl ρ H=>y8e f r i dst G ih fl ρ (ofO (opE C f r i ρ op H))
  | false=>match cOp C.P op with | .mk F=>.mk fun ih fl ρ H=>y8e f r i dst G ih fl ρ (F ρ H)
def k0e (f r i:Nat) (w:Option Bool) (a b:RO):RO:=match w with | some true=>a | some false=>b | none=>.no 6 f r i
def p5e (C:Cx) (f r sz:Nat) (ops:Array Oper) (i:Nat) (o:Oper) (G:KF):K1:=
 match j8b sz o.dst&&o.op.operands.toList.all b5a with
 | false=>.mk fun _ _ _ _=>.no 5 f r i
 | true=>
  match o.guard with
  | none=>cDo C f r i o.dst o.op G
  | some x=>match cDo C f r i o.dst o.op G with | .mk F=>.mk fun ih fl ρ H=>k0e f r i (q0c ops ρ (some x)) (F ih fl ρ H) (G ih fl (v6c ρ o.dst j1a) H)
def c3e (C:Cx) (f r sz:Nat) (ops:Array Oper):Nat→List Oper→K1
 | _,[]=>.mk fun _ _ ρ H=>.yes (.env ρ) H
 | i,o::os=>match c3e C f r sz ops (i+1) os with | .mk G=>p5e C f r sz ops i o G
def kGc (F:KF) (ih:IH) (fl:Nat) (x:Option (T×Mem)) (ρ:T) (H:Mem):RO:=match x with | some (ρ',H')=>F ih fl ρ' H' | none=>F ih fl ρ H
def i1b (C:Cx) (f sz id:Nat) (ops:Array Oper) (d:Bool):K1:=
 match d with
 | false=>match c3e C f id sz ops 0 ops.toList with | .mk F=>.mk fun ih fl ρ H=>u8e f id (F ih fl ρ H)
 | true=>
  match hintOf C.hs.open_ f id with
  | none=>(match i0a ops [] with | true=>(match c3e C f id sz ops 0 ops.toList with | .mk F=>.mk fun ih fl ρ H=>l6d C ih f id fl sz ops ρ H (F ih fl ρ H)) | false=>.mk fun _ _ _ _=>.no 27 f id 0)
  | some x=>(match p6d C.P ops x with | true=>.mk fun ih fl ρ H=>l7d C ih f id fl sz ops x.2.1 ρ H (ih (.p7d ⟨f,id,fl,sz,ops,x.1⟩ 0 ops.toList ρ) H) | false=>.mk fun _ _ _ _=>.no 28 f id 0)
def r5c (C:Cx) (f sz id:Nat) (ops:Array Oper) (d:Bool):K1:=
 match j1f C.hs.gcs f id with
 | none=>i1b C f sz id ops d
 | some _=>match i1b C f sz id ops d with | .mk F=>.mk fun ih fl ρ H=>kGc F ih fl (x2d C f fl id ρ H) ρ H
def j9e (f:Nat) (G:KF) (ih:IH) (fl:Nat) (r:RO):RO:=
 match r with
 | .yes (.exit .normal ρ1) H1=>G ih fl ρ1 H1
 | .yes (.exit e ρ1) H1=>.yes (.exit e ρ1) H1
 | .yes (.v0a d ρ1) H1=>.yes (.v0a d ρ1) H1
 | .no a b c d=>.no a b c d
 | _=>.no 14 f 0 0
def j5e (f:Nat) (d:D) (a b:RO):RO:=match d with | .bool true=>a | .bool false=>b | _=>.no 30 f 0 0
def u7a (C:Cx) (f sz:Nat):Code→K1
 | .skip=>.mk fun _ _ ρ H=>.yes (.exit .normal ρ) H
 | .exit id=>(match Nat.beq id PAN with | true=>.mk fun _ _ _ _=>.no 29 f 0 0 | false=>.mk fun _ _ ρ H=>.yes (.exit (.exit id) ρ) H)
 | .ret=>.mk fun _ _ ρ H=>.yes (.exit .ret ρ) H
 | .seq c d=>match u7a C f sz c with | .mk F=>match u7a C f sz d with | .mk G=>.mk fun ih fl ρ H=>j9e f G ih fl (F ih fl ρ H)
 | .cond x a b=>(match b5a x with
  | true=>(match t9a x with | .mk X=>match u7a C f sz a with | .mk F=>match u7a C f sz b with | .mk G=>.mk fun ih fl ρ H=>j5e f (X ρ) (F ih fl ρ H) (G ih fl ρ H))
  | false=>.mk fun _ _ _ _=>.no 30 f 0 0)
 | .block id c=>(match Nat.beq id PAN with | true=>.mk fun _ _ _ _=>.no 29 f 0 0 | false=>match u7a C f sz c with | .mk F=>.mk fun ih fl ρ H=>l2d f id (F ih fl ρ H))
 | .loop c=>match u7a C f sz c with | .mk F=>.mk fun ih fl ρ H=>j7e ih f fl sz c (F ih fl ρ H)
 | .region id ops d=>r5c C f sz id ops d
 | _=>.mk fun _ _ _ _=>.no 31 f 0 0
inductive C1 where
 | no
 | mk (fn:Func) (d:Bool) (c:Code) (F:KF)
def p3e (C:Cx) (f:FuncId):C1:=
 match C.P.funcs[f]? with
 | none=>.no
 | some fn=>match fn.body with
  | none=>.no
  | some c=>match u7a C f fn.ntmps c with | .mk F=>.mk fn (C.hs.defers.contains f) c F
def d2c (C:Cx) (ih:IH) (f:FuncId) (args:List D) (H:Mem):RO:=
 match p3e C f with
 | .no=>.no 45 f 0 0
 | .mk fn d c F=>
  match decide (args.length≤fn.ntmps),d with
  | true,false=>z0e C ih f fn H (y3d f (F ih H.length (q1b 0 args .e) H))
  | true,true=>z0e C ih f fn H (ih (.o6b f H.length fn.ntmps c (q1b 0 args .e)) H)
  | _,_=>.no 47 f 0 0
def p2c (C:Cx) (ih:IH) (f:FuncId) (args:List D) (H:Mem):RO:=
 match C.hs.lib f args H with
 | some (v,H1)=>.yes (.val v) H1
 | none=>d2c C ih f args H
def m3e (C:Cx) (ih:IH) (j:EJ) (H:Mem):RO:=
 match j with
 | .code f fl sz c ρ=>(match u7a C f sz c with | .mk F=>F ih fl ρ H)
 | .call f args=>p2c C ih f args H
 | .ops g i os ρ=>w4c C ih g i os ρ H
 | .p7d g i os ρ=>i5c C ih g i os ρ H
 | .o6b f fl sz c ρ=>i4c C ih f fl sz c ρ H
end
noncomputable def h5f (C:Cx) (n:Nat):IH:=Nat.rec (motive:=fun _=>IH) (fun _ _=>.no 0 0 0 0) (fun _ ih=>m3e C ih) n
section
variable {C:Cx} {orc:c3a} {ih:IH} (hs:Snd C.P orc ih)
theorem o7d {x:Option (D×Mem)} {v:D} {H:Mem} (h:ofO x = .yes v H):x=some (v,H):=by
 cases x with
 | none=>cases h
 | some y=>obtain ⟨a,b⟩:=y;cases h;rfl
theorem l9d {g:Rg} {i:Nat} {os:List Oper} {dst:Option Tmp} {op:Op} {ty:TypeId} {pos:String} {after:Array Edge} {gd:Option (Nat×Bool)} {ρ:T} {H H':Mem} {out:EO} {G:KF} {x:R2}
  (hG : ∀ ρ1 H1 out H',G ih g.fl ρ1 H1 = .yes out H'→RM C.P orc (.ops g (i+1) os ρ1) H1 out H') (ho:a6c g.sz dst op=true) (hg:v9a g.ops (env ρ) gd=true)
  (hx : ∀ v H1,x = .yes v H1→opM C.P (env ρ) op H v H1) (h:y8e g.f g.r i dst G ih g.fl ρ x = .yes out H'):RM C.P orc (.ops g i (⟨dst,op,ty,pos,after,gd⟩::os) ρ) H out H':=by
 unfold y8e at h
 split at h
 ·rename_i v H1
  have hop:=hx _ _ rfl
  have:=hG _ _ _ _ h
  cases out<;>first | trivial | skip
  ·exact fun k Q hk=>GoR.oX ho hg hop (by rw [← j6a];exact this k Q hk)
  ·exact fun k Q hk=>GoP.oX ho hg hop (by rw [← j6a];exact this k Q hk)
 ·cases h
include hs
theorem c2e {g:Rg} {i:Nat} {os:List Oper} {dst:Option Tmp} {op:Op} {ty:TypeId} {pos:String} {after:Array Edge} {gd:Option (Nat×Bool)} {ρ:T} {H H':Mem} {out:EO} {G:KF}
  (hG : ∀ ρ1 H1 out H',G ih g.fl ρ1 H1 = .yes out H'→RM C.P orc (.ops g (i+1) os ρ1) H1 out H') (ho:a6c g.sz dst op=true) (hg:v9a g.ops (env ρ) gd=true)
  (h:(cDo C g.f g.r i dst op G).run ih g.fl ρ H = .yes out H'):RM C.P orc (.ops g i (⟨dst,op,ty,pos,after,gd⟩::os) ρ) H out H':=by
 unfold cDo at h
 split at h
 ·rename_i x args ats
  have h1:=l3b x ρ
  have h2:=e5c args.toList ρ
  cases hx:t9a x with | mk X=>cases hy:k1c args.toList with | mk Y=>
  rw [hx] at h1;rw [hy] at h2
  rw [hx,hy] at h
  change l4d C.P g.f g.r i dst G ih g.fl ρ H (X ρ) (Y ρ)=_ at h
  unfold l4d at h
  split at h
  ·rename_i f first captured hf
   have ht:h0a (env ρ) (.call ⟨.value x,args,ats⟩)=some (f,first++Y ρ++captured):=by
    have e1:d1a (env ρ) x = .fn (.func f) first captured:=by rw [← h1];exact hf
    have e2:args.toList.map (d1a (env ρ))=Y ρ:=h2.symm
    simp only [h0a,e1,e2]
   split at h
   ·rename_i hc
    unfold l5d at h
    split at h
    ·rename_i v H1 e
     have hcall:a3a C.P orc f (first++Y ρ++captured) H fun d' S'=>d'=v∧S'=H1:=hs e
     have:=hG _ _ _ _ h
     cases out<;>first | trivial | skip
     ·exact fun k Q hk=>GoR.c (q9a hc) ho hg ht (hcall.mono fun v' S' ⟨h1,h2⟩=>by subst h1;subst h2;rw [← j6a];exact this k Q hk)
     ·exact fun k Q hk=>GoP.c (q9a hc) ho hg ht (hcall.mono fun v' S' ⟨h1,h2⟩=>by subst h1;subst h2;rw [← j6a];exact this k Q hk)
    ·rename_i d j ρ1 H1 e
     cases h
     exact fun k Q hk=>GoP.cX (q9a hc) ho hg ht (hs e) hk
    ·cases h
    ·cases h
   ·cases h
  ·cases h
 ·rename_i x
  split at h
  ·rename_i hk
   have h1:=l3b x ρ
   cases hx:t9a x with | mk X=>
   rw [hx] at h1 h
   change j8e g.f g.r i ρ H (X ρ)=_ at h
   unfold j8e at h
   split at h
   ·rename_i t v e
    cases h
    have e1:d1a (env ρ) x = .iface t v:=by rw [← h1];exact e
    exact fun k Q hq=>GoP.p hk hg ⟨t,v,e1⟩ (by rw [e1];exact hq)
   ·cases h
  ·cases h
 ·split at h
  ·exact l9d hG ho hg (fun v H1 e=>p2d (o7d e)) h
  ·have h1:=p4e C.P op ρ H
   cases hF:cOp C.P op with | mk F=>
   rw [hF] at h1 h
   refine l9d hG ho hg (fun v H1 e=>.inl (o7d ?_)) h
   rw [← h1]
   exact e
theorem i0d {f r fl sz:Nat} {ops:Array Oper} : ∀ (os:List Oper) (i:Nat) {ρ:T} {H H':Mem} {out:EO},(c3e C f r sz ops i os).run ih fl ρ H = .yes out H'→RM C.P orc (.ops ⟨f,r,fl,sz,ops,[]⟩ i os ρ) H out H'
 | [],i,ρ,H,H',out,h=>by
  cases h
  exact fun k Q hk=>.nil hk
 | o::os,i,ρ,H,H',out,h=>by
  have ihG := @i0d f r fl sz ops os (i+1)
  simp only [c3e] at h
  cases hG:c3e C f r sz ops (i+1) os with | mk G=>
  rw [hG] at h
  have hGo : ∀ ρ1 H1 out H',G ih fl ρ1 H1 = .yes out H'→RM C.P orc (.ops ⟨f,r,fl,sz,ops,[]⟩ (i+1) os ρ1) H1 out H':=fun ρ1 H1 out H' e=>ihG (by rw [hG];exact e)
  obtain ⟨dst,op,ty,pos,after,gd⟩:=o
  unfold p5e at h
  split at h
  ·cases h
  ·rename_i hok
   cases gd with
   | none=>exact c2e hs (g:=⟨f,r,fl,sz,ops,[]⟩) hGo hok rfl h
   | some x=>
    simp only at h
    cases hF:cDo C f r i dst op G with | mk F=>
    rw [hF] at h
    change k0e f r i (q0c ops ρ (some x)) (F ih fl ρ H) (G ih fl (v6c ρ dst j1a) H)=_ at h
    unfold k0e at h
    split at h
    ·rename_i hw
     exact c2e hs (g:=⟨f,r,fl,sz,ops,[]⟩) hGo hok (n9b hw) (by rw [hF];exact h)
    ·rename_i hw
     obtain ⟨x',b,hx,hy,hb⟩:=h7b hw
     cases hx
     have:=hGo _ _ _ _ h
     cases out<;>first | trivial | skip
     ·exact fun k Q hk=>GoR.s hok hy hb (by rw [← j6a];exact this k Q hk)
     ·exact fun k Q hk=>GoP.s hok hy hb (by rw [← j6a];exact this k Q hk)
    ·cases h
theorem f5b (hm:C.P.follows .mixedOrders=true) {f fl sz id:Nat} {ops:Array Oper} {d:Bool} {ρ:T} {H H':Mem} {out:EO} (h:(i1b C f sz id ops d).run ih fl ρ H = .yes out H'):RM C.P orc (.code f fl sz (.region id ops d) ρ) H out H':=by
 have key := @i0d C orc ih hs f id fl sz ops ops.toList 0
 unfold i1b at h
 split at h
 ·cases hF:c3e C f id sz ops 0 ops.toList with | mk F=>
  rw [hF] at h
  change u8e f id (F ih fl ρ H)=_ at h
  unfold u8e at h
  split at h
  ·rename_i ρ1 H1 e
   cases h
   have:=key (ρ:=ρ) (H:=H) (by rw [hF];exact e)
   exact fun k Q hk=>Go.rg (l:=ops.toList) (this k Q hk)
  ·rename_i d' j ρ1 H1 e
   cases h
   have:=key (ρ:=ρ) (H:=H) (by rw [hF];exact e)
   exact fun k Q hk=>Go.rgP (l:=ops.toList) (this k Q hk)
  ·cases h
  ·cases h
 ·split at h
  ·split at h
   ·rename_i hd
    cases hF:c3e C f id sz ops 0 ops.toList with | mk F=>
    rw [hF] at h
    change l6d C ih f id fl sz ops ρ H (F ih fl ρ H)=_ at h
    unfold l6d at h
    split at h
    ·rename_i ρ1 H1 e
     cases h
     have:=key (ρ:=ρ) (H:=H) (by rw [hF];exact e)
     exact fun k Q hk=>Go.rgS (l:=ops.toList) hm hd (this k Q hk)
    ·exact t8c hs hm h
    ·cases h
    ·cases h
   ·cases h
  ·rename_i x hx
   split at h
   ·rename_i hd
    refine a9c hs hm (d:=true) ?_
    unfold h5b
    rw [hx]
    simp only [hd]
    exact h
   ·cases h
theorem c3d (hm:C.P.follows .mixedOrders=true) {f fl sz id:Nat} {ops:Array Oper} {d:Bool} {ρ:T} {H H':Mem} {out:EO} (h:(r5c C f sz id ops d).run ih fl ρ H = .yes out H'):RM C.P orc (.code f fl sz (.region id ops d) ρ) H out H':=by
 unfold r5c at h
 split at h
 ·exact f5b hs hm h
 ·cases hF:i1b C f sz id ops d with | mk F=>
  rw [hF] at h
  change kGc F ih fl (x2d C f fl id ρ H) ρ H=_ at h
  unfold kGc at h
  split at h
  ·rename_i ρ1 H1 hg
   have:=f5b hs hm (fl:=fl) (ρ:=ρ1) (H:=H1) (by rw [hF];exact h)
   cases out<;>first | trivial | skip
   ·exact fun k Q hk=>z0c hg (this k Q hk)
   ·exact fun k Q hk=>z0c hg (this k Q hk)
  ·exact f5b hs hm (by rw [hF];exact h)
theorem e6c (hm:C.P.follows .mixedOrders=true) {f sz:Nat} : ∀ (c:Code) {fl:Nat} {ρ:T} {H H':Mem} {out:EO},(u7a C f sz c).run ih fl ρ H = .yes out H'→RM C.P orc (.code f fl sz c ρ) H out H':=by
 intro c
 induction c with
 | skip=>intro fl ρ H H' out h;cases h;exact fun k Q hk=>Go.skip hk
 | ret=>intro fl ρ H H' out h;cases h;exact fun k Q hk=>⟨_,_,_,.ret,hk⟩
 | exit id=>
  intro fl ρ H H' out h
  simp only [u7a] at h
  split at h
  ·cases h
  ·rename_i hp
   cases h
   exact fun k Q hk=>Go.exit hk (Nat.ne_of_beq_eq_false hp)
 | seq c d ihc ihd=>
  intro fl ρ H H' out h
  simp only [u7a] at h
  cases hF:u7a C f sz c with | mk F=>cases hG:u7a C f sz d with | mk G=>
  rw [hF,hG] at h
  change j9e f G ih fl (F ih fl ρ H)=_ at h
  have hc : ∀ o H1,F ih fl ρ H = .yes o H1→RM C.P orc (.code f fl sz c ρ) H o H1:=fun o H1 e=>ihc (by rw [hF];exact e)
  unfold j9e at h
  split at h
  ·rename_i ρ1 H1 e
   have h1:=hc _ _ e
   have h2:=ihd (fl:=fl) (ρ:=ρ1) (H:=H1) (by rw [hG];exact h)
   cases out<;>first | trivial | skip
   ·exact fun k Q hk=>Go.seq (h1 _ Q (h2 k Q hk))
   ·exact fun k Q hk=>Go.seq (h1 _ Q (h2 k Q hk))
  ·rename_i e ρ1 H1 hne e2
   cases h
   have h1:=hc _ _ e2
   cases e with
   | normal=>exfalso;first | exact hne rfl | exact hne _ rfl | exact hne _ _ rfl | exact hne e2 | exact hne _ e2 | exact hne _ _ e2
   | exit id=>exact fun k Q hk=>Go.seq (h1 _ Q hk)
   | ret=>exact fun k Q hk=>Go.seq (h1 _ Q hk)
  ·rename_i d' ρ1 H1 e
   cases h
   exact fun k Q hk=>Go.seq (hc _ _ e _ Q hk)
  ·cases h
  ·cases h
 | cond x a b iha ihb=>
  intro fl ρ H H' out h
  simp only [u7a] at h
  split at h
  ·rename_i hk1
   have h1:=l3b x ρ
   cases hX:t9a x with | mk X=>cases hF:u7a C f sz a with | mk F=>cases hG:u7a C f sz b with | mk G=>
   rw [hX,hF,hG] at h
   rw [hX] at h1
   change j5e f (X ρ) (F ih fl ρ H) (G ih fl ρ H)=_ at h
   unfold j5e at h
   split at h
   ·rename_i e
    have hv:d1a (env ρ) x = .bool true:=by rw [← h1];exact e
    have:=iha (fl:=fl) (ρ:=ρ) (H:=H) (by rw [hF];exact h)
    cases out<;>first | trivial | skip
    ·exact fun k Q hk=>Go.cond hk1 hv (this k Q hk)
    ·exact fun k Q hk=>Go.cond hk1 hv (this k Q hk)
   ·rename_i e
    have hv:d1a (env ρ) x = .bool false:=by rw [← h1];exact e
    have:=ihb (fl:=fl) (ρ:=ρ) (H:=H) (by rw [hG];exact h)
    cases out<;>first | trivial | skip
    ·exact fun k Q hk=>Go.cond hk1 hv (this k Q hk)
    ·exact fun k Q hk=>Go.cond hk1 hv (this k Q hk)
   ·cases h
  ·cases h
 | block id c ihc=>
  intro fl ρ H H' out h
  simp only [u7a] at h
  split at h
  ·cases h
  ·rename_i hp
   cases hF:u7a C f sz c with | mk F=>
   rw [hF] at h
   exact l3d (Nat.ne_of_beq_eq_false hp) (fun o H1 e=>ihc (by rw [hF];exact e)) h
 | loop c ihc=>
  intro fl ρ H H' out h
  simp only [u7a] at h
  cases hF:u7a C f sz c with | mk F=>
  rw [hF] at h
  exact y4d hs (fun o H1 e=>ihc (by rw [hF];exact e)) h
 | region id ops d=>intro fl ρ H H' out h;exact c3d hs hm h
 | _=>intro fl ρ H H' out h;cases h
theorem b0e (hm:C.P.follows .mixedOrders=true) (d5e : ∀ f args H v H1,C.hs.lib f args H=some (v,H1)→a3a C.P orc f args H fun d' S'=>d'=v∧S'=H1):Snd C.P orc (m3e C ih):=by
 intro j H out H' h
 unfold m3e at h
 split at h
 ·rename_i f fl sz c ρ
  cases hF:u7a C f sz c with | mk F=>
  rw [hF] at h
  exact e6c hs hm c (by rw [hF];exact h)
 ·rename_i f args
  unfold p2c at h
  split at h
  ·rename_i v H1 e
   cases h
   exact d5e _ _ _ _ _ e
  ·unfold d2c at h
   split at h
   ·cases h
   ·rename_i fn d c F hcall
    unfold p3e at hcall
    split at hcall
    ·cases hcall
    ·rename_i fn' hf
     split at hcall
     ·cases hcall
     ·rename_i c' hb
      cases hG:u7a C f fn'.ntmps c' with | mk G=>
      rw [hG] at hcall
      cases hcall
      split at h
      ·rename_i ha hd
       refine m0d hs hf hb ha (fun o H1 e => ?_) (fun e ρ1 g vs H1 e2 => ?_) (fun d ρ1 g vs H1 e2 => ?_) h
       ·obtain ⟨e',ρ1,h1,rfl⟩ | ⟨d,ρ1,h1,rfl⟩:=r3b e
        ·exact .inl (e6c hs hm c (by rw [hG];exact h1))
        ·exact .inl (e6c hs hm c (by rw [hG];exact h1))
       ·obtain ⟨e',ρ1,h1,h2⟩ | ⟨d,ρ1,h1,h2⟩:=r3b e2<;>cases h2
       ·obtain ⟨e',ρ1,h1,h2⟩ | ⟨d,ρ1,h1,h2⟩:=r3b e2<;>cases h2
      ·rename_i ha hd
       exact m0d hs hf hb ha (fun o H1 e=>.inr (hs e)) (fun e ρ1 g vs H1 e2=>hs e2) (fun d ρ1 g vs H1 e2=>hs e2) h
      ·cases h
 ·exact f4d hs h
 ·exact w5c hs h
 ·exact w3c hs h
end
section
variable {C:Cx} {orc:c3a}
theorem c9c (hm:C.P.follows .mixedOrders=true) (d5e : ∀ f args H v H1,C.hs.lib f args H=some (v,H1)→a3a C.P orc f args H fun d' S'=>d'=v∧S'=H1) : ∀ n,Snd C.P orc (h5f C n)
 | 0=>fun h=>by cases h
 | n+1=>b0e (c9c hm d5e n) hm d5e
theorem a3a.h6f (hm:C.P.follows .mixedOrders=true) (d5e : ∀ f args H v H1,C.hs.lib f args H=some (v,H1)→a3a C.P orc f args H fun d' S'=>d'=v∧S'=H1) (n:Nat) {f:FuncId} {args:List D} {H H':Mem} {d:D} (h:h5f C n (.call f args) H = .yes (.val d) H') :
  a3a C.P orc f args H fun d' S'=>d'=d∧S'=H':=c9c hm d5e n h
theorem a3a.a3e (hm:C.P.follows .mixedOrders=true) (d5e : ∀ f args H v H1,C.hs.lib f args H=some (v,H1)→a3a C.P orc f args H fun d' S'=>d'=v∧S'=H1) (n:Nat) {f:FuncId} {args:List D} (h:isTrue (h5f C n (.call f args) [])=true) :
  a3a C.P orc f args [] fun d S'=>S'=[]∧d = .bool true:=by
 unfold isTrue at h
 split at h
 ·rename_i H1 hr
  exact a3a.drop ((a3a.h6f hm d5e n hr).mono fun d' S' ⟨h1,h2⟩=>⟨.bool true,S',by simp,by subst h1;exact .of_low (.bool _),rfl⟩)
 ·cases h
end
end Go.DM
