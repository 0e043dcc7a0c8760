/- An abstract machine over Go's operations: every single operation is sound. -/
import Derived.Test.YtcdijoaabbjioaaGreatDoorAmAx
import Derived.Orders
import Derived.Laws.Strings
import Derived.ProofKit
set_option linter.unusedSimpArgs false
set_option linter.unusedVariables false
namespace Go.AM
open Go
theorem f2d {P:Program} {base φ H w} (hs:Sim φ H w) {at_:Array TypeId} {ty:TypeId} {d s d' s' v:Value} {H':Heap} (h:h4e P base at_ d s H=some (v,H')) (hdr:h3a H.length φ d d') (hsr:h3a H.length φ s s') :
  Sound P base φ H w (Builtin.copy_ at_ ty #[d',s']) v H':=by
 simp only [h4e,Option.bind_eq_bind] at h
 cases h0:at_[0]? with
 | none=>simp [h0] at h
 | some dt=>
 cases hu:P.underlying dt with
 | none=>simp [h0,hu] at h
 | some d0=>
 cases d0<;>try (simp [h0,hu] at h;done)
 rename_i e
 simp only [h0,hu,Option.bind_some] at h
 cases hi:P.info? e with
 | none=>simp [hi,f3a] at h
 | some info=>
 have hszA:f3a P e=some info.size:=by simp [f3a,hi]
 simp only [hszA,Option.bind_some] at h
 cases d<;>try (simp at h;done)
 rename_i a dl dc
 simp only at h
 cases hn:m7d s with
 | none=>simp [hn] at h
 | some m=>
 simp only [hn,Option.bind_some] at h
 cases hf:s0a H info.size (Nat.min m dl) s with
 | none=>simp [hf] at h
 | some new=>
 simp only [hf,Option.bind_some] at h
 have hnr:=o6c (P:=P) hn hsr w
 obtain ⟨new',hnew,hfr⟩:=x6b (P:=P) hs hf hsr hn (Nat.min_le_left _ _)
 have head : ∀ (a':Option Addr) (c:Nat) (w':World),(∀ b,a'=some b→(storeCells b new').run P w = .ok () w')→(a'=none→w'=w) →
   (Builtin.copy_ at_ ty #[.slice a' dl c,s']).run P w = .ok (.int .i64 (Nat.min m dl)) w':=by
  intro a' c w' h1 h2
  cases a' with
  | none=>
   obtain rfl:=h2 rfl
   simp [Builtin.copy_,h0,c4a hu,sizeOf,typeInfo,hi,hnr,hfr,goInt]
  | some b=>simp [Builtin.copy_,h0,c4a hu,sizeOf,typeInfo,hi,hnr,hfr,goInt,h1 b rfl]
 split at h
 ·rename_i he
  simp only [Option.some.injEq,Prod.mk.injEq] at h
  obtain ⟨rfl,rfl⟩:=h
  subst he
  have:new'=[]:=List.eq_nil_of_length_eq_zero hnew.1.symm
  subst this
  cases hdr<;>exact .pure hs (head _ _ w (fun _ _=>rfl) (fun _=>rfl)) (.int _ _)
 ·rename_i he
  cases a with
  | none=>simp at h
  | some a=>
   simp only at h
   cases hw:x4a base a new H with
   | none=>simp [hw] at h
   | some H1=>
    simp only [hw,Option.bind_some,Option.some.injEq,Prod.mk.injEq] at h
    obtain ⟨rfl,rfl⟩:=h
    obtain ⟨w',hwr,hst⟩:=d3b (P:=P) hs hw hnew
    cases hdr with
    | sl hd' o _ _ c hh hl hm hff=>exact ⟨_,w',φ,head _ c w' (fun b hb=>by cases hb;exact hwr) (fun hb=>by cases hb),hst,.int _ _⟩
    | e1b _ _ b hhn=>
     have hm0:Nat.min m 0=0:=Nat.min_eq_right (Nat.zero_le _)
     rw [hm0] at hf
     exfalso
     apply he
     cases s<;>simp only [s0a] at hf<;>try (cases hf;done)
     ·cases hf;simp
     ·rename_i q _ _
      cases q with
      | none=>simp only [s0a] at hf;cases hf;rfl
      | some q=>simp only [s0a] at hf;simpa using hf.symm
    | q5a b=>simp [x4a,v0b] at hw
theorem v9c {P:Program} {base φ H w} (hs:Sim φ H w) {at_:Array TypeId} {ty:TypeId} {d d' v:Value} {H':Heap} (h:i2d P base at_ d H=some (v,H')) (hdr:h3a H.length φ d d') :
  Sound P base φ H w (Builtin.clear_ at_ ty #[d']) v H':=by
 simp only [i2d,Option.bind_eq_bind] at h
 cases h0:at_[0]? with
 | none=>simp [h0] at h
 | some dt=>
 cases hu:P.underlying dt with
 | none=>simp [h0,hu] at h
 | some d0=>
 cases d0<;>try (simp [h0,hu] at h;done)
 rename_i e
 simp only [h0,hu,Option.bind_some] at h
 cases hz:i3a P e with
 | none=>simp [hz] at h
 | some z=>
 simp only [hz,Option.bind_some] at h
 cases d<;>try (simp at h;done)
 rename_i a n dc
 simp only at h
 split at h
 ·cases h
 rename_i hsc
 have hsc:z.cells.all b3a=true:=by simpa using hsc
 split at h
 ·rename_i hn
  subst hn
  simp only [Option.some.injEq,Prod.mk.injEq] at h
  obtain ⟨rfl,rfl⟩:=h
  cases hdr<;>exact .pure hs (v':=.tuple #[]) (by simp [Builtin.clear_,h0,c4a hu]) .undef
 ·rename_i hn
  cases a with
  | none=>simp at h
  | some a=>
   simp only at h
   cases hw:x4a base a (Builtin.zeroCells z.cells n).toList H with
   | none=>simp [hw] at h
   | some H1=>
    simp only [hw,Option.bind_some,Option.some.injEq,Prod.mk.injEq] at h
    obtain ⟨rfl,rfl⟩:=h
    obtain ⟨w',hwr,hst⟩:=d3b (P:=P) hs hw (w8b hsc _)
    cases hdr with
    | sl hd' o _ _ c hh hl hm hff=>
     refine ⟨.tuple #[],w',φ,?_,hst,.undef⟩
     have o4f:(storeCells ⟨(φ hd').B,(φ hd').base+o,none⟩ (Builtin.zeroCells z.cells n).toList).run P w = .ok () w':=hwr
     simp [Builtin.clear_,h0,c4a hu,x1a hz,o4f]
    | e1b _ _ b hhn=>exact absurd rfl hn
    | q5a b=>exact absurd rfl hn
theorem c6a {P:Program} {base φ H w} {s:Sem Value} {v:Value} {H':Heap} (h:Sound P base φ H w s v H') {t:Sem Next} (ht:t=(do pure (.value (← s)))) :
  ∃ v' w' φ' r,t.run P w = .ok r w'∧(r = .value v'∨(r = .skip∧v'=undef))∧Step base φ H w φ' H' w'∧h3a H'.length φ' v v':=by
 obtain ⟨v',w',φ',h1,h2,h3⟩:=h
 exact ⟨v',w',φ',.value v',by rw [ht];simp [h1],.inl rfl,h2,h3⟩
theorem x4c {ρ:Env} {a:Act} {n φ sz} (he:q8c n φ sz ρ a) {args:Array Operand} (hc:args.toList.all b5a=true):j5a n φ (args.toList.map (d0a ρ)) (args.map a.eval).toList:=by
 refine ⟨by simp,fun i v v' hv hv' => ?_⟩
 simp only [Array.toList_map,List.getElem?_map,Option.map_eq_some_iff] at hv hv'
 obtain ⟨x,hx,rfl⟩:=hv
 obtain ⟨x',hx',rfl⟩:=hv'
 rw [hx] at hx'
 cases hx'
 exact he.eval (List.all_eq_true.1 hc x (List.mem_of_getElem? hx))
theorem i1c {P:Program} {base φ H w} (hs:Sim φ H w) {b:Builtin} {at_:Array TypeId} {ty:TypeId} {cs:Array Bool} {args:List Value} {args':Array Value} {v:Value} {H':Heap} (h:g1a P base b at_ args H=some (v,H')) (hr:j5a H.length φ args args'.toList) :
  ∃ v' w' φ' r,(builtin b at_ ty cs args').run P w = .ok r w'∧(r = .value v'∨(r = .skip∧v'=undef))∧Step base φ H w φ' H' w'∧h3a H'.length φ' v v':=by
 have one : ∀ {x},args=[x] → ∃ x',args' = #[x']∧h3a H.length φ x x':=by
  intro x hx
  subst hx
  obtain ⟨l⟩:=args'
  cases l with
  | nil=>simp [j5a] at hr
  | cons y r=>
   cases r with
   | nil=>exact ⟨y,rfl,hr.head⟩
   | cons _ _=>simp [j5a] at hr
 have two : ∀ {x y},args=[x,y] → ∃ x' y',args' = #[x',y']∧h3a H.length φ x x'∧h3a H.length φ y y':=by
  intro x y hx
  subst hx
  obtain ⟨l⟩:=args'
  cases l with
  | nil=>simp [j5a] at hr
  | cons x' r=>
   cases r with
   | nil=>simp [j5a] at hr
   | cons y' r=>
    cases r with
    | nil=>exact ⟨x',y',rfl,hr.head,hr.tail.head⟩
    | cons _ _=>simp [j5a] at hr
 unfold g1a at h
 split at h
 ·rename_i x
  obtain ⟨x',rfl,hx⟩:=one rfl
  split at h
  ·rename_i s hu
   cases h;cases hx
   cases ht:at_[0]? with
   | none=>simp [ht] at hu
   | some t=>
    simp [ht] at hu
    exact c6a (.pure hs (v':=.int .i64 s.size) (s:=Builtin.len_ at_ ty #[.string s]) (by simp [Builtin.len_,ht,c4a hu,goInt]) (.int _ _)) rfl
  ·rename_i _ e a n c hu
   cases h
   cases ht:at_[0]? with
   | none=>simp [ht] at hu
   | some t=>
    simp [ht] at hu
    cases hx<;>exact c6a (.pure hs (v':=.int .i64 _) (s:=Builtin.len_ at_ ty #[_]) (by simp [Builtin.len_,ht,c4a hu,goInt]) (.int _ _)) rfl
  ·cases h
 ·obtain ⟨s',x',rfl,h1,h2⟩:=two rfl
  exact c6a (p1c hs h h1 h2 (ty:=ty)) rfl
 ·obtain ⟨s',x',rfl,h1,h2⟩:=two rfl
  exact c6a (f2d hs h h1 h2 (ty:=ty)) rfl
 ·obtain ⟨d',rfl,h1⟩:=one rfl
  exact c6a (v9c hs h h1 (ty:=ty)) rfl
 ·rename_i k a k' b
  obtain ⟨s',x',rfl,h1,h2⟩:=two rfl
  cases h;cases h1;cases h2
  exact c6a (.pure hs (v':=.int k (if b>a then b else a)) (s:=Builtin.max_ at_ ty #[.int k a,.int k' b]) (by simp [Builtin.max_,Builtin.max2]) (.int _ _)) rfl
 ·rename_i k a k' b
  obtain ⟨s',x',rfl,h1,h2⟩:=two rfl
  cases h;cases h1;cases h2
  exact c6a (.pure hs (v':=.int k (if b<a then b else a)) (s:=Builtin.min_ at_ ty #[.int k a,.int k' b]) (by simp [Builtin.min_,Builtin.min2]) (.int _ _)) rfl
 ·cases h
theorem q9c.of {n φ sz ρ a} (he:q8c n φ sz ρ a) {x:Option Operand} (hx : ∀ y,x=some y→b5a y=true):q9c n φ (x.map (d0a ρ)) (x.map a.eval):=by
 cases x with
 | none=>trivial
 | some y=>exact he.eval (hx y rfl)
theorem j9b {P:Program} {base φ H w sz ρ a} (hs:Sim φ H w) (he:q8c H.length φ sz ρ a) {o:Oper} {v:Value} {H':Heap} (hc:o.op.operands.toList.all b5a=true) (h:opA P base ρ o.op H=some (v,H')) :
  ∃ v' w' φ' r,(execOp a.eval o).run P w = .ok r w'∧(r = .value v'∨(r = .skip∧v'=undef))∧Step base φ H w φ' H' w'∧h3a H'.length φ' v v':=by
 unfold opA at h
 unfold execOp
 cases ho:o.op with
 | move x=>
  simp only [ho] at h hc ⊢
  simp [Op.operands] at hc
  cases h
  exact ⟨a.eval x,w,φ,_,rfl,.inl rfl,.refl hs,he.eval hc⟩
 | assign x=>
  simp only [ho] at h hc ⊢
  simp [Op.operands] at hc
  cases h
  exact ⟨a.eval x,w,φ,_,rfl,.inl rfl,.refl hs,he.eval hc⟩
 | pick c x y=>
  simp only [ho] at h hc ⊢
  simp [Op.operands] at hc
  have hcr:=he.eval hc.1
  split at h
  ·rename_i t ht
   cases h
   rw [ht] at hcr
   generalize a.eval c=c' at hcr
   cases hcr
   refine ⟨if t then a.eval x else a.eval y,w,φ,_,by simp [asBool],.inl rfl,.refl hs,?_⟩
   cases t
   ·exact he.eval hc.2.2
   ·exact he.eval hc.2.1
  ·cases h
 | alloc t=>
  simp only [ho,Option.bind_eq_bind] at h ⊢
  cases hz:i3a P t with
  | none=>simp [hz] at h
  | some z=>
   simp only [hz,Option.bind_some] at h
   split at h
   ·rename_i hsc
    cases h
    exact c6a (v7c hs hz hsc) rfl
   ·cases h
 | box t x=>
  simp only [ho] at h hc ⊢
  simp [Op.operands] at hc
  cases h
  exact c6a (s0d hs (he.eval hc)) rfl
 | build t ps=>
  simp only [ho] at h hc ⊢
  simp only [Option.map_eq_some_iff,Prod.mk.injEq] at h
  obtain ⟨u,hu,rfl,rfl⟩:=h
  refine c6a (v8c hs ?_ hu) rfl
  have:=r1c.of_map he ps.toList (by simp [Op.operands] at hc ⊢;exact hc)
  simpa using this
 | buildSlice t n ps=>
  simp only [ho] at h hc ⊢
  refine c6a (q5b hs ?_ h) rfl
  have:=r1c.of_map he ps.toList (by simp [Op.operands] at hc ⊢;exact hc)
  simpa using this
 | load t x=>
  simp only [ho] at h hc ⊢
  simp [Op.operands] at hc
  simp only [Option.map_eq_some_iff,Prod.mk.injEq] at h
  obtain ⟨u,hu,rfl,rfl⟩:=h
  obtain ⟨v',a',hx,hr,hv⟩:=p6b (P:=P) hs hu (he.eval hc)
  exact c6a (.pure hs (s:=Instr.loadAt t (a.eval x)) (by rw [hx];simp [Instr.loadAt,Instr.sureAddr,hr]) hv) rfl
 | store t x y=>
  simp only [ho] at h hc ⊢
  simp [Op.operands] at hc
  simp only [Option.map_eq_some_iff,Prod.mk.injEq] at h
  obtain ⟨H1,hu,rfl,rfl⟩:=h
  obtain ⟨w',a',hx,hr,hst⟩:=h5c (P:=P) hs hu (he.eval hc.1) (he.eval hc.2)
  exact ⟨undef,w',φ,.skip,by rw [hx];simp [Instr.storeAt,Instr.sureAddr,hr],.inr ⟨rfl,rfl⟩,hst,.undef⟩
 | nilCheck x=>
  simp only [ho] at h hc ⊢
  simp [Op.operands] at hc
  have hx:=he.eval hc
  split at h
  ·rename_i p hp
   cases h
   rw [hp] at hx
   generalize a.eval x=x' at hx ⊢
   cases hx with
   | ptr hh o hn=>exact ⟨_,w,φ,_,rfl,.inl rfl,.refl hs,.ptr hh o hn⟩
  ·rename_i f b c hp
   cases h
   rw [hp] at hx
   generalize a.eval x=x' at hx ⊢
   cases hx with
   | func _ xs ys cs ds h1 h2 h3 h4=>exact ⟨_,w,φ,_,rfl,.inl rfl,.refl hs,.func _ _ _ _ _ h1 h2 h3 h4⟩
  ·cases h
 | binOp op t x y u=>
  simp only [ho] at h hc ⊢
  simp [Op.operands] at hc
  have hx:=he.eval hc.1
  have hy:=he.eval hc.2
  split at h
  ·rename_i r hr
   cases h
   have hrun:=a4e (P:=P) hr (ox:=x) (oy:=y) w
   rw [hx.n2a hrun.2.1,hy.n2a hrun.2.2.1]
   exact c6a (.pure hs hrun.1 (.scalar hrun.2.2.2)) rfl
  ·split at h
   ·rename_i b hb _
    cases h
    exact c6a (.pure hs (o7c hb hx hy (ox:=x) (oy:=y) w).1 (.bool _)) rfl
   ·rename_i b hb _
    cases h
    exact c6a (.pure hs (o7c hb hx hy (ox:=x) (oy:=y) w).2 (.bool _)) rfl
   ·simp only [Option.bind_eq_some_iff] at h
    obtain ⟨r,hr,h⟩:=h
    split at h
    ·rename_i hcl
     cases h
     unfold eqA at hr
     split at hr
     ·split at hr
      ·rename_i hcc
       simp only [Bool.and_eq_true] at hcc
       rw [hx.w2a hcc.1,hy.w2a hcc.2]
       exact c6a (.pure hs (m0a _ hr w) (.closed hcl)) rfl
      ·cases hr
     ·split at hr
      ·rename_i hcc
       simp only [Bool.and_eq_true] at hcc
       rw [hx.w2a hcc.1,hy.w2a hcc.2]
       exact c6a (.pure hs (m0a _ hr w) (.closed hcl)) rfl
      ·cases hr
     ·cases hr
    ·cases h
 | unOp op t x=>
  simp only [ho] at h hc ⊢
  simp [Op.operands] at hc
  have hx:=he.eval hc
  have fin : ∀ r,(match op,d0a ρ x with | .not,.bool b=>some (.bool !b) | .neg,.int k n=>some (.int k (k.wrap (0 - n))) | .xor,.int k n=>k3a P (Op.intBits .xor k (if k.signed then -1 else k.max) n) | _,_=>(none:Option Value))=some r →
    f8a r=true→r=v→H'=H → ∃ v' w' φ' q,Sem.run P (do pure (.value (← Op.unary op (a.eval x))):Sem Next) w = .ok q w'∧(q = .value v'∨(q = .skip∧v'=undef))∧Step base φ H w φ' H' w'∧h3a H'.length φ' v v':=by
   intro r hr hcl hrv hH
   subst hrv hH
   have hrun:=m2e hr w
   rw [hx.n2a hrun.2]
   exact c6a (.pure hs hrun.1 (.closed hcl)) rfl
  split at h
  ·rename_i b hp;cases h;exact fin _ (by rw [hp]) rfl rfl rfl
  ·rename_i k n hp;cases h;exact fin _ (by rw [hp]) rfl rfl rfl
  ·rename_i k n hp
   simp only [Option.bind_eq_some_iff] at h
   obtain ⟨r,hr,h⟩:=h
   split at h
   ·rename_i hcl
    cases h
    exact fin _ (by rw [hp];exact hr) hcl rfl rfl
   ·cases h
  ·cases h
 | convert s d x=>
  simp only [ho] at h hc ⊢
  simp [Op.operands] at hc
  exact c6a (f1d hs h (he.eval hc)) rfl
 | makeInterface t x=>
  simp only [ho] at h hc ⊢
  simp [Op.operands] at hc
  split at h
  ·cases h
  ·rename_i d hd hne
   cases h
   refine c6a (.pure hs (v':=.iface t (a.eval x)) ?_ (.iface _ _ _ (he.eval hc))) rfl
   simp only [Instr.makeInterface,Sem.run_bind,c4a hne,Result.andThen_ok]
   try (cases d<;>first | rfl | (exact absurd rfl (hd _)))
  ·cases h
 | typeAssert x st as co=>
  simp only [ho] at h hc ⊢
  simp [Op.operands] at hc
  have hx:=he.eval hc
  cases co with
  | false=>cases h
  | true=>
   simp only [Option.map_eq_some_iff] at h
   obtain ⟨v1,h,e⟩:=h
   cases e
   unfold e4c at h
   split at h
   ·cases h
   ·rename_i d hd hne
    split at h
    ·rename_i t u hu
     rw [hu] at hx
     generalize hy:a.eval x=y at hx
     cases hx with
     | iface _ _ y1 h2=>
      split at h
      ·rename_i ht
       cases h
       refine c6a (.pure hs (v':=.tuple #[y1,.bool true]) ?_ (h3a.j2c (j5a.cons h2 (j5a.cons (.closed rfl) .nil)))) rfl
       simp only [Instr.typeAssert,Sem.run_bind,c4a hne,Result.andThen_ok,hy]
       cases d<;>first | (exact absurd rfl (hd _)) | simp [ht]
      ·rename_i ht
       split at h
       ·rename_i z hz
        split at h
        ·rename_i hcl
         cases h
         refine c6a (.pure hs (v':=.tuple #[z,.bool false]) ?_ (h3a.j2c (j5a.cons (.closed hcl) (j5a.cons (.closed rfl) .nil)))) rfl
         simp only [Instr.typeAssert,Sem.run_bind,c4a hne,Result.andThen_ok,hy]
         cases d<;>first | (exact absurd rfl (hd _)) | simp [ht,x1a hz]
        ·cases h
       ·cases h
    ·cases h
   ·cases h
 | makeFunc fn f c=>
  simp only [ho] at h hc ⊢
  simp [Op.operands] at hc
  cases h
  refine c6a (.pure hs (v':=.func fn (f.map a.eval) (c.map a.eval)) rfl ?_) rfl
  refine .func _ _ _ _ _ (by simp) (fun i h1 h2 => ?_) (by simp) (fun i h1 h2 => ?_)
  ·simp at h1 ⊢
   exact he.eval (hc.1 i h1)
  ·simp at h1 ⊢
   exact he.eval (hc.2 i h1)
 | makeSlice t l c=>
  simp only [ho] at h hc ⊢
  simp [Op.operands] at hc
  exact c6a (y5b hs h (he.eval hc.1) (he.eval hc.2)) rfl
 | slice t x lo hi mx=>
  simp only [ho] at h hc ⊢
  simp only [Option.map_eq_some_iff,Prod.mk.injEq] at h
  obtain ⟨u,hu,rfl,rfl⟩:=h
  have hall:=List.all_eq_true.1 hc
  refine c6a (w2c hs hu (he.eval (hall x (by simp [Op.operands]))) (.of he fun y hy=>hall y (by subst hy;simp [Op.operands])) (.of he fun y hy=>hall y (by subst hy;simp [Op.operands])) (.of he fun y hy=>hall y (by subst hy;simp [Op.operands]))) rfl
 | fieldAddr s x f=>
  simp only [ho] at h hc ⊢
  simp [Op.operands] at hc
  simp only [Option.map_eq_some_iff,Prod.mk.injEq] at h
  obtain ⟨u,hu,rfl,rfl⟩:=h
  exact c6a (i2c hs hu (he.eval hc)) rfl
 | field s x f=>
  simp only [ho] at h hc ⊢
  simp [Op.operands] at hc
  simp only [Option.map_eq_some_iff,Prod.mk.injEq] at h
  obtain ⟨u,hu,rfl,rfl⟩:=h
  exact c6a (w0c hs hu (he.eval hc)) rfl
 | indexAddr t x i=>
  simp only [ho] at h hc ⊢
  simp [Op.operands] at hc
  simp only [Option.map_eq_some_iff,Prod.mk.injEq] at h
  obtain ⟨u,hu,rfl,rfl⟩:=h
  exact c6a (i3c hs hu (he.eval hc.1) (he.eval hc.2)) rfl
 | index t x i=>
  simp only [ho] at h hc ⊢
  simp [Op.operands] at hc
  split at h
  ·rename_i s k j hu hx hi
   split at h
   ·rename_i h0
    simp only [Option.map_eq_some_iff,Prod.mk.injEq] at h
    obtain ⟨b,hb,rfl,rfl⟩:=h
    have hxr:=he.eval hc.1
    have hir:=he.eval hc.2
    rw [hx] at hxr
    rw [hi] at hir
    rw [hxr.n2a rfl,hir.n2a rfl]
    exact c6a (w1c hs hu h0 hb) rfl
   ·cases h
  ·cases h
 | extract x i=>
  simp only [ho] at h hc ⊢
  simp [Op.operands] at hc
  split at h
  ·rename_i vs hvs
   simp only [Option.map_eq_some_iff,Prod.mk.injEq] at h
   obtain ⟨u,hu,rfl,rfl⟩:=h
   have hx:=he.eval hc
   rw [hvs] at hx
   obtain ⟨vs',v',e1,e2,e3⟩:=hx.t3d hu
   refine c6a (.pure hs (v':=v') ?_ e3) rfl
   rw [e1]
   simp [Instr.extract,e2]
  ·cases h
 | call c=>
  simp only [ho] at h hc ⊢
  obtain ⟨callee,args,at_⟩:=c
  cases callee with
  | builtin b=>
   simp only at h
   have hargs:=x4c he (args:=args) (by simp [Op.operands,Call.operands] at hc ⊢;exact hc)
   have:=fun cs=>i1c (ty:=o.type) (cs:=cs) hs h hargs
   simp only [resolve,invoke,Sem.run_bind,Sem.run_pure,Result.andThen_ok]
   exact this _
  | _=>simp at h
 | _=>simp [ho] at h
end Go.AM
namespace Go.AM
open Go
theorem t8d {n φ sz ρ a} (he:q8c n φ sz ρ a) (ops:Array Oper) (o:Oper):Region.wanted o (yielded ops a.tmps)=Region.wanted o (f5a ops ρ):=by
 have : ∀ j,yielded ops a.tmps j=f5a ops ρ j:=by
  intro j
  unfold yielded f5a
  cases hd:(ops[j]?).bind (·.dst) with
  | none=>rfl
  | some t=>
   simp only [Option.bind_some]
   have hv:=he.vals t
   rcases Nat.lt_or_ge t a.tmps.size with ht | ht
   ·have hg:a.tmps[t]?=some (a.tmps.getD t undef):=by simp [ht,Array.getD]
    rw [hg]
    generalize a.tmps.getD t undef=u at hv
    generalize ρ t=r at hv
    cases hv<;>rfl
   ·rw [Array.getElem?_eq_none ht]
    have hu:a.tmps.getD t undef=undef:=by simp [Array.getD_eq_getD_getElem?,Array.getElem?_eq_none ht]
    rw [hu] at hv
    generalize ρ t=r at hv
    unfold undef at hv
    cases hv
    rfl
 unfold Region.wanted
 cases o.guard with
 | none=>rfl
 | some g=>simp [this]
def b3d (tmps:Array Value):ResultVar→Sem Value
 | .tmp t=>pure (tmps.getD t undef)
 | .cell c t=>do loadVar t (← asAddr (tmps.getD c undef))
theorem c8c (fn:Func) (tmps:Array Value):results fn tmps=(do
  let vs ← fn.results.mapM (b3d tmps)
  pure (if h:vs.size=1 then vs[0] else .tuple vs):Sem Value):=rfl
theorem y1b {P:Program} {φ H w} (hs:Sim φ H w) {fn:Func} {sz:Nat} {ρ:Env} {a:Act} (he:q8c H.length φ sz ρ a) {v:Value} (h:d2b P fn ρ H=some v) :
  ∃ v',(results fn a.tmps).run P w = .ok v' w∧h3a H.length φ v v':=by
 have one : ∀ {r:ResultVar} {v:Value},b6b P ρ H r=some v → ∃ v',(b3d a.tmps r).run P w = .ok v' w∧h3a H.length φ v v':=by
  intro r v hr
  cases r with
  | tmp t=>simp only [b6b,Option.some.injEq] at hr;subst hr;exact ⟨_,rfl,he.vals t⟩
  | cell c t=>
   simp only [b6b] at hr
   obtain ⟨v',a',hx,hrun,hv⟩:=p6b (P:=P) hs hr (he.vals c)
   exact ⟨v',by simp only [b3d,hx,asAddr,Sem.run_bind,Sem.run_pure,Result.andThen_ok];exact hrun,hv⟩
 have many : ∀ (rs:List ResultVar) {vs:List Value},rs.mapM (b6b P ρ H)=some vs → ∃ vs',(rs.mapM (b3d a.tmps)).run P w = .ok vs' w∧j5a H.length φ vs vs':=by
  intro rs
  induction rs with
  | nil=>intro vs hv;simp at hv;subst hv;exact ⟨[],rfl,.nil⟩
  | cons r rs ih=>
   intro vs hv
   simp only [List.mapM_cons,Option.bind_eq_bind,Option.bind_eq_some_iff] at hv
   obtain ⟨u,hu,us,hus,hv⟩:=hv
   simp only [Option.pure_def,Option.some.injEq] at hv
   subst hv
   obtain ⟨u',hr,hur⟩:=one hu
   obtain ⟨us',hrs,o3f⟩:=ih hus
   exact ⟨u'::us',by simp only [List.mapM_cons,Sem.run_bind,hr,Result.andThen_ok,hrs];rfl,.cons hur o3f⟩
 unfold d2b at h
 rw [c8c,Array.mapM_eq_mapM_toList]
 split at h
 ·rename_i r hr
  obtain ⟨v',hrun,hv⟩:=one h
  refine ⟨v',?_,hv⟩
  rw [hr]
  simp only [List.mapM_cons,List.mapM_nil,Sem.run_bind,Sem.run_map,hrun,Result.andThen_ok]
  simp
 ·rename_i hne
  simp only [Option.map_eq_some_iff] at h
  obtain ⟨vs,hvs,rfl⟩:=h
  obtain ⟨vs',hrun,hv⟩:=many _ hvs
  refine ⟨.tuple vs'.toArray,?_,.j2c hv⟩
  simp only [Sem.run_bind,Sem.run_map,hrun,Result.andThen_ok]
  have hlen:vs'.length≠1:=by
   intro hl
   have hl2:vs.length=fn.results.toList.length:=by
    clear hrun hv hne
    generalize fn.results.toList=rs at hvs
    induction rs generalizing vs with
    | nil=>simp at hvs;subst hvs;rfl
    | cons r rs ih=>
     simp only [List.mapM_cons,Option.bind_eq_bind,Option.bind_eq_some_iff] at hvs
     obtain ⟨u,hu,us,hus,hv⟩:=hvs
     simp only [Option.pure_def,Option.some.injEq] at hv
     subst hv
     simp [ih us hus]
   have:fn.results.toList.length=1:=by rw [← hl2,hv.1,hl]
   obtain ⟨r,hr⟩:=List.length_eq_one_iff.1 this
   exact hne r hr
  simp [hlen]
def b1c (P:Program) (c:Code) (Q:Exit→Act→World→Prop) (a:Act) (w:World):Prop:=
 ∀ (b:Frame) (k:List Item) (cs:List Frame),∃ e a' w',Q e a' w'∧Arrives P (lone (b.at a (.code c :: .inLoop c::k)) cs w) b k cs e a' w'
def wpL (P:Program) (c:Code) (Q:Exit→Act→World→Prop) (a:Act) (w:World):Prop:=
 match c with
 | .loop d=>b1c P d Q a w
 | c=>c.wp P Q a w
theorem wpL.wp {P:Program} {c:Code} {Q a w} (h:wpL P c Q a w):c.wp P Q a w:=by
 cases c<;>try exact h
 intro b k cs
 obtain ⟨e,a',w',hq,harr⟩:=h b k cs
 exact ⟨e,a',w',hq,.of_steps (.one step_loop) harr⟩
theorem b1c.of {P:Program} {c:Code} {Q a w} (h:c.wp P (Exit.then (b1c P c Q) Q) a w):b1c P c Q a w:=by
 intro b k cs
 obtain ⟨e,a₁,w₁,hq,harr⟩:=h b (.inLoop c::k) cs
 cases e with
 | normal=>
  obtain ⟨e₂,a₂,w₂,hq₂,harr₂⟩:=hq b k cs
  exact ⟨e₂,a₂,w₂,hq₂,.of_steps (Steps.trans harr (.one step_inLoop)) harr₂⟩
 | exit id=>exact ⟨_,a₁,w₁,hq,.pass (x:=.inLoop c) rfl (fun _ _=>.inl (by simp)) harr⟩
 | goto l=>exact ⟨_,a₁,w₁,hq,.pass (x:=.inLoop c) rfl (fun _ _=>.inl (by simp)) harr⟩
 | ret=>exact ⟨_,a₁,w₁,hq,.pass (x:=.inLoop c) rfl (fun _ _=>.inl (by simp)) harr⟩
 | panic ch=>exact ⟨_,a₁,w₁,hq,.pass (x:=.inLoop c) rfl (fun _ _=>.inl (by simp)) harr⟩
 | outgrown=>exact ⟨_,a₁,w₁,hq,.pass (x:=.inLoop c) rfl (fun _ _=>.inl (by simp)) harr⟩
def e6b:=Nat→FuncId→List Value→Heap→Value→Heap→Prop
theorem j5a.o6a {n φ} {xs ys:Array Value} (h1:xs.size=ys.size) (h2 : ∀ i (h:i<xs.size) (h':i<ys.size),h3a n φ xs[i] ys[i]):j5a n φ xs.toList ys.toList:=by
 refine ⟨by simpa using h1,fun i v v' hv hv' => ?_⟩
 simp only [Array.getElem?_toList] at hv hv'
 obtain ⟨hi,rfl⟩:=Array.getElem?_eq_some_iff.1 hv
 obtain ⟨hi',rfl⟩:=Array.getElem?_eq_some_iff.1 hv'
 exact h2 i hi hi'
theorem r1b {n φ} {args:List Value} {args':Array Value} {sz:Nat} (h:j5a n φ args args'.toList) (ha:args.length≤sz) :
  q8c n φ sz (o2a args) { tmps:=args'++Array.replicate (sz - args'.size) undef,defers:=[] } := by
 have hl:args.length=args'.size:=by simpa using h.1
 refine ⟨by simp;omega,fun t => ?_,rfl⟩
 rcases Nat.lt_or_ge t args.length with ht | ht
 ·have ht':t<args'.size:=by omega
  have e1:o2a args t=args[t]:=by simp [o2a,ht]
  have e2:(args'++Array.replicate (sz - args'.size) undef).getD t undef=args'[t]:=by
   rw [Array.getD_eq_getD_getElem?,Array.getElem?_append_left ht'];simp [ht']
  rw [e1]
  simp only [e2]
  exact h.2 t _ _ (List.getElem?_eq_getElem ht) (by simp [ht'])
 ·have e1:o2a args t=undef:=by simp [o2a,ht]
  have e2:(args'++Array.replicate (sz - args'.size) undef).getD t undef=undef:=by
   rw [Array.getD_eq_getD_getElem?,Array.getElem?_append_right (by omega)]
   by_cases hh:t - args'.size<sz - args'.size
   ·simp [hh]
   ·rw [Array.getElem?_eq_none (by simp;omega)];rfl
  rw [e1]
  simp only [e2]
  exact .undef
theorem r8d {φ:Nat→Place} {w:World} : Sim φ [] w:=
 ⟨fun h b hg=>by simp [hget] at hg,fun h h' b b' _ hg=>by simp [hget] at hg,fun h b p b' hg=>by simp [hget] at hg,fun h b p hg=>by simp [hget] at hg⟩
theorem Step.beside {base base' φ φ1 φ' H w H1 w1} (s:Step base' φ' [] w φ1 H1 w1) (hs:Sim φ H w):Step base φ H w φ H w1:=by
 have hf : ∀ b,b<w.heap.size→w1.heap[b]?=w.heap[b]?:=fun b hb=>s.frame b hb fun h blk _ hg=>by simp [hget] at hg
 refine ⟨Nat.le_refl _,fun _ _=>rfl,s.size,s.os,s.tape,s.output,fun b hb _=>hf b hb,fun h b' _ hb=>⟨b',hb,id⟩,fun h b hb hg hr=>.inr ⟨h,b,hb,hg,hr,rfl⟩,t0a rfl,?_,hs.apart,hs.par,hs.z2a⟩
 intro h b hg
 obtain ⟨c,e,fr,hB,g⟩:=hs.cov h b hg
 exact ⟨c,e,fr,by rw [hf _ (Array.getElem?_eq_some_iff.1 hB).1];exact hB,g⟩
theorem j5a.of_closed {n φ} {l:List Value} (h : ∀ v∈l,f8a v=true) {l':List Value} (hl:j5a n φ l l'):l'=l:=by
 refine List.ext_getElem? fun i => ?_
 cases hi:l[i]? with
 | none=>rw [List.getElem?_eq_none_iff] at hi ⊢;rw [← hl.1];exact hi
 | some v=>
  have hlt:=(List.getElem?_eq_some_iff.1 hi).1
  have hlt':i<l'.length:=hl.1▸hlt
  have:l'[i]?=some l'[i]:=by rw [List.getElem?_eq_getElem]
  rw [this]
  exact congrArg some ((hl.2 i v _ hi this).w2a (h v (List.mem_of_getElem? hi)))
end Go.AM
namespace Go.AM
open Go
def w0a (P:Program) (orc:e6b) (base sz:Nat) (ops:Array Oper) (i:Nat) (ρ:Env) (H:Heap) (v:Value) (H':Heap):Prop:=
 ∃ o,ops[i]?=some o∧i9a sz o.dst ∧
  (
   (Region.wanted o (f5a ops ρ)=false∧v=undef∧H'=H) ∨
   (
   Region.wanted o (f5a ops ρ)=true∧o.op.operands.toList.all b5a=true ∧
   (
    opA P base ρ o.op H=some (v,H') ∨
    ∃ f args fn, l4a ρ o.op = some (f, args) ∧ P.funcs[f]? = some fn ∧ fn.name ≠ "runtime.NumGoroutine" ∧ fn.body.isNone = false ∧ Big P orc base (.call f args) H (.val v) H')))
def e6a (ops:Array Oper) (i:Nat):Option Tmp:=(ops[i]?).bind (·.dst)
theorem w0a.cons {P orc base sz ops i ρ H v H1 l out H'} (h:w0a P orc base sz ops i ρ H v H1) (k:Big P orc base (.ops sz ops l (put ρ (e6a ops i) v)) H1 out H') :
  Big P orc base (.ops sz ops (i::l) ρ) H out H':=by
 obtain ⟨o,ho,hd,h⟩:=h
 have e:e6a ops i=o.dst:=by simp [e6a,ho]
 rw [e] at k
 rcases h with ⟨hw,rfl,rfl⟩ | ⟨hw,hc,h | ⟨f,args,fn,ht,hf,hn,hb,hcall⟩⟩
 ·exact .z0a ho hw hd k
 ·exact .w5b ho hw hd hc h k
 ·exact .y9a ho hw hd hc ht hf hn hb hcall k
theorem s8c {ρ ρ':Env} {x:Operand} (h : ∀ t,x = .tmp t→ρ t=ρ' t):d0a ρ x=d0a ρ' x:=by
 cases x with
 | tmp t=>exact h t rfl
 | _=>rfl
theorem p0d {P:Program} {base:Nat} {ρ ρ':Env} {o:Oper} {H:Heap} (h : ∀ x∈o.op.operands,d0a ρ x=d0a ρ' x):opA P base ρ o.op H=opA P base ρ' o.op H:=by
 obtain ⟨dst,op,type,pos,after,guard⟩:=o
 have pairs : ∀ ps:List (Nat×Operand),(∀ p∈ps,d0a ρ p.2=d0a ρ' p.2)→(ps.map fun (i,x)=>(i,d0a ρ x))=(ps.map fun (i,x)=>(i,d0a ρ' x)):=fun ps hp=>
  List.map_congr_left fun p hm=>by obtain ⟨i,x⟩:=p;simp only [hp (i,x) hm]
 cases op<;>simp only [Op.operands] at h<;>simp only [opA]
 case build t ps=>rw [pairs ps.toList fun p hp=>h p.2 (by simp;exact ⟨p.1,by simpa using hp⟩)]
 case buildSlice t n ps=>rw [pairs ps.toList fun p hp=>h p.2 (by simp;exact ⟨p.1,by simpa using hp⟩)]
 case makeFunc fn first captured=>
  rw [Array.map_congr_left (xs:=first) fun x hx=>h x (by simp [hx]),Array.map_congr_left (xs:=captured) fun x hx=>h x (by simp [hx])]
 case call c=>
  obtain ⟨callee,args,at_⟩:=c
  cases callee with
  | builtin b=>
   simp only
   rw [List.map_congr_left (l:=args.toList) fun x hx=>h x (by simp [Call.operands];simpa using hx)]
  | _=>rfl
 case slice t x lo hi mx=>cases lo<;>cases hi<;>cases mx<;>simp_all
 all_goals (first | rfl | (simp_all;done))
theorem i9c {ρ ρ':Env} {o:Oper} (h : ∀ x∈o.op.operands,d0a ρ x=d0a ρ' x):l4a ρ o.op=l4a ρ' o.op:=by
 obtain ⟨dst,op,type,pos,after,guard⟩:=o
 cases op<;>simp only [l4a]
 rename_i c
 obtain ⟨callee,args,at_⟩:=c
 cases callee with
 | value f=>
  simp only [Op.operands,Call.operands] at h
  simp only
  rw [h f (by simp),List.map_congr_left (l:=args.toList) fun x hx=>h x (by simp;exact .inr (by simpa using hx))]
 | _=>rfl
theorem c3b {ops:Array Oper} {ρ ρ':Env} {o:Oper} (h : ∀ t∈o.looksAt ops,ρ t=ρ' t):Region.wanted o (f5a ops ρ)=Region.wanted o (f5a ops ρ'):=by
 unfold Region.wanted
 cases hg:o.guard with
 | none=>rfl
 | some gw=>
  obtain ⟨g,want⟩:=gw
  have:f5a ops ρ g=f5a ops ρ' g:=by
   unfold f5a
   cases ht:(ops[g]?).bind (·.dst) with
   | none=>rfl
   | some t=>simp only;rw [h t (by simp [Oper.looksAt,hg,ht])]
  simp only [this]
theorem w0a.congr {P orc base sz ops i ρ ρ' H v H'} (h:w0a P orc base sz ops i ρ H v H') (ha : ∀ o,ops[i]?=some o → ∀ t∈o.looksAt ops,ρ t=ρ' t):w0a P orc base sz ops i ρ' H v H':=by
 obtain ⟨o,ho,hd,h⟩:=h
 have hl:=ha o ho
 have he : ∀ x∈o.op.operands,d0a ρ x=d0a ρ' x:=fun x hx=>s8c fun t hxt=>hl t (by
  subst hxt
  exact List.mem_append_left _ (List.mem_filterMap.2 ⟨.tmp t,by simpa using hx,rfl⟩))
 refine ⟨o,ho,hd,?_⟩
 rw [← c3b hl,← p0d he,← i9c he]
 exact h
def direct (ops:Array Oper) (j:Nat):List Nat:=((ops[j]?).map fun o=>(o.after.toList.filter (Region.binds .any)).map (·.on)).getD []
def ordered (ops:Array Oper):Nat→Nat→Nat→Bool
 | 0,_,_=>false
 | n+1,i,j=>(direct ops j).any fun k=>k==i || ordered ops n i k
theorem j8a {ops:Array Oper} {L:Nat→Prop} (hL : ∀ j,L j → ∀ e∈direct ops j,L e) : ∀ n i j,ordered ops n i j=true→(∀ e∈direct ops j,L e)→L i
 | 0,_,_,h,_=>by simp [ordered] at h
 | n+1,i,j,h,hd=>by
  simp only [ordered,List.any_eq_true,Bool.or_eq_true,beq_iff_eq] at h
  obtain ⟨k,hk,rfl | hk'⟩:=h
  ·exact hd k hk
  ·exact j8a hL n i k hk' (hL k (hd k hk))
def y1a (ops:Array Oper) (v:Nat→Value) (ρ:Env) (L:Nat→Bool):Nat→Env
 | 0=>ρ
 | n+1=>if L n then put (y1a ops v ρ L n) (e6a ops n) (v n) else y1a ops v ρ L n
theorem c4c {ρ:Env} {d:Option Tmp} {v:Value} {t:Tmp} : put ρ d v t=if d=some t then v else ρ t:=by
 cases d with
 | none=>simp [put]
 | some e=>
  simp only [put,upd,Option.some.injEq]
  by_cases h:t=e
  ·simp [h]
  ·have:e≠t:=fun q=>h q.symm
   simp [h,this]
def clash (ops:Array Oper) (i j:Nat):Bool:=
 match ops[i]?,ops[j]? with
 | some a,some b=>(match a.dst with | some d=>(b.looksAt ops).contains d || b.dst==some d | none=>false) || (match b.dst with | some d=>(a.looksAt ops).contains d | none=>false)
 | _,_=>false
def q0a (ops:Array Oper) (mk:List Nat):Bool:=
 (List.range ops.size).all (fun j=>(direct ops j).all (· < j)) &&
 (List.range ops.size).all (fun j=>(List.range j).all fun i => !clash ops i j || ordered ops ops.size i j) &&
 mk.all (fun j=>mk.all fun i => !(decide (i<j)) || ordered ops ops.size i j)
structure Trace (P:Program) (orc:e6b) (base sz:Nat) (ops:Array Oper) (mk:List Nat) (ρ:Env) (v:Nat→Value) (Hs:Nat→Heap):Prop where
 step : ∀ i,i<ops.size→w0a P orc base sz ops i (y1a ops v ρ (fun _=>true) i) (Hs i) (v i) (Hs (i+1))
 still : ∀ i,i<ops.size→i∉mk→Hs (i+1)=Hs i
 robust : ∀ i,i<ops.size→i∉mk → ∀ q,q≤ops.size→(∀ m∈mk,ordered ops ops.size m i=true→m<q)→(∀ m∈mk,ordered ops ops.size i m=true→q≤m) →
  w0a P orc base sz ops i (y1a ops v ρ (fun _=>true) i) (Hs q) (v i) (Hs q)
section
variable {P:Program} {orc:e6b} {base sz:Nat} {ops:Array Oper} {mk:List Nat} {ρ:Env} {v:Nat→Value} {Hs:Nat→Heap}
theorem m3b (T:Trace P orc base sz ops mk ρ v Hs) {a:Nat} : ∀ b,a≤b→b≤ops.size→(∀ m,a≤m→m<b→m∉mk)→Hs b=Hs a:=by
 intro b
 induction b with
 | zero=>
      intro hab _ _;have:a=0:=by omega
      rw [this]
 | succ b ih=>
  intro hab hb hn
  rcases Nat.lt_or_ge b a with h | h
  ·have:a=b+1:=by omega
   rw [this]
  ·rw [T.still b (by omega) (hn b h (by omega)),ih h (by omega) fun m h1 h2=>hn m h1 (by omega)]
def lst (listed:Array Bool) (i:Nat):Bool:=listed.getD i false
theorem mem_ready {listed:Array Bool} {i:Nat} (hsz:listed.size=ops.size):i∈Region.ready .any ops listed↔i<ops.size∧lst listed i=false ∧ ∀ e∈direct ops i,lst listed e=true:=by
 unfold Region.ready
 simp only [List.mem_filter,List.mem_range,Bool.and_eq_true,Bool.not_eq_true']
 constructor
 ·rintro ⟨h1,h2,h3⟩
  refine ⟨h1,?_,?_⟩
  ·have:i<listed.size:=by omega
   simp [lst,Array.getD,this] at h2 ⊢;exact h2
  ·intro e he
   unfold direct at he
   cases ho:ops[i]? with
   | none=>simp [ho] at he
   | some o=>
    simp only [ho,Option.map_some,Option.getD_some,List.mem_map,List.mem_filter] at he h3
    obtain ⟨x,⟨hx,hb⟩,rfl⟩:=he
    have:=Array.all_eq_true.1 h3
    rw [Array.mem_toList_iff,Array.mem_iff_getElem] at hx
    obtain ⟨k,hk,rfl⟩:=hx
    have:=this k hk
    simp only [hb,Bool.not_true,Bool.false_or] at this
    exact this
 ·rintro ⟨h1,h2,h3⟩
  refine ⟨h1,?_,?_⟩
  ·have:i<listed.size:=by omega
   simp [lst,Array.getD,this] at h2 ⊢;exact h2
  ·have ho:ops[i]?=some ops[i]:=Array.getElem?_eq_getElem h1
   simp only [ho,Option.map_some,Option.getD_some]
   rw [Array.all_eq_true]
   intro k hk
   by_cases hb:Region.binds .any ops[i].after[k]=true
   ·have:=h3 ops[i].after[k].on (by
     unfold direct
     simp only [ho,Option.map_some,Option.getD_some,List.mem_map,List.mem_filter]
     exact ⟨_,⟨by simp,hb⟩,rfl⟩)
    simp only [hb,Bool.not_true,Bool.false_or]
    exact this
   ·simp [hb]
theorem w3d (hok:q0a ops mk=true) (T:Trace P orc base sz ops mk ρ v Hs) : ∀ (fuel t:Nat) (listed:Array Bool) (q:Nat),listed.size=ops.size →
  (∀ j,lst listed j=true → ∀ e∈direct ops j,lst listed e=true)→q≤ops.size→(∀ m∈mk,m<ops.size→(lst listed m=true↔m<q)) →
  (List.range ops.size).countP (fun i => !lst listed i)≤fuel →
  Big P orc base (.ops sz ops (Region.linearise.go .any ops fuel t listed []) (y1a ops v ρ (lst listed) ops.size)) (Hs q) (.env (y1a ops v ρ (fun _=>true) ops.size)) (Hs ops.size):=by
 simp only [q0a,Bool.and_eq_true,List.all_eq_true,List.mem_range,Bool.or_eq_true,Bool.not_eq_true',decide_eq_true_eq,decide_eq_false_iff_not] at hok
 obtain ⟨⟨ok1,ok2⟩,ok3⟩:=hok
 have final : ∀ (listed:Array Bool) (q:Nat),q≤ops.size→(∀ m∈mk,m<ops.size→(lst listed m=true↔m<q))→(∀ i,i<ops.size→lst listed i=true) →
   Big P orc base (.ops sz ops [] (y1a ops v ρ (lst listed) ops.size)) (Hs q) (.env (y1a ops v ρ (fun _=>true) ops.size)) (Hs ops.size):=by
  intro listed q hq hcut hall
  have e1:y1a ops v ρ (lst listed) ops.size=y1a ops v ρ (fun _=>true) ops.size:=by
   have : ∀ n,n≤ops.size→y1a ops v ρ (lst listed) n=y1a ops v ρ (fun _=>true) n:=by
    intro n
    induction n with
    | zero=>intro _;rfl
    | succ n ih=>intro hn;simp only [y1a,hall n (by omega),ih (by omega)]
   exact this _ (Nat.le_refl _)
  have e2:Hs ops.size=Hs q:=m3b T _ hq (Nat.le_refl _) fun m h1 h2 hm=>by
   have:=(hcut m hm h2).1 (hall m h2)
   omega
  rw [e1,e2]
  exact .w4b
 have ready_nil : ∀ (listed:Array Bool),listed.size=ops.size→Region.ready .any ops listed=[] → ∀ i,i<ops.size→lst listed i=true:=by
  intro listed hsz hr i
  induction i using Nat.strongRecOn with
  | _ i ih=>
   intro hi
   rcases hli:lst listed i with _ | _
   ·have:i∈Region.ready .any ops listed:=(mem_ready hsz).2 ⟨hi,hli,fun e he=>by
     have he':=ok1 i hi e he
     exact ih e he' (by omega)⟩
    rw [hr] at this
    cases this
   ·rfl
 intro fuel
 induction fuel with
 | zero=>
  intro t listed q hsz hcl hq hcut hcount
  simp only [Region.linearise.go]
  refine final listed q hq hcut fun i hi => ?_
  have:(List.range ops.size).countP (fun i => !lst listed i)=0:=by omega
  rw [List.countP_eq_zero] at this
  simpa using this i (List.mem_range.2 hi)
 | succ fuel ih=>
  intro t listed q hsz hcl hq hcut hcount
  simp only [Region.linearise.go]
  change Big P orc base (.ops sz ops (match (Region.ready .any ops listed)[t%(Region.ready .any ops listed).length]? with
   | some i=>Region.linearise.go .any ops fuel (t/(Region.ready .any ops listed).length) (listed.setIfInBounds i true) [i]
   | none=>[].reverse) _) _ _ _
  cases hi:(Region.ready .any ops listed)[t%(Region.ready .any ops listed).length]? with
  | none=>
   have hnil:Region.ready .any ops listed=[]:=by
    cases hr:Region.ready .any ops listed with
    | nil=>rfl
    | cons x xs=>
     rw [hr] at hi
     have hlt:t%(x::xs).length<(x::xs).length:=Nat.mod_lt _ (by simp)
     simp at hi
     simp at hlt
     omega
   exact final listed q hq hcut (ready_nil listed hsz hnil)
  | some j=>
   simp only []
   rw [linearise_go_acc,List.reverse_singleton,List.singleton_append]
   obtain ⟨hj,hlj,hdj⟩:=(mem_ready hsz).1 (List.mem_of_getElem? hi)
   have hset : ∀ i,lst (listed.setIfInBounds j true) i=(lst listed i || decide (i=j)):=by
    intro i
    unfold lst
    by_cases hij:i=j
    ·subst hij
     simp [Array.getD,hsz,hj]
    ·simp [Array.getD_eq_getD_getElem?,Array.getElem?_setIfInBounds_ne (Ne.symm hij),hij]
   have o8a : ∀ i,ordered ops ops.size i j=true→lst listed i=true:=fun i h=>j8a (L:=fun i=>lst listed i=true) hcl ops.size i j h hdj
   have x6a : ∀ i,ordered ops ops.size j i=true→lst listed i=false:=fun i h=>by
    rcases hli:lst listed i with _ | _
    ·rfl
    ·have:=j8a (L:=fun i=>lst listed i=true) hcl ops.size j i h (hcl i hli)
     rw [hlj] at this
     cases this
   have henv : ∀ n,n≤ops.size → ∀ t,y1a ops v ρ (lst (listed.setIfInBounds j true)) n t=if j<n∧e6a ops j=some t then v j else y1a ops v ρ (lst listed) n t:=by
    intro n
    induction n with
    | zero=>intro _ t;simp [y1a]
    | succ n ihn=>
     intro hn t
     simp only [y1a,hset]
     by_cases hnj:n=j
     ·subst hnj
      simp only [decide_true,Bool.or_true,if_true,hlj,Bool.false_eq_true,if_false,c4c,Nat.lt_succ_self,true_and]
      split
      ·rfl
      ·rw [ihn (by omega) t];simp
     ·simp only [hnj,decide_false,Bool.or_false]
      cases hln:lst listed n with
      | false=>
       simp only [Bool.false_eq_true,if_false]
       rw [ihn (by omega) t]
       have:j<n+1↔j<n:=by omega
       simp only [this]
      | true=>
       simp only [if_true,c4c]
       by_cases hdn:e6a ops n=some t
       ·simp only [hdn,if_true]
        have : ¬ (j<n+1∧e6a ops j=some t):=by
         rintro ⟨h1,h2⟩
         have hjn:j<n:=by omega
         have hcl':clash ops j n=true:=by
          unfold clash
          unfold e6a at hdn h2
          cases hoj:ops[j]? with
          | none=>simp [hoj] at h2
          | some a=>
           cases hon:ops[n]? with
           | none=>simp [hon] at hdn
           | some b=>
            simp [hoj] at h2
            simp [hon] at hdn
            simp [h2,hdn]
         rcases ok2 n (by omega) j hjn with h | h
         ·rw [hcl'] at h;cases h
         ·rw [x6a n h] at hln;cases hln
        simp only [this,if_false]
       ·simp only [hdn,if_false]
        rw [ihn (by omega) t]
        have:j<n+1↔j<n:=by omega
        simp only [this]
   have k5d:y1a ops v ρ (lst (listed.setIfInBounds j true)) ops.size=put (y1a ops v ρ (lst listed) ops.size) (e6a ops j) (v j):=by
    funext t
    rw [henv _ (Nat.le_refl _) t,c4c]
    simp [hj]
   have l9c : ∀ o,ops[j]?=some o → ∀ t∈o.looksAt ops,y1a ops v ρ (fun _=>true) j t=y1a ops v ρ (lst listed) ops.size t:=by
    intro o ho t ht
    have key : ∀ i,i<ops.size→e6a ops i=some t→(i<j→lst listed i=true)∧(j≤i→lst listed i=false):=by
     intro i hi' hd
     unfold e6a at hd
     cases hoi:ops[i]? with
     | none=>simp [hoi] at hd
     | some a=>
      simp [hoi] at hd
      refine ⟨fun hij => ?_,fun hij => ?_⟩
      ·have hcl':clash ops i j=true:=by simp only [clash,hoi,ho,hd];simp [ht]
       rcases ok2 j hj i hij with h | h
       ·rw [hcl'] at h;cases h
       ·exact o8a i h
      ·rcases Nat.lt_or_ge j i with h1 | h1
       ·have hcl':clash ops j i=true:=by simp only [clash,hoi,ho,hd];simp [ht]
        rcases ok2 i hi' j h1 with h | h
        ·rw [hcl'] at h;cases h
        ·exact x6a i h
       ·have:i=j:=by omega
        rw [this];exact hlj
    have : ∀ n,n≤ops.size→y1a ops v ρ (lst listed) n t=y1a ops v ρ (fun _=>true) (min n j) t:=by
     intro n
     induction n with
     | zero=>intro _;simp [y1a]
     | succ n ihn=>
      intro hn
      simp only [y1a]
      by_cases hd:e6a ops n=some t
      ·have hk:=key n (by omega) hd
       rcases Nat.lt_or_ge n j with h1 | h1
       ·have:min (n+1) j=n+1:=by omega
        rw [this]
        simp only [y1a,hk.1 h1,if_true,c4c,hd]
       ·have:min (n+1) j=min n j:=by omega
        rw [this,← ihn (by omega)]
        simp [hk.2 h1]
      ·have e1:(if lst listed n=true then put (y1a ops v ρ (lst listed) n) (e6a ops n) (v n) else y1a ops v ρ (lst listed) n) t=y1a ops v ρ (lst listed) n t:=by
        split
        ·simp [c4c,hd]
        ·rfl
       rw [e1,ihn (by omega)]
       rcases Nat.lt_or_ge n j with h1 | h1
       ·have a1:min (n+1) j=n+1:=by omega
        have a2:min n j=n:=by omega
        rw [a1,a2]
        simp [y1a,c4c,hd]
       ·have:min (n+1) j=min n j:=by omega
        rw [this]
    rw [this _ (Nat.le_refl _),Nat.min_eq_right (by omega)]
   have hcnt:(List.range ops.size).countP (fun i => !lst (listed.setIfInBounds j true) i)≤fuel:=by
    have h1:(List.range ops.size).countP (fun i => !lst listed i)=(List.range ops.size).countP (fun i => !lst (listed.setIfInBounds j true) i)+(List.range ops.size).countP (fun i=>decide (i=j)):=by
     have : ∀ l:List Nat,l.countP (fun i => !lst listed i)=l.countP (fun i => !lst (listed.setIfInBounds j true) i)+l.countP (fun i=>decide (i=j)):=by
      intro l
      induction l with
      | nil=>rfl
      | cons x l ihl=>
       simp only [List.countP_cons,hset]
       rw [ihl]
       simp only [hset]
       by_cases hx:x=j
       ·subst hx;simp [hlj];omega
       ·simp [hx];omega
     exact this _
    have h2:0<(List.range ops.size).countP (fun i=>decide (i=j)):=by
     rw [List.countP_pos_iff]
     exact ⟨j,List.mem_range.2 hj,by simp⟩
    omega
   have hcl' : ∀ i,lst (listed.setIfInBounds j true) i=true → ∀ e∈direct ops i,lst (listed.setIfInBounds j true) e=true:=by
    intro i hli e he
    rw [hset] at hli ⊢
    simp only [Bool.or_eq_true,decide_eq_true_eq] at hli ⊢
    rcases hli with h | rfl
    ·exact .inl (hcl i h e he)
    ·exact .inl (hdj e he)
   by_cases hmj:j∈mk
   ·have t5c : ∀ m∈mk,m<ops.size→(lst listed m=true↔m<j):=by
     intro m hm hms
     rcases Nat.lt_trichotomy m j with h | h | h
     ·refine ⟨fun _=>h,fun _ => ?_⟩
      rcases ok3 j hmj m hm with h' | h'
      ·omega
      ·exact o8a m h'
     ·subst h
      simp [hlj]
     ·refine ⟨fun hl => ?_,fun _=>by omega⟩
      rcases ok3 m hm j hmj with h' | h'
      ·omega
      ·rw [x6a m h'] at hl;cases hl
    have hH:Hs q=Hs j:=by
     rcases Nat.le_total q j with h | h
     ·exact (m3b T j h (by omega) fun m h1 h2 hm=>by
       have a1:=(hcut m hm (by omega))
       have a2:=(t5c m hm (by omega))
       have:=a2.2 h2
       have:=a1.1 this
       omega).symm
     ·exact m3b T q h hq fun m h1 h2 hm=>by
       have a1:=(hcut m hm (by omega))
       have a2:=(t5c m hm (by omega))
       have:=a1.2 h2
       have:=a2.1 this
       omega
    rw [hH]
    refine w0a.cons ((T.step j hj).congr l9c) ?_
    rw [← k5d]
    refine ih _ _ (j+1) (by simp [hsz]) hcl' (by omega) (fun m hm hms => ?_) hcnt
    rw [hset]
    have:=t5c m hm hms
    simp only [Bool.or_eq_true,decide_eq_true_eq,this]
    omega
   ·have f7f:=T.robust j hj hmj q hq (fun m hm ho=>by
      rcases Nat.lt_or_ge m ops.size with hms | hms
      ·exact (hcut m hm hms).1 (o8a m ho)
      ·have:=o8a m ho
       simp [lst,Array.getD,hsz,Nat.not_lt.2 hms] at this)
     (fun m hm ho=>by
      rcases Nat.lt_or_ge m ops.size with hms | hms
      ·have:=(hcut m hm hms)
       have h2:=x6a m ho
       rw [h2] at this
       simp at this
       exact this
      ·omega)
    refine w0a.cons (f7f.congr l9c) ?_
    rw [← k5d]
    refine ih _ _ q (by simp [hsz]) hcl' hq (fun m hm hms => ?_) hcnt
    rw [hset]
    have hne:m≠j:=fun e=>hmj (e▸hm)
    simp only [hne,decide_false,Bool.or_false]
    exact hcut m hm hms
theorem i7d (hok:q0a ops mk=true) (T:Trace P orc base sz ops mk ρ v Hs) (t:Nat) :
  Big P orc base (.ops sz ops (Region.linearise .any ops t) ρ) (Hs 0) (.env (y1a ops v ρ (fun _=>true) ops.size)) (Hs ops.size):=by
 have h0 : ∀ i,lst (Array.replicate ops.size false) i=false:=by
  intro i
  simp only [lst,Array.getD_eq_getD_getElem?,Array.getElem?_replicate]
  split<;>rfl
 have:=w3d hok T ops.size t (Array.replicate ops.size false) 0 (by simp) (fun j hj=>by rw [h0] at hj;cases hj) (Nat.zero_le _) (fun m _ _=>by simp [h0]) (by
  have:=List.countP_le_length (p:=fun i => !lst (Array.replicate ops.size false) i) (l:=List.range ops.size)
  simpa using this)
 have he:y1a ops v ρ (lst (Array.replicate ops.size false)) ops.size=ρ:=by
  have : ∀ n,y1a ops v ρ (lst (Array.replicate ops.size false)) n=ρ:=by
   intro n
   induction n with
   | zero=>rfl
   | succ n ih=>simp [y1a,h0,ih]
  exact this _
 rw [he] at this
 exact this
end
end Go.AM
namespace Go.AM
open Go
inductive K where
 | code (c:Code)
 | blk (id:Nat)
 | lp (c:Code)
section
variable (P:Program) (orc:e6b) (base sz:Nat)
def WPc (c:Code) (ρ:Env) (H:Heap) (Q:h6a→Env→Heap→Prop):Prop := ∃ e ρ' H',Big P orc base (.code sz c ρ) H (.exit e ρ') H'∧Q e ρ' H'
def WPo (ops:Array Oper) (l:List Nat) (ρ:Env) (H:Heap) (Q:Env→Heap→Prop):Prop := ∃ ρ' H',Big P orc base (.ops sz ops l ρ) H (.env ρ') H'∧Q ρ' H'
def u6d (f:FuncId) (args:List Value) (H:Heap) (Q:Value→Heap→Prop):Prop := ∃ v H',Big P orc base (.call f args) H (.val v) H'∧Q v H'
def Go:List K→h6a→Env→Heap→(h6a→Env→Heap→Prop)→Prop
 | [],e,ρ,H,Q=>Q e ρ H
 | .code c::k,.normal,ρ,H,Q=>WPc P orc base sz c ρ H fun e ρ' H'=>Go k e ρ' H' Q
 | .code _::k,e,ρ,H,Q=>Go k e ρ H Q
 | .blk _::k,.normal,ρ,H,Q=>Go k .normal ρ H Q
 | .blk id::k,.exit id',ρ,H,Q=>if id'=id then Go k .normal ρ H Q else Go k (.exit id') ρ H Q
 | .blk _::k,.ret,ρ,H,Q=>Go k .ret ρ H Q
 | .lp c::k,.normal,ρ,H,Q=>WPc P orc base sz (.loop c) ρ H fun e ρ' H'=>Go k e ρ' H' Q
 | .lp _::k,e,ρ,H,Q=>Go k e ρ H Q
def GoO (ops:Array Oper) (l:List Nat) (k:List K) (ρ:Env) (H:Heap) (Q:h6a→Env→Heap→Prop):Prop:=
 WPo P orc base sz ops l ρ H fun ρ' H'=>Go P orc base sz k .normal ρ' H' Q
def p4a (x:Option (Value×Heap)) (F:Value→Heap→Prop):Prop:=match x with | some (v,H)=>F v H | none=>False
end
section
variable {P:Program} {orc:e6b} {base sz:Nat} {k:List K} {ρ:Env} {H:Heap} {Q:h6a→Env→Heap→Prop}
theorem Go.ret' : ∀ (k:List K),Q .ret ρ H→Go P orc base sz k .ret ρ H Q
 | [],h=>h
 | .code _::k,h=>Go.ret' k h
 | .blk _::k,h=>Go.ret' k h
 | .lp _::k,h=>Go.ret' k h
theorem Go.skip (h:Go P orc base sz k .normal ρ H Q):Go P orc base sz (.code .skip::k) .normal ρ H Q:=⟨_,_,_,.skip,h⟩
theorem Go.ret (h:Q .ret ρ H):Go P orc base sz (.code .ret::k) .normal ρ H Q:=⟨_,_,_,.ret,Go.ret' k h⟩
theorem Go.exit {id:Nat} (h:Go P orc base sz k (.exit id) ρ H Q):Go P orc base sz (.code (.exit id)::k) .normal ρ H Q:=⟨_,_,_,.exit,h⟩
theorem Go.z8e {id:Nat} (h:Go P orc base sz k .normal ρ H Q):Go P orc base sz (.blk id::k) (.exit id) ρ H Q:=by simp only [Go,if_true];exact h
theorem Go.p1e {id id':Nat} (hne:id'≠id) (h:Go P orc base sz k (.exit id') ρ H Q):Go P orc base sz (.blk id::k) (.exit id') ρ H Q:=by simp only [Go,hne,if_false];exact h
theorem Go.seq {c d:Code} (h:Go P orc base sz (.code c :: .code d::k) .normal ρ H Q):Go P orc base sz (.code (.seq c d)::k) .normal ρ H Q:=by
 obtain ⟨e,ρ1,H1,hb,h⟩:=h
 cases e with
 | normal=>
  obtain ⟨e2,ρ2,H2,hb2,h2⟩:=h
  exact ⟨e2,ρ2,H2,.z3e hb hb2,h2⟩
 | exit id=>exact ⟨_,ρ1,H1,.n5e hb (by simp),h⟩
 | ret=>exact ⟨_,ρ1,H1,.n5e hb (by simp),h⟩
theorem Go.block {id:Nat} {c:Code} (h:Go P orc base sz (.code c :: .blk id::k) .normal ρ H Q):Go P orc base sz (.code (.block id c)::k) .normal ρ H Q:=by
 obtain ⟨e,ρ1,H1,hb,h⟩:=h
 cases e with
 | normal=>exact ⟨.normal,ρ1,H1,.x6c hb,h⟩
 | exit id' =>
  by_cases he:id'=id
  ·subst he
   simp only [Go,if_true] at h
   exact ⟨.normal,ρ1,H1,.x7c hb,h⟩
  ·simp only [Go,he,if_false] at h
   exact ⟨.exit id',ρ1,H1,.b3c hb (by simp) (by simp [he]),h⟩
 | ret=>exact ⟨.ret,ρ1,H1,.b3c hb (by simp) (by simp),h⟩
theorem Go.loop {c:Code} (h:Go P orc base sz (.code c :: .lp c::k) .normal ρ H Q):Go P orc base sz (.code (.loop c)::k) .normal ρ H Q:=by
 obtain ⟨e,ρ1,H1,hb,h⟩:=h
 cases e with
 | normal=>
  obtain ⟨e2,ρ2,H2,hb2,h2⟩:=h
  exact ⟨e2,ρ2,H2,.z0d hb hb2,h2⟩
 | exit id=>exact ⟨_,ρ1,H1,.d9d hb (by simp),h⟩
 | ret=>exact ⟨_,ρ1,H1,.d9d hb (by simp),h⟩
theorem Go.lp {c:Code} (h:Go P orc base sz (.code (.loop c)::k) .normal ρ H Q):Go P orc base sz (.lp c::k) .normal ρ H Q:=h
theorem Go.cond {c:Operand} {x y:Code} {t:Bool} (hk:b5a c=true) (hc:d0a ρ c = .bool t) (h:Go P orc base sz (.code (if t then x else y)::k) .normal ρ H Q) :
  Go P orc base sz (.code (.cond c x y)::k) .normal ρ H Q:=by
 obtain ⟨e,ρ1,H1,hb,h⟩:=h
 exact ⟨e,ρ1,H1,.cond hk hc hb,h⟩
theorem Go.k8c {t:Tmp} {x y:Code} (hc:ρ t = .bool true) (h:Go P orc base sz (.code x::k) .normal ρ H Q):Go P orc base sz (.code (.cond (.tmp t) x y)::k) .normal ρ H Q:=Go.cond rfl hc h
theorem Go.k7c {t:Tmp} {x y:Code} (hc:ρ t = .bool false) (h:Go P orc base sz (.code y::k) .normal ρ H Q):Go P orc base sz (.code (.cond (.tmp t) x y)::k) .normal ρ H Q:=Go.cond rfl hc h
theorem Go.b0a {t:Tmp} {x y:Code} {b:Bool} (hc:ρ t = .bool b) (h1:b=true→Go P orc base sz (.code x::k) .normal ρ H Q) (h2:b=false→Go P orc base sz (.code y::k) .normal ρ H Q) :
  Go P orc base sz (.code (.cond (.tmp t) x y)::k) .normal ρ H Q:=by
 cases b
 ·exact Go.k7c hc (h2 rfl)
 ·exact Go.k8c hc (h1 rfl)
theorem Go.region {id:Nat} {ops:Array Oper} (h:GoO P orc base sz ops (List.range ops.size) k ρ H Q):Go P orc base sz (.code (.region id ops false)::k) .normal ρ H Q:=by
 obtain ⟨ρ1,H1,hb,h⟩:=h
 exact ⟨.normal,ρ1,H1,.region hb,h⟩
theorem GoO.nil {ops:Array Oper} (h:Go P orc base sz k .normal ρ H Q):GoO P orc base sz ops [] k ρ H Q:=⟨ρ,H,.w4b,h⟩
theorem GoO.op {ops:Array Oper} {i:Nat} {l:List Nat} {o:Oper} (ho:ops[i]?=some o) (hd:i9a sz o.dst) (hc:o.op.operands.toList.all b5a=true)
  (hw:Region.wanted o (f5a ops ρ)=true) (h:p4a (opA P base ρ o.op H) fun v H1=>GoO P orc base sz ops l k (put ρ o.dst v) H1 Q):GoO P orc base sz ops (i::l) k ρ H Q:=by
 cases hop:opA P base ρ o.op H with
 | none=>rw [hop] at h;exact h.elim
 | some r=>
  obtain ⟨v,H1⟩:=r
  rw [hop] at h
  obtain ⟨ρ',H',hb,h⟩:=h
  exact ⟨ρ',H',.w5b ho hw hd hc hop hb,h⟩
theorem GoO.skip {ops:Array Oper} {i:Nat} {l:List Nat} {o:Oper} (ho:ops[i]?=some o) (hd:i9a sz o.dst)
  (hw:Region.wanted o (f5a ops ρ)=false) (h:GoO P orc base sz ops l k (put ρ o.dst undef) H Q):GoO P orc base sz ops (i::l) k ρ H Q:=by
 obtain ⟨ρ',H',hb,h⟩:=h
 exact ⟨ρ',H',.z0a ho hw hd hb,h⟩
theorem GoO.call {ops:Array Oper} {i:Nat} {l:List Nat} {o:Oper} {f:FuncId} {args:List Value} {fn:Func} (ho:ops[i]?=some o) (hd:i9a sz o.dst) (hc:o.op.operands.toList.all b5a=true)
  (hw : Region.wanted o (f5a ops ρ) = true) (ht : l4a ρ o.op = some (f, args)) (hf : P.funcs[f]? = some fn) (hn : fn.name ≠ "runtime.NumGoroutine") (hb : fn.body.isNone = false)
  (h:u6d P orc base f args H fun v H1=>GoO P orc base sz ops l k (put ρ o.dst v) H1 Q):GoO P orc base sz ops (i::l) k ρ H Q:=by
 obtain ⟨v,H1,hcall,ρ',H',hbig,h⟩:=h
 exact ⟨ρ',H',.y9a ho hw hd hc ht hf hn hb hcall hbig,h⟩
def GoI (P:Program) (orc:e6b) (base sz:Nat) (ops:Array Oper) (i:Nat) (k:List K) (ρ:Env) (H:Heap) (Q:h6a→Env→Heap→Prop):Prop:=
 GoO P orc base sz ops (List.range' i (ops.size - i)) k ρ H Q
theorem j4a {n i:Nat} (h:i<n):List.range' i (n - i)=i::List.range' (i+1) (n - (i+1)):=by
 rw [show n - i=(n - (i+1))+1 by omega,List.range'_succ]
theorem k1a {ops:Array Oper} {i:Nat} {o:Oper} (ho:ops[i]?=some o):i<ops.size:=(Array.getElem?_eq_some_iff.1 ho).1
theorem Go.reg {id:Nat} {ops:Array Oper} (h:GoI P orc base sz ops 0 k ρ H Q):Go P orc base sz (.code (.region id ops false)::k) .normal ρ H Q:=by
 refine Go.region ?_
 rw [List.range_eq_range']
 exact h
theorem GoI.op {ops:Array Oper} {i:Nat} {o:Oper} (ho:ops[i]?=some o) (hd:i9a sz o.dst) (hc:o.op.operands.toList.all b5a=true)
  (hw:Region.wanted o (f5a ops ρ)=true) (h:p4a (opA P base ρ o.op H) fun v H1=>GoI P orc base sz ops (i+1) k (put ρ o.dst v) H1 Q):GoI P orc base sz ops i k ρ H Q:=by
 unfold GoI
 rw [j4a (k1a ho)]
 exact GoO.op ho hd hc hw h
theorem GoI.skip {ops:Array Oper} {i:Nat} {o:Oper} (ho:ops[i]?=some o) (hd:i9a sz o.dst)
  (hw:Region.wanted o (f5a ops ρ)=false) (h:GoI P orc base sz ops (i+1) k (put ρ o.dst undef) H Q):GoI P orc base sz ops i k ρ H Q:=by
 unfold GoI
 rw [j4a (k1a ho)]
 exact GoO.skip ho hd hw h
theorem GoI.call {ops:Array Oper} {i:Nat} {o:Oper} {f:FuncId} {args:List Value} {fn:Func} (ho:ops[i]?=some o) (hd:i9a sz o.dst) (hc:o.op.operands.toList.all b5a=true)
  (hw : Region.wanted o (f5a ops ρ) = true) (ht : l4a ρ o.op = some (f, args)) (hf : P.funcs[f]? = some fn) (hn : fn.name ≠ "runtime.NumGoroutine") (hb : fn.body.isNone = false)
  (h:u6d P orc base f args H fun v H1=>GoI P orc base sz ops (i+1) k (put ρ o.dst v) H1 Q):GoI P orc base sz ops i k ρ H Q:=by
 unfold GoI
 rw [j4a (k1a ho)]
 exact GoO.call ho hd hc hw ht hf hn hb h
def GoR (P:Program) (orc:e6b) (base sz:Nat) (ops:Array Oper) (rest:List Oper) (k:List K) (ρ:Env) (H:Heap) (Q:h6a→Env→Heap→Prop):Prop:=
 ∀ i,ops.toList.drop i=rest→GoI P orc base sz ops i k ρ H Q
theorem d6a {ops:Array Oper} {i:Nat} {o:Oper} {os:List Oper} (h:ops.toList.drop i=o::os):ops[i]?=some o∧ops.toList.drop (i+1)=os:=by
 have h1:(ops.toList.drop i)[0]?=some o:=by rw [h];rfl
 rw [List.getElem?_drop] at h1
 refine ⟨by simpa using h1,?_⟩
 rw [← List.drop_drop,h]
 rfl
theorem Go.rg {id:Nat} {l:List Oper} (h:GoR P orc base sz l.toArray l k ρ H Q):Go P orc base sz (.code (.region id l.toArray false)::k) .normal ρ H Q:=Go.reg (h 0 (by simp))
theorem GoR.nil {ops:Array Oper} (h:Go P orc base sz k .normal ρ H Q):GoR P orc base sz ops [] k ρ H Q:=fun i hi=>by
 unfold GoI
 have:ops.size≤i:=by simpa [List.drop_eq_nil_iff] using hi
 rw [show ops.size - i=0 by omega]
 exact GoO.nil h
theorem GoR.op {ops:Array Oper} {os:List Oper} {dst:Option Tmp} {op:Op} {ty:TypeId} {pos:String} {after:Array Edge} (hd:i9a sz dst) (hc:op.operands.toList.all b5a=true)
  (h:p4a (opA P base ρ op H) fun v H1=>GoR P orc base sz ops os k (put ρ dst v) H1 Q):GoR P orc base sz ops (⟨dst,op,ty,pos,after,none⟩::os) k ρ H Q:=fun i hi=>by
 obtain ⟨h1,h2⟩:=d6a hi
 refine GoI.op h1 hd hc rfl ?_
 cases hop:opA P base ρ op H with
 | none=>rw [hop] at h;exact h.elim
 | some r=>
  rw [hop] at h
  exact h (i+1) h2
theorem GoR.opG {ops:Array Oper} {os:List Oper} {dst:Option Tmp} {op:Op} {ty:TypeId} {pos:String} {after:Array Edge} {g:Nat×Bool} (hd:i9a sz dst) (hc:op.operands.toList.all b5a=true)
  (hw:(f5a ops ρ g.1==some g.2)=true) (h:p4a (opA P base ρ op H) fun v H1=>GoR P orc base sz ops os k (put ρ dst v) H1 Q):GoR P orc base sz ops (⟨dst,op,ty,pos,after,some g⟩::os) k ρ H Q:=fun i hi=>by
 obtain ⟨h1,h2⟩:=d6a hi
 refine GoI.op h1 hd hc hw ?_
 cases hop:opA P base ρ op H with
 | none=>rw [hop] at h;exact h.elim
 | some r=>
  rw [hop] at h
  exact h (i+1) h2
theorem GoR.a7e {ops:Array Oper} {os:List Oper} {dst:Option Tmp} {op:Op} {ty:TypeId} {pos:String} {after:Array Edge} {g:Nat×Bool} (hd:i9a sz dst)
  (hw:(f5a ops ρ g.1==some g.2)=false) (h:GoR P orc base sz ops os k (put ρ dst undef) H Q):GoR P orc base sz ops (⟨dst,op,ty,pos,after,some g⟩::os) k ρ H Q:=fun i hi=>by
 obtain ⟨h1,h2⟩:=d6a hi
 exact GoI.skip h1 hd hw (h (i+1) h2)
theorem GoR.call {ops:Array Oper} {os:List Oper} {dst:Option Tmp} {c:Call} {ty:TypeId} {pos:String} {after:Array Edge} {f:FuncId} {args:List Value} {fn:Func} (hd:i9a sz dst) (hc:(Op.call c).operands.toList.all b5a=true)
  (ht : l4a ρ (.call c) = some (f, args)) (hf : P.funcs[f]? = some fn) (hn : (fn.name == "runtime.NumGoroutine") = false) (hb : fn.body.isNone = false)
  (h:u6d P orc base f args H fun v H1=>GoR P orc base sz ops os k (put ρ dst v) H1 Q):GoR P orc base sz ops (⟨dst,.call c,ty,pos,after,none⟩::os) k ρ H Q:=fun i hi=>by
 obtain ⟨h1,h2⟩:=d6a hi
 refine GoI.call h1 hd hc rfl ht hf (by simpa using hn) hb ?_
 obtain ⟨v,H',hb,q⟩:=h
 exact ⟨v,H',hb,q (i+1) h2⟩
theorem GoR.b1a {ops:Array Oper} {os:List Oper} {dst:Option Tmp} {op:Op} {ty:TypeId} {pos:String} {after:Array Edge} {g:Nat×Bool} {b:Bool} (hy:f5a ops ρ g.1=some b)
  (h1:b=true→GoR P orc base sz ops (⟨dst,op,ty,pos,after,some g⟩::os) k ρ H Q) (h2:b=false→GoR P orc base sz ops (⟨dst,op,ty,pos,after,some g⟩::os) k ρ H Q) :
  GoR P orc base sz ops (⟨dst,op,ty,pos,after,some g⟩::os) k ρ H Q:=by
 cases b
 ·exact h2 rfl
 ·exact h1 rfl
theorem GoR.c4d {ops:Array Oper} {os:List Oper} {dst:Option Tmp} {c:Call} {ty:TypeId} {pos:String} {after:Array Edge} {g:Nat×Bool} {f:FuncId} {args:List Value} {fn:Func} (hd:i9a sz dst) (hc:(Op.call c).operands.toList.all b5a=true)
  (hw : (f5a ops ρ g.1 == some g.2) = true) (ht : l4a ρ (.call c) = some (f, args)) (hf : P.funcs[f]? = some fn) (hn : (fn.name == "runtime.NumGoroutine") = false) (hb : fn.body.isNone = false)
  (h:u6d P orc base f args H fun v H1=>GoR P orc base sz ops os k (put ρ dst v) H1 Q):GoR P orc base sz ops (⟨dst,.call c,ty,pos,after,some g⟩::os) k ρ H Q:=fun i hi=>by
 obtain ⟨h1,h2⟩:=d6a hi
 refine GoI.call h1 hd hc hw ht hf (by simpa using hn) hb ?_
 obtain ⟨v,H',hb,q⟩:=h
 exact ⟨v,H',hb,q (i+1) h2⟩
theorem put_eq {ρ:Env} {t:Tmp} {v:Value} : put ρ (some t) v t=v:=by simp [put,upd]
theorem v2b {a:Value} {l:List Value} {n:Nat} : o2a (a::l) (n+1)=o2a l n:=by simp [o2a]
theorem G :
  (∀ {v:Value} {H:Heap} {F:Value→Heap→Prop},p4a (some (v,H)) F=F v H) ∧
  (∀ {P base ρ x H},opA P base ρ (.move x) H=some (d0a ρ x,H)) ∧
  (∀ {P base ρ x H},opA P base ρ (.assign x) H=some (d0a ρ x,H)) ∧
  (∀ {P base ρ c a b H},opA P base ρ (.pick c a b) H=match d0a ρ c with | .bool t=>some (if t then d0a ρ a else d0a ρ b,H) | _=>none) ∧
  (∀ {P base ρ t x H},opA P base ρ (.box t x) H=some (.pointer (some (o0a H)),s5a H (d0a ρ x).cells.toList 1)) ∧
  (∀ {P base ρ t x H},opA P base ρ (.load t x) H=(v7b P t (d0a ρ x) H).map (·,H)) ∧
  (∀ {P base ρ t x y H},opA P base ρ (.store t x y) H=(k6b P base t (d0a ρ x) (d0a ρ y) H).map (undef,·)) ∧
  (∀ {P base ρ s x f H},opA P base ρ (.fieldAddr s x f) H=(y3a P s (d0a ρ x) f).map (·,H)) ∧
  (∀ {P base ρ t x i H},opA P base ρ (.indexAddr t x i) H=(y4a P t (d0a ρ x) (d0a ρ i)).map (·,H)) ∧
  (∀ {P base ρ fn a b H},opA P base ρ (.makeFunc fn a b) H=some (.func fn (a.map (d0a ρ)) (b.map (d0a ρ)),H)) ∧
  (∀ {P base ρ t x lo hi mx H},opA P base ρ (.slice t x lo hi mx) H=(a1b P t (d0a ρ x) (lo.map (d0a ρ)) (hi.map (d0a ρ)) (mx.map (d0a ρ)) H).map (·,H)) ∧
  (∀ {P base ρ t n ps H},opA P base ρ (.buildSlice t n ps) H=q8a P t n (ps.toList.map fun (i,x)=>(i,d0a ρ x)) H) ∧
  (∀ {P base ρ t ps H},opA P base ρ (.build t ps) H=(b4c P t (ps.toList.map fun (i,x)=>(i,d0a ρ x))).map (·,H)) ∧
  (∀ {P base ρ s d x H},opA P base ρ (.convert s d x) H=p9b P s d (d0a ρ x) H) ∧
  (∀ {P base ρ b args at_ H},opA P base ρ (.call { callee:=.builtin b,args:=args,argTypes:=at_ }) H=g1a P base b at_ (args.toList.map (d0a ρ)) H) ∧
  (∀ {ρ:Env} {t:Tmp},d0a ρ (.tmp t)=ρ t)∧(∀ {ρ:Env} {v:Value},d0a ρ (.const v)=v)∧(∀ {ρ:Env} {f:FuncId},d0a ρ (.func f) = .func (.func f) #[] #[]) ∧
  (∀ {ρ:Env} {t:Tmp} {v:Value},put ρ (some t) v t=v) ∧
  (∀ {a:Value} {l:List Value},o2a (a::l) 0=a)∧(∀ {a:Value} {l:List Value} {n:Nat},o2a (a::l) (n+1)=o2a l n):=
 ⟨rfl,rfl,rfl,rfl,rfl,rfl,rfl,rfl,rfl,rfl,rfl,rfl,rfl,rfl,rfl,rfl,rfl,rfl,put_eq,rfl,v2b⟩
end
end Go.AM
namespace Go.AM
open Go
def r7a:Op→Bool
 | .move _ | .assign _ | .pick _ _ _ | .nilCheck _ | .unOp _ _ _ | .makeInterface _ _ | .makeFunc _ _ _ | .fieldAddr _ _ _ | .field _ _ _ | .indexAddr _ _ _ | .index _ _ _ | .extract _ _ | .binOp _ _ _ _ _ | .build _ _=>true
 | .call { callee:=.builtin .len,.. } | .call { callee:=.builtin .max,.. } | .call { callee:=.builtin .min,.. } => true
 | _=>false
def w7a:Op→Bool
 | .load _ _ | .slice _ _ _ _ _=>true
 | _=>false
theorem j3b {P:Program} {base:Nat} {ρ:Env} {op:Op} {H H1:Heap} {v:Value} (hf:r7a op=true) (h:opA P base ρ op H=some (v,H1)):H1=H ∧ ∀ H',opA P base ρ op H'=some (v,H'):=by
 have key : ∀ x:Option Value,(x.map (·,H))=some (v,H1)→H1=H ∧ ∀ H':Heap,x.map (·,H')=some (v,H'):=by
  intro x hx
  cases x with
  | none=>cases hx
  | some y=>cases hx;exact ⟨rfl,fun _=>rfl⟩
 cases op<;>(try (simp [r7a] at hf;done))<;>simp only [opA] at h ⊢
 case move=>cases h;exact ⟨rfl,fun _=>rfl⟩
 case assign=>cases h;exact ⟨rfl,fun _=>rfl⟩
 case pick=>split at h<;>first | (cases h;done) | (cases h;exact ⟨rfl,fun _=>rfl⟩)
 case nilCheck=>split at h<;>first | (cases h;done) | (cases h;exact ⟨rfl,fun _=>rfl⟩)
 case makeInterface=>split at h<;>first | (cases h;done) | (cases h;exact ⟨rfl,fun _=>rfl⟩)
 case makeFunc=>cases h;exact ⟨rfl,fun _=>rfl⟩
 case fieldAddr=>exact key _ h
 case field=>exact key _ h
 case indexAddr=>exact key _ h
 case build=>exact key _ h
 case extract=>
  split at h
  ·exact key _ h
  ·cases h
 case index=>
  split at h
  ·rename_i s k i _ _ _
   by_cases h0:0≤i
   ·rw [if_pos h0] at h
    simp only [h0,if_true]
    cases hs:s.data[i.toNat]? with
    | none=>rw [hs] at h;cases h
    | some b=>rw [hs] at h;cases h;exact ⟨rfl,fun _=>rfl⟩
   ·rw [if_neg h0] at h;cases h
  ·cases h
 case unOp op t x=>
  split at h
  ·cases h;exact ⟨rfl,fun _=>rfl⟩
  ·cases h;exact ⟨rfl,fun _=>rfl⟩
  ·rename_i k n _
   cases hp:k3a P (Op.intBits .xor k (if k.signed then -1 else k.max) n) with
   | none=>rw [hp] at h;cases h
   | some w=>
    rw [hp] at h
    by_cases hc:f8a w=true
    ·simp only [Option.bind_some,hc,if_true] at h ⊢
     cases h;exact ⟨rfl,fun _=>rfl⟩
    ·simp [hc] at h
  ·cases h
 case binOp op t x y u=>
  cases hb:j9c P op t (d0a ρ x) (d0a ρ y) with
  | some w=>rw [hb] at h;cases h;exact ⟨rfl,fun _=>rfl⟩
  | none=>
   rw [hb] at h
   simp only at h ⊢
   split at h
   ·cases h;exact ⟨rfl,fun _=>rfl⟩
   ·cases h;exact ⟨rfl,fun _=>rfl⟩
   ·obtain ⟨w,hp,h⟩:=Option.bind_eq_some_iff.1 h
    by_cases hc:f8a w=true
    ·rw [if_pos hc] at h
     cases h
     exact ⟨rfl,fun H'=>by rw [hp];simp [hc]⟩
    ·rw [if_neg hc] at h;cases h
 case call c=>
  obtain ⟨callee,args,at_⟩:=c
  cases callee with
  | builtin b=>
   simp only at h ⊢
   generalize args.toList.map (d0a ρ)=xs at h ⊢
   have hlen:g1a P base .len at_ xs H=some (v,H1)→H1=H ∧ ∀ H',g1a P base .len at_ xs H'=some (v,H'):=by
    intro h
    match xs,h with
    | [x],h=>
     simp only [g1a] at h ⊢
     split at h<;>first | (cases h;done) | (cases h;exact ⟨rfl,fun _=>rfl⟩)
    | [],h=>cases h
    | _::_::_,h=>cases h
   have hmin:g1a P base .min at_ xs H=some (v,H1)→H1=H ∧ ∀ H',g1a P base .min at_ xs H'=some (v,H'):=by
    intro h
    match xs,h with
    | [],h=>simp [g1a] at h
    | [x],h=>simp [g1a] at h
    | _::_::_::_,h=>simp [g1a] at h
    | [x,y],h=>
     cases x<;>first | (simp [g1a] at h;done) | skip
     cases y<;>first | (simp [g1a] at h;done) | skip
     cases h;exact ⟨rfl,fun _=>rfl⟩
   have hmax:g1a P base .max at_ xs H=some (v,H1)→H1=H ∧ ∀ H',g1a P base .max at_ xs H'=some (v,H'):=by
    intro h
    match xs,h with
    | [],h=>simp [g1a] at h
    | [x],h=>simp [g1a] at h
    | _::_::_::_,h=>simp [g1a] at h
    | [x,y],h=>
     cases x<;>first | (simp [g1a] at h;done) | skip
     cases y<;>first | (simp [g1a] at h;done) | skip
     cases h;exact ⟨rfl,fun _=>rfl⟩
   cases b<;>(try (simp [r7a] at hf;done))
   ·exact hlen h
   ·exact hmax h
   ·exact hmin h
  | _=>simp [r7a] at hf
theorem a7c {P:Program} {base:Nat} {ρ:Env} {op:Op} {H H1:Heap} {v:Value} (hf:w7a op=true) (h:opA P base ρ op H=some (v,H1)):H1=H:=by
 cases op<;>(try (simp [w7a] at hf;done))<;>simp only [opA] at h
 ·cases hl:v7b P ‹_› (d0a ρ ‹_›) H with
  | none=>rw [hl] at h;cases h
  | some w=>rw [hl] at h;cases h;rfl
 ·revert h
  generalize a1b _ _ _ _ _ _ _=x
  intro h
  cases x<;>cases h
  rfl
def v3a (ops:Array Oper):List Nat:=(List.range ops.size).filter fun i=>match ops[i]? with | some o => !(r7a o.op || w7a o.op) | none=>false
def pinned (ops:Array Oper) (mk:List Nat) (i:Nat):Bool:=mk.all fun m=>ordered ops ops.size m i || ordered ops ops.size i m
def d1e (ops:Array Oper) (i:Nat):Bool:=match ops[i]? with | some o=>r7a o.op | none=>false
def b3b (ops:Array Oper) (loose:List Nat):Bool:=
 q0a ops (v3a ops)&&(List.range ops.size).all fun i=>(v3a ops).contains i || d1e ops i || pinned ops (v3a ops) i || loose.contains i
section
variable (P:Program) (orc:e6b) (base sz:Nat) (ops:Array Oper) (loose:List Nat) (Inv:Heap→Prop)
inductive Tr:Nat→Env→Heap→List (Value×Heap)→Env→Heap→Prop
 | nil {ρ H} : Tr ops.size ρ H [] ρ H
 | cons {i ρ H v H1 l ρ' H'} (h:w0a P orc base sz ops i ρ H v H1) (hl:i∈loose → ∀ H',Inv H'→w0a P orc base sz ops i ρ H' v H') (hi:Inv H1)
   (t:Tr (i+1) (put ρ (e6a ops i) v) H1 l ρ' H'):Tr i ρ H ((v,H1)::l) ρ' H'
end
section
variable {P:Program} {orc:e6b} {base sz:Nat} {ops:Array Oper} {loose:List Nat} {Inv:Heap→Prop}
theorem Tr.spread {ρ0:Env} {v:Nat→Value} {Hs:Nat→Heap} {i ρ H l ρ' H'} (t:Tr P orc base sz ops loose Inv i ρ H l ρ' H'):Hs i=H→y1a ops v ρ0 (fun _=>true) i=ρ→(∀ k p,l[k]?=some p→v (i+k)=p.1∧Hs (i+k+1)=p.2) →
  (∀ j,i≤j→j<ops.size→w0a P orc base sz ops j (y1a ops v ρ0 (fun _=>true) j) (Hs j) (v j) (Hs (j+1)) ∧
   (j∈loose → ∀ H',Inv H'→w0a P orc base sz ops j (y1a ops v ρ0 (fun _=>true) j) H' (v j) H')∧Inv (Hs (j+1))) ∧
  y1a ops v ρ0 (fun _=>true) ops.size=ρ'∧Hs ops.size=H':=by
 induction t with
 | nil=>intro h1 h2 _;exact ⟨fun j a b=>by omega,h2,h1⟩
 | @cons i ρ H w H1 l ρ' H' h hl hi t ih=>
  intro h1 h2 h3
  obtain ⟨e1,e2⟩:=h3 0 _ rfl
  simp only [Nat.add_zero] at e1 e2
  obtain ⟨a,b,c⟩:=ih e2 (by simp only [y1a,if_true,h2,e1]) fun k p hk=>by
   have:=h3 (k+1) p (by simpa using hk)
   rw [show i+1+k=i+(k+1) by omega]
   exact this
  refine ⟨fun j hj hjs => ?_,b,c⟩
  rcases Nat.lt_or_ge i j with hij | hij
  ·exact a j hij hjs
  ·obtain rfl:j=i:=by omega
   rw [h2,h1,e1,e2]
   exact ⟨h,hl,hi⟩
theorem r3a (hd : ∀ j,j<ops.size → ∀ k∈direct ops j,k<j) : ∀ n i j,ordered ops n i j=true→i<j
 | 0,_,_,h=>by simp [ordered] at h
 | n+1,i,j,h=>by
  simp only [ordered,List.any_eq_true,Bool.or_eq_true,beq_iff_eq] at h
  obtain ⟨k,hk,h⟩:=h
  have hj:j<ops.size:=by
   rcases Nat.lt_or_ge j ops.size with hj | hj
   ·exact hj
   ·simp [direct,Array.getElem?_eq_none hj] at hk
  have:=hd j hj k hk
  rcases h with rfl | h
  ·exact this
  ·exact Nat.lt_trans (r3a hd n i k h) this
theorem Tr.all {ρ H l ρ' H'} (hf:b3b ops loose=true) (h0:Inv H) (t:Tr P orc base sz ops loose Inv 0 ρ H l ρ' H') (n:Nat) :
  Big P orc base (.ops sz ops (Region.linearise .any ops n) ρ) H (.env ρ') H':=by
 simp only [b3b,Bool.and_eq_true] at hf
 obtain ⟨hok,hcl⟩:=hf
 let v:Nat→Value:=fun i=>((l[i]?).map (·.1)).getD undef
 let Hs:Nat→Heap:=fun i=>match i with | 0=>H | i+1=>((l[i]?).map (·.2)).getD H'
 obtain ⟨a,b,c⟩:=t.spread (ρ0:=ρ) (v:=v) (Hs:=Hs) rfl rfl fun k p hk=>by
  rw [Nat.zero_add]
  exact ⟨by simp [v,hk],by simp [Hs,hk]⟩
 have hinv : ∀ q,q≤ops.size→Inv (Hs q):=by
  intro q hq
  cases q with
  | zero=>exact h0
  | succ q=>exact (a q (Nat.zero_le _) hq).2.2
 have t4e : ∀ j,j<ops.size → ∀ k∈direct ops j,k<j:=by
  intro j hj k hk
  simp only [q0a,Bool.and_eq_true,List.all_eq_true,List.mem_range,decide_eq_true_eq] at hok
  exact hok.1.1 j hj k hk
 have o4d : ∀ i,i<ops.size→i∉v3a ops → ∃ o,ops[i]?=some o∧(r7a o.op=true∨w7a o.op=true):=by
  intro i hi hm
  refine ⟨ops[i],by simp [hi],?_⟩
  simp only [v3a,List.mem_filter,List.mem_range,hi,true_and,Array.getElem?_eq_getElem,Bool.not_eq_true',Bool.or_eq_false_iff,not_and] at hm
  cases h1:r7a ops[i].op with
  | true=>exact .inl rfl
  | false=>exact .inr (by simpa using hm h1)
 have still : ∀ i,i<ops.size→i∉v3a ops→Hs (i+1)=Hs i:=by
  intro i hi hm
  obtain ⟨o,ho,hk⟩:=o4d i hi hm
  obtain ⟨o',ho',hd1,⟨hw1,hv1,h⟩ | ⟨hw1,hc1,h | ⟨f,args,fn,ht,hrest⟩⟩⟩:=(a i (Nat.zero_le _) hi).1
  ·exact h
  ·rw [ho] at ho'
   cases ho'
   rcases hk with hk | hk
   ·exact (j3b hk h).1
   ·exact a7c hk h
  ·rw [ho] at ho'
   cases ho'
   exfalso
   obtain ⟨dst,op,type,pos,after,guard⟩:=o
   cases op<;>(try (simp [l4a] at ht;done))
   case call cl=>
   obtain ⟨callee,args,at_⟩:=cl
   cases callee<;>simp [l4a,r7a,w7a] at hk ht
 have T:Trace P orc base sz ops (v3a ops) ρ v Hs:=by
  refine ⟨fun i hi=>(a i (Nat.zero_le _) hi).1,still,?_⟩
  intro i hi hm q hq q1 q2
  obtain ⟨o,ho,hk⟩:=o4d i hi hm
  have hst:=still i hi hm
  have hs:=(a i (Nat.zero_le _) hi).1
  rw [hst] at hs
  simp only [List.all_eq_true,List.mem_range,Bool.or_eq_true,List.contains_iff_mem] at hcl
  rcases hcl i hi with ((h | h) | h) | h
  ·exact absurd h hm
  ·obtain ⟨o',ho',hd,⟨hw,hv,_⟩ | ⟨hw,hc,h' | ⟨f,args,fn,ht,hrest⟩⟩⟩:=hs
   ·exact ⟨o',ho',hd,.inl ⟨hw,hv,rfl⟩⟩
   ·rw [ho] at ho'
    cases ho'
    simp only [d1e,ho] at h
    exact ⟨o,ho,hd,.inr ⟨hw,hc,.inl ((j3b h h').2 _)⟩⟩
   ·rw [ho] at ho'
    cases ho'
    exfalso
    obtain ⟨dst,op,type,pos,after,guard⟩:=o
    cases op<;>(try (simp [l4a] at ht;done))
    case call cl=>
    obtain ⟨callee,args,at_⟩:=cl
    cases callee<;>simp [l4a,r7a,w7a] at hk ht
  ·have e:Hs q=Hs i:=by
    have hp : ∀ m∈v3a ops,ordered ops ops.size m i=true∨ordered ops ops.size i m=true:=by
     intro m hm
     simp only [pinned,List.all_eq_true,Bool.or_eq_true] at h
     exact h m hm
    rcases Nat.le_total i q with hle | hle
    ·have key : ∀ d,i+d≤q→Hs (i+d)=Hs i:=by
      intro d
      induction d with
      | zero=>intro _;rfl
      | succ d ih=>
       intro hd
       rw [← ih (by omega),← Nat.add_assoc]
       refine still _ (by omega) fun hmm => ?_
       rcases hp _ hmm with ho | ho
       ·have:=r3a t4e _ _ _ ho;omega
       ·have:=q2 _ hmm ho;omega
     have:=key (q - i) (by omega)
     rwa [show i+(q - i)=q by omega] at this
    ·have key : ∀ d,q+d≤i→Hs (q+d)=Hs q:=by
      intro d
      induction d with
      | zero=>intro _;rfl
      | succ d ih=>
       intro hd
       rw [← ih (by omega),← Nat.add_assoc]
       refine still _ (by omega) fun hmm => ?_
       rcases hp _ hmm with ho | ho
       ·have:=q1 _ hmm ho;omega
       ·have:=r3a t4e _ _ _ ho;omega
     have:=key (i - q) (by omega)
     rw [show q+(i - q)=i by omega] at this
     exact this.symm
   rw [e]
   exact hs
  ·exact (a i (Nat.zero_le _) hi).2.1 h _ (hinv q hq)
 have:=i7d hok T n
 rw [b,c] at this
 exact this
variable {k:List K} {ρ:Env} {H:Heap} {Q:h6a→Env→Heap→Prop}
theorem x9a {i:Nat} {o:Oper} (ho:ops[i]?=some o):e6a ops i=o.dst:=by simp [e6a,ho]
theorem e7b : ∀ (d:Nat) {i:Nat} {ρ ρ':Env} {H H':Heap},i+d=ops.size→Big P orc base (.ops sz ops (List.range' i d) ρ) H (.env ρ') H' → ∃ l,Tr P orc base sz ops [] (fun _=>True) i ρ H l ρ' H'
 | 0,i,ρ,ρ',H,H',hd,hb=>by
  obtain rfl:i=ops.size:=by omega
  cases hb
  exact ⟨[],.nil⟩
 | d+1,i,ρ,ρ',H,H',hd,hb=>by
  rw [List.range'_succ] at hb
  cases hb with
  | z0a ho hw hd' h=>
   have e:=x9a ho
   rw [← e] at h
   obtain ⟨l,t⟩:=e7b d (by omega) h
   exact ⟨_,.cons ⟨_,ho,hd',.inl ⟨hw,rfl,rfl⟩⟩ (by simp) trivial t⟩
  | w5b ho hw hd' hc hop h=>
   have e:=x9a ho
   rw [← e] at h
   obtain ⟨l,t⟩:=e7b d (by omega) h
   exact ⟨_,.cons ⟨_,ho,hd',.inr ⟨hw,hc,.inl hop⟩⟩ (by simp) trivial t⟩
  | y9a ho hw hd' hc ht hf hn hbo hcall h=>
   have e:=x9a ho
   rw [← e] at h
   obtain ⟨l,t⟩:=e7b d (by omega) h
   exact ⟨_,.cons ⟨_,ho,hd',.inr ⟨hw,hc,.inr ⟨_,_,_,ht,hf,hn,hbo,hcall⟩⟩⟩ (by simp) trivial t⟩
theorem Go.rgS {id:Nat} {l:List Oper} (hm:P.follows .mixedOrders=true) (hf:b3b l.toArray []=true) (h:GoR P orc base sz l.toArray l k ρ H Q):Go P orc base sz (.code (.region id l.toArray true)::k) .normal ρ H Q:=by
 obtain ⟨ρ',H',hb,h⟩:=h 0 (by simp)
 obtain ⟨tr,t⟩:=e7b _ (by simp) hb
 exact ⟨.normal,ρ',H',.n2b hm (fun n=>t.all hf trivial n),h⟩
def GoD (P:Program) (orc:e6b) (base sz:Nat) (ops:Array Oper) (loose:List Nat) (Inv:Heap→Prop) (i:Nat) (rest:List Oper) (k:List K) (ρ:Env) (H:Heap) (Q:h6a→Env→Heap→Prop):Prop:=
 ops.toList.drop i=rest → ∃ l ρ' H',Tr P orc base sz ops loose Inv i ρ H l ρ' H'∧Go P orc base sz k .normal ρ' H' Q
theorem Go.rgD {id:Nat} {l:List Oper} (loose:List Nat) (Inv:Heap→Prop) (hm:P.follows .mixedOrders=true) (hf:b3b l.toArray loose=true) (hi:Inv H) (h:GoD P orc base sz l.toArray loose Inv 0 l k ρ H Q) :
  Go P orc base sz (.code (.region id l.toArray true)::k) .normal ρ H Q:=by
 obtain ⟨tr,ρ',H',t,h⟩:=h (by simp)
 exact ⟨.normal,ρ',H',.n2b hm (fun n=>t.all hf hi n),h⟩
end
end Go.AM
namespace Go.AM
open Go
def j8b (sz:Nat):Option Tmp→Bool
 | some t=>decide (t<sz)
 | none=>true
theorem n9c {sz:Nat} {d:Option Tmp} (h:j8b sz d=true):i9a sz d:=by
 cases d with
 | none=>trivial
 | some t=>simpa [j8b,i9a] using h
def run (P:Program) (base:Nat):Nat→Job→Heap→Option (Out×Heap)
 | 0,_,_=>none
 | n+1,j,H=>
  match j with
  | .ops sz ops l ρ=>
   match l with
   | []=>some (.env ρ,H)
   | i::l=>
    match ops[i]? with
    | none=>none
    | some o=>
     match j8b sz o.dst with
     | false=>none
     | true=>
      match Region.wanted o (f5a ops ρ) with
      | false=>run P base n (.ops sz ops l (put ρ o.dst undef)) H
      | true=>
       match o.op.operands.toList.all b5a with
       | false=>none
       | true=>
        match l4a ρ o.op with
        | some (f,args)=>
         match P.funcs[f]? with
         | none=>none
         | some fn=>
          match fn.name == "runtime.NumGoroutine" || fn.body.isNone with
          | true=>none
          | false=>
           match run P base n (.call f args) H with
           | some (.val v,H1)=>run P base n (.ops sz ops l (put ρ o.dst v)) H1
           | _=>none
        | none=>
         match opA P base ρ o.op H with
         | some (v,H1)=>run P base n (.ops sz ops l (put ρ o.dst v)) H1
         | none=>none
  | .code sz c ρ=>
   match c with
   | .skip=>some (.exit .normal ρ,H)
   | .label _=>some (.exit .normal ρ,H)
   | .exit id=>some (.exit (.exit id) ρ,H)
   | .ret=>some (.exit .ret ρ,H)
   | .seq c d=>
    match run P base n (.code sz c ρ) H with
    | some (.exit .normal ρ1,H1)=>run P base n (.code sz d ρ1) H1
    | some (.exit (.exit id) ρ1,H1)=>some (.exit (.exit id) ρ1,H1)
    | some (.exit .ret ρ1,H1)=>some (.exit .ret ρ1,H1)
    | _=>none
   | .cond c x y=>
    match b5a c,d0a ρ c with
    | true,.bool true=>run P base n (.code sz x ρ) H
    | true,.bool false=>run P base n (.code sz y ρ) H
    | _,_=>none
   | .block id c=>
    match run P base n (.code sz c ρ) H with
    | some (.exit .normal ρ1,H1)=>some (.exit .normal ρ1,H1)
    | some (.exit (.exit id') ρ1,H1)=>match id'==id with | true=>some (.exit .normal ρ1,H1) | false=>some (.exit (.exit id') ρ1,H1)
    | some (.exit .ret ρ1,H1)=>some (.exit .ret ρ1,H1)
    | _=>none
   | .loop c=>
    match run P base n (.code sz c ρ) H with
    | some (.exit .normal ρ1,H1)=>run P base n (.code sz (.loop c) ρ1) H1
    | some (.exit (.exit id) ρ1,H1)=>some (.exit (.exit id) ρ1,H1)
    | some (.exit .ret ρ1,H1)=>some (.exit .ret ρ1,H1)
    | _=>none
   | .region _ ops d=>
    match d && !b3b ops [] with
    | true=>none
    | false=>
     match run P base n (.ops sz ops (List.range' 0 ops.size) ρ) H with
     | some (.env ρ1,H1)=>some (.exit .normal ρ1,H1)
     | _=>none
   | _=>none
  | .call f args=>
   match P.funcs[f]? with
   | none=>none
   | some fn=>
    match fn.body with
    | none=>none
    | some c=>
     match decide (args.length≤fn.ntmps) with
     | false=>none
     | true=>
      match run P base n (.code fn.ntmps c (o2a args)) H with
      | some (.exit (.exit _) _,_)=>none
      | some (.exit _ ρ,H')=>match d2b P fn ρ H' with | some v=>some (.val v,H') | none=>none
      | _=>none
end Go.AM
namespace Go.AM
open Go
section
variable {α β:Type}
theorem k0c {a b:ByteArray} (h:a.data.toList=b.data.toList):a=b:=by
 cases a;cases b
 simp only [ByteArray.mk.injEq]
 exact Array.toList_inj.1 h
theorem str_eq {x y:ByteArray} : (x.toList==y.toList)=decide (x=y):=by
 rw [Go.ByteArray.toList_eq,Go.ByteArray.toList_eq]
 by_cases h:x=y
 ·subst h;simp
 ·simp only [h,decide_false,beq_eq_false_iff_ne,ne_eq]
  exact fun e=>h (k0c e)
end
end Go.AM
namespace Go.AM
open Go Go.ChangeShapes Go.WideShapes Go.RowKit
theorem Step.below {φ φ' H H' w w'} (s:Step 0 φ H w φ' H' w') (hro : ∀ h b,hget H h=some b→b.rw=false):Below w.heap.size w w' :=
 ⟨s.os,s.tape,s.output,s.size,fun k hk=>s.frame k hk fun h blk _ hg hr=>by rw [hro h blk hg] at hr;cases hr⟩
section
variable {H:Type} {enc:TypeId×Value→H} {P:Program}
theorem k8b (hl:laidOutB P=true) {W W':World} (hb:Below W.heap.size W W') : ∀ {ts:List TypeId} {vs:List Value} {ds:List (DataW H)} {ps:List MemPlace},(∀ t∈ts,P.readableRec t=true∧t<P.types.size) →
  DataW.TrodAll enc P W 0 (fun _=>true) true ts vs ds ps→(∀ x∈ps,x.block<W.heap.size)→DataW.TrodAll enc P W' 0 (fun b=>decide (b<W.heap.size)) true ts vs ds ps
 | [],_,_,_,_,h,_=>by
  obtain ⟨rfl,rfl,rfl⟩:=trodAll_nil h
  exact rfl
 | t::ts,_,_,_,hr,h,hlt=>by
  obtain ⟨v,vs',d,ds',p,q,rfl,rfl,rfl,h1,h2⟩:=trodAll_cons h
  exact ⟨p,q,Below.trod hl (hr t (by simp)).1 (hr t (by simp)).2 h1 hb fun x hx=>hlt x (by simp [hx]),k8b hl hb (fun t ht=>hr t (by simp [ht])) h2 fun x hx=>hlt x (by simp [hx]),rfl⟩
theorem q3d {f:Func} {s:ChangeSpec} {apart handsOn:Bool} {W W':World} {args:Array Value} {ds gs:List (DataW H)} {before:List MemPlace} {tb:TypeId}
  (hW:DataW.Whole enc P f.params.toList s.vars apart W args.toList ds gs before) (hv:s.vars=[]) (hfn:s.fn H (ds++gs) = { results:=[.lit (.bool true)],args:=ds })
  (hl:laidOutB P=true) (hrd : ∀ t∈f.params.toList,P.readableRec t=true∧t<P.types.size) (hr:f.resultTypes = #[tb]) (ht:P.underlying tb=some .bool) (hb:Below W.heap.size W W') :
  s.post enc P f apart true handsOn false W args (.bool true) W':=by
 have hlt:=hW.lt
 have hW0:=hW
 obtain ⟨p,q,hA,hV,rfl,hfz,hnd⟩:=hW
 rw [hv] at hV
 obtain ⟨hg,hq⟩:=trodVars_none hV
 subst hq
 refine ⟨ds,gs,p++[],[],p,[],hW0,?_,?_,?_,?_,fun h=>by cases h⟩
 ·rw [hfn,hr]
  exact trodAll_mk1 ⟨1,by simp [DataW.trod,Value.cells,ht,Lit.wf]⟩
 ·rw [hfn]
  exact k8b hl hb hrd hA fun x hx=>hlt x (by simpa using hx)
 ·rw [hfn,hv]
  exact rfl
 ·exact World.keptBut_mono (fun p h=>h.elim) (hb.frame fun _=>False)
end
end Go.AM
