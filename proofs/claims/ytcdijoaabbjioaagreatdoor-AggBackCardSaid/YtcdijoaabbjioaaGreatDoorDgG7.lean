/- The fold's parser, by the program: all of it. -/
import Derived.Test.YtcdijoaabbjioaaGreatDoorDgG4x
set_option linter.unusedSimpArgs false
set_option linter.unusedVariables false
namespace Go.DM
open Go Go.AM
section
variable {P:Program} {orc:c3a} {fl sz:Nat} {k:List K} {Q1 Q:h6a→e1a→Mem→Prop}
theorem Go.app' (f : ∀ e ρ H,Q1 e ρ H→Go P orc fl sz k e ρ H Q) : ∀ (a:List K) {e:h6a} {ρ:e1a} {H:Mem},Go P orc fl sz a e ρ H Q1→Go P orc fl sz (a++k) e ρ H Q
 | [],_,_,_,h=>f _ _ _ h
 | .code c::a,e,ρ,H,h=>by
  cases e with
  | normal=>
   obtain ⟨e',ρ',H',hb,h⟩:=h
   exact ⟨e',ρ',H',hb,Go.app' f a h⟩
  | exit id=>exact Go.app' f a h
  | ret=>exact Go.app' f a h
 | .blk id::a,e,ρ,H,h=>by
  cases e with
  | normal=>exact Go.app' f a h
  | exit id' =>
   simp only [List.cons_append,Go] at h ⊢
   split
   ·rename_i hi;rw [if_pos hi] at h;exact Go.app' f a h
   ·rename_i hi;rw [if_neg hi] at h;exact Go.app' f a h
  | ret=>exact Go.app' f a h
 | .lp c::a,e,ρ,H,h=>by
  cases e with
  | normal=>
   obtain ⟨e',ρ',H',hb,h⟩:=h
   exact ⟨e',ρ',H',hb,Go.app' f a h⟩
  | exit id=>exact Go.app' f a h
  | ret=>exact Go.app' f a h
theorem Go.a2f {e:h6a} {ρ:e1a} {H:Mem} (a:List K) (R B:e1a→Mem→Prop) (h1:Go P orc fl sz a e ρ H fun e ρ' H'=>(e = .normal∧R ρ' H')∨(e = .exit PAN∧B ρ' H'))
  (h2 : ∀ ρ' H',R ρ' H'→Go P orc fl sz k .normal ρ' H' Q) (h3 : ∀ ρ' H',B ρ' H'→Go P orc fl sz k (.exit PAN) ρ' H' Q):Go P orc fl sz (a++k) e ρ H Q:=
 Go.app' (fun e ρ H h=>by
  rcases h with ⟨rfl,h⟩ | ⟨rfl,h⟩
  ·exact h2 ρ H h
  ·exact h3 ρ H h) a h1
end
end Go.DM
namespace Go.Proofs.DgT
open Go Go.DM
set_option maxRecDepth 100000
def z4e (l:List Tok) (M:List D→Mem) (x:ER Ag) (e:AM.h6a) (ρ:e1a) (H':Mem):Prop:=
 match x with
 | .ok a=>(e = .normal∨e = .ret) ∧ ∃ v,g9a Tryz.prog Tryz.f30 ρ H'=some v ∧ ∃ E,H'=M (gC l l.length)++E∧Wf v (.agg (Ag.c a))
 | .error (j,er)=>e = .exit PAN∧ρ a9b=g0d j er ∧ ∃ c E,H'=M c++E
theorem m6e {l:List Tok} (hl:l.length<100000) {M:List D→Mem} {o n:Nat} (hF:Fam M o n) {i j:Nat} (hi:i≤l.length) {s:ByteArray} (h:wX l i s = .ok j) (E:Mem) :
  a3a Tryz.prog O 83 [.ptr o 0,.int .i64 3,.str s] (M (gC l i)++E) fun d S'=>S'=M (gC l j)++E∧d = .tup []:=by
 have:=h0d hl (hF.app E) i hi 3 s
 unfold wX at h
 unfold c0e at this
 split at h
 ·rename_i hw
  cases h
  rw [if_pos hw] at this
  exact this
 ·cases h
theorem x7e {l:List Tok} (hl:l.length<100000) {M:List D→Mem} {o n:Nat} (hF:Fam M o n) {i j:Nat} (hi:i≤l.length) {e:Int} {s:ByteArray} (h:wX l i s = .error (j,e)) (E:Mem) :
  i5a Tryz.prog O 83 [.ptr o 0,.int .i64 3,.str s] (M (gC l i)++E) fun d S'=>d=g0d j e ∧ ∃ c E,S'=M c++E:=by
 have:=h0d hl (hF.app E) i hi 3 s
 unfold wX at h
 unfold c0e at this
 split at h
 ·cases h
 ·rename_i hw
  cases h
  rw [if_neg hw] at this
  obtain ⟨d,ρ,H,hb,rfl,c,E',rfl⟩:=this
  exact ⟨_,ρ,_,hb,rfl,c,E++E',by simp⟩
theorem p9c {l:List Tok} {i j:Nat} {s:ByteArray} (h:wX l i s = .ok j):j=i+1∧j≤l.length:=by
 unfold wX at h
 split at h
 ·rename_i hw
  cases h
  refine ⟨rfl,?_⟩
  unfold isW at hw
  cases hi:l[i]? with
  | none=>rw [hi] at hw;cases hw
  | some t=>exact (List.getElem?_eq_some_iff.1 hi).1
 ·cases h
theorem h3e {l:List Tok} (hl:l.length<100000) (hw : ∀ t∈l,n6a t) {M:List D→Mem} {o n:Nat} (hF:Fam M o n) {i j:Nat} (hi:i≤l.length) {a:Cd} (h:a3b l i = .ok (a,j)) (E:Mem) :
  a3a Tryz.prog O 87 [.ptr o 0] (M (gC l i)++E) fun d S'=>S'=M (gC l j)++E∧d = .agg (Cd.c a):=by
 have:=g7d hl hw (hF.app E) i hi
 simp only [f6b,h] at this
 exact this
theorem q1e {l:List Tok} (hl:l.length<100000) (hw : ∀ t∈l,n6a t) {M:List D→Mem} {o n:Nat} (hF:Fam M o n) {i j:Nat} (hi:i≤l.length) {e:Int} (h:a3b l i = .error (j,e)) (E:Mem) :
  i5a Tryz.prog O 87 [.ptr o 0] (M (gC l i)++E) fun d S'=>d=g0d j e ∧ ∃ c E,S'=M c++E:=by
 have:=g7d hl hw (hF.app E) i hi
 simp only [f6b,h] at this
 obtain ⟨d,ρ,H,hb,rfl,c,E',rfl⟩:=this
 exact ⟨_,ρ,_,hb,rfl,c,E++E',by simp⟩
theorem y0c {l:List Tok} (hw : ∀ t∈l,n6a t) {i:Nat} (hi:i≤l.length) {a:Cd} {j:Nat} (h:a3b l i = .ok (a,j)):i<j∧j≤l.length:=by
 unfold a3b at h
 cases h1:r0a l i with
 | error x=>rw [h1] at h;cases h
 | ok x=>
  obtain ⟨a1,j1⟩:=x
  obtain ⟨q1,q2⟩:=y2a hw hi h1
  rw [h1] at h
  simp only at h
  cases h2:l[j1]? with
  | none=>rw [h2] at h;cases h
  | some t=>
   rw [h2] at h
   simp only at h
   have hj:j1<l.length:=(List.getElem?_eq_some_iff.1 h2).1
   split at h
   ·cases h3:r0a l (j1+1) with
    | error x=>rw [h3] at h;cases h
    | ok x=>
     obtain ⟨b,j2⟩:=x
     obtain ⟨q3,q4⟩:=y2a hw (show j1+1≤l.length from hj) h3
     rw [h3] at h
     cases h
     omega
   ·cases h
def f9d (n:Nat) (w:D) (ws:List Cd) (E:Mem):Prop:=(w = .c5a∧ws=[])∨(ws≠[] ∧ ∃ k,w = .sl (some (n+2+k)) 9 ws.length (i7a ws)∧E[k]?=some .own)
theorem f9d.acc {n:Nat} {w:D} {ws:List Cd} {E:Mem} (h:f9d n w ws E) {S0:Mem} (h0:S0.length=n+2):z7b (n+2) w 9 ws.length (i7a ws) (S0++E):=by
 rcases h with ⟨rfl,rfl⟩ | ⟨_,k,rfl,hk⟩
 ·exact .inl ⟨rfl,rfl,rfl⟩
 ·refine .inr (.inr ⟨n+2+k,by omega,rfl,?_⟩)
  rw [List.getElem?_append_right (by omega),show n+2+k - S0.length=k by omega]
  exact hk
theorem f9d.one {n:Nat} {w:D} {ws:List Cd} {E:Mem} (h:f9d n w ws E):D.one w=true∧cellsD w=some [w]:=by
 rcases h with ⟨rfl,_⟩ | ⟨_,k,rfl,_⟩<;>exact ⟨rfl,rfl⟩
theorem n4a {P:Program} {at_:Array TypeId} {s:D} {o o':Option Nat} {z n:Nat} {c:List D} {S:Mem} : b4a P at_ s (.sl o z n c) S=b4a P at_ s (.sl o' z n c) S:=by
 simp only [b4a,u5d,o4a]
theorem f9d.more {n:Nat} {w:D} {ws:List Cd} {E:Mem} (h:f9d n w ws E) (hl:ws.length<1000) (c:Cd) {S0:Mem} (h0:S0.length=n+2) :
  ∃ w' E',(∀ own,b4a Tryz.prog #[26,26] w (.sl own 9 1 (Cd.c c)) (S0++(E++[.own]))=some (w',S0++E'))∧f9d n w' (ws++[c]) E':=by
 have ha:=(h.acc h0).app [.own]
 rw [List.append_assoc] at ha
 obtain ⟨w',S',hap,hacc,hg⟩:=ha.append (P:=Tryz.prog) l6b (own:=none) (m:=1) (new:=Cd.c c) (by simp;omega) (by omega) ⟨by omega,by omega,by omega,by simp [Cd.c,Nd.one,D.one]⟩
 obtain ⟨E',hE⟩:=hg.pre (E++[.own]) S0 h0 rfl
 subst hE
 refine ⟨w',E',fun own=>n4a.trans hap,?_⟩
 rcases hacc with ⟨_,h2,_⟩ | ⟨_,h2,_⟩ | ⟨id,h1,h2,h3⟩
 ·omega
 ·omega
 ·refine .inr ⟨by simp,id - (n+2),?_,?_⟩
  ·rw [h2,show n+2+(id - (n+2))=id by omega]
   simp [i7a]
  ·rw [List.getElem?_append_right (by omega),h0] at h3
   exact h3
def agL (fn:ByteArray) (k:Int) (x1 x2 x3 x4 y1 y2 y3 y4 w:D):List D:=[.str fn,.int .i64 k,x1,x2,x3,x4,y1,y2,y3,y4,w]
end Go.Proofs.DgT
