/- What is parsed as a fold is a good one. -/
import Derived.Test.YtcdijoaabbjioaaGreatDoorDgG16x
import Derived.Test.YtcdijoaabbjioaaGreatDoorDgKn
set_option linter.unusedSimpArgs false
set_option linter.unusedVariables false
namespace Go.Proofs.DgT
open Go Go.DM
set_option maxRecDepth 100000
theorem Fine.f0d {n:Nd} (h:Fine n):f3b 100 n:=f7d n h.1
theorem a5d:f3b 100 t6a:=.mk (by decide) (by decide) (by simp)
theorem c6b {l:List Tok} (hw : ∀ t∈l,n6a t) {i:Nat} (hi:i≤l.length) {a:Nd} {j:Nat} (h:r0a l i = .ok (a,j)):Fine a:=by
 obtain ⟨r,hr,hg⟩:=g6c hw hi
 simp only [r0a,hr] at h
 split at h
 ·rename_i he
  cases h
  obtain ⟨w,c1,c2⟩:=hg.ok he
  dsimp only at c1
  exact ⟨w,by omega⟩
 ·cases h
def f6e (c:Cd):Prop:=k0b c.op=true∧Fine c.a∧Fine c.b
theorem c6d {l:List Tok} (hw : ∀ t∈l,n6a t) {i:Nat} (hi:i≤l.length) {c:Cd} {j:Nat} (h:a3b l i = .ok (c,j)):f6e c:=by
 unfold a3b at h
 cases h1:r0a l i with
 | error x=>rw [h1] at h;cases h
 | ok x=>
  obtain ⟨a,j1⟩:=x
  rw [h1] at h
  dsimp only at h
  cases h2:l[j1]? with
  | none=>rw [h2] at h;cases h
  | some t=>
   rw [h2] at h
   dsimp only at h
   split at h
   ·rename_i hk
    cases h3:r0a l (j1+1) with
    | error x=>rw [h3] at h;cases h
    | ok x=>
     rw [h3] at h
     cases h
     exact ⟨hk.2,c6b hw hi h1,c6b hw (show j1+1≤l.length from (List.getElem?_eq_some_iff.1 h2).1) h3⟩
   ·cases h
theorem t5b {l:List Tok} (hw : ∀ t∈l,n6a t) : ∀ (f:Nat) (ws:List Cd) (i:Nat),i≤l.length→(∀ c∈ws,f6e c)→ws.length≤4 → ∀ ws' j,r9a l f ws i = .ok (ws',j)→(∀ c∈ws',f6e c)∧ws'.length≤4
 | 0,ws,i,hi,h1,h2,ws',j,h=>by cases h;exact ⟨h1,h2⟩
 | f+1,ws,i,hi,h1,h2,ws',j,h=>by
  unfold r9a at h
  split at h
  ·rename_i hwd
   split at h
   ·rename_i h4
    cases hc:a3b l (i+1) with
    | error x=>rw [hc] at h;cases h
    | ok x=>
     obtain ⟨c,j2⟩:=x
     rw [hc] at h
     have hil:i+1≤l.length:=u1e hwd
     refine t5b hw f (ws++[c]) j2 (y0c hw hil hc).2 ?_ (by simp;omega) ws' j h
     intro d hd
     rcases List.mem_append.1 hd with hd | hd
     ·exact h1 d hd
     ·rw [List.mem_singleton.1 hd]
      exact c6d hw hil hc
   ·cases h
  ·cases h;exact ⟨h1,h2⟩
theorem g3f {l:List Tok} {b:Bool} {i:Nat} {k:Int} {j:Nat} (hi:i≤l.length) (h:kX l b i = .ok (k,j)):j≤l.length∧(b=true→1≤k∧k≤16):=by
 unfold kX at h
 split at h
 ·rename_i hb
  cases h
  exact ⟨hi,fun e=>by rw [hb] at e;cases e⟩
 ·split at h
  ·cases h
  ·split at h
   ·split at h
    ·cases h
    ·rename_i hn
     cases hw2:wX l (i+1) (⟨#[44]⟩:ByteArray) with
     | error x=>rw [hw2] at h;cases h
     | ok j=>rw [hw2] at h;cases h;exact ⟨(p9c hw2).2,fun _=>by omega⟩
   ·cases h
theorem e1f {l:List Tok} (hw : ∀ t∈l,n6a t) {b:Bool} {i:Nat} {e:Nd} {j:Nat} (hi:i≤l.length) (h:eX l b i = .ok (e,j)):j≤l.length∧(b=true→Fine e)∧f3b 100 e:=by
 unfold eX at h
 split at h
 ·have hf:=c6b hw hi h
  exact ⟨(y2a hw hi h).2,fun _=>hf,hf.f0d⟩
 ·rename_i hb
  cases h
  exact ⟨hi,fun e=>absurd e hb,a5d⟩
theorem p2e {l:List Tok} (hw : ∀ t∈l,n6a t) {b:Bool} {i:Nat} {e:Nd} {j:Nat} (hi:i≤l.length) (h:byX l b i = .ok (e,j)):j≤l.length∧(b=true→Fine e)∧f3b 100 e:=by
 unfold byX at h
 split at h
 ·rename_i hb
  cases h
  exact ⟨hi,fun e=>(by rw [hb] at e;cases e),a5d⟩
 ·cases hw2:wX l i (⟨#[44]⟩:ByteArray) with
  | error x=>rw [hw2] at h;cases h
  | ok j2=>
   rw [hw2] at h
   have hj:=(p9c hw2).2
   have hf:=c6b hw hj h
   exact ⟨(y2a hw hj h).2,fun _=>hf,hf.f0d⟩
theorem l0e {fn:ByteArray} (h:(f6a fn).2.2.2=true):(fn=(⟨#[116,111,112]⟩:ByteArray)→(f6a fn).1=true)∧(fn≠(⟨#[99,111,117,110,116]⟩:ByteArray)→(f6a fn).2.1=true)∧(fn=(⟨#[102,105,114,115,116]⟩:ByteArray)→(f6a fn).2.2.1=true):=by
 rcases l9a h with rfl | rfl | rfl | ⟨h1,h2,h3,hn⟩
 ·exact ⟨fun _=>by contradiction,fun h=>absurd rfl h,fun _=>by contradiction⟩
 ·exact ⟨fun _=>by contradiction,fun _=>rfl,fun _=>rfl⟩
 ·exact ⟨fun _=>rfl,fun _=>rfl,fun _=>by contradiction⟩
 ·rw [hn]
  exact ⟨fun h=>absurd h h2,fun _=>rfl,fun h=>absurd h h3⟩
theorem h2d {l:List Tok} (hw : ∀ t∈l,n6a t) {a:Ag} (h:x3c l = .ok a):f2b a∧z8b a:=by
 unfold x3c at h
 cases h0:l[0]? with
 | none=>rw [h0] at h;cases h
 | some t=>
  rw [h0] at h
  dsimp only at h
  split at h
  ·split at h
   ·rename_i hk hfn
    obtain ⟨n1,n2,n3⟩:=l0e hfn
    unfold a3d at h
    cases h1:wX l 1 (⟨#[40]⟩:ByteArray) with
    | error x=>rw [h1] at h;cases h
    | ok i1=>
     rw [h1] at h
     dsimp only at h
     have l1:=(p9c h1).2
     cases h2:kX l (f6a t.t).1 i1 with
     | error x=>rw [h2] at h;cases h
     | ok x=>
      obtain ⟨k,i2⟩:=x
      rw [h2] at h
      dsimp only at h
      obtain ⟨l2,p2⟩:=g3f l1 h2
      cases h3:eX l (f6a t.t).2.1 i2 with
      | error x=>rw [h3] at h;cases h
      | ok x=>
       obtain ⟨e,i3⟩:=x
       rw [h3] at h
       dsimp only at h
       obtain ⟨l3,p3,s3⟩:=e1f hw l2 h3
       cases h4:byX l (f6a t.t).2.2.1 i3 with
       | error x=>rw [h4] at h;cases h
       | ok x=>
        obtain ⟨b,i4⟩:=x
        rw [h4] at h
        dsimp only at h
        obtain ⟨l4,p4,s4⟩:=p2e hw l3 h4
        unfold h6b at h
        cases h5:wX l i4 (⟨#[41]⟩:ByteArray) with
        | error x=>rw [h5] at h;cases h
        | ok i5=>
         rw [h5] at h
         dsimp only at h
         cases h6:r9a l (l.length+1) [] i5 with
         | error x=>rw [h6] at h;cases h
         | ok x=>
          obtain ⟨ws,i6⟩:=x
          rw [h6] at h
          dsimp only at h
          split at h
          ·cases h
           obtain ⟨q1,q2⟩:=t5b hw _ [] i5 (p9c h5).2 (by simp) (by simp) ws i6 h6
           exact ⟨⟨hfn,fun q=>p2 (n1 q),fun q=>p3 (n2 q),fun q=>p4 (n3 q),q2,q1⟩,s3,s4,fun c hc=>⟨(q1 c hc).2.1.f0d,(q1 c hc).2.2.f0d⟩⟩
          ·cases h
   ·cases h
  ·cases h
theorem v2c {s:ByteArray} {a:Ag} (h:w5a s = .ok a):f2b a∧z8b a:=by
 unfold w5a at h
 cases hl:u1c s with
 | error x=>rw [hl] at h;cases h
 | ok l=>
  rw [hl] at h
  dsimp only at h
  cases hA:x3c l with
  | error x=>rw [hA] at h;cases h
  | ok a'=>rw [hA] at h;cases h;exact h2d (z7c hl) hA
end Go.Proofs.DgT
namespace Go.Proofs.DgT
open Go Go.DM
set_option maxRecDepth 100000
end Go.Proofs.DgT
