/- Tables above a memory; what putting comes to; all attributes. -/
import Derived.Test.YtlllhmenekibjaaGreatDoorDtT6x
import Derived.KernelRfl
set_option linter.unusedSimpArgs false
set_option linter.unusedVariables false
namespace Go.Proofs.DtT
open Go Go.DM Go.Proofs.DtF
set_option maxRecDepth 100000
variable {orc:DOracle}
theorem OkT.nil:OkT []:=⟨fun i h=>by simp at h,by simp,by simp⟩
theorem putT_bad {most:Int} {l:List Rw} {r:Rw} (h : ¬ chkR r=0):putT most l r=(l,chkR r):=by rw [putT,if_pos h]
theorem putT_newer {most:Int} {l:List Rw} {r o:Rw} (h:chkR r=0) (hq:lookK Rw.key l r.key=some o) (hn:0<cmpSt r.st o.st):putT most l r=(putK Rw.key l r,0):=by rw [putT,if_neg (by simp [h]),hq];simp [hn]
theorem putT_old {most:Int} {l:List Rw} {r o:Rw} (h:chkR r=0) (hq:lookK Rw.key l r.key=some o) (hn : ¬ 0<cmpSt r.st o.st):putT most l r=(l,11):=by rw [putT,if_neg (by simp [h]),hq];simp [hn]
theorem putT_new {most:Int} {l:List Rw} {r:Rw} (h:chkR r=0) (hq:lookK Rw.key l r.key=none) (hm:(l.length:Int)<most):putT most l r=(putK Rw.key l r,0):=by
 rw [putT,if_neg (by simp [h]),hq]
 dsimp only
 rw [if_neg (by omega)]
theorem putT_out {most:Int} {l:List Rw} {r:Rw} (h:chkR r=0) (hq:lookK Rw.key l r.key=none) (hm:most≤l.length) (hn:0<cmpSt r.st (least l).st):putT most l r=(putK Rw.key (dropK Rw.key l (least l).key) r,0):=by
 rw [putT,if_neg (by simp [h]),hq]
 dsimp only
 rw [if_pos hm,if_pos hn]
theorem putT_full {most:Int} {l:List Rw} {r:Rw} (h:chkR r=0) (hq:lookK Rw.key l r.key=none) (hm:most≤l.length) (hn : ¬ 0<cmpSt r.st (least l).st):putT most l r=(l,9):=by
 rw [putT,if_neg (by simp [h]),hq]
 dsimp only
 rw [if_pos hm,if_neg hn]
theorem OkT.putT {most:Int} {l:List Rw} (h:OkT l) (hl:l.length<900000) {r:Rw} (hr:OkR r):OkT (putT most l r).1:=by
 unfold DtT.putT
 split
 ·exact h
 ·split
  ·split
   ·exact h.put (by omega) hr
   ·exact h
  ·split
   ·split
    ·exact (h.drop _).put (by rw [lenK_drop h.rise];split<;>omega) hr
    ·exact h
   ·exact h.put (by omega) hr
theorem keptL_sub {now age:Int} {keep:ByteArray} {l:List Rw} : (keptL now age keep l).Sublist l:=List.filter_sublist
end Go.Proofs.DtT
namespace Go.Proofs.DtT
open Go Go.DM Go.Proofs.DtF
set_option maxRecDepth 100000
def rowAt (k:ByteArray) (st:St):Rw:=⟨k,st,[]⟩
theorem rowAt_ok (k:ByteArray) (st:St):OkR (rowAt k st):=⟨by simp [rowAt],by simp [rowAt]⟩
theorem rowAt_few {k:ByteArray} {st:St} (h1:k.size<1000000) (h2:st.org.size<1000000):FewR (rowAt k st):=⟨h1,h2,by simp [rowAt],by simp [rowAt],by simp [rowAt]⟩
end Go.Proofs.DtT
