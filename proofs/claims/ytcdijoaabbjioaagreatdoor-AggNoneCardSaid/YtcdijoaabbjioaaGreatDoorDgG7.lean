/- The fold's parser, by the program: all of it. -/
import Derived.Test.YtcdijoaabbjioaaGreatDoorDgG4x
set_option linter.unusedSimpArgs false
set_option linter.unusedVariables false
namespace Go.DM
open Go Go.AM
section
variable {P:Program} {orc:DOracle} {fl sz:Nat} {k:List K} {Q1 Q:AExit→DEnv→Mem→Prop}
end
end Go.DM
namespace Go.Proofs.DgT
open Go Go.DM
set_option maxRecDepth 100000
def AccE (n:Nat) (w:D) (ws:List Cd) (E:Mem):Prop:=(w = .nils∧ws=[])∨(ws≠[] ∧ ∃ k,w = .sl (some (n+2+k)) 9 ws.length (cdsC ws)∧E[k]?=some .own)
theorem AccE.acc {n:Nat} {w:D} {ws:List Cd} {E:Mem} (h:AccE n w ws E) {S0:Mem} (h0:S0.length=n+2):AccD (n+2) w 9 ws.length (cdsC ws) (S0++E):=by
 rcases h with ⟨rfl,rfl⟩ | ⟨_,k,rfl,hk⟩
 ·exact .inl ⟨rfl,rfl,rfl⟩
 ·refine .inr (.inr ⟨n+2+k,by omega,rfl,?_⟩)
  rw [List.getElem?_append_right (by omega),show n+2+k - S0.length=k by omega]
  exact hk
theorem AccE.one {n:Nat} {w:D} {ws:List Cd} {E:Mem} (h:AccE n w ws E):D.one w=true∧cellsD w=some [w]:=by
 rcases h with ⟨rfl,_⟩ | ⟨_,k,rfl,_⟩<;>exact ⟨rfl,rfl⟩
theorem append_own {P:Program} {at_:Array TypeId} {s:D} {o o':Option Nat} {z n:Nat} {c:List D} {S:Mem} : appendD P at_ s (.sl o z n c) S=appendD P at_ s (.sl o' z n c) S:=by
 simp only [appendD,srcD,elemsD]
def agL (fn:ByteArray) (k:Int) (x1 x2 x3 x4 y1 y2 y3 y4 w:D):List D:=[.str fn,.int .i64 k,x1,x2,x3,x4,y1,y2,y3,y4,w]
end Go.Proofs.DgT
