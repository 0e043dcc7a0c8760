/- The names of a tree, in order, each once. -/
import Derived.Test.YtpdnaoahghfaoaaGreatDoorDeN2
set_option linter.unusedSimpArgs false
set_option linter.unusedVariables false
namespace Go.Proofs.DeT
open Go Go.DM
set_option maxRecDepth 100000

def nameP : ByteArray := (⟨#[110, 97, 109, 101]⟩ : ByteArray)
/-- The names in a tree, each as often as it is there. -/
def namesL : Nd → List ByteArray
  | .mk op nm _ ks => (ks.attach.map fun ⟨k, _⟩ => namesL k).flatten ++ (if op = nameP then [nm] else [])
termination_by n => SizeOf.sizeOf n
decreasing_by exact Nd.kid_lt ‹_›
theorem namesL_mk {op nm : ByteArray} {n : Int} {ks : List Nd} : namesL (.mk op nm n ks) = (ks.map namesL).flatten ++ (if op = nameP then [nm] else []) := by
  rw [namesL]
  simp
theorem flat_cnts : ∀ {ks : List Nd}, (∀ k ∈ ks, (namesL k).length ≤ cnt k) → ((ks.map namesL).flatten).length ≤ cnts ks
  | [], _ => Nat.le_refl _
  | k :: ks, h => by
    have h1 := h k (by simp)
    have h2 := flat_cnts (ks := ks) fun x hx => h x (by simp [hx])
    simp only [List.map_cons, List.flatten_cons, List.length_append, cnts, List.sum_cons] at h2 ⊢
    omega
theorem names_le (n : Nd) : (namesL n).length ≤ cnt n := by
  induction n using Nd.ind with
  | h op nm n ks ih =>
    rw [namesL_mk, cnt_mk, List.length_append]
    have := flat_cnts ih
    split <;> simp only [List.length_cons, List.length_nil] <;> omega
theorem cnt_pos (n : Nd) : 1 ≤ cnt n := by
  cases n
  rw [cnt_mk]
  omega
theorem cnts_mem : ∀ {ks : List Nd} {k : Nd}, k ∈ ks → cnt k ≤ cnts ks
  | k :: ks, x, h => by
    simp only [cnts, List.map_cons, List.sum_cons]
    rcases List.mem_cons.1 h with rfl | h
    · omega
    · have := cnts_mem h
      simp only [cnts] at this
      omega

theorem names1 (op nm : ByteArray) (n : Int) (kc : List D) (kl : Nat) (ks : List (List ByteArray)) (own : Option Nat) (hl : ks.flatten.length < 1000000) (hk : ks.length ≤ 1000) (hop : op = nameP → ks = []) (S : Mem) :
    CallD Tryz.prog O 103 [.agg [.str op, .str nm, .int .i64 n, .sl none 4 kl kc], .sl own 1 ks.length (kidsC ks)] S (NewStrs (ks.flatten ++ (if op = nameP then [nm] else [])) S) := by
  by_cases h0 : op = nameP
  · obtain rfl := hop h0
    rw [if_pos h0, List.flatten_nil, List.nil_append]
    refine NewStrs.of ?_
    refine CallD.eb Tryz.func103 rfl Tryz.ntmps103 (by rfl) ?_
    repeat' (first|refine Go.a rfl ?_|refine Go.rg ?_|refine GoR.nil ?_|refine Go.ret ?_|refine Go.b rfl ?_|(refine GoR.oM (by rfl) (by rfl) ?_;(conv => arg 1;simp only [G,Z,Y,Gx,un_neg,cutD,decide_true,decide_false,simprocAttr,fb2,fb9,fb73,fb75,fb100,show decide (op = (⟨#[110, 97, 109, 101]⟩ : ByteArray)) = true by simp; exact h0]);refine ⟨rfl,rfl,?_⟩;show GoR ..)|(refine GoR.o (by rfl) (by rfl) ?_;(conv => arg 1;simp only [G,Z,Y,Gx,un_neg,cutD,decide_true,decide_false,simprocAttr,fb2,fb9,fb73,fb75,fb100,show decide (op = (⟨#[110, 97, 109, 101]⟩ : ByteArray)) = true by simp; exact h0]);show GoR ..)|(refine GoR.c c104 (by rfl) (by rfl) rfl ?_;(refine (concat [] own (by simp) (by simp) _).mono ?_; rintro _ _ (⟨_, rfl, rfl⟩ | ⟨h, rfl, rfl⟩)))|refine Go.condB rfl (fun hc => ?_) (fun hc => ?_))
    · refine ⟨(by first | exact .inl rfl | exact .inr rfl), fin ?_⟩
      rw [resD_tmp (fn := Tryz.f103) rfl]
      simp only [optThen_some,resultD_tmp,resultD_cell,G,Z,Y,Gx,un_neg,cutD,decide_true,decide_false,simprocAttr,fb2,fb9,fb73,fb75,fb100]
      refine ⟨_, by simp; rfl, .inr ⟨_, ?_, rfl, ?_⟩, fun h => by cases h⟩
      · simp
      · simp [objAt, List.getElem?_append_right, strC]
    · exact absurd rfl h
  · rw [if_neg h0, List.append_nil]
    refine NewStrs.of ?_
    refine CallD.eb Tryz.func103 rfl Tryz.ntmps103 (by rfl) ?_
    repeat' (first|refine Go.a rfl ?_|refine Go.rg ?_|refine GoR.nil ?_|refine Go.ret ?_|refine Go.b rfl ?_|(refine GoR.o (by rfl) (by rfl) ?_;(conv => arg 1;simp only [G,Z,Y,Gx,un_neg,cutD,decide_true,decide_false,simprocAttr,fb2,fb9,fb73,fb75,fb100,show decide (op = (⟨#[110, 97, 109, 101]⟩ : ByteArray)) = false by simp; exact h0]);show GoR ..)|(refine GoR.c c104 (by rfl) (by rfl) rfl ?_;(refine (concat ks own hl hk _).mono ?_; rintro _ _ (⟨h1, rfl, rfl⟩ | ⟨h1, rfl, rfl⟩)))|refine Go.condB rfl (fun hc => ?_) (fun hc => ?_))
    · refine ⟨(by first | exact .inl rfl | exact .inr rfl), fin ?_⟩
      rw [resD_tmp (fn := Tryz.f103) rfl]
      simp only [optThen_some,resultD_tmp,resultD_cell,G,Z,Y,Gx,un_neg,cutD,decide_true,decide_false,simprocAttr,fb2,fb9,fb73,fb75,fb100]
      exact ⟨_, rfl, .inl ⟨h1, rfl⟩, by simp⟩
    · refine ⟨(by first | exact .inl rfl | exact .inr rfl), fin ?_⟩
      rw [resD_tmp (fn := Tryz.f103) rfl]
      simp only [optThen_some,resultD_tmp,resultD_cell,G,Z,Y,Gx,un_neg,cutD,decide_true,decide_false,simprocAttr,fb2,fb9,fb73,fb75,fb100]
      refine ⟨_, by simp; rfl, .inr ⟨_, ?_, rfl, ?_⟩, fun h => absurd h h1⟩
      · simp
      · simp [objAt, List.getElem?_append_right]
end Go.Proofs.DeT
