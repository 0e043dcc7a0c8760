/- An attribute set, an attribute dropped: what they come to, and the program's own. -/
import Derived.Test.YtpdnaoahghfaoaaGreatDoorDwS28
set_option linter.unusedSimpArgs false
set_option linter.unusedVariables false
namespace Go.Proofs.DwT
open Go Go.DM Go.Proofs.DeT
set_option maxRecDepth 100000
variable {orc : DOracle}

def posN (l : List Att) (s : ByteArray) : Nat := (l.takeWhile fun a => ltB a.n s).length
def setL (l : List Att) (s : ByteArray) (v : Val) : List Att := if (look l s).isSome then l.set (posN l s) ⟨s, v⟩ else l.take (posN l s) ++ ⟨s, v⟩ :: l.drop (posN l s)
def dropL (l : List Att) (s : ByteArray) : List Att := if (look l s).isSome then l.take (posN l s) ++ l.drop (posN l s + 1) else l
def attsD (l : List Att) : D := .sl none 5 l.length (attsC l)
def setD (l : List Att) (s : ByteArray) (v : Val) : D :=
  if nameOk s = false then .tup [attsD [], .int .i64 5] else if chkV v ≠ 0 then .tup [attsD [], .int .i64 (chkV v)] else
  if (look l s).isSome = false ∧ 32 ≤ l.length then .tup [attsD [], .int .i64 4] else .tup [attsD (setL l s v), .int .i64 0]
theorem posN_of : ∀ {l : List Att} {s : ByteArray} {i : Nat}, i ≤ l.length → (∀ k (h : k < l.length), k < i → ltB l[k].n s = true) → (∀ k (h : k < l.length), i ≤ k → ltB l[k].n s = false) → i = posN l s
  | [], s, i, h, _, _ => by simp at h; subst h; rfl
  | a :: l, s, 0, _, _, h3 => by
    have := h3 0 (by simp) (Nat.le_refl _)
    simp only [List.getElem_cons_zero] at this
    simp [posN, List.takeWhile_cons, this]
  | a :: l, s, i + 1, h, h2, h3 => by
    have h0 := h2 0 (by simp) (by omega)
    simp only [List.getElem_cons_zero] at h0
    have := posN_of (l := l) (s := s) (i := i) (by simpa using h) (fun k hk hki => by have := h2 (k + 1) (by simpa using hk) (by omega); simpa using this) (fun k hk hki => by have := h3 (k + 1) (by simpa using hk) (by omega); simpa using this)
    rw [this]
    simp [posN, List.takeWhile_cons, h0]
theorem look_iff {l : List Att} {s : ByteArray} (hr : RiseB Att.n l) {i : Nat} (h2 : ∀ k (h : k < l.length), k < i → ltB l[k].n s = true) (h3 : ∀ k (h : k < l.length), i ≤ k → ltB l[k].n s = false) : (look l s).isSome = true ↔ ∃ h : i < l.length, l[i].n = s := by
  constructor
  · intro h
    apply Classical.byContradiction
    intro hn
    rw [look_none fun j hj e => ?_] at h
    · cases h
    · have hj2 : ¬ j < i := fun h => by have := h2 j hj h; rw [e, ltB_irrefl] at this; cases this
      have hi : i < l.length := by omega
      have hj3 : ¬ i < j := fun h => by have := h3 i hi (Nat.le_refl _); rw [← e, hr.lt hj h] at this; cases this
      obtain rfl : i = j := by omega
      exact hn ⟨hi, e⟩
  · rintro ⟨h, e⟩
    rw [look_at hr h e]
    rfl
theorem wr_mid {α : Type} : ∀ (xs pre cs : List α), xs.length ≤ cs.length → wr (pre ++ cs) pre.length xs = pre ++ (xs ++ cs.drop xs.length)
  | [], pre, cs, _ => by simp [wr]
  | x :: xs, pre, [], h => by simp at h
  | x :: xs, pre, c :: cs, h => by
    rw [wr]
    have e : (pre ++ c :: cs).set pre.length x = (pre ++ [x]) ++ cs := by simp
    have := wr_mid xs (pre ++ [x]) cs (by simpa using h)
    rw [e, show pre.length + 1 = (pre ++ [x]).length by simp, this]
    simp
theorem atts_split {l : List Att} {i : Nat} (h : i < l.length) : attsC l = attsC (l.take i) ++ (l[i].c ++ attsC (l.drop (i + 1))) := by
  have e : l.take i ++ l[i] :: l.drop (i + 1) = l := by rw [← List.drop_eq_getElem_cons h, List.take_append_drop]
  have := congrArg attsC e
  rw [← this]
  simp only [attsC, List.flatMap_append, List.flatMap_cons]
theorem atts_put {l : List Att} {i : Nat} (h : i < l.length) (v : Val) : wr (attsC l) (i * 5 + 1) v.c = attsC (l.set i ⟨l[i].n, v⟩) := by
  have hl : (attsC (l.take i) ++ [D.str l[i].n]).length = i * 5 + 1 := by rw [List.length_append, attsC_len, List.length_take, List.length_singleton]; omega
  have e : attsC l = (attsC (l.take i) ++ [D.str l[i].n]) ++ (l[i].v.c ++ attsC (l.drop (i + 1))) := by rw [atts_split h]; simp [Att.c, Val.c]
  rw [e, ← hl, wr_mid _ _ _ (by simp [Val.c]), atts_split (l := l.set i ⟨l[i].n, v⟩) (i := i) (by simpa using h)]
  have e2 : (List.take i l).set i ⟨l[i].n, v⟩ = List.take i l := List.set_eq_of_length_le (by rw [List.length_take]; omega)
  simp [Att.c, Val.c, List.take_set, List.drop_set, e2]
theorem atts_take {l : List Att} {i : Nat} (h : i ≤ l.length) : (attsC l).take (i * 5) = attsC (l.take i) := by
  have hl : (attsC (l.take i)).length = i * 5 := by rw [attsC_len, List.length_take]; omega
  have e : attsC l = attsC (l.take i) ++ attsC (l.drop i) := by
    conv => lhs; rw [← List.take_append_drop i l]
    simp only [attsC, List.flatMap_append]
  rw [e, ← hl, List.take_left]
theorem atts_drop {l : List Att} {i : Nat} (h : i ≤ l.length) : (attsC l).drop (i * 5) = attsC (l.drop i) := by
  have hl : (attsC (l.take i)).length = i * 5 := by rw [attsC_len, List.length_take]; omega
  have e : attsC l = attsC (l.take i) ++ attsC (l.drop i) := by
    conv => lhs; rw [← List.take_append_drop i l]
    simp only [attsC, List.flatMap_append]
  rw [e, ← hl, List.drop_left]
theorem atts_ins {l : List Att} {i : Nat} (h : i ≤ l.length) (a : Att) : putL (attsC l) (i * 5) a.c = attsC (l.take i ++ a :: l.drop i) := by
  rw [putL, atts_take h, atts_drop h]
  simp [attsC]
theorem atts_cut {l : List Att} {i : Nat} (h : i < l.length) : cutL (attsC l) (i * 5) 5 = attsC (l.take i ++ l.drop (i + 1)) := by
  rw [cutL, atts_take (by omega), show i * 5 + 5 = (i + 1) * 5 by omega, atts_drop (by omega)]
  simp [attsC]
theorem cloneM {l : List Att} (h0 : l ≠ []) (hl : l.length < 100000) (hv : ∀ a ∈ l, a.v.l.length < 1000000) (S : Mem) : CallD Tryz.prog orc 73 [.sl none 5 l.length (attsC l)] S fun d S' => S' = S ++ [.obj (attsC l)] ∧ d = .msl S.length 5 l.length :=
  (clone l hl hv S).mono fun d S' h => by
    rcases h with ⟨h1, _⟩ | ⟨_, rfl, rfl⟩
    · exact absurd h1 h0
    · exact ⟨rfl, rfl⟩
theorem cloneN (S : Mem) : CallD Tryz.prog orc 73 [.sl none 5 0 []] S fun d S' => S' = S ∧ d = .nils :=
  (clone [] (by simp) (by simp) S).mono fun d S' h => by
    rcases h with ⟨h1, rfl, rfl⟩ | ⟨h1, _⟩
    · exact ⟨rfl, rfl⟩
    · exact absurd rfl h1
theorem findN (s : ByteArray) (S : Mem) : CallD Tryz.prog orc 74 [.nils, .str s] S fun d S' => S' = S ∧ d = .tup [.int .i64 0, .bool false] := by
  have h := rowFind (orc := orc) [] s (fun i h => by simp at h) (by simp) S
  refine (CallD.weak (.cons .nilE (.cons .refl .nil)) h).mono ?_
  rintro d S' ⟨rfl, i, b, rfl, h1, _, _, h4⟩
  have hb : b = false := by
    cases b with
    | false => rfl
    | true => obtain ⟨hh, _⟩ := h4.1 rfl; simp at hh
  have hi : i = 0 := by simpa using h1
  subst hb hi
  exact ⟨rfl, rfl⟩
end Go.Proofs.DwT
