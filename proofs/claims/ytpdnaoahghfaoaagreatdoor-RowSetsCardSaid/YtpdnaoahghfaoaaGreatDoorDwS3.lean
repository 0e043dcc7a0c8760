/- Which stamps may be; a stamp in words. -/
import Derived.Test.YtpdnaoahghfaoaaGreatDoorDwS2
set_option linter.unusedSimpArgs false
set_option linter.unusedVariables false
namespace Go.Proofs.DwT
open Go Go.DM Go.Proofs.DeT
set_option maxRecDepth 100000
variable {orc : DOracle}

def lowB (b : UInt8) : Bool := decide (97 ≤ b.toNat) && decide (b.toNat ≤ 122)
def digB (b : UInt8) : Bool := decide (48 ≤ b.toNat) && decide (b.toNat ≤ 57)
def nameOk (s : ByteArray) : Bool := decide (1 ≤ s.size) && decide (s.size ≤ 8) && s.data[0]?.any lowB && s.data.toList.all (fun b => lowB b || digB b)
theorem bytes_false {p : UInt8 → Bool} {s : ByteArray} {i : Nat} (h : i < s.size) (hp : p (s.data[i]'h) = false) : s.data.toList.all p = false := by
  rw [List.all_eq_false]
  exact ⟨_, List.getElem_mem (l := s.data.toList) (by simpa using h), by simp [hp]⟩
theorem bytes_true {p : UInt8 → Bool} {s : ByteArray} (h : ∀ i (h : i < s.size), p (s.data[i]'h) = true) : s.data.toList.all p = true := by
  rw [List.all_eq_true]
  intro x hx
  obtain ⟨j, hj, rfl⟩ := List.mem_iff_getElem.1 hx
  simpa using h j (by simpa using hj)
theorem nameOk_eq {s : ByteArray} (h : 0 < s.size) : nameOk s = (decide (s.size ≤ 8) && lowB (s.data[0]'h) && s.data.toList.all (fun b => lowB b || digB b)) := by
  have : s.data[0]? = some (s.data[0]'h) := Array.getElem?_eq_getElem h
  rw [nameOk, this]
  simp only [Option.any_some, decide_eq_true (show 1 ≤ s.size from h), Bool.true_and]

def inOk (n : Int) : Bool := decide (0 ≤ n) && decide (n ≤ 1000000000)
theorem stIn (n : Int) (S : Mem) : CallD Tryz.prog orc 110 [.int .i64 n] S fun d S' => S' = S ∧ d = .bool (inOk n) := by
  refine CallD.e Tryz.func110 rfl Tryz.ntmps110 (by rfl) ?_
  repeat' (first|refine Go.a rfl ?_|refine Go.rg ?_|refine GoR.nil ?_|refine Go.ret ?_|refine Go.b rfl ?_|(refine GoR.o (by rfl) (by rfl) ?_;(conv => arg 1;simp only [G,Z,Y,Gx,un_neg,cutD,decide_true,decide_false,simprocAttr,fb2]);show GoR ..)|refine GoR.s (by rfl) rfl rfl ?_|(refine GoR.splitG rfl (fun hc => ?_) (fun hc => ?_) <;> simp only [hc])|refine Go.condB rfl (fun hc => ?_) (fun hc => ?_))
  all_goals
    refine ⟨(by first | exact .inl rfl | exact .inr rfl), fin ?_⟩
    rw [resD_tmp (fn := Tryz.f110) rfl]
    simp only [optThen_some,resultD_tmp,resultD_cell,G,Z,Y,Gx,un_neg,cutD,decide_true,decide_false,simprocAttr,fb2]
    refine ⟨_, [], by simp, .bool, ?_⟩
    first
      | (simp_all [inOk]; done)
      | (simp_all [inOk]; omega)
theorem stPart (s : ByteArray) (S : Mem) : CallD Tryz.prog orc 145 [.str s] S fun d S' => S' = S ∧ d = .bool (nameOk s) := by
  refine CallD.e Tryz.func145 rfl Tryz.ntmps145 (by rfl) ?_
  by_cases h0 : s.size = 0
  · have hs : s = ⟨#[]⟩ := by
      obtain ⟨d⟩ := s
      simp only [ByteArray.size, Array.size_eq_zero_iff] at h0
      rw [h0]
    repeat' (first|refine Go.a rfl ?_|refine Go.rg ?_|refine GoR.nil ?_|refine Go.ret ?_|refine Go.b rfl ?_|(refine GoR.o (by rfl) (by rfl) ?_;(conv => arg 1;simp only [G,Z,Y,Gx,un_neg,cutD,decide_true,decide_false,simprocAttr,fb3,fb5,fb9,hs]);show GoR ..)|refine GoR.s (by rfl) rfl rfl ?_|(refine GoR.splitG rfl (fun hc => ?_) (fun hc => ?_) <;> simp only [hc])|refine Go.condB rfl (fun hc => ?_) (fun hc => ?_))
    refine ⟨(by first | exact .inl rfl | exact .inr rfl), fin ?_⟩
    rw [resD_tmp (fn := Tryz.f145) rfl]
    simp only [optThen_some,resultD_tmp,resultD_cell,G,Z,Y,Gx,un_neg,cutD,decide_true,decide_false,simprocAttr,fb3,fb5,fb9]
    exact ⟨_, [], by simp, .bool, by rw [hs]; rfl⟩
  · have h1 : 0 < s.size := by omega
    have hne : decide (s = (⟨#[]⟩ : ByteArray)) = false := by
      rw [decide_eq_false_iff_not]
      rintro rfl
      exact h0 rfl
    repeat' (first|refine Go.a rfl ?_|refine Go.rg ?_|refine GoR.nil ?_|refine Go.ret ?_|refine Go.b rfl ?_|(refine GoR.o (by rfl) (by rfl) ?_;(conv => arg 1;simp only [G,Z,Y,Gx,un_neg,cutD,decide_true,decide_false,simprocAttr,fb3,fb5,fb9,hne, indexStr_zero h1]);show GoR ..)|refine GoR.s (by rfl) rfl rfl ?_|(refine GoR.splitG rfl (fun hc => ?_) (fun hc => ?_) <;> simp only [hc])|refine Go.condB rfl (fun hc => ?_) (fun hc => ?_))
    · refine ⟨(by first | exact .inl rfl | exact .inr rfl), fin ?_⟩
      rw [resD_tmp (fn := Tryz.f145) rfl]
      simp only [optThen_some,resultD_tmp,resultD_cell,G,Z,Y,Gx,un_neg,cutD,decide_true,decide_false,simprocAttr,fb3,fb5,fb9]
      refine ⟨_, [], by simp, .bool, ?_⟩
      rw [nameOk_eq h1, decide_eq_false (by simp at hc; omega), Bool.false_and, Bool.false_and]
    · refine ⟨(by first | exact .inl rfl | exact .inr rfl), fin ?_⟩
      rw [resD_tmp (fn := Tryz.f145) rfl]
      simp only [optThen_some,resultD_tmp,resultD_cell,G,Z,Y,Gx,un_neg,cutD,decide_true,decide_false,simprocAttr,fb3,fb5,fb9]
      refine ⟨_, [], by simp, .bool, ?_⟩
      have : lowB (s.data[0]'h1) = false := by simp [lowB] at *; omega
      rw [nameOk_eq h1, this, Bool.and_false, Bool.false_and]
    · rename_i hc8
      have h8 : s.size ≤ 8 := by simp at hc8; omega
      have hlo : 97 ≤ (s.data[0]'h1).toNat := by simp at hc; omega
      refine Go.keep [(0, .str s), (17, .int .i64 (s.size : Int)), (18, .int .i64 ((0 : Nat) : Int))] (.cons .refl (.cons .refl (.cons .refl (.nil)))) ?_
      refine Go.while (α := Nat) (fun i => s.size - i) (fun i => [(0, .str s), (17, .int .i64 (s.size : Int)), (18, .int .i64 (i : Int))]) (fun _ => S) (fun i => i ≤ s.size ∧ ∀ j (h : j < s.size), j < i → (lowB (s.data[j]'h) || digB (s.data[j]'h)) = true) ?_ 0 ⟨Nat.zero_le _, by simp⟩
      rintro i ⟨hi, hk⟩ next
      clear hc hc8
      repeat' (first|refine Go.a rfl ?_|refine Go.rg ?_|refine GoR.nil ?_|refine Go.ret ?_|refine Go.b rfl ?_|(refine GoR.o (by rfl) (by rfl) ?_;(conv => arg 1;simp only [G,Z,Y,Gx,un_neg,cutD,decide_true,decide_false,simprocAttr,fb3,fb5,fb9]);show GoR ..)|refine GoR.s (by rfl) rfl rfl ?_|(refine GoR.splitG rfl (fun hc => ?_) (fun hc => ?_) <;> simp only [hc])|refine Go.condB rfl (fun hc => ?_) (fun hc => ?_))
      · have h2 : i < s.size := by simpa using hc
        repeat' (first|refine Go.a rfl ?_|refine Go.rg ?_|refine GoR.nil ?_|refine Go.ret ?_|refine Go.b rfl ?_|(refine GoR.o (by rfl) (by rfl) ?_;(conv => arg 1;simp only [G,Z,Y,Gx,un_neg,cutD,decide_true,decide_false,simprocAttr,fb3,fb5,fb9,indexStr_cast h2, wrap_succ (show i < 4611686018427387904 by omega)]);show GoR ..)|refine GoR.s (by rfl) rfl rfl ?_|(refine GoR.splitG rfl (fun hc => ?_) (fun hc => ?_) <;> simp only [hc])|refine Go.condB rfl (fun hc => ?_) (fun hc => ?_))
        all_goals first
          | (refine Go.lpN ?_
             refine Go.keep [(0, .str s), (17, .int .i64 (s.size : Int)), (18, .int .i64 ((i + 1 : Nat) : Int))] (.cons .refl (.cons .refl (.cons .refl (.nil)))) ?_
             refine next (i + 1) (by omega) ⟨h2, fun j hj hlt => ?_⟩
             clear next
             rcases Nat.lt_or_ge j i with h | h
             · exact hk j hj h
             · obtain rfl : j = i := by omega
               clear hk
               simp [lowB, digB] at *
               omega)
          | (clear next
             refine ⟨(by first | exact .inl rfl | exact .inr rfl), fin ?_⟩
             rw [resD_tmp (fn := Tryz.f145) rfl]
             simp only [optThen_some,resultD_tmp,resultD_cell,G,Z,Y,Gx,un_neg,cutD,decide_true,decide_false,simprocAttr,fb3,fb5,fb9]
             refine ⟨_, [], by simp, .bool, ?_⟩
             have hp : (fun b => lowB b || digB b) (s.data[i]'h2) = false := by
               clear hk
               simp [lowB, digB] at *
               omega
             simp only [nameOk, bytes_false (p := fun b => lowB b || digB b) h2 hp, Bool.and_false])
      · clear next
        refine ⟨(by first | exact .inl rfl | exact .inr rfl), fin ?_⟩
        rw [resD_tmp (fn := Tryz.f145) rfl]
        simp only [optThen_some,resultD_tmp,resultD_cell,G,Z,Y,Gx,un_neg,cutD,decide_true,decide_false,simprocAttr,fb3,fb5,fb9]
        refine ⟨_, [], by simp, .bool, ?_⟩
        have hall := bytes_true (p := fun b => lowB b || digB b) fun j hj => hk j hj (by simp at hc; omega)
        have h00 := hk 0 h1 (by simp at hc; omega)
        have : lowB (s.data[0]'h1) = true := by
          simp only [lowB, digB, Bool.or_eq_true, Bool.and_eq_true, decide_eq_true_eq] at h00 ⊢
          omega
        rw [nameOk_eq h1, hall, this, decide_eq_true h8]
        rfl
def pathOk (s : ByteArray) : Bool := hasB s ⟨#[47]⟩ && (piecesOf (trimB s ⟨#[47]⟩) ⟨#[47]⟩).all nameOk && decide ((piecesOf (trimB s ⟨#[47]⟩) ⟨#[47]⟩).length ≤ 4)
theorem strsAt {l : List ByteArray} {i : Nat} (h : i < l.length) : ((0 ≤ (i : Int) ∧ (i : Int) < (l.length : Int)) = True) ∧ (l.map D.str)[i]? = some (.str l[i]) := ⟨ix_ok h, by simp [h]⟩
theorem trimB_size (s p : ByteArray) : (trimB s p).size ≤ s.size := by
  unfold trimB Lib.trimPrefix
  split
  · show (List.drop _ s.data.toList).toArray.size ≤ s.data.size
    rw [List.size_toArray, List.length_drop, Array.length_toList]
    omega
  · show s.data.toList.toArray.size ≤ s.data.size
    rw [List.size_toArray, Array.length_toList]
    exact Nat.le_refl _
theorem piecesOf_le {s sep : ByteArray} (h : 1 ≤ sep.size) : (piecesOf s sep).length ≤ s.size + 1 := by
  rw [piecesOf_length h]
  have := Lib.countB_le sep h _ s (Nat.le_refl _)
  omega
theorem stPath (s : ByteArray) (hs : s.size < 1000000) (S : Mem) : CallD Tryz.prog O 111 [.str s] S fun d S' => S' = S ∧ d = .bool (pathOk s) := by
  refine CallD.e Tryz.func111 rfl Tryz.ntmps111 (by rfl) ?_
  have ht := trimB_size s ⟨#[47]⟩
  generalize hl : piecesOf (trimB s ⟨#[47]⟩) ⟨#[47]⟩ = l
  have hll : l.length ≤ (trimB s ⟨#[47]⟩).size + 1 := by rw [← hl]; exact piecesOf_le (by decide)
  cases hh : hasB s ⟨#[47]⟩ with
  | false =>
    repeat' (first|refine Go.a rfl ?_|refine Go.rg ?_|refine GoR.nil ?_|refine Go.ret ?_|refine Go.b rfl ?_|(refine GoR.o (by rfl) (by rfl) ?_;(conv => arg 1;simp only [G,Z,Y,Gx,un_neg,cutD,decide_true,decide_false,simprocAttr,fb3,fb9,fb100,hh]);show GoR ..)|(refine GoR.c c143 (by rfl) (by rfl) rfl ?_;(refine (cutPrefix _ _ _).ret ?_))|refine Go.condB rfl (fun hc => ?_) (fun hc => ?_))
    refine ⟨(by first | exact .inl rfl | exact .inr rfl), fin ?_⟩
    rw [resD_tmp (fn := Tryz.f111) rfl]
    simp only [optThen_some,resultD_tmp,resultD_cell,G,Z,Y,Gx,un_neg,cutD,decide_true,decide_false,simprocAttr,fb3,fb9,fb100]
    exact ⟨_, [], by simp, .bool, by simp [pathOk, hh]⟩
  | true =>
    repeat' (first|refine Go.a rfl ?_|refine Go.rg ?_|refine GoR.nil ?_|refine Go.ret ?_|refine Go.b rfl ?_|(refine GoR.o (by rfl) (by rfl) ?_;(conv => arg 1;simp only [G,Z,Y,Gx,un_neg,cutD,decide_true,decide_false,simprocAttr,fb3,fb9,fb100,hh, hl]);show GoR ..)|(refine GoR.c c143 (by rfl) (by rfl) rfl ?_;(refine (cutPrefix _ _ _).ret ?_))|(refine GoR.c c144 (by rfl) (by rfl) rfl ?_;(refine (split _ _ (by omega) (by decide) _).ret ?_))|refine Go.condB rfl (fun hc => ?_) (fun hc => ?_))
    refine Go.keep [(5, .sl none 1 l.length (l.map .str)), (17, .sl none 1 l.length (l.map .str)), (18, .int .i64 (l.length : Int)), (19, .int .i64 ((0 : Nat) : Int))] (.cons .refl (.cons .refl (.cons .refl (.cons .refl (.nil))))) ?_
    refine Go.while (α := Nat) (fun i => l.length - i) (fun i => [(5, .sl none 1 l.length (l.map .str)), (17, .sl none 1 l.length (l.map .str)), (18, .int .i64 (l.length : Int)), (19, .int .i64 (i : Int))]) (fun _ => S) (fun i => i ≤ l.length ∧ ∀ j (h : j < l.length), j < i → nameOk l[j] = true) ?_ 0 ⟨Nat.zero_le _, by simp⟩
    rintro i ⟨hi, hk⟩ next
    repeat' (first|refine Go.a rfl ?_|refine Go.rg ?_|refine GoR.nil ?_|refine Go.ret ?_|refine Go.b rfl ?_|(refine GoR.o (by rfl) (by rfl) ?_;(conv => arg 1;simp only [G,Z,Y,Gx,un_neg,cutD,decide_true,decide_false,simprocAttr,fb3,fb9,fb100]);show GoR ..)|refine Go.condB rfl (fun hc => ?_) (fun hc => ?_))
    · have h1 : i < l.length := by simpa using hc
      cases hn : nameOk l[i] with
      | true =>
        repeat' (first|refine Go.a rfl ?_|refine Go.rg ?_|refine GoR.nil ?_|refine Go.ret ?_|refine Go.b rfl ?_|(refine GoR.o (by rfl) (by rfl) ?_;(conv => arg 1;simp only [G,Z,Y,Gx,un_neg,cutD,decide_true,decide_false,simprocAttr,fb3,fb9,fb100,strsAt h1, wrap_succ (show i < 4611686018427387904 by omega), hn]);show GoR ..)|(refine GoR.c c145 (by rfl) (by rfl) rfl ?_;(refine (stPart _ _).ret ?_))|refine Go.condB rfl (fun hc => ?_) (fun hc => ?_))
        refine Go.lpN ?_
        refine Go.keep [(5, .sl none 1 l.length (l.map .str)), (17, .sl none 1 l.length (l.map .str)), (18, .int .i64 (l.length : Int)), (19, .int .i64 ((i + 1 : Nat) : Int))] (.cons .refl (.cons .refl (.cons .refl (.cons .refl (.nil))))) ?_
        refine next (i + 1) (by omega) ⟨h1, fun j hj hlt => ?_⟩
        rcases Nat.lt_or_ge j i with h | h
        · exact hk j hj h
        · obtain rfl : j = i := by omega
          exact hn
      | false =>
        repeat' (first|refine Go.a rfl ?_|refine Go.rg ?_|refine GoR.nil ?_|refine Go.ret ?_|refine Go.b rfl ?_|(refine GoR.o (by rfl) (by rfl) ?_;(conv => arg 1;simp only [G,Z,Y,Gx,un_neg,cutD,decide_true,decide_false,simprocAttr,fb3,fb9,fb100,strsAt h1, wrap_succ (show i < 4611686018427387904 by omega), hn]);show GoR ..)|(refine GoR.c c145 (by rfl) (by rfl) rfl ?_;(refine (stPart _ _).ret ?_))|refine Go.condB rfl (fun hc => ?_) (fun hc => ?_))
        clear next
        refine ⟨(by first | exact .inl rfl | exact .inr rfl), fin ?_⟩
        rw [resD_tmp (fn := Tryz.f111) rfl]
        simp only [optThen_some,resultD_tmp,resultD_cell,G,Z,Y,Gx,un_neg,cutD,decide_true,decide_false,simprocAttr,fb3,fb9,fb100]
        refine ⟨_, [], by simp, .bool, ?_⟩
        have : l.all nameOk = false := List.all_eq_false.2 ⟨_, List.getElem_mem h1, by simp [hn]⟩
        simp [pathOk, hl, this]
    · clear next
      repeat' (first|refine Go.a rfl ?_|refine Go.rg ?_|refine GoR.nil ?_|refine Go.ret ?_|refine Go.b rfl ?_|(refine GoR.o (by rfl) (by rfl) ?_;(conv => arg 1;simp only [G,Z,Y,Gx,un_neg,cutD,decide_true,decide_false,simprocAttr,fb3,fb9,fb100]);show GoR ..)|refine Go.condB rfl (fun hc => ?_) (fun hc => ?_))
      refine ⟨(by first | exact .inl rfl | exact .inr rfl), fin ?_⟩
      rw [resD_tmp (fn := Tryz.f111) rfl]
      simp only [optThen_some,resultD_tmp,resultD_cell,G,Z,Y,Gx,un_neg,cutD,decide_true,decide_false,simprocAttr,fb3,fb9,fb100]
      refine ⟨_, [], by simp, .bool, ?_⟩
      have : l.all nameOk = true := by
        rw [List.all_eq_true]
        intro x hx
        obtain ⟨j, hj, rfl⟩ := List.mem_iff_getElem.1 hx
        exact hk j hj (by simp at hc; omega)
      simp only [pathOk, hl, hh, this, Bool.true_and, D.bool.injEq]
      rw [Bool.eq_iff_iff, decide_eq_true_iff, decide_eq_true_iff]
      omega
def chk (s : St) : Int := if inOk s.tick && inOk s.inc && inOk s.seq then (if pathOk s.org then 0 else 5) else 1
theorem stCheck (s : St) (hs : s.org.size < 1000000) (S : Mem) : CallD Tryz.prog O 61 [.agg s.c] S fun d S' => S' = S ∧ d = .int .i64 (chk s) := by
  obtain ⟨a, b, c, o⟩ := s
  have e1 := stIn (orc := O) a
  have e2 := stIn (orc := O) b
  have e3 := stIn (orc := O) c
  simp only [St.c, chk]
  refine CallD.e Tryz.func61 rfl Tryz.ntmps61 (by rfl) ?_
  cases h1 : inOk a <;> cases h2 : inOk b <;> cases h3 : inOk c <;> cases h4 : pathOk o
  all_goals
    repeat' (first|refine Go.a rfl ?_|refine Go.rg ?_|refine GoR.nil ?_|refine Go.ret ?_|refine Go.b rfl ?_|(refine GoR.o (by rfl) (by rfl) ?_;(conv => arg 1;simp only [G,Z,Y,Gx,un_neg,cutD,decide_true,decide_false,simprocAttr,fb2,fb9,fb23,h1, h2, h3, h4]);show GoR ..)|(refine GoR.c c110 (by rfl) (by rfl) rfl ?_;(first | (refine (e1 _).ret ?_) | (refine (e2 _).ret ?_) | (refine (e3 _).ret ?_)))|(refine GoR.c c111 (by rfl) (by rfl) rfl ?_;(refine (stPath _ hs _).ret ?_))|refine GoR.s (by rfl) rfl rfl ?_|(refine GoR.splitG rfl (fun hc => ?_) (fun hc => ?_) <;> simp only [hc])|refine Go.condB rfl (fun hc => ?_) (fun hc => ?_))
    refine ⟨(by first | exact .inl rfl | exact .inr rfl), fin ?_⟩
    rw [resD_tmp (fn := Tryz.f61) rfl]
    simp only [optThen_some,resultD_tmp,resultD_cell,G,Z,Y,Gx,un_neg,cutD,decide_true,decide_false,simprocAttr,fb2,fb9,fb23]
    exact ⟨_, _, rfl, .int, by simp⟩
end Go.Proofs.DwT
