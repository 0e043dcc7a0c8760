/- Whether a tree may be: how many nodes it has, what is wrong first. -/
import Derived.Test.YtpdnaoahghfaoaaGreatDoorDeP9
import Derived.Test.YtpdnaoahghfaoaaGreatDoorDeN4
set_option linter.unusedSimpArgs false
set_option linter.unusedVariables false
namespace Go.Proofs.DeT
open Go Go.DM
set_option maxRecDepth 100000
variable {orc : DOracle}

/-- The first that is not nought. -/
def firstE : List Int → Int
  | [] => 0
  | e :: l => if e ≠ 0 then e else firstE l
theorem firstE_at : ∀ {l : List Int} {i : Nat} (h : i < l.length), (∀ j (hj : j < l.length), j < i → l[j] = 0) → l[i] ≠ 0 → firstE l = l[i]
  | e :: l, 0, _, _, hn => by
    have hn' : e ≠ 0 := hn
    show (if e ≠ 0 then e else firstE l) = e
    rw [if_pos hn']
  | e :: l, i + 1, h, hz, hn => by
    have h0 : e = 0 := hz 0 (by simp) (by omega)
    show (if e ≠ 0 then e else firstE l) = l[i]'(by simpa using h)
    rw [if_neg (fun q => q h0)]
    exact firstE_at (by simpa using h) (fun j hj hlt => hz (j + 1) (by simpa using hj) (by omega)) hn
theorem firstE_all : ∀ {l : List Int}, (∀ x ∈ l, x = 0) → firstE l = 0
  | [], _ => rfl
  | e :: l, h => by
    show (if e ≠ 0 then e else firstE l) = 0
    rw [if_neg (fun q => q (h e (by simp)))]
    exact firstE_all fun x hx => h x (by simp [hx])
theorem firstE_zero : ∀ {l : List Int}, firstE l = 0 → ∀ x ∈ l, x = 0
  | [], _, x, hx => by cases hx
  | e :: l, h, x, hx => by
    unfold firstE at h
    by_cases he : e ≠ 0
    · rw [if_pos he] at h; exact absurd h he
    · rw [if_neg he] at h
      rcases List.mem_cons.1 hx with rfl | hx
      · exact Decidable.not_not.1 he
      · exact firstE_zero h x hx
/-- What is wrong first with a tree: 2 a form, 5 a name, 1 a number. -/
def checkS : Nd → Int
  | .mk op nm n ks => if arity op ≠ ks.length then 2 else if op = (⟨#[110, 97, 109, 101]⟩ : ByteArray) ∧ nameOk nm = false then 5 else if op = (⟨#[110, 117, 109]⟩ : ByteArray) ∧ n < 0 then 1 else firstE (ks.attach.map fun ⟨k, _⟩ => checkS k)
termination_by n => SizeOf.sizeOf n
decreasing_by exact Nd.kid_lt ‹_›
theorem checkS_mk {op nm : ByteArray} {n : Int} {ks : List Nd} : checkS (.mk op nm n ks) = if arity op ≠ ks.length then 2 else if op = (⟨#[110, 97, 109, 101]⟩ : ByteArray) ∧ nameOk nm = false then 5 else if op = (⟨#[110, 117, 109]⟩ : ByteArray) ∧ n < 0 then 1 else firstE (ks.map checkS) := by
  rw [checkS]
  simp
def checkN (n : Nd) : Int := if 32 < cnt n then 4 else checkS n

def CntR (n : Nd) (k r : Int) : Prop := (0 ≤ r ∧ r = k - cnt n) ∨ (r < 0 ∧ -1 ≤ r ∧ k < cnt n)
theorem countX (n : Nd) : ∀ (k : Int) (_ : 0 ≤ k) (_ : k ≤ 100) (S : Mem), CallD Tryz.prog orc 86 [.agg n.c, .int .i64 k] S fun d S' => S' = S ∧ ∃ r : Int, d = .int .i64 r ∧ CntR n k r := by
  induction n using Nd.ind with
  | h op nm n ks ih =>
    intro k hk0 hk1 S
    have hcm : (cnt (.mk op nm n ks) : Int) = 1 + (cnts ks : Int) := by rw [cnt_mk]; push_cast; rfl
    rw [Nd.c_mk]
    unfold CntR
    rw [hcm]
    refine CallD.e Tryz.func86 rfl Tryz.ntmps86 (by rfl) ?_
    repeat' (first|refine Go.a rfl ?_|refine Go.rg ?_|refine GoR.nil ?_|refine Go.ret ?_|refine Go.b rfl ?_|(refine GoR.o (by rfl) (by rfl) ?_;(conv => arg 1;simp only [G,Z,Y,Gx,un_neg,cutD,decide_true,decide_false,simprocAttr,fb2,fb3,fb9,fb78,fb80,wrap_pred (show -100 ≤ k by omega) (show k ≤ 1000 by omega)]);show GoR ..)|refine GoR.s (by rfl) rfl rfl ?_|(refine GoR.splitG rfl (fun hc => ?_) (fun hc => ?_) <;> simp only [hc])|refine Go.condB rfl (fun hc => ?_) (fun hc => ?_))
    refine Go.keep [(1, .int .i64 (k - 1)), (2, .ptr S.length 0), (5, .int .i64 ((0 : Nat) : Int))] (.cons .refl (.cons .refl (.cons .refl (.nil)))) ?_
    refine Go.while (α := Nat × Int) (fun a => ks.length - a.1) (fun a => [(1, .int .i64 a.2), (2, .ptr S.length 0), (5, .int .i64 (a.1 : Int))]) (fun _ => S ++ [.obj [.str op, .str nm, .int .i64 n, .sl none 4 ks.length (ndsC ks)]])
      (fun a => a.1 ≤ ks.length ∧ ((0 ≤ a.2 ∧ a.2 = k - 1 - cnts (ks.take a.1) ∧ a.1 < 4611686018427387904) ∨ (a.2 < 0 ∧ -1 ≤ a.2 ∧ k < 1 + cnts (ks.take a.1)))) ?_ (0, k - 1) ⟨Nat.zero_le _, by simp only [List.take_zero, cnts, List.map_nil, List.sum_nil]; omega⟩
    rintro ⟨i, c⟩ ⟨hi, hc1⟩ next
    dsimp only at hi hc1 next
    have hmono : cnts (ks.take i) ≤ cnts ks := by
      have : cnts ks = cnts (ks.take i) + cnts (ks.drop i) := by
        rw [cnts, cnts, cnts, ← List.sum_append, ← List.map_append, List.take_append_drop]
      omega
    by_cases hl : i < ks.length
    · by_cases h0 : 0 ≤ c
      · obtain ⟨_, hc2, hib⟩ := hc1.resolve_right (by omega)
        have hcs := cnts_succ hl
        have hcp := cnt_pos ks[i]
        repeat' (first|refine Go.a rfl ?_|refine Go.rg ?_|refine GoR.nil ?_|refine Go.ret ?_|refine Go.b rfl ?_|(refine GoR.o (by rfl) (by rfl) ?_;(conv => arg 1;simp only [G,Z,Y,Gx,un_neg,cutD,decide_true,decide_false,simprocAttr,fb2,fb3,fb9,fb78,fb80,show decide ((i : Int) < (ks.length : Int)) = true by simp; omega, show decide (c ≥ 0) = true by simp; omega, show decide (0 ≤ c) = true by simp; omega, ndsAt hl, wrap_succ hib]);show GoR ..)|(refine GoR.c c86 (by rfl) (by rfl) rfl ?_;(refine (ih _ (List.getElem_mem hl) c h0 (by omega) _).retE ?_; rintro _ ⟨r, rfl, h1⟩))|refine GoR.s (by rfl) rfl rfl ?_|(refine GoR.splitG rfl (fun hc => ?_) (fun hc => ?_) <;> simp only [hc])|refine Go.condB rfl (fun hc => ?_) (fun hc => ?_))
        refine Go.lpN ?_
        refine Go.keep [(1, .int .i64 r), (2, .ptr S.length 0), (5, .int .i64 ((i + 1 : Nat) : Int))] (.cons .refl (.cons .refl (.cons .refl (.nil)))) ?_
        refine next (i + 1, r) (by dsimp only; omega) ⟨hl, ?_⟩
        dsimp only
        rw [hcs]
        unfold CntR at h1
        push_cast
        have hi60 : i ≤ cnts (ks.take i) := take_le (by omega)
        omega
      · clear next
        repeat' (first|refine Go.a rfl ?_|refine Go.rg ?_|refine GoR.nil ?_|refine Go.ret ?_|refine Go.b rfl ?_|(refine GoR.o (by rfl) (by rfl) ?_;(conv => arg 1;simp only [G,Z,Y,Gx,un_neg,cutD,decide_true,decide_false,simprocAttr,fb2,fb3,fb9,fb78,fb80,show decide ((i : Int) < (ks.length : Int)) = true by simp; omega, show decide (c ≥ 0) = false by simp; omega, show decide (0 ≤ c) = false by simp; omega]);show GoR ..)|refine GoR.s (by rfl) rfl rfl ?_|(refine GoR.splitG rfl (fun hc => ?_) (fun hc => ?_) <;> simp only [hc])|refine Go.condB rfl (fun hc => ?_) (fun hc => ?_))
        refine ⟨(by first | exact .inl rfl | exact .inr rfl), fin ?_⟩
        rw [resD_tmp (fn := Tryz.f86) rfl]
        simp only [optThen_some,resultD_tmp,resultD_cell,G,Z,Y,Gx,un_neg,cutD,decide_true,decide_false,simprocAttr,fb2,fb3,fb9,fb78,fb80]
        exact ⟨_, _, rfl, .int, c, rfl, by omega⟩
    · clear next
      have hi' : i = ks.length := by omega
      subst hi'
      rw [List.take_length] at hc1
      repeat' (first|refine Go.a rfl ?_|refine Go.rg ?_|refine GoR.nil ?_|refine Go.ret ?_|refine Go.b rfl ?_|(refine GoR.o (by rfl) (by rfl) ?_;(conv => arg 1;simp only [G,Z,Y,Gx,un_neg,cutD,decide_true,decide_false,simprocAttr,fb2,fb3,fb9,fb78,fb80,show decide ((ks.length : Int) < (ks.length : Int)) = false by simp]);show GoR ..)|refine GoR.s (by rfl) rfl rfl ?_|(refine GoR.splitG rfl (fun hc => ?_) (fun hc => ?_) <;> simp only [hc])|refine Go.condB rfl (fun hc => ?_) (fun hc => ?_))
      refine ⟨(by first | exact .inl rfl | exact .inr rfl), fin ?_⟩
      rw [resD_tmp (fn := Tryz.f86) rfl]
      simp only [optThen_some,resultD_tmp,resultD_cell,G,Z,Y,Gx,un_neg,cutD,decide_true,decide_false,simprocAttr,fb2,fb3,fb9,fb78,fb80]
      exact ⟨_, _, rfl, .int, c, rfl, by omega⟩
where
  take_le : ∀ {ks : List Nd} {i : Nat}, i ≤ ks.length → i ≤ cnts (ks.take i)
    | _, 0, _ => Nat.zero_le _
    | k :: ks, i + 1, h => by
      have h1 := take_le (ks := ks) (i := i) (by simpa using h)
      have h2 := cnt_pos k
      simp only [List.take_succ_cons, cnts, List.map_cons, List.sum_cons] at h1 ⊢
      omega

def SizR (n : Nd) (m out : Int) : Prop := 1 ≤ out ∧ out ≤ m + 1 ∧ ((out ≤ m ∧ out = cnt n) ∨ (out = m + 1 ∧ m < cnt n))
theorem sizeX (n : Nd) : ∀ (m : Int) (_ : 0 ≤ m) (_ : m ≤ 100) (S : Mem), CallD Tryz.prog orc 95 [.agg n.c, .int .i64 m] S fun d S' => S' = S ∧ ∃ r : Int, d = .int .i64 r ∧ SizR n m r := by
  induction n using Nd.ind with
  | h op nm n ks ih =>
    intro m hm0 hm1 S
    have hcm : (cnt (.mk op nm n ks) : Int) = 1 + (cnts ks : Int) := by rw [cnt_mk]; push_cast; rfl
    rw [Nd.c_mk]
    unfold SizR
    rw [hcm]
    refine CallD.e Tryz.func95 rfl Tryz.ntmps95 (by rfl) ?_
    repeat' (first|refine Go.a rfl ?_|refine Go.rg ?_|refine GoR.nil ?_|refine Go.ret ?_|refine Go.b rfl ?_|(refine GoR.o (by rfl) (by rfl) ?_;(conv => arg 1;simp only [G,Z,Y,Gx,un_neg,cutD,decide_true,decide_false,simprocAttr,fb2,fb3,fb9,fb73,fb75]);show GoR ..)|refine Go.condB rfl (fun hc => ?_) (fun hc => ?_))
    refine Go.keep [(1, .int .i64 m), (2, .ptr S.length 0), (5, .int .i64 1), (9, .sl none 4 ks.length (ndsC ks)), (10, .int .i64 (ks.length : Int)), (11, .int .i64 ((0 : Nat) : Int))] (.cons .refl (.cons .refl (.cons .refl (.cons .refl (.cons .refl (.cons .refl (.nil))))))) ?_
    refine Go.while (α := Nat × Int × Mem) (fun a => ks.length - a.1) (fun a => [(1, .int .i64 m), (2, .ptr S.length 0), (5, .int .i64 a.2.1), (9, .sl none 4 ks.length (ndsC ks)), (10, .int .i64 (ks.length : Int)), (11, .int .i64 (a.1 : Int))]) (fun a => S ++ (.obj [.str op, .str nm, .int .i64 n, .sl none 4 ks.length (ndsC ks)] :: a.2.2))
      (fun a => a.1 ≤ ks.length ∧ 1 ≤ a.2.1 ∧ ((a.2.1 ≤ m ∧ a.2.1 = 1 + cnts (ks.take a.1)) ∨ (a.2.1 = m + 1 ∧ m < 1 + cnts (ks.take a.1)))) ?_ (0, 1, []) ⟨Nat.zero_le _, by decide, by simp only [List.take_zero, cnts, List.map_nil, List.sum_nil]; omega⟩
    rintro ⟨i, c, E⟩ ⟨hi, hc0, hc1⟩ next
    dsimp only at hi hc0 hc1 next
    have hmono : cnts (ks.take i) ≤ cnts ks := by
      have : cnts ks = cnts (ks.take i) + cnts (ks.drop i) := by
        rw [cnts, cnts, cnts, ← List.sum_append, ← List.map_append, List.take_append_drop]
      omega
    by_cases hl : i < ks.length
    · cases hq : ks[i] with
      | mk kop knm kn kks =>
      by_cases h0 : c ≤ m
      · obtain ⟨_, hc2⟩ := hc1.resolve_right (by omega)
        have hcs := cnts_succ hl
        have hcp := cnt_pos ks[i]
        have hi60 : i ≤ cnts (ks.take i) := countX.take_le (by omega)
        have ihk := ih _ (List.getElem_mem hl) (m - c) (by omega) (by omega)
        rw [hq] at ihk hcs hcp
        rw [Nd.c_mk] at ihk
        repeat' (first|refine Go.a rfl ?_|refine Go.rg ?_|refine GoR.nil ?_|refine Go.ret ?_|refine Go.b rfl ?_|(refine GoR.o (by rfl) (by rfl) ?_;(conv => arg 1;simp only [G,Z,Y,Gx,un_neg,cutD,decide_true,decide_false,simprocAttr,fb2,fb3,fb9,fb73,fb75,show decide ((i : Int) < (ks.length : Int)) = true by simp; omega, show decide (c > m) = false by simp; omega, show decide (m < c) = false by simp; omega, show IntKind.i64.wrap (m - c) = m - c from wrap64 (by omega) (by omega), ndsAt hl, hq, Nd.c_mk, wrap_succ (show i < 4611686018427387904 by omega)]);show GoR ..)|(refine GoR.c c95 (by rfl) (by rfl) rfl ?_;(refine (ihk _).retE ?_; rintro _ ⟨r, rfl, h1⟩))|refine Go.condB rfl (fun hc => ?_) (fun hc => ?_))
        have h1' := h1
        unfold SizR at h1'
        refine Go.lpN ?_
        have hwr : IntKind.i64.wrap (c + r) = c + r := wrap64 (by omega) (by omega)
        simp only [hwr]
        refine Go.keep [(1, .int .i64 m), (2, .ptr S.length 0), (5, .int .i64 (c + r)), (9, .sl none 4 ks.length (ndsC ks)), (10, .int .i64 (ks.length : Int)), (11, .int .i64 ((i + 1 : Nat) : Int))] (.cons .refl (.cons .refl (.cons .refl (.cons .refl (.cons .refl (.cons .refl (.nil))))))) ?_
        refine next (i + 1, c + r, _) (by dsimp only; omega) ⟨hl, by dsimp only; omega, ?_⟩
        dsimp only
        rw [hcs]
        push_cast
        omega
      · clear next
        repeat' (first|refine Go.a rfl ?_|refine Go.rg ?_|refine GoR.nil ?_|refine Go.ret ?_|refine Go.b rfl ?_|(refine GoR.o (by rfl) (by rfl) ?_;(conv => arg 1;simp only [G,Z,Y,Gx,un_neg,cutD,decide_true,decide_false,simprocAttr,fb2,fb3,fb9,fb73,fb75,show decide ((i : Int) < (ks.length : Int)) = true by simp; omega, show decide (c > m) = true by simp; omega, show decide (m < c) = true by simp; omega, ndsAt hl, hq, Nd.c_mk]);show GoR ..)|refine Go.condB rfl (fun hc => ?_) (fun hc => ?_))
        refine ⟨(by first | exact .inl rfl | exact .inr rfl), fin ?_⟩
        rw [resD_tmp (fn := Tryz.f95) rfl]
        simp only [optThen_some,resultD_tmp,resultD_cell,G,Z,Y,Gx,un_neg,cutD,decide_true,decide_false,simprocAttr,fb2,fb3,fb9,fb73,fb75]
        exact ⟨_, _, rfl, .int, c, rfl, by omega⟩
    · clear next
      have hi' : i = ks.length := by omega
      subst hi'
      rw [List.take_length] at hc1
      repeat' (first|refine Go.a rfl ?_|refine Go.rg ?_|refine GoR.nil ?_|refine Go.ret ?_|refine Go.b rfl ?_|(refine GoR.o (by rfl) (by rfl) ?_;(conv => arg 1;simp only [G,Z,Y,Gx,un_neg,cutD,decide_true,decide_false,simprocAttr,fb2,fb3,fb9,fb73,fb75,show decide ((ks.length : Int) < (ks.length : Int)) = false by simp]);show GoR ..)|refine Go.condB rfl (fun hc => ?_) (fun hc => ?_))
      refine ⟨(by first | exact .inl rfl | exact .inr rfl), fin ?_⟩
      rw [resD_tmp (fn := Tryz.f95) rfl]
      simp only [optThen_some,resultD_tmp,resultD_cell,G,Z,Y,Gx,un_neg,cutD,decide_true,decide_false,simprocAttr,fb2,fb3,fb9,fb73,fb75]
      exact ⟨_, _, rfl, .int, c, rfl, by omega⟩
end Go.Proofs.DeT
