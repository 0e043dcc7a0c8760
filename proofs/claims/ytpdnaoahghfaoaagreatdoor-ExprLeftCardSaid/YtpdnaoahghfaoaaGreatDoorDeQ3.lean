/- Signs of one kind go together from the left: the law. -/
import Derived.Test.YtpdnaoahghfaoaaGreatDoorDeQ2
set_option linter.unusedSimpArgs false
set_option linter.unusedVariables false
namespace Go.Proofs.DeT
open Go Go.DM
set_option maxRecDepth 100000

/-- As 'sameS', so deep. -/
def sameF : Nat → Nd → Nd → Bool
  | 0, _, _ => false
  | f + 1, .mk op nm n ks, .mk op2 nm2 n2 ks2 => decide (op = op2) && (!decide (op = (⟨#[110, 97, 109, 101]⟩ : ByteArray)) || decide (nm = nm2)) && (!decide (op = (⟨#[110, 117, 109]⟩ : ByteArray)) || decide (n = n2)) && (decide (ks.length = ks2.length) && (ks.zip ks2).all fun p => sameF f p.1 p.2)
theorem sameF_eq : ∀ (f : Nat) (a b : Nd), cnt a ≤ f → sameF f a b = sameS a b
  | 0, a, b, h => by have := cnt_pos a; omega
  | f + 1, .mk op nm n ks, .mk op2 nm2 n2 ks2, h => by
    rw [cnt_mk] at h
    rw [sameS_mk]
    unfold sameF
    congr 1
    rw [Bool.eq_iff_iff, sameK_iff, Bool.and_eq_true, decide_eq_true_eq, List.all_eq_true]
    constructor
    · rintro ⟨h1, h2⟩
      refine ⟨h1, fun i hi hi2 => ?_⟩
      have := h2 (ks[i], ks2[i]) (List.mem_iff_getElem.2 ⟨i, by simp; omega, by simp⟩)
      rw [← sameF_eq f ks[i] ks2[i] (by have := cnts_mem (List.getElem_mem hi); omega)]
      exact this
    · rintro ⟨h1, h2⟩
      refine ⟨h1, fun p hp => ?_⟩
      obtain ⟨i, hi, rfl⟩ := List.mem_iff_getElem.1 hp
      simp only [List.length_zip] at hi
      simp only [List.getElem_zip]
      rw [sameF_eq f _ _ (by have := cnts_mem (List.getElem_mem (l := ks) (n := i) (by omega)); omega)]
      exact h2 i (by omega) (by omega)
def opL (r : Nat) : ByteArray := if r = 0 then (⟨#[43]⟩ : ByteArray) else if r = 1 then (⟨#[45]⟩ : ByteArray) else if r = 2 then (⟨#[42]⟩ : ByteArray) else if r = 3 then (⟨#[47]⟩ : ByteArray) else (⟨#[37]⟩ : ByteArray)
def l1S (p q : ByteArray) : ByteArray := ((((⟨#[97, 32]⟩ : ByteArray) ++ p) ++ (⟨#[32, 98, 32]⟩ : ByteArray)) ++ q) ++ (⟨#[32, 99]⟩ : ByteArray)
def l2S (p q : ByteArray) : ByteArray := ((((⟨#[97, 32]⟩ : ByteArray) ++ p) ++ (⟨#[32, 40, 98, 32]⟩ : ByteArray)) ++ q) ++ (⟨#[32, 99, 41]⟩ : ByteArray)
def l3S (p q : ByteArray) : ByteArray := ((((⟨#[40, 97, 32]⟩ : ByteArray) ++ p) ++ (⟨#[32, 98, 41, 32]⟩ : ByteArray)) ++ q) ++ (⟨#[32, 99]⟩ : ByteArray)
def leftOk (r1 r2 : Nat) : Bool :=
  decide ((parseF (l1S (opL r1) (opL r2))).2.2 = 0) && decide ((parseF (l2S (opL r1) (opL r2))).2.2 = 0) && decide ((parseF (l3S (opL r1) (opL r2))).2.2 = 0) &&
  (sameF 40 (parseF (l1S (opL r1) (opL r2))).1 (parseF (l2S (opL r1) (opL r2))).1 == (decide (r1 < 2) && decide (2 ≤ r2))) &&
  (sameF 40 (parseF (l1S (opL r1) (opL r2))).1 (parseF (l3S (opL r1) (opL r2))).1 == !(decide (r1 < 2) && decide (2 ≤ r2)))
theorem left_all : ((List.range 5).all fun r1 => (List.range 5).all fun r2 => leftOk r1 r2) = true := by kernel_rfl
theorem left_ok {r1 r2 : Nat} (h1 : r1 < 5) (h2 : r2 < 5) : leftOk r1 r2 = true := by
  have := List.all_eq_true.1 left_all r1 (List.mem_range.2 h1)
  exact List.all_eq_true.1 this r2 (List.mem_range.2 h2)
theorem opL_size (r : Nat) : (opL r).size = 1 := by
  unfold opL
  repeat' split
  all_goals rfl
theorem opL_at {r : Nat} (h : r < 5) : ([D.str (⟨#[43]⟩ : ByteArray), .str (⟨#[45]⟩ : ByteArray), .str (⟨#[42]⟩ : ByteArray), .str (⟨#[47]⟩ : ByteArray), .str (⟨#[37]⟩ : ByteArray)])[r]? = some (.str (opL r)) := by
  have : r = 0 ∨ r = 1 ∨ r = 2 ∨ r = 3 ∨ r = 4 := by omega
  rcases this with rfl | rfl | rfl | rfl | rfl <;> rfl

theorem repD5 {a : D} : repD [a] 5 = [a, a, a, a, a] := rfl
set_option maxHeartbeats 4000000 in
theorem lawLeft (o1 o2 : Nat) (ho1 : o1 < 256) (ho2 : o2 < 256) (S : Mem) : CallD Tryz.prog O 10 [.int .u8 (o1 : Int), .int .u8 (o2 : Int)] S fun d S' => S' = S ∧ d = .bool true := by
  have t1 : ((o1 : Int)).tmod 5 = ((o1 % 5 : Nat) : Int) := (Int.ofNat_tmod o1 5).symm
  have t2 : ((o2 : Int)).tmod 5 = ((o2 % 5 : Nat) : Int) := (Int.ofNat_tmod o2 5).symm
  have h1 : o1 % 5 < 5 := Nat.mod_lt _ (by decide)
  have h2 : o2 % 5 < 5 := Nat.mod_lt _ (by decide)
  have hok := left_ok h1 h2
  generalize o1 % 5 = r1 at *
  generalize o2 % 5 = r2 at *
  have a1 := opL_at h1
  have a2 := opL_at h2
  have ix1 : (0 ≤ (r1 : Int) ∧ (r1 : Int) < ((5 : Nat) : Int)) = True := by simp; omega
  have ix2 : (0 ≤ (r2 : Int) ∧ (r2 : Int) < ((5 : Nat) : Int)) = True := by simp; omega
  have ix3 : (0 ≤ (r1 : Int) ∧ (r1 : Int) < (5 : Int)) = True := by simp; omega
  have ix4 : (0 ≤ (r2 : Int) ∧ (r2 : Int) < (5 : Int)) = True := by simp; omega
  have z1 := opL_size r1
  have z2 := opL_size r2
  unfold leftOk at hok
  generalize opL r1 = p at *
  generalize opL r2 = q at *
  have s1 : ((⟨#[97, 32]⟩ : ByteArray) ++ p).size = 3 := by rw [app_size, z1]; rfl
  have s2 : (((⟨#[97, 32]⟩ : ByteArray) ++ p) ++ (⟨#[32, 98, 32]⟩ : ByteArray)).size = 6 := by rw [app_size, s1]; rfl
  have s3 : ((((⟨#[97, 32]⟩ : ByteArray) ++ p) ++ (⟨#[32, 98, 32]⟩ : ByteArray)) ++ q).size = 7 := by rw [app_size, s2, z2]
  have s4 : (((⟨#[97, 32]⟩ : ByteArray) ++ p) ++ (⟨#[32, 40, 98, 32]⟩ : ByteArray)).size = 7 := by rw [app_size, s1]; rfl
  have s5 : ((((⟨#[97, 32]⟩ : ByteArray) ++ p) ++ (⟨#[32, 40, 98, 32]⟩ : ByteArray)) ++ q).size = 8 := by rw [app_size, s4, z2]
  have s6 : ((⟨#[40, 97, 32]⟩ : ByteArray) ++ p).size = 4 := by rw [app_size, z1]; rfl
  have s7 : (((⟨#[40, 97, 32]⟩ : ByteArray) ++ p) ++ (⟨#[32, 98, 41, 32]⟩ : ByteArray)).size = 8 := by rw [app_size, s6]; rfl
  have s8 : ((((⟨#[40, 97, 32]⟩ : ByteArray) ++ p) ++ (⟨#[32, 98, 41, 32]⟩ : ByteArray)) ++ q).size = 9 := by rw [app_size, s7, z2]
  have u1 : (l1S p q).size = 9 := by unfold l1S; rw [app_size, s3]; rfl
  have u2 : (l2S p q).size = 11 := by unfold l2S; rw [app_size, s5]; rfl
  have u3 : (l3S p q).size = 11 := by unfold l3S; rw [app_size, s8]; rfl
  have b1 := fun {t x y} => add_str (P := Tryz.prog) (t := t) (x := x) (y := y) (a := (⟨#[97, 32]⟩ : ByteArray)) (b := p) (by rw [z1]; decide)
  have b2 := fun {t x y} => add_str (P := Tryz.prog) (t := t) (x := x) (y := y) (a := (⟨#[97, 32]⟩ : ByteArray) ++ p) (b := (⟨#[32, 98, 32]⟩ : ByteArray)) (by rw [s1]; decide)
  have b3 := fun {t x y} => add_str (P := Tryz.prog) (t := t) (x := x) (y := y) (a := ((⟨#[97, 32]⟩ : ByteArray) ++ p) ++ (⟨#[32, 98, 32]⟩ : ByteArray)) (b := q) (by rw [s2, z2]; decide)
  have b4 := fun {t x y} => add_str (P := Tryz.prog) (t := t) (x := x) (y := y) (a := (((⟨#[97, 32]⟩ : ByteArray) ++ p) ++ (⟨#[32, 98, 32]⟩ : ByteArray)) ++ q) (b := (⟨#[32, 99]⟩ : ByteArray)) (by rw [s3]; decide)
  have b5 := fun {t x y} => add_str (P := Tryz.prog) (t := t) (x := x) (y := y) (a := (⟨#[97, 32]⟩ : ByteArray) ++ p) (b := (⟨#[32, 40, 98, 32]⟩ : ByteArray)) (by rw [s1]; decide)
  have b6 := fun {t x y} => add_str (P := Tryz.prog) (t := t) (x := x) (y := y) (a := ((⟨#[97, 32]⟩ : ByteArray) ++ p) ++ (⟨#[32, 40, 98, 32]⟩ : ByteArray)) (b := q) (by rw [s4, z2]; decide)
  have b7 := fun {t x y} => add_str (P := Tryz.prog) (t := t) (x := x) (y := y) (a := (((⟨#[97, 32]⟩ : ByteArray) ++ p) ++ (⟨#[32, 40, 98, 32]⟩ : ByteArray)) ++ q) (b := (⟨#[32, 99, 41]⟩ : ByteArray)) (by rw [s5]; decide)
  have b8 := fun {t x y} => add_str (P := Tryz.prog) (t := t) (x := x) (y := y) (a := (⟨#[40, 97, 32]⟩ : ByteArray)) (b := p) (by rw [z1]; decide)
  have b9 := fun {t x y} => add_str (P := Tryz.prog) (t := t) (x := x) (y := y) (a := (⟨#[40, 97, 32]⟩ : ByteArray) ++ p) (b := (⟨#[32, 98, 41, 32]⟩ : ByteArray)) (by rw [s6]; decide)
  have b10 := fun {t x y} => add_str (P := Tryz.prog) (t := t) (x := x) (y := y) (a := ((⟨#[40, 97, 32]⟩ : ByteArray) ++ p) ++ (⟨#[32, 98, 41, 32]⟩ : ByteArray)) (b := q) (by rw [s7, z2]; decide)
  have b11 := fun {t x y} => add_str (P := Tryz.prog) (t := t) (x := x) (y := y) (a := (((⟨#[40, 97, 32]⟩ : ByteArray) ++ p) ++ (⟨#[32, 98, 41, 32]⟩ : ByteArray)) ++ q) (b := (⟨#[32, 99]⟩ : ByteArray)) (by rw [s8]; decide)
  have p1 := fun S => parse (l1S p q) (by omega) S
  have p2 := fun S => parse (l2S p q) (by omega) S
  have p3 := fun S => parse (l3S p q) (by omega) S
  have w1 := parse_whole (s := l1S p q)
  have w2 := parse_whole (s := l2S p q)
  have w3 := parse_whole (s := l3S p q)
  generalize parseF (l1S p q) = x1 at *
  generalize parseF (l2S p q) = x2 at *
  generalize parseF (l3S p q) = x3 at *
  obtain ⟨n1, c1, e1⟩ := x1
  obtain ⟨n2, c2, e2⟩ := x2
  obtain ⟨n3, c3, e3⟩ := x3
  dsimp only [resC] at p1 p2 p3 w1 w2 w3 hok
  simp only [Bool.and_eq_true, decide_eq_true_eq, beq_iff_eq] at hok
  obtain ⟨⟨⟨⟨rfl, rfl⟩, rfl⟩, hs1⟩, hs2⟩ := hok
  obtain ⟨w1, k1⟩ := w1 rfl
  rw [sameF_eq _ _ _ (by omega)] at hs1 hs2
  have q1 := fun S => exprSame (orc := O) n1 (whole_slim _ w1) n2 S
  have q2 := fun S => exprSame (orc := O) n1 (whole_slim _ w1) n3 S
  rw [hs1] at q1
  rw [hs2] at q2
  obtain ⟨y1, hy1, hk1⟩ := kidY_of n1
  obtain ⟨y2, hy2, hk2⟩ := kidY_of n2
  obtain ⟨y3, hy3, hk3⟩ := kidY_of n3
  have o1' := hk1.one
  have o1'' := hk1.cells
  have o2' := hk2.one
  have o2'' := hk2.cells
  have o3' := hk3.one
  have o3'' := hk3.cells
  simp only [hy1, hy2, hy3, ndX] at p1 p2 p3 q1 q2
  unfold l1S at p1
  unfold l2S at p2
  unfold l3S at p3
  have d1 : decide ((r1 : Int) < 2) = decide (r1 < 2) := by rw [Bool.eq_iff_iff]; simp; omega
  have d2 : decide ((r2 : Int) ≥ 2) = decide (2 ≤ r2) := by rw [Bool.eq_iff_iff]; simp; omega
  have d3 : decide ((2 : Int) ≤ (r2 : Int)) = decide (2 ≤ r2) := by rw [Bool.eq_iff_iff]; simp; omega
  clear w1 w2 w3 hs1 hs2 u1 u2 u3 hy1 hy2 hy3
  cases hr1 : decide (r1 < 2) <;> cases hr2 : decide (2 ≤ r2)
  all_goals
    simp only [hr1, hr2, Bool.and_true, Bool.and_false, Bool.not_true, Bool.not_false] at q1 q2
    refine CallD.e Tryz.func10 rfl Tryz.ntmps10 (by rfl) ?_
    repeat' (first|refine Go.a rfl ?_|refine Go.rg ?_|refine GoR.nil ?_|refine Go.ret ?_|refine Go.b rfl ?_|(refine GoR.o (by rfl) (by rfl) ?_;(conv => arg 1;simp only [G,Z,Y,Gx,un_neg,cutD,decide_true,decide_false,simprocAttr,fb2,fb3,fb4,fb5,fb9,fb73,fb75,fb100,repD5, List.set_cons_zero, List.set_cons_succ, t1, t2, a1, a2, ix1, ix2, ix3, ix4, b1, b2, b3, b4, b5, b6, b7, b8, b9, b10, b11, o1', o1'', o2', o2'', o3', o3'', d1, d2, d3, hr1, hr2, Bool.not_true, Bool.not_false, show IntKind.i64.wrap ((0 : Int) + 0) = 0 by decide]);show GoR ..)|(refine GoR.c c37 (by rfl) (by rfl) rfl ?_;(refine (known _).ret ?_))|(refine GoR.c c38 (by rfl) (by rfl) rfl ?_;(first | refine (p1 _).ret ?_ | refine (p2 _).ret ?_ | refine (p3 _).ret ?_))|(refine GoR.c c51 (by rfl) (by rfl) rfl ?_;(first | refine (q1 _).ret ?_ | refine (q2 _).ret ?_))|refine GoR.s (by rfl) rfl rfl ?_|(refine GoR.splitG rfl (fun hc => ?_) (fun hc => ?_) <;> simp only [hc])|refine Go.condB rfl (fun hc => ?_) (fun hc => ?_))
    refine ⟨(by first | exact .inl rfl | exact .inr rfl), fin ?_⟩
    rw [resD_tmp (fn := Tryz.f10) rfl]
    simp only [optThen_some,resultD_tmp,resultD_cell,G,Z,Y,Gx,un_neg,cutD,decide_true,decide_false,simprocAttr,fb2,fb3,fb4,fb5,fb9,fb73,fb75,fb100]
    first | exact ⟨_, _, rfl, .bool, rfl⟩ | exact ⟨_, [], by simp, .bool, rfl⟩
end Go.Proofs.DeT
