/- What the laws' own check of the program comes to: a sum of products. -/
import Derived.Test.YtpdnaoahghfaoaaGreatDoorDeP10
import Derived.Test.YtpdnaoahghfaoaaGreatDoorDeK3
import Derived.Test.YtpdnaoahghfaoaaGreatDoorDeT1
import Derived.Test.YtpdnaoahghfaoaaGreatDoorDeN5
set_option linter.unusedSimpArgs false
set_option linter.unusedVariables false
namespace Go.Proofs.DeT
open Go Go.DM
set_option maxRecDepth 100000

theorem pair_unique : ∀ {l1 l2 : List ByteArray}, l1.Pairwise (fun a b => ltB a b = true) → l2.Pairwise (fun a b => ltB a b = true) → (∀ x, x ∈ l1 ↔ x ∈ l2) → l1 = l2
  | [], [], _, _, _ => rfl
  | [], b :: l2, _, _, h => by have := (h b).2 (by simp); cases this
  | a :: l1, [], _, _, h => by have := (h a).1 (by simp); cases this
  | a :: l1, b :: l2, h1, h2, h => by
    rw [List.pairwise_cons] at h1 h2
    have e : a = b := by
      rcases List.mem_cons.1 ((h a).1 (by simp)) with e | ha
      · exact e
      · rcases List.mem_cons.1 ((h b).2 (by simp)) with e | hb
        · exact e.symm
        · have x := h2.1 a ha
          have y := h1.1 b hb
          rw [ltB_asymm x] at y
          cases y
    subst e
    congr 1
    refine pair_unique h1.2 h2.2 fun x => ?_
    have hne : ∀ {l : List ByteArray}, (∀ b ∈ l, ltB a b = true) → x ∈ l → x ≠ a := fun hl hx e => by
      have := hl x hx
      rw [e, ltB_irrefl] at this
      cases this
    constructor
    · intro hx
      exact (List.mem_cons.1 ((h x).1 (by simp [hx]))).resolve_left (hne h1.1 hx)
    · intro hx
      exact (List.mem_cons.1 ((h x).2 (by simp [hx]))).resolve_left (hne h2.1 hx)
theorem rise_pair {l : List ByteArray} (h : RiseB (fun x => x) l) : l.Pairwise (fun a b => ltB a b = true) :=
  List.pairwise_iff_getElem.2 fun i j hi hj hij => h.lt hj hij
theorem namesR_eq {n : Nd} {l : List ByteArray} (h : l.Pairwise (fun a b => ltB a b = true)) (hm : ∀ x, x ∈ namesL n ↔ x ∈ l) : namesR n = l :=
  pair_unique (rise_pair (namesR_rise n)) h fun x => mem_namesR.trans (hm x)
theorem whole_check (n : Nd) (h : Whole n) : checkS n = 0 := by
  induction n using Nd.ind with
  | h op nm n ks ih =>
    obtain ⟨har, hn, hz, hi, hk, _⟩ := h
    rw [checkS_mk, if_neg (fun q => q har), if_neg, if_neg]
    · refine firstE_all fun x hx => ?_
      obtain ⟨k, hkm, rfl⟩ := List.mem_map.1 hx
      exact ih k hkm (hk k hkm)
    · rintro ⟨q1, q2⟩
      have := hz q1
      omega
    · rintro ⟨q1, q2⟩
      rw [hn q1] at q2
      cases q2
theorem whole_checkN {n : Nd} (h : Whole n) (hc : cnt n ≤ 32) : checkN n = 0 := by
  unfold checkN
  rw [if_neg (by omega)]
  exact whole_check n h
theorem itoa1 {n : Nat} (h : n < 10) : itoaB (n : Int) = ⟨#[UInt8.ofNat (48 + n)]⟩ := by
  unfold itoaB Lib.itoa
  rw [if_neg (by omega), Int.toNat_natCast, Lib.decDigits_one h]

def nmN (s : ByteArray) : Nd := .mk (⟨#[110, 97, 109, 101]⟩ : ByteArray) s 0 []
def nuN (n : Int) : Nd := .mk (⟨#[110, 117, 109]⟩ : ByteArray) ⟨#[]⟩ n []
def opN (op : ByteArray) (a b : Nd) : Nd := .mk op ⟨#[]⟩ 0 [a, b]
/-- The tree of a + 2 * -(b - 1). -/
def kTree : Nd := opN (⟨#[43]⟩ : ByteArray) (nmN (⟨#[97]⟩ : ByteArray)) (opN (⟨#[42]⟩ : ByteArray) (nuN 2) (.mk (⟨#[110, 101, 103]⟩ : ByteArray) ⟨#[]⟩ 0 [opN (⟨#[45]⟩ : ByteArray) (nmN (⟨#[98]⟩ : ByteArray)) (nuN 1)]))
theorem kParse : parseF (⟨#[97, 32, 43, 32, 50, 32, 42, 32, 45, 40, 98, 32, 45, 32, 49, 41]⟩ : ByteArray) = (kTree, 0, 0) := by kernel_rfl
theorem kParse2 : parseF (⟨#[97, 32, 43, 32, 41]⟩ : ByteArray) = (nilN, 4, 2) := by kernel_rfl
theorem kWhole : Whole kTree ∧ cnt kTree ≤ 32 := by
  have h := parse_whole (s := (⟨#[97, 32, 43, 32, 50, 32, 42, 32, 45, 40, 98, 32, 45, 32, 49, 41]⟩ : ByteArray)) (by rw [kParse])
  rw [kParse] at h
  exact h
theorem text_nm {s : ByteArray} : textS (nmN s) = s := by rw [nmN, textS_mk]; rfl
theorem text_nu {n : Int} : textS (nuN n) = itoaB n := by rw [nuN, textS_mk]; rfl
theorem kText : textS kTree = (⟨#[40, 97, 32, 43, 32, 40, 50, 32, 42, 32, 45, 40, 98, 32, 45, 32, 49, 41, 41, 41]⟩ : ByteArray) := by
  have e1 : itoaB 1 = ⟨#[49]⟩ := itoa1 (n := 1) (by decide)
  have e2 : itoaB 2 = ⟨#[50]⟩ := itoa1 (n := 2) (by decide)
  simp only [kTree, opN, textS_mk, List.map_cons, List.map_nil, text_nm, text_nu, e1, e2]
  decide
theorem kNamesL : namesL kTree = [(⟨#[97]⟩ : ByteArray), (⟨#[98]⟩ : ByteArray)] := by
  have hm : ∀ s, namesL (nmN s) = [s] := fun s => by rw [nmN, namesL_mk]; rfl
  have hu : ∀ n, namesL (nuN n) = [] := fun n => by rw [nuN, namesL_mk]; rfl
  simp only [kTree, opN, namesL_mk, List.map_cons, List.map_nil, hm, hu, List.flatten_cons, List.flatten_nil]
  decide
theorem kNames : namesR kTree = [(⟨#[97]⟩ : ByteArray), (⟨#[98]⟩ : ByteArray)] := by
  refine namesR_eq ?_ fun x => by rw [kNamesL]
  rw [List.pairwise_cons]
  refine ⟨fun b hb => ?_, by simp⟩
  rw [List.mem_singleton] at hb
  subst hb
  unfold ltB
  rw [Lib.toList_data, Lib.toList_data]
  decide
theorem kBare : checkN (.mk (⟨#[43]⟩ : ByteArray) ⟨#[]⟩ 0 []) = 2 := by
  unfold checkN
  rw [cnt_mk, checkS_mk]
  decide

theorem known (S : Mem) : CallD Tryz.prog O 37 [] S fun d S' => S' = S ∧ d = .bool true := by
  obtain ⟨hw, hc⟩ := kWhole
  have hs := whole_slim _ hw
  have h1 := fun S => parse (⟨#[97, 32, 43, 32, 50, 32, 42, 32, 45, 40, 98, 32, 45, 32, 49, 41]⟩ : ByteArray) (by decide) S
  have h2 := fun S => parse (⟨#[97, 32, 43, 32, 41]⟩ : ByteArray) (by decide) S
  have hN := fun S => names kTree hs (whole_fits _ hw) (by omega) (fun h => namesR_pos h) S
  have hT := fun S => exprText kTree hw (by omega) S
  have hC := fun S => exprCheck (orc := O) kTree hs S
  have hS := fun S => exprSame (orc := O) kTree hs kTree S
  have hB := fun S => exprCheck (orc := O) (.mk (⟨#[43]⟩ : ByteArray) ⟨#[]⟩ 0 []) (.mk (by decide) (by decide) (by simp)) S
  rw [kParse] at h1
  rw [kParse2] at h2
  rw [kNames] at hN
  rw [kText] at hT
  rw [whole_checkN hw hc] at hC
  rw [sameS_self] at hS
  rw [kBare] at hB
  obtain ⟨ks, hk, hlen⟩ : ∃ ks, kTree = .mk (⟨#[43]⟩ : ByteArray) ⟨#[]⟩ 0 ks ∧ ks.length = 2 := ⟨_, rfl, rfl⟩
  rw [hk] at h1 hN hT hC hS
  simp only [resC, Nd.c_mk, nilN, hlen, Int.natCast_zero, Int.ofNat_zero, Int.cast_ofNat_Int] at h1 h2 hN hT hC hS hB
  clear hk hw hc hs
  refine CallD.e Tryz.func37 rfl Tryz.ntmps37 (by rfl) ?_
  repeat' (first|refine Go.a rfl ?_|refine Go.rg ?_|refine GoR.nil ?_|refine Go.ret ?_|refine Go.b rfl ?_|(refine GoR.o (by rfl) (by rfl) ?_;(conv => arg 1;simp only [G,Z,Y,Gx,un_neg,cutD,decide_true,decide_false,simprocAttr,fb2,fb3,fb9,fb73,fb75,fb100,strC, List.map_cons, List.map_nil, List.length_cons, List.length_nil, show ((0 : Int) < ((2 : Nat) : Int)) = True by simp]);show GoR ..)|(refine GoR.c c38 (by rfl) (by rfl) rfl ?_;(first | refine (h1 _).ret ?_ | refine (h2 _).ret ?_))|(refine GoR.c c53 (by rfl) (by rfl) rfl ?_;(refine (hN _).ret ?_))|(refine GoR.c c49 (by rfl) (by rfl) rfl ?_;(refine (hT _).ret ?_))|(refine GoR.c c51 (by rfl) (by rfl) rfl ?_;(refine (hS _).ret ?_))|(refine GoR.c c48 (by rfl) (by rfl) rfl ?_;(first | refine (hC _).ret ?_ | refine CallD.weak (args' := [.agg [.str (⟨#[43]⟩ : ByteArray), .str ⟨#[]⟩, .int .i64 0, .sl none 4 0 (ndsC [])]]) (.cons (.agg' (.cons .refl (.cons .refl (.cons .refl (.cons .nilE .nil))))) .nil) ((hB _).ret ?_)))|refine GoR.s (by rfl) rfl rfl ?_|(refine GoR.splitG rfl (fun hc => ?_) (fun hc => ?_) <;> simp only [hc])|refine Go.condB rfl (fun hc => ?_) (fun hc => ?_))
  refine ⟨(by first | exact .inl rfl | exact .inr rfl), fin ?_⟩
  rw [resD_tmp (fn := Tryz.f37) rfl]
  simp only [optThen_some,resultD_tmp,resultD_cell,G,Z,Y,Gx,un_neg,cutD,decide_true,decide_false,simprocAttr,fb2,fb3,fb9,fb73,fb75,fb100]
  exact ⟨_, _, rfl, .bool, rfl⟩
end Go.Proofs.DeT
