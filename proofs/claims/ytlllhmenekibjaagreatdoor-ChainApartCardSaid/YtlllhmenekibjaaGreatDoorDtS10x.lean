/- The document's own stamps: which may be, which is newer, in words. -/
import Derived.Test.YtlllhmenekibjaaGreatDoorDtS1x
set_option linter.unusedSimpArgs false
set_option linter.unusedVariables false
namespace Go.Proofs.DtT
open Go Go.DM Go.Proofs.DtF
set_option maxRecDepth 100000
variable {orc : DOracle}

theorem ofSt (s : St) (S : Mem) : CallD Tryz.prog orc 55 [.agg s.c] S fun d S' => S' = S ∧ d = .agg s.c := by
  obtain ⟨a, b, c, o⟩ := s
  simp only [St.c]
  refine CallD.e Tryz.func55 rfl Tryz.ntmps55 (by rfl) ?_
  repeat' (first|refine Go.a rfl ?_|refine Go.rg ?_|refine GoR.nil ?_|refine Go.ret ?_|refine Go.b rfl ?_|(refine GoR.o (by rfl) (by rfl) ?_;(conv => arg 1;simp only [G,Z,Y,Gx,un_neg,cutD,decide_true,decide_false,simprocAttr,fb2,fb9,fb32,fb41]);show GoR ..)|refine Go.condB rfl (fun hc => ?_) (fun hc => ?_))
  refine ⟨(by first | exact .inl rfl | exact .inr rfl), fin ?_⟩
  rw [resD_cell (fn := Tryz.f55) rfl]
  simp only [optThen_some,resultD_tmp,resultD_cell,G,Z,Y,Gx,un_neg,cutD,decide_true,decide_false,simprocAttr,fb2,fb9,fb32,fb41]
  exact ⟨_, _, rfl, .of_low (.agg' St.low), rfl⟩
theorem refName (s : ByteArray) (hs : s.size < 4611686018427387904) (S : Mem) : CallD Tryz.prog orc 68 [.str s] S fun d S' => S' = S ∧ d = .bool (nameOk s) := by
  refine CallD.e Tryz.func68 rfl Tryz.ntmps68 (by rfl) ?_
  by_cases h0 : s.size = 0
  · repeat' (first|refine Go.a rfl ?_|refine Go.rg ?_|refine GoR.nil ?_|refine Go.ret ?_|refine Go.b rfl ?_|(refine GoR.o (by rfl) (by rfl) ?_;(conv => arg 1;simp only [G,Z,Y,Gx,un_neg,cutD,decide_true,decide_false,simprocAttr,fb3,fb5,fb9,h0, show (decide (((0 : Nat) : Int) < 1)) = true by decide]);show GoR ..)|refine GoR.s (by rfl) rfl rfl ?_|(refine GoR.splitG rfl (fun hc => ?_) (fun hc => ?_) <;> simp only [hc])|refine Go.condB rfl (fun hc => ?_) (fun hc => ?_))
    refine ⟨(by first | exact .inl rfl | exact .inr rfl), fin ?_⟩
    rw [resD_tmp (fn := Tryz.f68) rfl]
    simp only [optThen_some,resultD_tmp,resultD_cell,G,Z,Y,Gx,un_neg,cutD,decide_true,decide_false,simprocAttr,fb3,fb5,fb9]
    exact ⟨_, [], by simp, .bool, by simp [nameOk, h0]⟩
  · have h1 : 0 < s.size := by omega
    repeat' (first|refine Go.a rfl ?_|refine Go.rg ?_|refine GoR.nil ?_|refine Go.ret ?_|refine Go.b rfl ?_|(refine GoR.o (by rfl) (by rfl) ?_;(conv => arg 1;simp only [G,Z,Y,Gx,un_neg,cutD,decide_true,decide_false,simprocAttr,fb3,fb5,fb9,indexStr_zero h1, show (decide ((s.size : Int) < 1)) = false by simp; omega]);show GoR ..)|refine GoR.s (by rfl) rfl rfl ?_|(refine GoR.splitG rfl (fun hc => ?_) (fun hc => ?_) <;> simp only [hc])|refine Go.condB rfl (fun hc => ?_) (fun hc => ?_))
    rotate_right
    · refine Go.keep [(0, .str s), (3, .int .i64 ((0 : Nat) : Int))] (.cons .refl (.cons .refl (.nil))) ?_
      refine Go.while (α := Nat) (fun i => s.size - i) (fun i => [(0, .str s), (3, .int .i64 (i : Int))]) (fun _ => S) (fun i => i ≤ s.size ∧ ∀ j (h : j < s.size), j < i → (lowB (s.data[j]'h) || digB (s.data[j]'h)) = true) ?_ 0 ⟨Nat.zero_le _, by simp⟩
      rintro i ⟨hi, hk⟩ next
      repeat' (first|refine Go.a rfl ?_|refine Go.rg ?_|refine GoR.nil ?_|refine Go.ret ?_|refine Go.b rfl ?_|(refine GoR.o (by rfl) (by rfl) ?_;(conv => arg 1;simp only [G,Z,Y,Gx,un_neg,cutD,decide_true,decide_false,simprocAttr,fb3,fb5,fb9]);show GoR ..)|refine GoR.s (by rfl) rfl rfl ?_|(refine GoR.splitG rfl (fun hc => ?_) (fun hc => ?_) <;> simp only [hc])|refine Go.condB rfl (fun hc => ?_) (fun hc => ?_))
      · have h2 : i < s.size := by simpa using hc
        repeat' (first|refine Go.a rfl ?_|refine Go.rg ?_|refine GoR.nil ?_|refine Go.ret ?_|refine Go.b rfl ?_|(refine GoR.o (by rfl) (by rfl) ?_;(conv => arg 1;simp only [G,Z,Y,Gx,un_neg,cutD,decide_true,decide_false,simprocAttr,fb3,fb5,fb9,indexStr_cast h2, wrap_succ (show i < 4611686018427387904 by omega)]);show GoR ..)|refine GoR.s (by rfl) rfl rfl ?_|(refine GoR.splitG rfl (fun hc => ?_) (fun hc => ?_) <;> simp only [hc])|refine Go.condB rfl (fun hc => ?_) (fun hc => ?_))
        all_goals first
          | (refine Go.lpN ?_
             refine Go.keep [(0, .str s), (3, .int .i64 ((i + 1 : Nat) : Int))] (.cons .refl (.cons .refl (.nil))) ?_
             refine next (i + 1) (by omega) ⟨h2, fun j hj hlt => ?_⟩
             clear next
             rcases Nat.lt_or_ge j i with h | h
             · exact hk j hj h
             · obtain rfl : j = i := by omega
               clear hk
               simp [lowB, digB] at *
               omega)
          | (clear next
             refine ⟨(by first | exact .inl rfl | exact .inr rfl), fin ?_⟩
             rw [resD_tmp (fn := Tryz.f68) rfl]
             simp only [optThen_some,resultD_tmp,resultD_cell,G,Z,Y,Gx,un_neg,cutD,decide_true,decide_false,simprocAttr,fb3,fb5,fb9]
             refine ⟨_, [], by simp, .bool, ?_⟩
             have hp : (fun b => lowB b || digB b) (s.data[i]'h2) = false := by
               clear hk
               simp [lowB, digB] at *
               omega
             simp only [nameOk, bytes_false (p := fun b => lowB b || digB b) h2 hp, Bool.and_false])
      · clear next
        refine ⟨(by first | exact .inl rfl | exact .inr rfl), fin ?_⟩
        rw [resD_tmp (fn := Tryz.f68) rfl]
        simp only [optThen_some,resultD_tmp,resultD_cell,G,Z,Y,Gx,un_neg,cutD,decide_true,decide_false,simprocAttr,fb3,fb5,fb9]
        refine ⟨_, [], by simp, .bool, ?_⟩
        rw [nameOk, bytes_true fun j hj => hk j hj (by simp at hc; omega)]
        have h00 : s.data[0]? = some (s.data[0]'h1) := Array.getElem?_eq_getElem h1
        rw [h00]
        clear hk
        simp [lowB] at *
        omega
    all_goals
      refine ⟨(by first | exact .inl rfl | exact .inr rfl), fin ?_⟩
      rw [resD_tmp (fn := Tryz.f68) rfl]
      simp only [optThen_some,resultD_tmp,resultD_cell,G,Z,Y,Gx,un_neg,cutD,decide_true,decide_false,simprocAttr,fb3,fb5,fb9]
      refine ⟨_, [], by simp, .bool, ?_⟩
      have h00 : s.data[0]? = some (s.data[0]'h1) := Array.getElem?_eq_getElem h1
      rw [nameOk, h00]
      simp [lowB] at *
      omega
/-- What the cutting of a text is. -/
def cutD (s : ByteArray) : D :=
  if s.data[0]? = some 47 then (if s.size = 1 then .tup [.nils, .bool true] else .tup [.sl none 1 (AtT.cutP (s.data.toList.drop 1)).length ((AtT.cutP (s.data.toList.drop 1)).map .str), .bool true]) else .tup [.nils, .bool false]
theorem one_slash {s : ByteArray} (h : s.data[0]? = some 47) (h1 : s.size = 1) : s = ⟨#[47]⟩ := by
  obtain ⟨⟨l⟩⟩ := s
  have hl : l.length = 1 := h1
  match l, hl with
  | [x], _ =>
    have : x = 47 := by simpa using h
    rw [this]
theorem refCut (s : ByteArray) (hs : s.size < 1000000) (S : Mem) : CallD Tryz.prog O 113 [.str s] S fun d S' => S' = S ∧ d = cutD s := by
  by_cases h0 : s.size = 0
  · have e : s = ⟨#[]⟩ := by
      obtain ⟨d⟩ := s
      simp only [ByteArray.size, Array.size_eq_zero_iff] at h0
      rw [h0]
    subst e
    refine CallD.e Tryz.func113 rfl Tryz.ntmps113 (by rfl) ?_
    repeat' (first|refine Go.a rfl ?_|refine Go.rg ?_|refine GoR.nil ?_|refine Go.ret ?_|refine Go.b rfl ?_|refine Go.rgS dmx (by decide) ?_|(refine GoR.o (by rfl) (by rfl) ?_;(conv => arg 1;simp only [G,Z,Y,Gx,un_neg,cutD,decide_true,decide_false,simprocAttr,fb3,fb5,fb9,fb51]);show GoR ..)|refine GoR.s (by rfl) rfl rfl ?_|(refine GoR.splitG rfl (fun hc => ?_) (fun hc => ?_) <;> simp only [hc])|refine Go.condB rfl (fun hc => ?_) (fun hc => ?_))
    refine ⟨(by first | exact .inl rfl | exact .inr rfl), fin ?_⟩
    rw [resD_two (fn := Tryz.f113) rfl]
    simp only [optThen_some,resultD_tmp,resultD_cell,G,Z,Y,Gx,un_neg,cutD,decide_true,decide_false,simprocAttr,fb3,fb5,fb9,fb51]
    exact ⟨_, [], by simp, .of_low (.tup' (.cons .nils (.cons (.bool _) .nil))), rfl⟩
  have hp : 0 < s.size := by omega
  have hg : s.data[0]? = some (s.data[0]'hp) := Array.getElem?_eq_getElem hp
  have hne : decide (s = (⟨#[]⟩ : ByteArray)) = false := by
    rw [decide_eq_false_iff_not]
    rintro rfl
    exact h0 rfl
  by_cases h47 : s.data[0]'hp = 47
  · have h47' : s.data[0]? = some 47 := by rw [hg, h47]
    by_cases h1 : s.size = 1
    · have e := one_slash h47' h1
      subst e
      refine CallD.e Tryz.func113 rfl Tryz.ntmps113 (by rfl) ?_
      repeat' (first|refine Go.a rfl ?_|refine Go.rg ?_|refine GoR.nil ?_|refine Go.ret ?_|refine Go.b rfl ?_|refine Go.rgS dmx (by decide) ?_|(refine GoR.o (by rfl) (by rfl) ?_;(conv => arg 1;simp only [G,Z,Y,Gx,un_neg,cutD,decide_true,decide_false,simprocAttr,fb3,fb5,fb9,fb51,hne, indexStr_zero hp, h47, show (((47 : UInt8).toNat : Int) != 47) = false from rfl, show decide ((⟨#[47]⟩ : ByteArray) = ⟨#[47]⟩) = true from rfl]);show GoR ..)|refine GoR.s (by rfl) rfl rfl ?_|(refine GoR.splitG rfl (fun hc => ?_) (fun hc => ?_) <;> simp only [hc])|refine Go.condB rfl (fun hc => ?_) (fun hc => ?_))
      refine ⟨(by first | exact .inl rfl | exact .inr rfl), fin ?_⟩
      rw [resD_two (fn := Tryz.f113) rfl]
      simp only [optThen_some,resultD_tmp,resultD_cell,G,Z,Y,Gx,un_neg,cutD,decide_true,decide_false,simprocAttr,fb3,fb5,fb9,fb51]
      exact ⟨_, [], by simp, .of_low (.tup' (.cons .nils (.cons (.bool _) .nil))), rfl⟩
    · rw [cutD, if_pos h47', if_neg h1]
      exact cutO s hs h47' (by omega) S
  · have b47 : (((s.data[0]'hp).toNat : Int) != 47) = true := by
      rw [bne_iff_ne]
      intro h
      refine h47 (UInt8.toNat_inj.1 ?_)
      show _ = 47
      omega
    refine CallD.e Tryz.func113 rfl Tryz.ntmps113 (by rfl) ?_
    repeat' (first|refine Go.a rfl ?_|refine Go.rg ?_|refine GoR.nil ?_|refine Go.ret ?_|refine Go.b rfl ?_|refine Go.rgS dmx (by decide) ?_|(refine GoR.o (by rfl) (by rfl) ?_;(conv => arg 1;simp only [G,Z,Y,Gx,un_neg,cutD,decide_true,decide_false,simprocAttr,fb3,fb5,fb9,fb51,hne, indexStr_zero hp, b47]);show GoR ..)|refine GoR.s (by rfl) rfl rfl ?_|(refine GoR.splitG rfl (fun hc => ?_) (fun hc => ?_) <;> simp only [hc])|refine Go.condB rfl (fun hc => ?_) (fun hc => ?_))
    refine ⟨(by first | exact .inl rfl | exact .inr rfl), fin ?_⟩
    rw [resD_two (fn := Tryz.f113) rfl]
    simp only [optThen_some,resultD_tmp,resultD_cell,G,Z,Y,Gx,un_neg,cutD,decide_true,decide_false,simprocAttr,fb3,fb5,fb9,fb51]
    refine ⟨_, [], by simp, .of_low (.tup' (.cons .nils (.cons (.bool _) .nil))), ?_⟩
    have hn : ¬ s.data[0]? = some 47 := by
      rw [hg]
      intro h
      exact h47 (Option.some.inj h)
    exact ((congrArg _ rfl).trans (if_neg hn).symm)
end Go.Proofs.DtT

/- The document's own stamps: which may be, which is newer. -/
namespace Go.Proofs.DtT
open Go Go.DM Go.Proofs.DtF
set_option maxRecDepth 100000
variable {orc : DOracle}

/-- The pieces of a path that begins with the mark. -/
def piecesR (s : ByteArray) : List ByteArray := if s.size = 1 then [] else AtT.cutP (s.data.toList.drop 1)
def pathR (s : ByteArray) : Bool := decide (s.data[0]? = some 47) && (piecesR s).all nameOk && decide ((piecesR s).length ≤ 4)
theorem cutP_small (l : List UInt8) : ∀ x ∈ AtT.cutP l, x.size ≤ l.length := by
  have key : ∀ (l : List UInt8) (p : List ByteArray × ByteArray) (B : Nat), (∀ x ∈ p.1, x.size ≤ B) → p.2.size + l.length ≤ B → ∀ x ∈ (l.foldl AtT.stepC p).1 ++ [(l.foldl AtT.stepC p).2], x.size ≤ B := by
    intro l
    induction l with
    | nil =>
      intro p B h1 h2 x hx
      rcases List.mem_append.1 hx with hx | hx
      · exact h1 x hx
      · simp at hx
        subst hx
        simpa using h2
    | cons b l ih =>
      intro p B h1 h2
      rw [List.foldl_cons]
      rw [List.length_cons] at h2
      unfold AtT.stepC
      split
      · refine ih _ B (fun x hx => ?_) ?_
        · rcases List.mem_append.1 hx with hx | hx
          · exact h1 x hx
          · simp at hx
            subst hx
            omega
        · show 0 + _ ≤ _
          omega
      · refine ih _ B h1 ?_
        rw [ByteArray.size_append]
        show _ + 1 + _ ≤ _
        omega
  exact key l ([], ⟨#[]⟩) l.length (by simp) (by show 0 + _ ≤ _; omega)
end Go.Proofs.DtT

/- A stamp in the document's words. -/
namespace Go.Proofs.DtT
open Go Go.DM Go.Proofs.DtF
set_option maxRecDepth 100000
variable {orc : DOracle}

end Go.Proofs.DtT
