/- What the package of Row's laws knows. -/
import Derived.Test.YtpdnaoahghfaoaaGreatDoorDwS35
import Derived.KernelRfl
set_option linter.unusedSimpArgs false
set_option linter.unusedVariables false
namespace Go.Proofs.DwT
open Go Go.DM Go.Proofs.DeT
set_option maxRecDepth 100000

def vb : Val := ⟨1, 5, ⟨#[]⟩, []⟩
def va : Val := ⟨2, 0, (⟨#[120]⟩ : ByteArray), []⟩
def L1 : List Att := [⟨(⟨#[98]⟩ : ByteArray), vb⟩]
def L2 : List Att := [⟨(⟨#[97]⟩ : ByteArray), va⟩, ⟨(⟨#[98]⟩ : ByteArray), vb⟩]
def rk : Rw := ⟨(⟨#[107]⟩ : ByteArray), ⟨1, 0, 0, (⟨#[47, 122]⟩ : ByteArray)⟩, L2⟩
def C1 : List D := [.str (⟨#[98]⟩ : ByteArray), .int .i64 1, .int .i64 5, .str ⟨#[]⟩, .sl none 1 0 []]
def C2 : List D := [.str (⟨#[97]⟩ : ByteArray), .int .i64 2, .int .i64 0, .str (⟨#[120]⟩ : ByteArray), .sl none 1 0 [], .str (⟨#[98]⟩ : ByteArray), .int .i64 1, .int .i64 5, .str ⟨#[]⟩, .sl none 1 0 []]
theorem rise0 : RiseB Att.n [] := fun i h => by simp at h
theorem rise1 : RiseB Att.n L1 := fun i h => by simp [L1] at h
theorem rise2 : RiseB Att.n L2 := fun i h => by
  have : i = 0 := by simp [L2] at h; omega
  subst this
  show ltB (⟨#[97]⟩ : ByteArray) (⟨#[98]⟩ : ByteArray) = true
  decide +kernel
theorem nb : nameOk (⟨#[98]⟩ : ByteArray) = true := by decide +kernel
theorem na : nameOk (⟨#[97]⟩ : ByteArray) = true := by decide +kernel
theorem nB : nameOk (⟨#[66]⟩ : ByteArray) = false := by decide +kernel
theorem cb : chkV vb = 0 := rfl
theorem ca : chkV va = 0 := by decide +kernel
theorem set1L : setL [] (⟨#[98]⟩ : ByteArray) vb = L1 := rfl
theorem look1 : look L1 (⟨#[97]⟩ : ByteArray) = none := look_miss fun a ha => by
  simp only [L1, List.mem_singleton] at ha
  subst ha
  decide +kernel
theorem pos1 : posN L1 (⟨#[97]⟩ : ByteArray) = 0 := by
  have : ltB (⟨#[98]⟩ : ByteArray) (⟨#[97]⟩ : ByteArray) = false := by decide +kernel
  simp [posN, L1, List.takeWhile_cons, this]
theorem set2L : setL L1 (⟨#[97]⟩ : ByteArray) va = L2 := by
  rw [setL, look1, if_neg (by decide), pos1]
  rfl
theorem lookb : look L2 (⟨#[98]⟩ : ByteArray) = some vb := by
  rw [L2, look_cons, if_neg (by decide +kernel), look_cons, if_pos rfl]
theorem looka : look L2 (⟨#[97]⟩ : ByteArray) = some va := by rw [L2, look_cons, if_pos rfl]
theorem drop2L : dropL L2 (⟨#[97]⟩ : ByteArray) = L1 := by
  have := drop_set rise1 va look1
  rwa [set2L] at this
theorem chk_k : chkR rk = 0 := by decide +kernel
theorem dec1 : decB 1 = (⟨#[49]⟩ : ByteArray) := by simp [decB, Lib.itoa, Lib.decDigits]
theorem dec0 : decB 0 = (⟨#[48]⟩ : ByteArray) := by simp [decB, Lib.itoa, Lib.decDigits]
theorem dec5 : decB 5 = (⟨#[53]⟩ : ByteArray) := by simp [decB, Lib.itoa, Lib.decDigits]
theorem text_k : textR rk = (⟨#[107, 32, 49, 46, 48, 46, 48, 64, 47, 122, 32, 97, 61, 34, 120, 34, 32, 98, 61, 53]⟩ : ByteArray) := by
  have h1 : textV va = (⟨#[34, 120, 34]⟩ : ByteArray) := by decide +kernel
  have h2 : textV vb = (⟨#[53]⟩ : ByteArray) := by rw [textV, if_pos (show vb.k = 1 from rfl)]; exact dec5
  have h3 : textB ⟨1, 0, 0, (⟨#[47, 122]⟩ : ByteArray)⟩ = (⟨#[49, 46, 48, 46, 48, 64, 47, 122]⟩ : ByteArray) := by
    unfold textB
    simp only [dec1, dec0]
    decide +kernel
  have h4 : wordsR rk rk.at_.length = [(⟨#[107]⟩ : ByteArray), (⟨#[49, 46, 48, 46, 48, 64, 47, 122]⟩ : ByteArray), (⟨#[97, 61, 34, 120, 34]⟩ : ByteArray), (⟨#[98, 61, 53]⟩ : ByteArray)] := by
    show [(⟨#[107]⟩ : ByteArray), textB ⟨1, 0, 0, (⟨#[47, 122]⟩ : ByteArray)⟩, (⟨#[97]⟩ : ByteArray) ++ ⟨#[61]⟩ ++ textV va, (⟨#[98]⟩ : ByteArray) ++ ⟨#[61]⟩ ++ textV vb] = _
    rw [h1, h2, h3]
    decide +kernel
  rw [textR, h4]
  decide +kernel
theorem in0 : in64 0 := ⟨by decide, by decide⟩
theorem known (S : Mem) : CallD Tryz.prog O 12 [] S fun d S' => S' = S ∧ d = .bool true := by
  have h1 : ∀ S, CallD Tryz.prog O 25 [.nils, .str (⟨#[98]⟩ : ByteArray), .agg [.int .i64 1, .int .i64 5, .str ⟨#[]⟩, .nils]] S fun d S' => S' = S ∧ d = .tup [.sl none 5 1 C1, .int .i64 0] := fun S =>
    (CallD.weak (.cons .nilE (.cons .refl (.cons (.agg' (.cons .refl (.cons .refl (.cons .refl (.cons .nilE .nil))))) .nil))) (rowSet [] (⟨#[98]⟩ : ByteArray) vb rise0 (by decide) (by simp) (by decide) (by decide) S)).mono fun d S' ⟨e1, e2⟩ => ⟨e1, by rw [e2, setD_ok nb cb (by simp), set1L]; rfl⟩
  have h2 : ∀ S, CallD Tryz.prog O 25 [.sl none 5 1 C1, .str (⟨#[97]⟩ : ByteArray), .agg [.int .i64 2, .int .i64 0, .str (⟨#[120]⟩ : ByteArray), .nils]] S fun d S' => S' = S ∧ d = .tup [.sl none 5 2 C2, .int .i64 0] := fun S =>
    (CallD.weak (.cons .refl (.cons .refl (.cons (.agg' (.cons .refl (.cons .refl (.cons .refl (.cons .nilE .nil))))) .nil))) (rowSet L1 (⟨#[97]⟩ : ByteArray) va rise1 (by decide) (by simp [L1, vb]) (by decide) (by decide) S)).mono fun d S' ⟨e1, e2⟩ => ⟨e1, by rw [e2, setD_ok na ca (by simp [L1]), set2L]; rfl⟩
  have h3 : ∀ S, CallD Tryz.prog O 30 [.sl none 5 2 C2, .str (⟨#[98]⟩ : ByteArray)] S fun d S' => S' = S ∧ d = .tup [.agg [.int .i64 1, .int .i64 5, .str ⟨#[]⟩, .sl none 1 0 []], .bool true] := fun S =>
    (rowGet L2 (⟨#[98]⟩ : ByteArray) rise2 (by decide) (by simp [L2, va, vb]) S).mono fun d S' ⟨e1, e2⟩ => ⟨e1, by rw [e2, lookb]; rfl⟩
  have h4 : ∀ S, CallD Tryz.prog O 28 [.sl none 5 2 C2, .str (⟨#[97]⟩ : ByteArray)] S fun d S' => S' = S ∧ d = .tup [.sl none 5 1 C1, .bool true] := fun S =>
    (rowDrop L2 (⟨#[97]⟩ : ByteArray) rise2 (by decide) (by simp [L2, va, vb]) S).mono fun d S' ⟨e1, e2⟩ => ⟨e1, by rw [e2, dropD, drop2L, looka]; rfl⟩
  have h5 : ∀ S, CallD Tryz.prog O 25 [.sl none 5 2 C2, .str (⟨#[66]⟩ : ByteArray), .agg [.int .i64 1, .int .i64 5, .str ⟨#[]⟩, .sl none 1 0 []]] S fun d S' => S' = S ∧ d = .tup [.sl none 5 0 [], .int .i64 5] := fun S =>
    (rowSet L2 (⟨#[66]⟩ : ByteArray) vb rise2 (by decide) (by simp [L2, va, vb]) (by decide) (by decide) S).mono fun d S' ⟨e1, e2⟩ => ⟨e1, by rw [e2, setD_name nB]; rfl⟩
  have h6 : ∀ S, CallD Tryz.prog O 33 [.str (⟨#[97, 49]⟩ : ByteArray)] S fun d S' => S' = S ∧ d = .bool true := fun S =>
    (rowName (⟨#[97, 49]⟩ : ByteArray) S).mono fun d S' ⟨e1, e2⟩ => ⟨e1, by rw [e2, show nameOk (⟨#[97, 49]⟩ : ByteArray) = true by decide +kernel]⟩
  have h7 : ∀ S, CallD Tryz.prog O 33 [.str (⟨#[49, 97]⟩ : ByteArray)] S fun d S' => S' = S ∧ d = .bool false := fun S =>
    (rowName (⟨#[49, 97]⟩ : ByteArray) S).mono fun d S' ⟨e1, e2⟩ => ⟨e1, by rw [e2, show nameOk (⟨#[49, 97]⟩ : ByteArray) = false by decide +kernel]⟩
  have hfr : FewR rk := ⟨by decide, by decide, by simp [rk, L2]; decide, by simp [rk, L2, va, vb]; decide, by simp [rk, L2, va, vb]⟩
  have h8 : ∀ S, CallD Tryz.prog O 16 [.agg [.str (⟨#[107]⟩ : ByteArray), .int .i64 1, .int .i64 0, .int .i64 0, .str (⟨#[47, 122]⟩ : ByteArray), .sl none 5 2 C2]] S fun d S' => S' = S ∧ d = .int .i64 0 := fun S =>
    (rowCheck rk hfr S).mono fun d S' ⟨e1, e2⟩ => ⟨e1, by rw [e2, chk_k]⟩
  have h9 : ∀ S, CallD Tryz.prog O 19 [.agg [.str (⟨#[107]⟩ : ByteArray), .int .i64 1, .int .i64 0, .int .i64 0, .str (⟨#[47, 122]⟩ : ByteArray), .sl none 5 2 C2], .agg [.str (⟨#[107]⟩ : ByteArray), .int .i64 1, .int .i64 0, .int .i64 0, .str (⟨#[47, 122]⟩ : ByteArray), .sl none 5 2 C2]] S fun d S' => S' = S ∧ d = .bool true := fun S =>
    (rowSame rk rk (by decide) (by simp [rk, L2, va, vb]) S).mono fun d S' ⟨e1, e2⟩ => ⟨e1, by rw [e2, sameR_self]⟩
  have h10 : ∀ S, CallD Tryz.prog O 21 [.sl none 5 2 C2, .sl none 5 1 C1] S fun d S' => S' = S ∧ d = .bool false := fun S =>
    (sameAttrs L2 L1 (by decide) (by simp [L2, va, vb]) S).mono fun d S' ⟨e1, e2⟩ => ⟨e1, by rw [e2, sameL_len (by decide)]⟩
  have h11 : ∀ S, CallD Tryz.prog O 17 [.agg [.str (⟨#[107]⟩ : ByteArray), .int .i64 1, .int .i64 0, .int .i64 0, .str (⟨#[47, 122]⟩ : ByteArray), .sl none 5 2 C2]] S fun d S' => S' = S ∧ d = .str (⟨#[107, 32, 49, 46, 48, 46, 48, 64, 47, 122, 32, 97, 61, 34, 120, 34, 32, 98, 61, 53]⟩ : ByteArray) := fun S =>
    (rowText rk (by decide) ⟨⟨by decide, by decide⟩, in0, in0⟩ (by decide) (fun a ha => by
      simp only [rk, L2, List.mem_cons, List.not_mem_nil, or_false] at ha
      rcases ha with rfl | rfl <;> exact ⟨by decide, by decide, by decide, ⟨by decide, by decide⟩, by simp [va, vb]⟩) (by decide) S).mono fun d S' ⟨e1, e2⟩ => ⟨e1, by rw [e2, text_k]⟩
  refine CallD.e Tryz.func12 rfl Tryz.ntmps12 (by rfl) ?_
  have g0 : IntKind.i64.wrap ((0 : Int) + 0) = 0 := rfl
  have g1 : IntKind.i64.wrap (0 : Int) = 0 := rfl
  have g2 : C2[0]? = some (.str (⟨#[97]⟩ : ByteArray)) := rfl
  have g3 : Int.toNat 0 = 0 := rfl
  repeat' (first|refine Go.a rfl ?_|refine Go.rg ?_|refine GoR.nil ?_|refine Go.ret ?_|refine Go.b rfl ?_|(refine GoR.o (by rfl) (by rfl) ?_;(conv => arg 1;simp only [G,Z,Y,Gx,un_neg,cutD,decide_true,decide_false,simprocAttr,fb2,fb3,fb9,fb23,fb24,fb26,fb45,fb47,fb71,g0, g1, g2, g3]);show GoR ..)|(refine GoR.c c25 (by rfl) (by rfl) rfl ?_;(first | (refine (h1 _).ret ?_) | (refine (h2 _).ret ?_) | (refine (h5 _).ret ?_)))|(refine GoR.c c30 (by rfl) (by rfl) rfl ?_;(refine (h3 _).ret ?_))|(refine GoR.c c28 (by rfl) (by rfl) rfl ?_;(refine (h4 _).ret ?_))|(refine GoR.c c33 (by rfl) (by rfl) rfl ?_;(first | (refine (h6 _).ret ?_) | (refine (h7 _).ret ?_)))|(refine GoR.c c16 (by rfl) (by rfl) rfl ?_;(refine (h8 _).ret ?_))|(refine GoR.c c19 (by rfl) (by rfl) rfl ?_;(refine (h9 _).ret ?_))|(refine GoR.c c21 (by rfl) (by rfl) rfl ?_;(refine (h10 _).ret ?_))|(refine GoR.c c17 (by rfl) (by rfl) rfl ?_;(refine (h11 _).ret ?_))|refine GoR.s (by rfl) rfl rfl ?_|(refine GoR.splitG rfl (fun hc => ?_) (fun hc => ?_) <;> simp only [hc])|refine Go.condB rfl (fun hc => ?_) (fun hc => ?_))
  refine ⟨(by first | exact .inl rfl | exact .inr rfl), fin ?_⟩
  rw [resD_tmp (fn := Tryz.f12) rfl]
  simp only [optThen_some,resultD_tmp,resultD_cell,G,Z,Y,Gx,un_neg,cutD,decide_true,decide_false,simprocAttr,fb2,fb3,fb9,fb23,fb24,fb26,fb45,fb47,fb71]
  exact ⟨_, _, rfl, .bool, rfl⟩
end Go.Proofs.DwT
