/- The names of a tree stand in its words; without names it has none: the law. -/
import Derived.Test.YtpdnaoahghfaoaaGreatDoorDeK4
import Derived.Test.YtpdnaoahghfaoaaGreatDoorDeW1
set_option linter.unusedSimpArgs false
set_option linter.unusedVariables false
namespace Go.Proofs.DeT
open Go Go.DM
set_option maxRecDepth 100000

/-- A text lies in another one. -/
def Occ (s t : ByteArray) : Prop := ∃ a b : ByteArray, t = (a ++ s) ++ b
theorem Occ.self (s : ByteArray) : Occ s s := ⟨⟨#[]⟩, ⟨#[]⟩, by refine AM.bytes_ext ?_; simp⟩
theorem Occ.in {s t : ByteArray} (h : Occ s t) (x y : ByteArray) : Occ s ((x ++ t) ++ y) := by
  obtain ⟨a, b, rfl⟩ := h
  refine ⟨x ++ a, b ++ y, ?_⟩
  refine AM.bytes_ext ?_
  simp
theorem Occ.at {s t : ByteArray} (h : Occ s t) : ∃ j, j + s.size ≤ t.size ∧ t.extract j (j + s.size) = s := by
  obtain ⟨a, b, rfl⟩ := h
  refine ⟨a.size, by rw [app_size, app_size]; omega, ?_⟩
  refine AM.bytes_ext ?_
  simp only [ByteArray.data_extract, ByteArray.data_append, Array.toList_extract, Array.toList_append, List.extract_eq_take_drop]
  have e1 : a.size = a.data.toList.length := rfl
  have e2 : s.size = s.data.toList.length := rfl
  rw [e1, e2, List.append_assoc, List.drop_left, Nat.add_sub_cancel_left, List.take_left]
theorem names_occ (n : Nd) (hw : Whole n) : ∀ s ∈ namesL n, Occ s (textS n) := by
  induction n using Nd.ind with
  | h op nm n ks ih =>
    intro s hs
    rw [namesL_mk] at hs
    rw [textS_mk]
    rcases whole_cases hw with ⟨rfl, rfl, _, _⟩ | ⟨rfl, rfl, _⟩ | ⟨k, rfl, rfl, hk⟩ | ⟨k, k2, hq, hop, rfl, hk, hk2⟩
    · rw [if_neg (by decide)] at hs
      cases hs
    · rw [if_pos (show ((⟨#[110, 97, 109, 101]⟩ : ByteArray) : ByteArray) = nameP from rfl)] at hs
      have : s = nm := by simpa using hs
      subst this
      exact .self s
    · rw [if_neg (by decide)] at hs
      have hs' : s ∈ namesL k := by simpa using hs
      have := (ih k (by simp) hk s hs').in (⟨#[45]⟩ : ByteArray) ⟨#[]⟩
      have e : ((⟨#[45]⟩ : ByteArray) ++ textS k) ++ (⟨#[]⟩ : ByteArray) = (⟨#[45]⟩ : ByteArray) ++ textS k := by refine AM.bytes_ext ?_; simp
      rw [e] at this
      exact this
    · have hnn : op ≠ nameP := by rcases hop with rfl | rfl | rfl | rfl | rfl <;> decide
      rw [if_neg hnn] at hs
      have hs' : s ∈ namesL k ∨ s ∈ namesL k2 := by simpa using hs
      have e : textK op nm n ([k, k2].map textS) = ((((((⟨#[40]⟩ : ByteArray) ++ textS k) ++ (⟨#[32]⟩ : ByteArray)) ++ op) ++ (⟨#[32]⟩ : ByteArray)) ++ textS k2) ++ (⟨#[41]⟩ : ByteArray) := by
        rcases hop with rfl | rfl | rfl | rfl | rfl <;> rfl
      rw [e]
      rcases hs' with h | h
      · have := (ih k (by simp) hk s h).in (⟨#[40]⟩ : ByteArray) (((((⟨#[32]⟩ : ByteArray) ++ op) ++ (⟨#[32]⟩ : ByteArray)) ++ textS k2) ++ (⟨#[41]⟩ : ByteArray))
        have e2 : ((⟨#[40]⟩ : ByteArray) ++ textS k) ++ (((((⟨#[32]⟩ : ByteArray) ++ op) ++ (⟨#[32]⟩ : ByteArray)) ++ textS k2) ++ (⟨#[41]⟩ : ByteArray)) = ((((((⟨#[40]⟩ : ByteArray) ++ textS k) ++ (⟨#[32]⟩ : ByteArray)) ++ op) ++ (⟨#[32]⟩ : ByteArray)) ++ textS k2) ++ (⟨#[41]⟩ : ByteArray) := by refine AM.bytes_ext ?_; simp
        rw [e2] at this
        exact this
      · exact (ih k2 (by simp) hk2 s h).in _ _

theorem within {s t : ByteArray} (h : Occ s t) (hs : s.size < 100000) (ht : t.size < 100000) (S : Mem) {orc : DOracle} : CallD Tryz.prog orc 55 [.str s, .str t] S fun d S' => S' = S ∧ d = .bool true := by
  obtain ⟨j, hj, hje⟩ := h.at
  refine CallD.e Tryz.func55 rfl Tryz.ntmps55 (by rfl) ?_
  repeat' (first|refine Go.a rfl ?_|refine Go.rg ?_|refine GoR.nil ?_|refine Go.ret ?_|refine Go.b rfl ?_|(refine GoR.o (by rfl) (by rfl) ?_;(conv => arg 1;simp only [G,Z,Y,Gx,un_neg,cutD,decide_true,decide_false,simprocAttr,fb3,fb9]);show GoR ..)|refine Go.condB rfl (fun hc => ?_) (fun hc => ?_))
  refine Go.keep [(0, .str s), (1, .str t), (5, .int .i64 ((0 : Nat) : Int))] (.cons .refl (.cons .refl (.cons .refl (.nil)))) ?_
  refine Go.while (α := Nat) (fun i => t.size - i) (fun i => [(0, .str s), (1, .str t), (5, .int .i64 (i : Int))]) (fun _ => S) (fun i => i ≤ j) ?_ 0 (Nat.zero_le _)
  intro i hi next
  have w1 : IntKind.i64.wrap ((i : Int) + (s.size : Int)) = ((i + s.size : Nat) : Int) := add_cast (by omega)
  by_cases he : t.extract i (i + s.size) = s
  · clear next
    repeat' (first|refine Go.a rfl ?_|refine Go.rg ?_|refine GoR.nil ?_|refine Go.ret ?_|refine Go.b rfl ?_|(refine GoR.o (by rfl) (by rfl) ?_;(conv => arg 1;simp only [G,Z,Y,Gx,un_neg,cutD,decide_true,decide_false,simprocAttr,fb3,fb9,w1, show decide (((i + s.size : Nat) : Int) ≤ (t.size : Int)) = true by simp; omega, show (i ≤ i + s.size ∧ i + s.size ≤ t.size) = True by simp; omega, decide_eq_true he]);show GoR ..)|refine Go.condB rfl (fun hc => ?_) (fun hc => ?_))
    refine ⟨(by first | exact .inl rfl | exact .inr rfl), fin ?_⟩
    rw [resD_tmp (fn := Tryz.f55) rfl]
    simp only [optThen_some,resultD_tmp,resultD_cell,G,Z,Y,Gx,un_neg,cutD,decide_true,decide_false,simprocAttr,fb3,fb9]
    exact ⟨_, [], by simp, .bool, rfl⟩
  · have hlt : i < j := by
      rcases Nat.lt_or_ge i j with q | q
      · exact q
      · have : i = j := by omega
        subst this
        exact absurd hje he
    repeat' (first|refine Go.a rfl ?_|refine Go.rg ?_|refine GoR.nil ?_|refine Go.ret ?_|refine Go.b rfl ?_|(refine GoR.o (by rfl) (by rfl) ?_;(conv => arg 1;simp only [G,Z,Y,Gx,un_neg,cutD,decide_true,decide_false,simprocAttr,fb3,fb9,w1, show decide (((i + s.size : Nat) : Int) ≤ (t.size : Int)) = true by simp; omega, show (i ≤ i + s.size ∧ i + s.size ≤ t.size) = True by simp; omega, decide_eq_false he, wrap_succ (show i < 4611686018427387904 by omega)]);show GoR ..)|refine Go.condB rfl (fun hc => ?_) (fun hc => ?_))
    refine Go.lpN ?_
    refine Go.keep [(0, .str s), (1, .str t), (5, .int .i64 ((i + 1 : Nat) : Int))] (.cons .refl (.cons .refl (.cons .refl (.nil)))) ?_
    exact next (i + 1) (by omega) hlt

/-- Numbers in all names' places. -/
def bareS : Nd → Nd
  | .mk op _ n ks => if op = nameP then .mk (⟨#[110, 117, 109]⟩ : ByteArray) ⟨#[]⟩ 1 [] else .mk op ⟨#[]⟩ n (ks.attach.map fun ⟨k, _⟩ => bareS k)
termination_by n => SizeOf.sizeOf n
decreasing_by exact Nd.kid_lt ‹_›
theorem bareS_mk {op nm : ByteArray} {n : Int} {ks : List Nd} : bareS (.mk op nm n ks) = if op = nameP then .mk (⟨#[110, 117, 109]⟩ : ByteArray) ⟨#[]⟩ 1 [] else .mk op ⟨#[]⟩ n (ks.map bareS) := by
  rw [bareS]
  simp
theorem bare_facts (n : Nd) (hw : Whole n) : Whole (bareS n) ∧ cnt (bareS n) = cnt n ∧ namesL (bareS n) = [] := by
  induction n using Nd.ind with
  | h op nm n ks ih =>
    rw [bareS_mk]
    by_cases hop : op = nameP
    · rw [if_pos hop]
      have hks : ks = [] := by
        obtain ⟨har, _⟩ := hw
        subst hop
        exact List.eq_nil_of_length_eq_zero (by have : (0 : Int) = ks.length := har; omega)
      subst hks
      refine ⟨.mk rfl (fun e => absurd e (by decide)) (fun _ => by decide) ⟨by decide, by decide⟩ (by simp) (Nat.zero_le _), ?_, ?_⟩
      · rw [cnt_mk, cnt_mk]
      · rw [namesL_mk, if_neg (by decide)]
        rfl
    · rw [if_neg hop]
      obtain ⟨har, _, hz, hi, hk, _⟩ := hw
      refine ⟨.mk (by simpa using har) (fun e => absurd e hop) hz hi (fun k hkm => ?_) (Nat.zero_le _), ?_, ?_⟩
      · obtain ⟨k0, hk0, rfl⟩ := List.mem_map.1 hkm
        exact (ih k0 hk0 (hk k0 hk0)).1
      · rw [cnt_mk, cnt_mk]
        congr 1
        unfold cnts
        rw [List.map_map]
        exact congrArg _ (List.map_congr_left fun k hkm => (ih k hkm (hk k hkm)).2.1)
      · rw [namesL_mk, if_neg hop, List.append_nil, List.flatten_eq_nil_iff]
        intro l hl
        rw [List.map_map] at hl
        obtain ⟨k, hkm, rfl⟩ := List.mem_map.1 hl
        exact (ih k hkm (hk k hkm)).2.2
theorem bare (n : Nd) (hs : Slim 100 n) : ∀ (S : Mem), CallD Tryz.prog O 56 [.agg n.c] S fun d S' => S' = S ∧ d = .agg (bareS n).c := by
  induction n using Nd.ind with
  | h op nm n ks ih =>
    intro S
    obtain ⟨hnm, hl, hk⟩ := hs
    by_cases hop : op = nameP
    · rw [bareS_mk, if_pos hop, Nd.c_mk]
      refine CallD.e Tryz.func56 rfl Tryz.ntmps56 (by rfl) ?_
      repeat' (first|refine Go.a rfl ?_|refine Go.rg ?_|refine GoR.nil ?_|refine Go.ret ?_|refine Go.b rfl ?_|refine Go.rgS dmx (by decide) ?_|refine Go.rgD [1] (fun _ => True) dmx (by decide) 9 (by decide) (by trivial) ?_|refine GoW.nil rfl ?_|((first|refine GoR.o (by rfl) (by rfl) ?_|refine GoW.o (by rfl) (by rfl) ?_|refine GoW.rd (by rfl) (by rfl) ?_);(conv => arg 1;simp only [G,Z,Y,Gx,un_neg,cutD,decide_true,decide_false,simprocAttr,fb2,fb3,fb9,fb73,fb75,show decide (op = (⟨#[110, 97, 109, 101]⟩ : ByteArray)) = true by simp; exact hop]);first|show GoR ..|(show _ ∧ GoW ..;refine ⟨by exact fun _ => trivial,?_⟩)|(show _ ∧ _ ∧ _ ∧ GoW ..;refine ⟨rfl,by trivial,(fun H _=>by simp only [G,Z,Y,Gx,un_neg,cutD,decide_true,decide_false,simprocAttr,fb2,fb3,fb9,fb73,fb75,show decide (op = (⟨#[110, 97, 109, 101]⟩ : ByteArray)) = true by simp; exact hop]),?_⟩))|refine Go.condB rfl (fun hc => ?_) (fun hc => ?_))
      refine ⟨(by first | exact .inl rfl | exact .inr rfl), fin ?_⟩
      rw [resD_cell (fn := Tryz.f56) rfl]
      simp only [optThen_some,resultD_tmp,resultD_cell,G,Z,Y,Gx,un_neg,cutD,decide_true,decide_false,simprocAttr,fb2,fb3,fb9,fb73,fb75]
      exact ⟨_, _, rfl, Wf.to_Wk leaf_wf (nd_low _), rfl⟩
    have hlow := Nd.low (m := S.length) (.mk op ⟨#[]⟩ n (ks.map bareS))
    rw [bareS_mk, if_neg hop]
    rw [Nd.c_mk] at hlow ⊢
    rw [Nd.c_mk]
    refine CallD.e Tryz.func56 rfl Tryz.ntmps56 (by rfl) ?_
    repeat' (first|refine Go.a rfl ?_|refine Go.rg ?_|refine GoR.nil ?_|refine Go.ret ?_|refine Go.b rfl ?_|refine Go.rgS dmx (by decide) ?_|refine Go.rgD [1] (fun _ => True) dmx (by decide) 9 (by decide) (by trivial) ?_|refine GoW.nil rfl ?_|((first|refine GoR.o (by rfl) (by rfl) ?_|refine GoW.o (by rfl) (by rfl) ?_|refine GoW.rd (by rfl) (by rfl) ?_);(conv => arg 1;simp only [G,Z,Y,Gx,un_neg,cutD,decide_true,decide_false,simprocAttr,fb2,fb3,fb9,fb73,fb75,show decide (op = (⟨#[110, 97, 109, 101]⟩ : ByteArray)) = false by simp; exact hop]);first|show GoR ..|(show _ ∧ GoW ..;refine ⟨by exact fun _ => trivial,?_⟩)|(show _ ∧ _ ∧ _ ∧ GoW ..;refine ⟨rfl,by trivial,(fun H _=>by simp only [G,Z,Y,Gx,un_neg,cutD,decide_true,decide_false,simprocAttr,fb2,fb3,fb9,fb73,fb75,show decide (op = (⟨#[110, 97, 109, 101]⟩ : ByteArray)) = false by simp; exact hop]),?_⟩))|refine Go.condB rfl (fun hc => ?_) (fun hc => ?_))
    refine Go.keep [(1, .ptr S.length 0), (2, .ptr (S.length + 1) 0), (3, .ptr (S.length + 2) 0), (4, .int .i64 ((0 : Nat) : Int))] (.cons .refl (.cons .refl (.cons .refl (.cons .refl (.nil))))) ?_
    refine Go.while (α := Nat × D × Mem) (fun a => ks.length - a.1) (fun a => [(1, .ptr S.length 0), (2, .ptr (S.length + 1) 0), (3, .ptr (S.length + 2) 0), (4, .int .i64 (a.1 : Int))])
      (fun a => S ++ (.obj [.str op, .str nm, .int .i64 n, .sl none 4 ks.length (ndsC ks)] :: .obj [.str ⟨#[]⟩, .str ⟨#[]⟩, .int .i64 0, .nils] :: .obj [.str op, .str ⟨#[]⟩, .int .i64 n, a.2.1] :: a.2.2))
      (fun a => a.1 ≤ ks.length ∧ AccD (S.length + 3) a.2.1 4 a.1 (ndsC ((ks.take a.1).map bareS)) (S ++ (.obj [.str op, .str nm, .int .i64 n, .sl none 4 ks.length (ndsC ks)] :: .obj [.str ⟨#[]⟩, .str ⟨#[]⟩, .int .i64 0, .nils] :: .obj [.str op, .str ⟨#[]⟩, .int .i64 n, a.2.1] :: a.2.2)))
      ?_ (0, .nils, []) ⟨Nat.zero_le _, .inl ⟨rfl, rfl, rfl⟩⟩
    rintro ⟨i, o, E⟩ ⟨hi, hacc⟩ next
    dsimp only at hi hacc next
    by_cases h1 : i < ks.length
    · have hkl : (bareS ks[i]).c.length = 4 := Nd.len _
      have hko := Nd.one (bareS ks[i])
      obtain ⟨o', S2, hap, hacc2, hg2⟩ := (hacc.app [.own]).append (P := Tryz.prog) del73 (own := some (S.length + (E.length + 1 + 1 + 1))) (m := 1) (new := (bareS ks[i]).c) (by simp) (by omega) ⟨by omega, by omega, by omega, Nd.one _⟩
      obtain ⟨E2, rfl⟩ := hg2.pre (E ++ [.own]) (S ++ [.obj [.str op, .str nm, .int .i64 n, .sl none 4 ks.length (ndsC ks)], .obj [.str ⟨#[]⟩, .str ⟨#[]⟩, .int .i64 0, .nils], .obj [.str op, .str ⟨#[]⟩, .int .i64 n, o]]) (by simp) (by simp)
      simp only [List.append_assoc, List.cons_append, List.nil_append] at hap hacc2
      have ho := hacc.one
      have ho2 := hacc2.one
      repeat' (first|refine Go.a rfl ?_|refine Go.rg ?_|refine GoR.nil ?_|refine Go.ret ?_|refine Go.b rfl ?_|refine Go.rgS dmx (by decide) ?_|refine Go.rgD [1] (fun H => objAt H (S.length + 2) = some [.str op, .str ⟨#[]⟩, .int .i64 n, o]) dmx (by decide) 9 (by decide) (by (simp only [objAt_app, objAt_succ, objAt_zero])) ?_|refine GoW.nil rfl ?_|((first|refine GoR.o (by rfl) (by rfl) ?_|refine GoW.o (by rfl) (by rfl) ?_|refine GoW.rd (by rfl) (by rfl) ?_);(conv => arg 1;simp only [G,Z,Y,Gx,un_neg,cutD,decide_true,decide_false,simprocAttr,fb2,fb3,fb9,fb73,fb75,ho, ho2, hko, wr_full, ndsAt h1, wrap_succ (show i < 4611686018427387904 by omega), hap, builtin_append, show decide ((i : Int) < (ks.length : Int)) = true by simp; omega, hkl]);first|show GoR ..|(show _ ∧ GoW ..;refine ⟨by (first|exact fun h => absurd h (by decide)|(intro _;(simp only [objAt_app, objAt_succ, objAt_zero]))),?_⟩)|(show _ ∧ _ ∧ _ ∧ GoW ..;refine ⟨rfl,by (simp only [objAt_app, objAt_succ, objAt_zero]),(fun H hI=>by (try dsimp only at hI);simp only [G,Z,Y,Gx,un_neg,cutD,decide_true,decide_false,simprocAttr,fb2,fb3,fb9,fb73,fb75,ho, ho2, hko, wr_full, ndsAt h1, wrap_succ (show i < 4611686018427387904 by omega), hap, builtin_append, show decide ((i : Int) < (ks.length : Int)) = true by simp; omega, hkl,hI]),?_⟩))|(refine GoW.c c56 (by rfl) (by rfl) rfl ?_;(refine (ih _ (List.getElem_mem h1) (hk _ (List.getElem_mem h1)) _).ret ?_);refine ⟨by (first|exact fun h => absurd h (by decide)|(intro _;(simp only [objAt_app, objAt_succ, objAt_zero]))),?_⟩)|(refine GoR.c c56 (by rfl) (by rfl) rfl ?_;(refine (ih _ (List.getElem_mem h1) (hk _ (List.getElem_mem h1)) _).ret ?_))|refine Go.condB rfl (fun hc => ?_) (fun hc => ?_))
      refine Go.lpN ?_
      refine Go.keep [(1, .ptr S.length 0), (2, .ptr (S.length + 1) 0), (3, .ptr (S.length + 2) 0), (4, .int .i64 ((i + 1 : Nat) : Int))] (.cons .refl (.cons .refl (.cons .refl (.cons .refl (.nil))))) ?_
      refine next (i + 1, o', E2) (by dsimp only; omega) ⟨h1, ?_⟩
      dsimp only
      have e : ndsC ((ks.take (i + 1)).map bareS) = ndsC ((ks.take i).map bareS) ++ (bareS ks[i]).c := by
        rw [← List.take_append_getElem h1, List.map_append, ndsC, ndsC, List.flatMap_append]
        simp
      rw [e]
      have := hacc2.set (j := S.length + 2) (x := .obj [.str op, .str ⟨#[]⟩, .int .i64 n, o']) (by omega)
      simpa using this
    · clear next
      have ho := hacc.one
      repeat' (first|refine Go.a rfl ?_|refine Go.rg ?_|refine GoR.nil ?_|refine Go.ret ?_|refine Go.b rfl ?_|refine Go.rgS dmx (by decide) ?_|refine Go.rgD [1] (fun _ => True) dmx (by decide) 9 (by decide) (by trivial) ?_|refine GoW.nil rfl ?_|((first|refine GoR.o (by rfl) (by rfl) ?_|refine GoW.o (by rfl) (by rfl) ?_|refine GoW.rd (by rfl) (by rfl) ?_);(conv => arg 1;simp only [G,Z,Y,Gx,un_neg,cutD,decide_true,decide_false,simprocAttr,fb2,fb3,fb9,fb73,fb75,ho, show decide ((i : Int) < (ks.length : Int)) = false by simp; omega]);first|show GoR ..|(show _ ∧ GoW ..;refine ⟨by exact fun _ => trivial,?_⟩)|(show _ ∧ _ ∧ _ ∧ GoW ..;refine ⟨rfl,by trivial,(fun H _=>by simp only [G,Z,Y,Gx,un_neg,cutD,decide_true,decide_false,simprocAttr,fb2,fb3,fb9,fb73,fb75,ho, show decide ((i : Int) < (ks.length : Int)) = false by simp; omega]),?_⟩))|refine Go.condB rfl (fun hc => ?_) (fun hc => ?_))
      refine ⟨(by first | exact .inl rfl | exact .inr rfl), fin ?_⟩
      rw [resD_cell (fn := Tryz.f56) rfl]
      simp only [optThen_some,resultD_tmp,resultD_cell,G,Z,Y,Gx,un_neg,cutD,decide_true,decide_false,simprocAttr,fb2,fb3,fb9,fb73,fb75]
      have hi' : i = ks.length := by omega
      subst hi'
      rw [List.take_length] at hacc
      have hwf := hacc.wf
      rw [show ks.length = (ks.map bareS).length by simp] at hwf
      exact ⟨_, _, rfl, (Wf.agg' (.cons .refl (.cons .refl (.cons .refl (.cons hwf .nil))))).to_Wk (.agg' hlow), rfl⟩

theorem lawNames (n : Nd) (hin : In64 n) (S : Mem) : CallD Tryz.prog O 11 [.agg n.c] S fun d S' => S' = S ∧ d = .bool true := by
  have hfew := fun S => few9 (orc := O) n S
  have hof := fun hs S => of9 (orc := O) n hs S
  have hck := fun hs S => refCheckN (orc := O) n hs S
  have hnm := fun hw hc S => names n (whole_slim n hw) (whole_fits n hw) hc (fun h => namesR_pos h) S
  have htx := fun hw hc S => exprText n hw hc S
  have hocc := names_occ n
  have hbare := fun hs S => bare n hs S
  have hbf := bare_facts n
  have hwh := whole_ofN (n := n) hin
  have hslim := whole_slim n
  have hNr := namesR_rise n
  have hNl := namesR_le n
  have hmem := fun x => mem_namesR (n := n) (x := x)
  have htsz := text_size n
  have hnsz : Whole n → ∀ s ∈ namesL n, s.size ≤ (textS n).size := fun hw s hs => by
    obtain ⟨j, hj, _⟩ := (names_occ n hw s hs).at
    omega
  generalize namesR n = N at *
  generalize textS n = T at *
  obtain ⟨op, nm, k, ks⟩ := n
  rw [Nd.c_mk] at hfew hof hck hnm htx hbare ⊢
  refine CallD.e Tryz.func11 rfl Tryz.ntmps11 (by rfl) ?_
  repeat' (first|refine Go.a rfl ?_|refine Go.rg ?_|refine GoR.nil ?_|refine Go.ret ?_|refine Go.b rfl ?_|refine Go.rgS dmx (by decide) ?_|(refine GoR.o (by rfl) (by rfl) ?_;(conv => arg 1;simp only [G,Z,Y,Gx,un_neg,cutD,decide_true,decide_false,simprocAttr,fb2,fb3,fb9,fb73,fb75,fb100,Bool.not_true, Bool.not_false]);show GoR ..)|(refine GoR.c c37 (by rfl) (by rfl) rfl ?_;(refine (known _).ret ?_))|(refine GoR.c c47 (by rfl) (by rfl) rfl ?_;(refine (hfew _).retE ?_; rintro _ ⟨b, rfl, hb⟩))|refine GoR.s (by rfl) rfl rfl ?_|(refine GoR.splitG rfl (fun hc => ?_) (fun hc => ?_) <;> simp only [hc])|refine Go.condB rfl (fun hc => ?_) (fun hc => ?_))
  · refine ⟨(by first | exact .inl rfl | exact .inr rfl), fin ?_⟩
    rw [resD_tmp (fn := Tryz.f11) rfl]
    simp only [optThen_some,resultD_tmp,resultD_cell,G,Z,Y,Gx,un_neg,cutD,decide_true,decide_false,simprocAttr,fb2,fb3,fb9,fb73,fb75,fb100]
    exact ⟨_, _, rfl, .bool, rfl⟩
  · obtain ⟨hs, hcnt⟩ := hb (by simpa using hc)
    by_cases he : checkN (.mk op nm k ks) = 0
    rotate_left
    · repeat' (first|refine Go.a rfl ?_|refine Go.rg ?_|refine GoR.nil ?_|refine Go.ret ?_|refine Go.b rfl ?_|refine Go.rgS dmx (by decide) ?_|(refine GoR.o (by rfl) (by rfl) ?_;(conv => arg 1;simp only [G,Z,Y,Gx,un_neg,cutD,decide_true,decide_false,simprocAttr,fb2,fb3,fb9,fb73,fb75,fb100,show (checkN (.mk op nm k ks) != 0) = true by simpa using he, show (checkN (.mk op nm k ks) == 0) = false by simpa using he]);show GoR ..)|(refine GoR.c c41 (by rfl) (by rfl) rfl ?_;(refine (hof hs _).ret ?_))|(refine GoR.c c40 (by rfl) (by rfl) rfl ?_;(refine (hck hs _).ret ?_))|refine GoR.s (by rfl) rfl rfl ?_|(refine GoR.splitG rfl (fun hc => ?_) (fun hc => ?_) <;> simp only [hc])|refine Go.condB rfl (fun hc => ?_) (fun hc => ?_))
      refine ⟨(by first | exact .inl rfl | exact .inr rfl), fin ?_⟩
      rw [resD_tmp (fn := Tryz.f11) rfl]
      simp only [optThen_some,resultD_tmp,resultD_cell,G,Z,Y,Gx,un_neg,cutD,decide_true,decide_false,simprocAttr,fb2,fb3,fb9,fb73,fb75,fb100]
      exact ⟨_, _, rfl, .bool, rfl⟩
    obtain ⟨hw, hc32⟩ := hwh hs he
    obtain ⟨bw, bc, bn⟩ := hbf hw
    have hT := htsz hw
    have hocc := hocc hw
    have hnsz := hnsz hw
    rw [he] at hck
    have hbck := fun S => exprCheck (orc := O) (bareS (.mk op nm k ks)) (whole_slim _ bw) S
    have hbnm := fun S => names (bareS (.mk op nm k ks)) (whole_slim _ bw) (whole_fits _ bw) (by omega) (fun h => namesR_pos h) S
    rw [whole_checkN bw (by omega)] at hbck
    have hbr : namesR (bareS (.mk op nm k ks)) = [] := by unfold namesR; rw [bn]; exact compactL_nil
    rw [hbr] at hbnm
    obtain ⟨y1, hy1, hk1⟩ := kidY_of (bareS (.mk op nm k ks))
    have ho1 := hk1.one
    have hc1 := hk1.cells
    have hbare := hbare hs
    generalize bareS (.mk op nm k ks) = B at *
    simp only [hy1, ndX] at hbare hbck hbnm
    repeat' (first|refine Go.a rfl ?_|refine Go.rg ?_|refine GoR.nil ?_|refine Go.ret ?_|refine Go.b rfl ?_|refine Go.rgS dmx (by decide) ?_|(refine GoR.o (by rfl) (by rfl) ?_;(conv => arg 1;simp only [G,Z,Y,Gx,un_neg,cutD,decide_true,decide_false,simprocAttr,fb2,fb3,fb9,fb73,fb75,fb100,bne_self_eq_false]);show GoR ..)|(refine GoR.c c41 (by rfl) (by rfl) rfl ?_;(refine (hof hs _).ret ?_))|(refine GoR.c c40 (by rfl) (by rfl) rfl ?_;(refine (hck hs _).ret ?_))|(refine GoR.c c53 (by rfl) (by rfl) rfl ?_;(refine (hnm hw (by omega) _).ret ?_))|(refine GoR.c c49 (by rfl) (by rfl) rfl ?_;(refine (htx hw (by omega) _).ret ?_))|refine GoR.s (by rfl) rfl rfl ?_|(refine GoR.splitG rfl (fun hc => ?_) (fun hc => ?_) <;> simp only [hc])|refine Go.condB rfl (fun hc => ?_) (fun hc => ?_))
    refine Go.keep [(1, .ptr S.length 0), (3, .sl none 1 N.length (strC N)), (4, .str T), (5, .int .i64 ((0 : Nat) : Int))] (.cons .refl (.cons .refl (.cons .refl (.cons .refl (.nil))))) ?_
    refine Go.while (α := Nat) (fun i => N.length - i) (fun i => [(1, .ptr S.length 0), (3, .sl none 1 N.length (strC N)), (4, .str T), (5, .int .i64 (i : Int))]) (fun _ => S ++ [.obj [.str op, .str nm, .int .i64 k, .sl none 4 ks.length (ndsC ks)]]) (fun i => i ≤ N.length) ?_ 0 (Nat.zero_le _)
    intro i hi next
    by_cases h1 : i < N.length
    · have hin1 := (hmem N[i]).1 (List.getElem_mem h1)
      have hwi := fun S => within (orc := O) (hocc _ hin1) (by have := hnsz _ hin1; omega) (by omega) S
      have hst : ∀ {j : Nat} (h : j < N.length), ((0 ≤ (j : Int) ∧ (j : Int) < (N.length : Int)) = True) ∧ (strC N)[j]? = some (.str N[j]) := fun h => ⟨ix_ok h, by simp [strC, h]⟩
      have d1 : decide ((i : Int) < (N.length : Int)) = true := by simp; omega
      have w1 := wrap_succ (show i < 4611686018427387904 by omega)
      by_cases h0 : i = 0
      · subst h0
        repeat' (first|refine Go.a rfl ?_|refine Go.rg ?_|refine GoR.nil ?_|refine Go.ret ?_|refine Go.b rfl ?_|refine Go.rgS dmx (by decide) ?_|(refine GoR.o (by rfl) (by rfl) ?_;(conv => arg 1;simp only [G,Z,Y,Gx,un_neg,cutD,decide_true,decide_false,simprocAttr,fb2,fb3,fb9,fb73,fb75,fb100,d1, w1, hst h1, show ((0 : Int) < (N.length : Int)) = True by simp; omega, show ((0 : Int) ≤ 0) = True by simp, and_self, show decide ((0 : Int) < (N.length : Int)) = true by simp; omega, show IntKind.i64.wrap ((0 : Int) + 1) = ((0 + 1 : Nat) : Int) by decide, show decide (((0 : Nat) : Int) > 0) = false by decide, show decide ((0 : Int) < ((0 : Nat) : Int)) = false by decide, Bool.not_true]);show GoR ..)|(refine GoR.c c55 (by rfl) (by rfl) rfl ?_;(refine (hwi _).ret ?_))|refine GoR.s (by rfl) rfl rfl ?_|(refine GoR.splitG rfl (fun hc => ?_) (fun hc => ?_) <;> simp only [hc])|refine Go.condB rfl (fun hc => ?_) (fun hc => ?_))
        refine Go.lpN ?_
        refine Go.keep [(1, .ptr S.length 0), (3, .sl none 1 N.length (strC N)), (4, .str T), (5, .int .i64 ((0 + 1 : Nat) : Int))] (.cons .refl (.cons .refl (.cons .refl (.cons .refl (.nil))))) ?_
        exact next 1 (by omega) h1
      · have hlt : ltB N[i - 1] N[i] = true := hNr.lt h1 (by omega)
        have hge : ∀ {t : TypeId} {x y : Operand}, binD Tryz.prog .geq t x y (.str N[i - 1]) (.str N[i]) = some (.bool false) := by
          intro t x y
          refine (bin_str (v := .bool false) ?_ :)
          unfold ltB at hlt
          show some (Value.bool _) = some (Value.bool _)
          congr 2
          simp [hlt]
        have wp : IntKind.i64.wrap ((i : Int) - 1) = ((i - 1 : Nat) : Int) := by rw [wrap64 (by omega) (by omega)]; omega
        repeat' (first|refine Go.a rfl ?_|refine Go.rg ?_|refine GoR.nil ?_|refine Go.ret ?_|refine Go.b rfl ?_|refine Go.rgS dmx (by decide) ?_|(refine GoR.o (by rfl) (by rfl) ?_;(conv => arg 1;simp only [G,Z,Y,Gx,un_neg,cutD,decide_true,decide_false,simprocAttr,fb2,fb3,fb9,fb73,fb75,fb100,d1, w1, wp, hge, hst h1, hst (show i - 1 < N.length by omega), show decide ((i : Int) > 0) = true by simp; omega, show decide ((0 : Int) < (i : Int)) = true by simp; omega, Bool.not_true]);show GoR ..)|(refine GoR.c c55 (by rfl) (by rfl) rfl ?_;(refine (hwi _).ret ?_))|refine GoR.s (by rfl) rfl rfl ?_|(refine GoR.splitG rfl (fun hc => ?_) (fun hc => ?_) <;> simp only [hc])|refine Go.condB rfl (fun hc => ?_) (fun hc => ?_))
        refine Go.lpN ?_
        refine Go.keep [(1, .ptr S.length 0), (3, .sl none 1 N.length (strC N)), (4, .str T), (5, .int .i64 ((i + 1 : Nat) : Int))] (.cons .refl (.cons .refl (.cons .refl (.cons .refl (.nil))))) ?_
        exact next (i + 1) (by omega) h1
    · clear next
      repeat' (first|refine Go.a rfl ?_|refine Go.rg ?_|refine GoR.nil ?_|refine Go.ret ?_|refine Go.b rfl ?_|refine Go.rgS dmx (by decide) ?_|(refine GoR.o (by rfl) (by rfl) ?_;(conv => arg 1;simp only [G,Z,Y,Gx,un_neg,cutD,decide_true,decide_false,simprocAttr,fb2,fb3,fb9,fb73,fb75,fb100,ho1, hc1, show decide ((i : Int) < (N.length : Int)) = false by simp; omega, strC, List.map_nil, List.length_nil, show (((0 : Nat) : Int) == 0) = true by decide]);show GoR ..)|(refine GoR.c c56 (by rfl) (by rfl) rfl ?_;(refine (hbare _).ret ?_))|(refine GoR.c c48 (by rfl) (by rfl) rfl ?_;(refine (hbck _).ret ?_))|(refine GoR.c c53 (by rfl) (by rfl) rfl ?_;(refine (hbnm _).ret ?_))|refine GoR.s (by rfl) rfl rfl ?_|(refine GoR.splitG rfl (fun hc => ?_) (fun hc => ?_) <;> simp only [hc])|refine Go.condB rfl (fun hc => ?_) (fun hc => ?_))
      refine ⟨(by first | exact .inl rfl | exact .inr rfl), fin ?_⟩
      rw [resD_tmp (fn := Tryz.f11) rfl]
      simp only [optThen_some,resultD_tmp,resultD_cell,G,Z,Y,Gx,un_neg,cutD,decide_true,decide_false,simprocAttr,fb2,fb3,fb9,fb73,fb75,fb100]
      exact ⟨_, _, rfl, .bool, rfl⟩
end Go.Proofs.DeT
