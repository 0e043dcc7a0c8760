/- Rows that laws make by ticks. -/
import Derived.Test.YtlllhmenekibjaaDoorDuT8x
set_option linter.unusedSimpArgs false
set_option linter.unusedVariables false
namespace Go.Proofs.DuT
open Go Go.DM Go.Proofs.DuF
set_option maxRecDepth 100000
variable {orc : DOracle}

/-- The key of the row at a place. -/
def kk (i : Nat) : ByteArray := (⟨#[107]⟩ : ByteArray) ++ strOfNums [((97 + i / 26 : Nat) : Int), ((97 + i % 26 : Nat) : Int)]
theorem kk_inj0 : ∀ i, i < 60 → ∀ j, j < 60 → kk i = kk j → i = j := by decide +kernel
theorem kk_ok : ∀ i, i < 60 → nameOk (kk i) = true := by decide +kernel
theorem kk_size : ∀ i, i < 60 → (kk i).size = 3 := by decide +kernel
def tkS (t q : Int) : St := ⟨t, 0, q, (⟨#[47, 122]⟩ : ByteArray)⟩
theorem tk_chk {i : Nat} {t q : Int} (hi : i < 60) (ht : 0 ≤ t ∧ t ≤ 255) (hq : 0 ≤ q ∧ q ≤ 255) : chkR (rowAt (kk i) (tkS t q)) = 0 := by
  have h1 : inOk t = true := by simp only [inOk, Bool.and_eq_true, decide_eq_true_eq]; omega
  have h2 : inOk q = true := by simp only [inOk, Bool.and_eq_true, decide_eq_true_eq]; omega
  have h3 : inOk 0 = true := by decide
  have h4 : pathOk (⟨#[47, 122]⟩ : ByteArray) = true := by decide +kernel
  simp [chkR, rowAt, kk_ok i hi, chk, tkS, h1, h2, h3, h4]
  rfl
theorem countP_put {l : List Rw} (hr : RiseB Rw.key l) {a : Rw} (h : lookK Rw.key l a.key = none) (p : Rw → Bool) : (putK Rw.key l a).countP p = l.countP p + if p a then 1 else 0 := by
  obtain ⟨x, m, y, c⟩ := cutK_of hr a.key
  rcases c.mid with ⟨rfl, _⟩ | ⟨u, _, _, hu⟩
  · rw [c.put a rfl]
    conv => rhs; rw [c.eq]
    simp only [List.nil_append, List.countP_append, List.countP_cons]
    omega
  · rw [hu] at h
    cases h
theorem lookK_no {l : List Rw} {s : ByteArray} (h : ∀ r ∈ l, ¬ r.key = s) : lookK Rw.key l s = none := by
  cases hq : lookK Rw.key l s with
  | none => rfl
  | some r => exact absurd (lookK_mem hq).2 (h r (lookK_mem hq).1)
def bytesD (l : List Int) : List D := l.map (.int .u8)
theorem bytesAt {l : List Int} {i : Nat} (h : i < l.length) : ((0 ≤ (i : Int) ∧ (i : Int) < (l.length : Int)) = True) ∧ (bytesD l)[i]? = some (.int .u8 l[i]) := ⟨ix_ok h, by simp [bytesD, h]⟩
/-- Whole numbers, as the laws turn them. -/
theorem cv_u8 {k : IntKind} {n : Int} {S : Mem} : convD Tryd.prog 5 3 (.int k n) S = some (.int .i64 (IntKind.i64.wrap n), S) ∧ convD Tryd.prog 5 2 (.int k n) S = some (.int .i64 (IntKind.i64.wrap n), S) ∧ convD Tryd.prog 3 5 (.int k n) S = some (.int .u8 (IntKind.u8.wrap n), S) :=
  ⟨conv_int Tryd.underlying5 Tryd.underlying3, conv_int Tryd.underlying5 Tryd.underlying2, conv_int Tryd.underlying3 Tryd.underlying5⟩
theorem cv_two {o : Option Nat} {a b : Int} {S : Mem} : convD Tryd.prog 22 9 (.sl o 1 2 [.int .u8 a, .int .u8 b]) S = some (.str (strOfNums [a, b]), S) := by
  simp [convD, Tryd.underlying22, Tryd.underlying9, Tryd.underlying5, u8sD]
theorem cv_ticks {i : Nat} (h : i < 60) : IntKind.i64.wrap (Int.tdiv (i : Int) 26) = ((i / 26 : Nat) : Int) ∧ Int.tmod (i : Int) 26 = ((i % 26 : Nat) : Int) ∧ IntKind.i64.wrap (97 + ((i / 26 : Nat) : Int)) = ((97 + i / 26 : Nat) : Int) ∧ IntKind.i64.wrap (97 + ((i % 26 : Nat) : Int)) = ((97 + i % 26 : Nat) : Int) ∧
    IntKind.u8.wrap ((97 + i / 26 : Nat) : Int) = ((97 + i / 26 : Nat) : Int) ∧ IntKind.u8.wrap ((97 + i % 26 : Nat) : Int) = ((97 + i % 26 : Nat) : Int) := by
  have e1 : Int.tdiv (i : Int) 26 = ((i / 26 : Nat) : Int) := rfl
  have u8w : ∀ n : Nat, n ≤ 255 → IntKind.u8.wrap (n : Int) = (n : Int) := fun n hn => by
    have key : ∀ m, m < 256 → IntKind.u8.wrap ((m : Nat) : Int) = ((m : Nat) : Int) := by decide +kernel
    exact key n (by omega)
  have hd : i / 26 < 26 := by omega
  have hm : i % 26 < 26 := by omega
  refine ⟨by rw [e1]; exact wrap64 (by omega) (by omega), rfl, ?_, ?_, u8w _ (by omega), u8w _ (by omega)⟩
  · rw [wrap64 (by omega) (by omega)]; omega
  · rw [wrap64 (by omega) (by omega)]; omega
theorem tickAt {l : List Rw} {i : Nat} (h : i < l.length) : (rowsC l)[i * 6 + 1]? = some (.int .i64 l[i].st.tick) := flat_cell row_len l i h (by omega)
end Go.Proofs.DuT

/- The law TableSweeps. -/
namespace Go.Proofs.DuT
open Go Go.DM Go.Proofs.DuF
set_option maxRecDepth 100000

def oldP (d : Int) (r : Rw) : Bool := decide (r.st.tick < d)
/-- The table behind some ticks. -/
structure TickI (d : Int) (l : List Int) (i : Nat) (cur : List Rw) : Prop where
  ok : OkT cur
  len : cur.length = i
  key : ∀ r ∈ cur, ∃ j, j < i ∧ r.key = kk j
  old : cur.countP (oldP d) = (l.take i).countP fun t => decide (t < d)
theorem TickI.put {d : Int} {l : List Int} {i : Nat} {cur : List Rw} (h : TickI d l i cur) (hi : i < l.length) (h60 : i < 60) (hl : ∀ t ∈ l, 0 ≤ t ∧ t ≤ 255) {c' : List Rw} {e : Int} (hp : putT 64 cur (rowAt (kk i) (tkS l[i] 0)) = (c', e)) : TickI d l (i + 1) c' := by
  have hq : lookK Rw.key cur (kk i) = none := lookK_no fun r hr hk => by
    obtain ⟨j, hj, e⟩ := h.key r hr
    exact absurd (kk_inj0 i h60 j (by omega) (hk.symm.trans e)) (by omega)
  have hl' := h.len
  rw [putT_new (tk_chk h60 (hl _ (List.getElem_mem hi)) (by decide)) hq (by omega)] at hp
  obtain ⟨rfl, rfl⟩ := Prod.mk.inj hp
  refine ⟨h.ok.put (by omega) (rowAt_ok _ _), by rw [lenK_put h.ok.rise, show lookK Rw.key cur (rowAt (kk i) (tkS l[i] 0)).key = none from hq]; simp; omega, fun r hr => ?_, ?_⟩
  · rcases memK_put h.ok.rise hr with hr | rfl
    · obtain ⟨j, hj, e⟩ := h.key r hr
      exact ⟨j, by omega, e⟩
    · exact ⟨i, by omega, rfl⟩
  · rw [countP_put h.ok.rise (a := rowAt (kk i) (tkS l[i] 0)) hq, h.old, List.take_succ_eq_append_getElem hi, List.countP_append, List.countP_singleton]
    rfl
theorem goneP_tick {now age : Int} (hn : 0 ≤ now ∧ now ≤ 255) (ha : 0 ≤ age ∧ age ≤ 255) {l : List Int} {i : Nat} (hi : i ≤ 60) {cur : List Rw} (h : TickI (now - age) l i cur) : ∀ r ∈ cur, goneP now age ⟨#[]⟩ r = oldP (now - age) r := fun r hr => by
  obtain ⟨j, hj, e⟩ := h.key r hr
  have hk : ¬ r.key = ⟨#[]⟩ := fun e2 => by
    have := kk_size j (by omega)
    rw [← e, e2] at this
    cases this
  rw [goneP, oldP, wrap64 (by omega) (by omega), decide_eq_false hk]
  rfl
set_option maxHeartbeats 4000000 in
theorem lawSweeps (l : List Int) (hl : ∀ t ∈ l, 0 ≤ t ∧ t ≤ 255) (now age : Int) (hn : 0 ≤ now ∧ now ≤ 255) (ha : 0 ≤ age ∧ age ≤ 255) (S : Mem) :
    CallD Tryd.prog O 4 [.sl none 1 l.length (bytesD l), .int .u8 now, .int .u8 age] S fun d S' => S' = S ∧ d = .bool true := by
  refine CallD.e Tryd.func4 rfl Tryd.ntmps4 (by rfl) ?_
  by_cases h60 : 60 < l.length
  · repeat' (first|refine Go.a rfl ?_|refine Go.rg ?_|refine GoR.nil ?_|refine Go.ret ?_|refine Go.b rfl ?_|refine Go.rgS dmx (by decide) ?_|refine Go.rgD [4, 8, 15, 16] (fun _ => True) dmx (by decide) 19 (by decide) (by trivial) ?_|refine GoW.nil rfl ?_|((first|refine GoR.o (by rfl) (by rfl) ?_|refine GoW.o (by rfl) (by rfl) ?_|refine GoW.rd (by rfl) (by rfl) ?_);(conv => arg 1;simp only [G,Z,Y,Gx,un_neg,cutD,decide_true,decide_false,simprocAttr,fb2,fb3,fb5,fb9,fb22,fb30,fb31,fb33,fb34,fb39,show decide (60 < (l.length : Int)) = true by simp; omega]);first|show GoR ..|(show _ ∧ GoW ..;refine ⟨by exact fun _ => trivial,?_⟩)|(show _ ∧ _ ∧ _ ∧ GoW ..;refine ⟨rfl,by trivial,(fun H _=>by simp only [G,Z,Y,Gx,un_neg,cutD,decide_true,decide_false,simprocAttr,fb2,fb3,fb5,fb9,fb22,fb30,fb31,fb33,fb34,fb39,show decide (60 < (l.length : Int)) = true by simp; omega]),?_⟩))|(refine GoW.c c6 (by rfl) (by rfl) rfl ?_;(refine (known _).ret ?_);refine ⟨by exact fun _ => trivial,?_⟩)|(refine GoR.c c6 (by rfl) (by rfl) rfl ?_;(refine (known _).ret ?_))|refine GoR.s (by rfl) rfl rfl ?_|refine GoW.s (by rfl) rfl rfl (by exact fun _ => trivial) ?_|(refine GoR.splitG rfl (fun hc => ?_) (fun hc => ?_) <;> simp only [hc])|refine Go.condB rfl (fun hc => ?_) (fun hc => ?_))
    refine ⟨(by first | exact .inl rfl | exact .inr rfl), fin ?_⟩
    rw [resD_tmp (fn := Tryd.f4) rfl]
    simp only [optThen_some,resultD_tmp,resultD_cell,G,Z,Y,Gx,un_neg,cutD,decide_true,decide_false,simprocAttr,fb2,fb3,fb5,fb9,fb22,fb30,fb31,fb33,fb34,fb39]
    exact ⟨_, [], by simp, .bool, rfl⟩
  have d60 : decide (60 < (l.length : Int)) = false := by simp; omega
  have w1 : IntKind.i64.wrap now = now := wrap64 (by omega) (by omega)
  have w2 : IntKind.i64.wrap age = age := wrap64 (by omega) (by omega)
  have w3 : IntKind.i64.wrap (now - age) = now - age := wrap64 (by omega) (by omega)
  repeat' (first|refine Go.a rfl ?_|refine Go.rg ?_|refine GoR.nil ?_|refine Go.ret ?_|refine Go.b rfl ?_|refine Go.rgS dmx (by decide) ?_|refine Go.rgD [4, 8, 15, 16] (fun _ => True) dmx (by decide) 19 (by decide) (by trivial) ?_|refine GoW.nil rfl ?_|((first|refine GoR.o (by rfl) (by rfl) ?_|refine GoW.o (by rfl) (by rfl) ?_|refine GoW.rd (by rfl) (by rfl) ?_);(conv => arg 1;simp only [G,Z,Y,Gx,un_neg,cutD,decide_true,decide_false,simprocAttr,fb2,fb3,fb5,fb9,fb22,fb30,fb31,fb33,fb34,fb39,d60]);first|show GoR ..|(show _ ∧ GoW ..;refine ⟨by exact fun _ => trivial,?_⟩)|(show _ ∧ _ ∧ _ ∧ GoW ..;refine ⟨rfl,by trivial,(fun H _=>by simp only [G,Z,Y,Gx,un_neg,cutD,decide_true,decide_false,simprocAttr,fb2,fb3,fb5,fb9,fb22,fb30,fb31,fb33,fb34,fb39,d60]),?_⟩))|(refine GoW.c c6 (by rfl) (by rfl) rfl ?_;(refine (known _).ret ?_);refine ⟨by exact fun _ => trivial,?_⟩)|(refine GoR.c c6 (by rfl) (by rfl) rfl ?_;(refine (known _).ret ?_))|(refine GoW.c c7 (by rfl) (by rfl) rfl ?_;(refine (new0 (S0 := S) (most := 64) (by decide) (by decide) .refl).mono ?_; rintro _ S1 ⟨T, rfl, hT, _, _⟩);refine ⟨by exact fun _ => trivial,?_⟩)|(refine GoR.c c7 (by rfl) (by rfl) rfl ?_;(refine (new0 (S0 := S) (most := 64) (by decide) (by decide) .refl).mono ?_; rintro _ S1 ⟨T, rfl, hT, _, _⟩))|refine GoR.s (by rfl) rfl rfl ?_|refine GoW.s (by rfl) rfl rfl (by exact fun _ => trivial) ?_|(refine GoR.splitG rfl (fun hc => ?_) (fun hc => ?_) <;> simp only [hc])|refine Go.condB rfl (fun hc => ?_) (fun hc => ?_))
  generalize ht : T.t = t at *
  refine Go.keep [(0, .sl none 1 l.length (bytesD l)), (1, .int .u8 now), (2, .int .u8 age), (7, .ptr t 0), (9, .int .i64 (((l.take 0).countP fun t => decide (t < now - age) : Nat) : Int)), (10, .int .i64 ((0 : Nat) : Int))] (.cons .refl (.cons .refl (.cons .refl (.cons .refl (.cons .refl (.cons .refl (.nil))))))) ?_
  refine Go.while (α := Nat × List Rw × Tb × Mem) (fun x => l.length - x.1) (fun x => [(0, .sl none 1 l.length (bytesD l)), (1, .int .u8 now), (2, .int .u8 age), (7, .ptr t 0), (9, .int .i64 (((l.take x.1).countP fun t => decide (t < now - age) : Nat) : Int)), (10, .int .i64 (x.1 : Int))]) (fun x => x.2.2.2)
    (fun x => x.1 ≤ l.length ∧ x.2.2.1.t = t ∧ Tab0 S x.2.2.2 x.2.2.1 64 x.2.1 ∧ TickI (now - age) l x.1 x.2.1) ?_ (0, [], T, S1) ⟨Nat.zero_le _, ht, hT, .nil, rfl, by simp, rfl⟩
  clear hT ht
  rintro ⟨i, cur, T, S1⟩ ⟨hi, ht, hT, hI⟩ next
  dsimp only at hi ht hT hI next
  by_cases h1 : i < l.length
  · have at1 := bytesAt h1
    have hb := hl _ (List.getElem_mem h1)
    have w4 : IntKind.i64.wrap l[i] = l[i] := wrap64 (by omega) (by omega)
    have cvt := cv_ticks (show i < 60 by omega)
    have hkk : (⟨#[107]⟩ : ByteArray) ++ strOfNums [((97 + i / 26 : Nat) : Int), ((97 + i % 26 : Nat) : Int)] = kk i := rfl
    have g26 : ((26 : Int) = 0) = False := by decide
    obtain ⟨c', e, hpp⟩ : ∃ c' e, putT 64 cur (rowAt (kk i) (tkS l[i] 0)) = (c', e) := ⟨_, _, rfl⟩
    have hsz := kk_size i (by omega)
    have hp := fun E => put0n (hT.app E) ht hpp (by have := hI.len; omega) (by decide) (by omega) (by show ByteArray.size (⟨#[47, 122]⟩ : ByteArray) < _; decide)
    have hI2 := hI.put h1 (by omega) hl hpp
    have hcn : (((l.take (i + 1)).countP fun t => decide (t < now - age) : Nat) : Int) = ((l.take i).countP fun t => decide (t < now - age) : Nat) + if decide (l[i] < now - age) = true then 1 else 0 := by
      rw [List.take_succ_eq_append_getElem h1, List.countP_append, List.countP_singleton]
      split <;> simp
    have hcl : ((l.take i).countP fun t => decide (t < now - age)) ≤ i := Nat.le_trans List.countP_le_length (by rw [List.length_take]; omega)
    simp only [tkS] at hp
    have hcl2 : (((l.take i).countP fun t => decide (t < now - age)) : Int) ≤ 60 := by omega
    cases hd : decide (l[i] < now - age) with
    | true =>
      rw [hd, if_pos rfl] at hcn
      have wc : IntKind.i64.wrap ((((l.take i).countP fun t => decide (t < now - age) : Nat) : Int) + 1) = (((l.take (i + 1)).countP fun t => decide (t < now - age) : Nat) : Int) := by rw [hcn]; exact wrap64 (by omega) (by omega)
      repeat' (first|refine Go.a rfl ?_|refine Go.rg ?_|refine GoR.nil ?_|refine Go.ret ?_|refine Go.b rfl ?_|refine Go.rgS dmx (by decide) ?_|refine Go.rgD [4, 8, 15, 16] (fun _ => True) dmx (by decide) 19 (by decide) (by trivial) ?_|refine GoW.nil rfl ?_|((first|refine GoR.o (by rfl) (by rfl) ?_|refine GoW.o (by rfl) (by rfl) ?_|refine GoW.rd (by rfl) (by rfl) ?_);(conv => arg 1;simp only [G,Z,Y,Gx,un_neg,cutD,decide_true,decide_false,simprocAttr,fb2,fb3,fb5,fb9,fb22,fb30,fb31,fb33,fb34,fb39,show decide ((i : Int) < (l.length : Int)) = true by simp; omega, at1, w1, w2, w3, w4, cvt, g26, cv_u8, cv_two, hkk, hd, wc, wrap_succ (show i < 4611686018427387904 by omega)]);first|show GoR ..|(show _ ∧ GoW ..;refine ⟨by exact fun _ => trivial,?_⟩)|(show _ ∧ _ ∧ _ ∧ GoW ..;refine ⟨rfl,by trivial,(fun H _=>by simp only [G,Z,Y,Gx,un_neg,cutD,decide_true,decide_false,simprocAttr,fb2,fb3,fb5,fb9,fb22,fb30,fb31,fb33,fb34,fb39,show decide ((i : Int) < (l.length : Int)) = true by simp; omega, at1, w1, w2, w3, w4, cvt, g26, cv_u8, cv_two, hkk, hd, wc, wrap_succ (show i < 4611686018427387904 by omega)]),?_⟩))|(refine GoW.c c8 (by rfl) (by rfl) rfl ?_;(refine (hp _).mono ?_; rintro _ S2 ⟨rfl, T2, e2, hT2, _⟩);refine ⟨by exact fun _ => trivial,?_⟩)|(refine GoR.c c8 (by rfl) (by rfl) rfl ?_;(refine (hp _).mono ?_; rintro _ S2 ⟨rfl, T2, e2, hT2, _⟩))|refine GoR.s (by rfl) rfl rfl ?_|refine GoW.s (by rfl) rfl rfl (by exact fun _ => trivial) ?_|(refine GoR.splitG rfl (fun hc => ?_) (fun hc => ?_) <;> simp only [hc])|refine Go.condB rfl (fun hc => ?_) (fun hc => ?_))
      refine Go.lpN ?_
      refine Go.keep [(0, .sl none 1 l.length (bytesD l)), (1, .int .u8 now), (2, .int .u8 age), (7, .ptr t 0), (9, .int .i64 (((l.take (i + 1)).countP fun t => decide (t < now - age) : Nat) : Int)), (10, .int .i64 ((i + 1 : Nat) : Int))] (.cons .refl (.cons .refl (.cons .refl (.cons .refl (.cons .refl (.cons .refl (.nil))))))) ?_
      exact next (i + 1, c', T2, S2) (by dsimp only; omega) ⟨h1, e2, hT2, hI2⟩
    | false =>
      rw [hd, if_neg (by decide), Int.add_zero] at hcn
      repeat' (first|refine Go.a rfl ?_|refine Go.rg ?_|refine GoR.nil ?_|refine Go.ret ?_|refine Go.b rfl ?_|refine Go.rgS dmx (by decide) ?_|refine Go.rgD [4, 8, 15, 16] (fun _ => True) dmx (by decide) 19 (by decide) (by trivial) ?_|refine GoW.nil rfl ?_|((first|refine GoR.o (by rfl) (by rfl) ?_|refine GoW.o (by rfl) (by rfl) ?_|refine GoW.rd (by rfl) (by rfl) ?_);(conv => arg 1;simp only [G,Z,Y,Gx,un_neg,cutD,decide_true,decide_false,simprocAttr,fb2,fb3,fb5,fb9,fb22,fb30,fb31,fb33,fb34,fb39,show decide ((i : Int) < (l.length : Int)) = true by simp; omega, at1, w1, w2, w3, w4, cvt, g26, cv_u8, cv_two, hkk, hd, wrap_succ (show i < 4611686018427387904 by omega)]);first|show GoR ..|(show _ ∧ GoW ..;refine ⟨by exact fun _ => trivial,?_⟩)|(show _ ∧ _ ∧ _ ∧ GoW ..;refine ⟨rfl,by trivial,(fun H _=>by simp only [G,Z,Y,Gx,un_neg,cutD,decide_true,decide_false,simprocAttr,fb2,fb3,fb5,fb9,fb22,fb30,fb31,fb33,fb34,fb39,show decide ((i : Int) < (l.length : Int)) = true by simp; omega, at1, w1, w2, w3, w4, cvt, g26, cv_u8, cv_two, hkk, hd, wrap_succ (show i < 4611686018427387904 by omega)]),?_⟩))|(refine GoW.c c8 (by rfl) (by rfl) rfl ?_;(refine (hp _).mono ?_; rintro _ S2 ⟨rfl, T2, e2, hT2, _⟩);refine ⟨by exact fun _ => trivial,?_⟩)|(refine GoR.c c8 (by rfl) (by rfl) rfl ?_;(refine (hp _).mono ?_; rintro _ S2 ⟨rfl, T2, e2, hT2, _⟩))|refine GoR.s (by rfl) rfl rfl ?_|refine GoW.s (by rfl) rfl rfl (by exact fun _ => trivial) ?_|(refine GoR.splitG rfl (fun hc => ?_) (fun hc => ?_) <;> simp only [hc])|refine Go.condB rfl (fun hc => ?_) (fun hc => ?_))
      refine Go.lpN ?_
      rw [← hcn]
      refine Go.keep [(0, .sl none 1 l.length (bytesD l)), (1, .int .u8 now), (2, .int .u8 age), (7, .ptr t 0), (9, .int .i64 (((l.take (i + 1)).countP fun t => decide (t < now - age) : Nat) : Int)), (10, .int .i64 ((i + 1 : Nat) : Int))] (.cons .refl (.cons .refl (.cons .refl (.cons .refl (.cons .refl (.cons .refl (.nil))))))) ?_
      exact next (i + 1, c', T2, S2) (by dsimp only; omega) ⟨h1, e2, hT2, hI2⟩
  clear next
  obtain rfl : i = l.length := by omega
  rw [List.take_length]
  have hgt := goneP_tick hn ha (show l.length ≤ 60 by omega) hI
  have hold := hI.old
  rw [List.take_length] at hold
  have hsw := sweep0 hT ht (now := now) (age := age) hn.1 ha.1 ⟨#[]⟩
  have hg1 : (goneL now age ⟨#[]⟩ cur).length = l.countP fun t => decide (t < now - age) := by
    rw [goneL, List.length_map, ← hold, List.countP_eq_length_filter]
    congr 1
    exact List.filter_congr hgt
  have hk1 : ∀ r ∈ keptL now age ⟨#[]⟩ cur, r ∈ cur ∧ oldP (now - age) r = false := fun r hr => by
    obtain ⟨h1, h2⟩ := List.mem_filter.1 hr
    refine ⟨h1, ?_⟩
    rw [← hgt r h1]
    simpa using h2
  have hkl : (keptL now age ⟨#[]⟩ cur).length + (l.countP fun t => decide (t < now - age)) = l.length := by
    rw [← hg1, goneL, List.length_map, keptL, ← hI.len]
    rw [← List.countP_eq_length_filter, ← List.countP_eq_length_filter, Nat.add_comm]
    conv => rhs; rw [List.length_eq_countP_add_countP (goneP now age ⟨#[]⟩)]
    congr 1
    exact List.countP_congr fun r _ => by simp
  have hg2 : goneL now age ⟨#[]⟩ (keptL now age ⟨#[]⟩ cur) = [] := by
    rw [goneL, List.filter_eq_nil_iff.2 fun r hr => ?_]
    · rfl
    · rw [hgt r (hk1 r hr).1, (hk1 r hr).2]
      decide
  generalize hgg : goneL now age ⟨#[]⟩ cur = gg at *
  generalize hkk : keptL now age ⟨#[]⟩ cur = kl at *
  have hcl : (l.countP fun t => decide (t < now - age)) ≤ l.length := List.countP_le_length
  generalize (l.countP fun t => decide (t < now - age)) = od at *
  repeat' (first|refine Go.a rfl ?_|refine Go.rg ?_|refine GoR.nil ?_|refine Go.ret ?_|refine Go.b rfl ?_|refine Go.rgS dmx (by decide) ?_|refine Go.rgD [4, 8, 15, 16] (fun _ => True) dmx (by decide) 19 (by decide) (by trivial) ?_|refine GoW.nil rfl ?_|((first|refine GoR.o (by rfl) (by rfl) ?_|refine GoW.o (by rfl) (by rfl) ?_|refine GoW.rd (by rfl) (by rfl) ?_);(conv => arg 1;simp only [G,Z,Y,Gx,un_neg,cutD,decide_true,decide_false,simprocAttr,fb2,fb3,fb5,fb9,fb22,fb30,fb31,fb33,fb34,fb39,show decide ((l.length : Int) < (l.length : Int)) = false by simp, cv_u8, w1, w2]);first|show GoR ..|(show _ ∧ GoW ..;refine ⟨by exact fun _ => trivial,?_⟩)|(show _ ∧ _ ∧ _ ∧ GoW ..;refine ⟨rfl,by trivial,(fun H _=>by simp only [G,Z,Y,Gx,un_neg,cutD,decide_true,decide_false,simprocAttr,fb2,fb3,fb5,fb9,fb22,fb30,fb31,fb33,fb34,fb39,show decide ((l.length : Int) < (l.length : Int)) = false by simp, cv_u8, w1, w2]),?_⟩))|(refine GoW.c c11 (by rfl) (by rfl) rfl ?_;(refine hsw.mono ?_; rintro _ S2 ⟨rfl, T2, e2, hT2, _⟩);refine ⟨by exact fun _ => trivial,?_⟩)|(refine GoR.c c11 (by rfl) (by rfl) rfl ?_;(refine hsw.mono ?_; rintro _ S2 ⟨rfl, T2, e2, hT2, _⟩))|refine GoR.s (by rfl) rfl rfl ?_|refine GoW.s (by rfl) rfl rfl (by exact fun _ => trivial) ?_)
  have hsw2 := sweep0 hT2 e2 (now := now) (age := age) hn.1 ha.1 ⟨#[]⟩
  rw [hg2] at hsw2
  have hkk2 : keptL now age ⟨#[]⟩ kl = kl := List.filter_eq_self.2 fun r hr => by
    rw [hgt r (hk1 r hr).1, (hk1 r hr).2]
    rfl
  rw [hkk2] at hsw2
  repeat' (first|refine Go.a rfl ?_|refine Go.rg ?_|refine GoR.nil ?_|refine Go.ret ?_|refine Go.b rfl ?_|refine Go.rgS dmx (by decide) ?_|refine Go.rgD [4, 8, 15, 16] (fun _ => True) dmx (by decide) 19 (by decide) (by trivial) ?_|refine GoW.nil rfl ?_|((first|refine GoR.o (by rfl) (by rfl) ?_|refine GoW.o (by rfl) (by rfl) ?_|refine GoW.rd (by rfl) (by rfl) ?_);(conv => arg 1;simp only [G,Z,Y,Gx,un_neg,cutD,decide_true,decide_false,simprocAttr,fb2,fb3,fb5,fb9,fb22,fb30,fb31,fb33,fb34,fb39,cv_u8, w1, w2]);first|show GoR ..|(show _ ∧ GoW ..;refine ⟨by exact fun _ => trivial,?_⟩)|(show _ ∧ _ ∧ _ ∧ GoW ..;refine ⟨rfl,by trivial,(fun H _=>by simp only [G,Z,Y,Gx,un_neg,cutD,decide_true,decide_false,simprocAttr,fb2,fb3,fb5,fb9,fb22,fb30,fb31,fb33,fb34,fb39,cv_u8, w1, w2]),?_⟩))|(refine GoW.c c11 (by rfl) (by rfl) rfl ?_;(refine hsw2.mono ?_; rintro _ S3 ⟨rfl, T3, e3, hT3, _⟩);refine ⟨by exact fun _ => trivial,?_⟩)|(refine GoR.c c11 (by rfl) (by rfl) rfl ?_;(refine hsw2.mono ?_; rintro _ S3 ⟨rfl, T3, e3, hT3, _⟩))|refine GoR.s (by rfl) rfl rfl ?_|refine GoW.s (by rfl) rfl rfl (by exact fun _ => trivial) ?_)
  have hrw := rows0 (orc := O) hT3 e3
  repeat' (first|refine Go.a rfl ?_|refine Go.rg ?_|refine GoR.nil ?_|refine Go.ret ?_|refine Go.b rfl ?_|refine Go.rgS dmx (by decide) ?_|refine Go.rgD [4, 8, 15, 16] (fun _ => True) dmx (by decide) 19 (by decide) (by trivial) ?_|refine GoW.nil rfl ?_|((first|refine GoR.o (by rfl) (by rfl) ?_|refine GoW.o (by rfl) (by rfl) ?_|refine GoW.rd (by rfl) (by rfl) ?_);(conv => arg 1;simp only [G,Z,Y,Gx,un_neg,cutD,decide_true,decide_false,simprocAttr,fb2,fb3,fb5,fb9,fb22,fb30,fb31,fb33,fb34,fb39]);first|show GoR ..|(show _ ∧ GoW ..;refine ⟨by exact fun _ => trivial,?_⟩)|(show _ ∧ _ ∧ _ ∧ GoW ..;refine ⟨rfl,by trivial,(fun H _=>by simp only [G,Z,Y,Gx,un_neg,cutD,decide_true,decide_false,simprocAttr,fb2,fb3,fb5,fb9,fb22,fb30,fb31,fb33,fb34,fb39]),?_⟩))|(refine GoW.c c9 (by rfl) (by rfl) rfl ?_;(refine hrw.ret ?_);refine ⟨by exact fun _ => trivial,?_⟩)|(refine GoR.c c9 (by rfl) (by rfl) rfl ?_;(refine hrw.ret ?_))|refine GoR.s (by rfl) rfl rfl ?_|refine GoW.s (by rfl) rfl rfl (by exact fun _ => trivial) ?_|(refine GoR.splitG rfl (fun hc => ?_) (fun hc => ?_) <;> simp only [hc])|refine Go.condB rfl (fun hc => ?_) (fun hc => ?_))
  unfold strsD
  refine Go.keep [(0, .sl none 1 l.length (bytesD l)), (1, .int .u8 now), (2, .int .u8 age), (9, .int .i64 (od : Int)), (11, .sl none 1 gg.length (gg.map .str)), (12, .sl none 1 0 []), (13, .sl none 6 kl.length (rowsC kl)), (14, .int .i64 ((0 : Nat) : Int))] (.cons .refl (.cons .refl (.cons .refl (.cons .refl (.cons .refl (.cons .refl (.cons .refl (.cons .refl (.nil))))))))) ?_
  refine Go.while (α := Nat) (fun i => kl.length - i) (fun i => [(0, .sl none 1 l.length (bytesD l)), (1, .int .u8 now), (2, .int .u8 age), (9, .int .i64 (od : Int)), (11, .sl none 1 gg.length (gg.map .str)), (12, .sl none 1 0 []), (13, .sl none 6 kl.length (rowsC kl)), (14, .int .i64 (i : Int))]) (fun _ => S3) (fun i => i ≤ kl.length) ?_ 0 (Nat.zero_le _)
  intro i hi next
  by_cases h1 : i < kl.length
  · have a1 := (rowsAt h1).1
    have k1 := tickAt h1
    have hd : decide (kl[i].st.tick < now - age) = false := (hk1 _ (List.getElem_mem h1)).2
    repeat' (first|refine Go.a rfl ?_|refine Go.rg ?_|refine GoR.nil ?_|refine Go.ret ?_|refine Go.b rfl ?_|refine Go.rgS dmx (by decide) ?_|refine Go.rgD [4, 8, 15, 16] (fun _ => True) dmx (by decide) 19 (by decide) (by trivial) ?_|refine GoW.nil rfl ?_|((first|refine GoR.o (by rfl) (by rfl) ?_|refine GoW.o (by rfl) (by rfl) ?_|refine GoW.rd (by rfl) (by rfl) ?_);(conv => arg 1;simp only [G,Z,Y,Gx,un_neg,cutD,decide_true,decide_false,simprocAttr,fb2,fb3,fb5,fb9,fb22,fb30,fb31,fb33,fb34,fb39,show decide ((i : Int) < (kl.length : Int)) = true by simp; omega, a1, k1, cv_u8, w1, w2, w3, hd, wrap_succ (show i < 4611686018427387904 by omega)]);first|show GoR ..|(show _ ∧ GoW ..;refine ⟨by exact fun _ => trivial,?_⟩)|(show _ ∧ _ ∧ _ ∧ GoW ..;refine ⟨rfl,by trivial,(fun H _=>by simp only [G,Z,Y,Gx,un_neg,cutD,decide_true,decide_false,simprocAttr,fb2,fb3,fb5,fb9,fb22,fb30,fb31,fb33,fb34,fb39,show decide ((i : Int) < (kl.length : Int)) = true by simp; omega, a1, k1, cv_u8, w1, w2, w3, hd, wrap_succ (show i < 4611686018427387904 by omega)]),?_⟩))|refine GoR.s (by rfl) rfl rfl ?_|refine GoW.s (by rfl) rfl rfl (by exact fun _ => trivial) ?_|(refine GoR.splitG rfl (fun hc => ?_) (fun hc => ?_) <;> simp only [hc])|refine Go.condB rfl (fun hc => ?_) (fun hc => ?_))
    refine Go.lpN ?_
    refine Go.keep [(0, .sl none 1 l.length (bytesD l)), (1, .int .u8 now), (2, .int .u8 age), (9, .int .i64 (od : Int)), (11, .sl none 1 gg.length (gg.map .str)), (12, .sl none 1 0 []), (13, .sl none 6 kl.length (rowsC kl)), (14, .int .i64 ((i + 1 : Nat) : Int))] (.cons .refl (.cons .refl (.cons .refl (.cons .refl (.cons .refl (.cons .refl (.cons .refl (.cons .refl (.nil))))))))) ?_
    exact next (i + 1) (by omega) h1
  · clear next
    obtain rfl : i = kl.length := by omega
    obtain ⟨Eg, hEg⟩ := hT3.fr.pre (by simp)
    have w5 : IntKind.i64.wrap ((l.length : Int) - (od : Int)) = (kl.length : Int) := by rw [wrap64 (by omega) (by omega)]; omega
    rw [hg1]
    repeat' (first|refine Go.a rfl ?_|refine Go.rg ?_|refine GoR.nil ?_|refine Go.ret ?_|refine Go.b rfl ?_|refine Go.rgS dmx (by decide) ?_|refine Go.rgD [4, 8, 15, 16] (fun _ => True) dmx (by decide) 19 (by decide) (by trivial) ?_|refine GoW.nil rfl ?_|((first|refine GoR.o (by rfl) (by rfl) ?_|refine GoW.o (by rfl) (by rfl) ?_|refine GoW.rd (by rfl) (by rfl) ?_);(conv => arg 1;simp only [G,Z,Y,Gx,un_neg,cutD,decide_true,decide_false,simprocAttr,fb2,fb3,fb5,fb9,fb22,fb30,fb31,fb33,fb34,fb39,show decide ((kl.length : Int) < (kl.length : Int)) = false by simp, beq_self_eq_true, w5]);first|show GoR ..|(show _ ∧ GoW ..;refine ⟨by exact fun _ => trivial,?_⟩)|(show _ ∧ _ ∧ _ ∧ GoW ..;refine ⟨rfl,by trivial,(fun H _=>by simp only [G,Z,Y,Gx,un_neg,cutD,decide_true,decide_false,simprocAttr,fb2,fb3,fb5,fb9,fb22,fb30,fb31,fb33,fb34,fb39,show decide ((kl.length : Int) < (kl.length : Int)) = false by simp, beq_self_eq_true, w5]),?_⟩))|refine GoR.s (by rfl) rfl rfl ?_|refine GoW.s (by rfl) rfl rfl (by exact fun _ => trivial) ?_|(refine GoR.splitG rfl (fun hc => ?_) (fun hc => ?_) <;> simp only [hc])|refine Go.condB rfl (fun hc => ?_) (fun hc => ?_))
    refine ⟨(by first | exact .inl rfl | exact .inr rfl), fin ?_⟩
    rw [resD_tmp (fn := Tryd.f4) rfl]
    simp only [optThen_some,resultD_tmp,resultD_cell,G,Z,Y,Gx,un_neg,cutD,decide_true,decide_false,simprocAttr,fb2,fb3,fb5,fb9,fb22,fb30,fb31,fb33,fb34,fb39]
    exact ⟨_, Eg, hEg, .bool, by simp⟩
end Go.Proofs.DuT
