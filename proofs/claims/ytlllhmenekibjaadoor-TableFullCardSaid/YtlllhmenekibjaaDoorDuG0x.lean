/- Rows that laws make by ticks. -/
import Derived.Test.YtlllhmenekibjaaDoorDuT8x
set_option linter.unusedSimpArgs false
set_option linter.unusedVariables false
namespace Go.Proofs.DuT
open Go Go.DM Go.Proofs.DuF
set_option maxRecDepth 100000
variable {orc : DOracle}

/-- The key of the row at a place. -/
def kk (i : Nat) : ByteArray := (⟨#[107]⟩ : ByteArray) ++ strOfNums [((97 + i / 26 : Nat) : Int), ((97 + i % 26 : Nat) : Int)]
theorem kk_inj0 : ∀ i, i < 60 → ∀ j, j < 60 → kk i = kk j → i = j := by decide +kernel
theorem kk_ok : ∀ i, i < 60 → nameOk (kk i) = true := by decide +kernel
theorem kk_size : ∀ i, i < 60 → (kk i).size = 3 := by decide +kernel
def tkS (t q : Int) : St := ⟨t, 0, q, (⟨#[47, 122]⟩ : ByteArray)⟩
theorem tk_chk {i : Nat} {t q : Int} (hi : i < 60) (ht : 0 ≤ t ∧ t ≤ 255) (hq : 0 ≤ q ∧ q ≤ 255) : chkR (rowAt (kk i) (tkS t q)) = 0 := by
  have h1 : inOk t = true := by simp only [inOk, Bool.and_eq_true, decide_eq_true_eq]; omega
  have h2 : inOk q = true := by simp only [inOk, Bool.and_eq_true, decide_eq_true_eq]; omega
  have h3 : inOk 0 = true := by decide
  have h4 : pathOk (⟨#[47, 122]⟩ : ByteArray) = true := by decide +kernel
  simp [chkR, rowAt, kk_ok i hi, chk, tkS, h1, h2, h3, h4]
  rfl
theorem lookK_no {l : List Rw} {s : ByteArray} (h : ∀ r ∈ l, ¬ r.key = s) : lookK Rw.key l s = none := by
  cases hq : lookK Rw.key l s with
  | none => rfl
  | some r => exact absurd (lookK_mem hq).2 (h r (lookK_mem hq).1)
def bytesD (l : List Int) : List D := l.map (.int .u8)
theorem bytesAt {l : List Int} {i : Nat} (h : i < l.length) : ((0 ≤ (i : Int) ∧ (i : Int) < (l.length : Int)) = True) ∧ (bytesD l)[i]? = some (.int .u8 l[i]) := ⟨ix_ok h, by simp [bytesD, h]⟩
/-- Whole numbers, as the laws turn them. -/
theorem cv_u8 {k : IntKind} {n : Int} {S : Mem} : convD Tryd.prog 5 3 (.int k n) S = some (.int .i64 (IntKind.i64.wrap n), S) ∧ convD Tryd.prog 5 2 (.int k n) S = some (.int .i64 (IntKind.i64.wrap n), S) ∧ convD Tryd.prog 3 5 (.int k n) S = some (.int .u8 (IntKind.u8.wrap n), S) :=
  ⟨conv_int Tryd.underlying5 Tryd.underlying3, conv_int Tryd.underlying5 Tryd.underlying2, conv_int Tryd.underlying3 Tryd.underlying5⟩
theorem cv_two {o : Option Nat} {a b : Int} {S : Mem} : convD Tryd.prog 22 9 (.sl o 1 2 [.int .u8 a, .int .u8 b]) S = some (.str (strOfNums [a, b]), S) := by
  simp [convD, Tryd.underlying22, Tryd.underlying9, Tryd.underlying5, u8sD]
theorem cv_ticks {i : Nat} (h : i < 60) : IntKind.i64.wrap (Int.tdiv (i : Int) 26) = ((i / 26 : Nat) : Int) ∧ Int.tmod (i : Int) 26 = ((i % 26 : Nat) : Int) ∧ IntKind.i64.wrap (97 + ((i / 26 : Nat) : Int)) = ((97 + i / 26 : Nat) : Int) ∧ IntKind.i64.wrap (97 + ((i % 26 : Nat) : Int)) = ((97 + i % 26 : Nat) : Int) ∧
    IntKind.u8.wrap ((97 + i / 26 : Nat) : Int) = ((97 + i / 26 : Nat) : Int) ∧ IntKind.u8.wrap ((97 + i % 26 : Nat) : Int) = ((97 + i % 26 : Nat) : Int) := by
  have e1 : Int.tdiv (i : Int) 26 = ((i / 26 : Nat) : Int) := rfl
  have u8w : ∀ n : Nat, n ≤ 255 → IntKind.u8.wrap (n : Int) = (n : Int) := fun n hn => by
    have key : ∀ m, m < 256 → IntKind.u8.wrap ((m : Nat) : Int) = ((m : Nat) : Int) := by decide +kernel
    exact key n (by omega)
  have hd : i / 26 < 26 := by omega
  have hm : i % 26 < 26 := by omega
  refine ⟨by rw [e1]; exact wrap64 (by omega) (by omega), rfl, ?_, ?_, u8w _ (by omega), u8w _ (by omega)⟩
  · rw [wrap64 (by omega) (by omega)]; omega
  · rw [wrap64 (by omega) (by omega)]; omega
end Go.Proofs.DuT

/- The law TableFull. -/
namespace Go.Proofs.DuT
open Go Go.DM Go.Proofs.DuF
set_option maxRecDepth 100000

theorem nodup_le {α : Type} : ∀ {a b : List α}, a.Nodup → (∀ x ∈ a, x ∈ b) → a.length ≤ b.length
  | [], _, _, _ => Nat.zero_le _
  | x :: a, b, ha, h => by
    obtain ⟨b1, b2, rfl⟩ := List.append_of_mem (h x (by simp))
    rw [List.nodup_cons] at ha
    have := nodup_le (b := b1 ++ b2) ha.2 fun y hy => by
      have := h y (by simp [hy])
      simp only [List.mem_append, List.mem_cons] at this ⊢
      rcases this with h | rfl | h
      · exact .inl h
      · exact absurd hy ha.1
      · exact .inr h
    simp only [List.length_append, List.length_cons] at this ⊢
    omega
def tick (l : List Int) (i : Nat) : Int := l.getD i 0
def fr (l : List Int) (i : Nat) : Rw := rowAt (kk i) (tkS (tick l i) i)
def newP (l : List Int) (i j : Nat) : Bool := decide (tick l i < tick l j) || (decide (tick l j = tick l i) && decide (i < j))
theorem newP_lt {l : List Int} {i j : Nat} : newP l i j = true ↔ ltSt (fr l i).st (fr l j).st := by
  simp only [newP, fr, rowAt, tkS, ltSt, Bool.or_eq_true, Bool.and_eq_true, decide_eq_true_eq, ltB_irrefl]
  constructor
  · rintro (h | ⟨h1, h2⟩)
    · exact .inl h
    · exact .inr ⟨h1.symm, .inr ⟨trivial, .inl (by omega)⟩⟩
  · rintro (h | ⟨h1, h | ⟨_, h | ⟨_, h⟩⟩⟩)
    · exact .inl h
    · omega
    · exact .inr ⟨h1.symm, by omega⟩
    · cases h
theorem fr_ne {l : List Int} {i j : Nat} (h : ¬ i = j) : ¬ (fr l i).st = (fr l j).st := fun e => by
  have : (fr l i).st.seq = (fr l j).st.seq := by rw [e]
  simp only [fr, rowAt, tkS] at this
  omega
structure FullI (l : List Int) (k m : Nat) (cur : List Rw) : Prop where
  ok : OkT cur
  mem : ∀ r ∈ cur, ∃ j, j < m ∧ r = fr l j
  len : cur.length = min m k
  all : m ≤ k → ∀ i, i < m → fr l i ∈ cur
  top : ∀ i, i < m → ¬ fr l i ∈ cur → ∀ r ∈ cur, ltSt (fr l i).st r.st
theorem FullI.put {l : List Int} {k m : Nat} {cur : List Rw} (h : FullI l k m cur) (hm : m < l.length) (h60 : m < 60) (hk : 1 ≤ k) (hk2 : k ≤ 64) (hl : ∀ t ∈ l, 0 ≤ t ∧ t ≤ 255) {c' : List Rw} {e : Int} (hp : putT k cur (fr l m) = (c', e)) : FullI l k (m + 1) c' ∧ (m < k → e = 0) := by
  have hq : lookK Rw.key cur (fr l m).key = none := lookK_no fun r hr hkk => by
    obtain ⟨j, hj, rfl⟩ := h.mem r hr
    exact absurd (kk_inj0 j (by omega) m h60 hkk) (by omega)
  have ht : tick l m = l[m] := by simp [tick, hm]
  have hc : chkR (fr l m) = 0 := tk_chk h60 (by rw [ht]; exact hl _ (List.getElem_mem hm)) (by omega)
  have hlen := h.len
  have hr := h.ok.rise
  have hno : ¬ fr l m ∈ cur := fun hx => by rw [lookK_of_mem hr hx] at hq; cases hq
  by_cases hlt : m < k
  · rw [putT_new hc hq (by omega)] at hp
    obtain ⟨rfl, rfl⟩ := Prod.mk.inj hp
    have hin : ∀ i, i < m → fr l i ∈ putK Rw.key cur (fr l m) := fun i hi => by
      have h1 := h.all (by omega) i hi
      refine (lookK_mem (f := Rw.key) (s := (fr l i).key) ?_).1
      rw [lookK_put_ne hr _ (t := (fr l i).key) (fun e => absurd (kk_inj0 m h60 i (by omega) e) (by omega))]
      exact lookK_of_mem hr h1
    have hall : ∀ i, i < m + 1 → fr l i ∈ putK Rw.key cur (fr l m) := fun i hi => by
      rcases Nat.lt_or_ge i m with h1 | h1
      · exact hin i h1
      · obtain rfl : i = m := by omega
        exact (lookK_mem (lookK_put hr _)).1
    exact ⟨⟨h.ok.put (by omega) (rowAt_ok _ _), fun r hx => by
      rcases memK_put hr hx with hx | rfl
      · obtain ⟨j, hj, e⟩ := h.mem r hx
        exact ⟨j, by omega, e⟩
      · exact ⟨m, by omega, rfl⟩, by rw [lenK_put hr, hq]; simp; omega, fun _ => hall, fun i hi hx => absurd (hall i hi) hx⟩, fun _ => rfl⟩
  have hne : cur ≠ [] := fun e => by rw [e] at hlen; simp at hlen; omega
  have hle := least_le (l := cur)
  have hxm := least_mem hne
  obtain ⟨a, ha, hxe⟩ := h.mem _ hxm
  have hxa : ∀ j, ¬ a = j → fr l j ∈ cur → ltSt (fr l a).st (fr l j).st := fun j hj hjm => by
    have h1 := hle _ hjm
    rw [hxe] at h1
    rcases ltSt_total (fr l a).st (fr l j).st with h2 | h2 | h2
    · exact h2
    · exact absurd h2 (fr_ne hj)
    · exact absurd h2 h1
  by_cases hn : 0 < cmpSt (fr l m).st (least cur).st
  · rw [putT_out hc hq (by omega) hn] at hp
    obtain ⟨rfl, rfl⟩ := Prod.mk.inj hp
    rw [hxe] at hn ⊢
    have hn := cmpSt_pos.1 hn
    have hd := riseK_drop hr (fr l a).key
    have hq2 : lookK Rw.key (dropK Rw.key cur (fr l a).key) (fr l m).key = none := by
      rw [lookK_drop_ne hr (s := (fr l a).key) (t := (fr l m).key) (fun e => absurd (kk_inj0 a (by omega) m h60 e) (by omega))]
      exact hq
    have hin : ∀ j, j < m → ¬ a = j → fr l j ∈ cur → fr l j ∈ putK Rw.key (dropK Rw.key cur (fr l a).key) (fr l m) := fun j hj hja hjm => by
      refine (lookK_mem (f := Rw.key) (s := (fr l j).key) ?_).1
      rw [lookK_put_ne hd _ (t := (fr l j).key) (fun e => absurd (kk_inj0 m h60 j (by omega) e) (by omega)), lookK_drop_ne hr (s := (fr l a).key) (t := (fr l j).key) (fun e => hja (kk_inj0 a (by omega) j (by omega) e))]
      exact lookK_of_mem hr hjm
    have hout : ∀ r ∈ putK Rw.key (dropK Rw.key cur (fr l a).key) (fr l m), r = fr l m ∨ ∃ j, j < m ∧ ¬ a = j ∧ r = fr l j ∧ fr l j ∈ cur := fun r hx => by
      rcases memK_put hd hx with hx | rfl
      · obtain ⟨j, hj, rfl⟩ := h.mem r (memK_drop hr hx)
        refine .inr ⟨j, hj, ?_, rfl, memK_drop hr hx⟩
        rintro rfl
        have := lookK_of_mem hd hx
        rw [lookK_drop hr] at this
        cases this
      · exact .inl rfl
    refine ⟨⟨(h.ok.drop _).put (by rw [lenK_drop hr]; split <;> omega) (rowAt_ok _ _), fun r hx => ?_, ?_, fun hmk => by omega, fun i hi hx r hrm => ?_⟩, fun h => absurd h hlt⟩
    · rcases hout r hx with rfl | ⟨j, hj, _, rfl, _⟩
      · exact ⟨m, by omega, rfl⟩
      · exact ⟨j, by omega, rfl⟩
    · have hz : (lookK Rw.key cur (fr l a).key).isSome = true := by rw [← hxe, lookK_of_mem hr hxm]; rfl
      rw [lenK_put hd, hq2, lenK_drop hr, if_pos hz]
      simp
      omega
    · have him : ¬ i = m := by
        rintro rfl
        exact hx (lookK_mem (lookK_put hd _)).1
      have hi' : i < m := by omega
      by_cases hia : a = i
      · subst hia
        rcases hout r hrm with rfl | ⟨j, hj, hja, rfl, hjm⟩
        · exact hn
        · exact hxa j hja hjm
      · have hni : ¬ fr l i ∈ cur := fun hc => hx (hin i hi' hia hc)
        rcases hout r hrm with rfl | ⟨j, hj, hja, rfl, hjm⟩
        · have h1 := h.top i hi' hni _ hxm
          rw [hxe] at h1
          exact ltSt_trans h1 hn
        · exact h.top i hi' hni _ hjm
  · rw [putT_full hc hq (by omega) hn] at hp
    obtain ⟨rfl, rfl⟩ := Prod.mk.inj hp
    rw [hxe] at hn
    have hn : ltSt (fr l m).st (fr l a).st := by
      rcases ltSt_total (fr l a).st (fr l m).st with h2 | h2 | h2
      · exact absurd (cmpSt_pos.2 h2) hn
      · exact absurd h2 (fr_ne (by omega))
      · exact h2
    refine ⟨⟨h.ok, fun r hx => ?_, by omega, fun hmk => by omega, fun i hi hx r hrm => ?_⟩, fun h => absurd h hlt⟩
    · obtain ⟨j, hj, e⟩ := h.mem r hx
      exact ⟨j, by omega, e⟩
    · rcases Nat.lt_or_ge i m with h1 | h1
      · exact h.top i h1 hx r hrm
      · obtain rfl : i = m := by omega
        obtain ⟨j, hj, rfl⟩ := h.mem r hrm
        by_cases hja : a = j
        · subst hja; exact hn
        · exact ltSt_trans hn (hxa j hja hrm)
theorem FullI.there {l : List Int} {k m : Nat} {cur : List Rw} (h : FullI l k m cur) (h60 : m ≤ 60) (hk : 1 ≤ k) {i : Nat} (hi : i < m) : (lookK Rw.key cur (kk i)).isSome = decide ((List.range m).countP (newP l i) < k) := by
  have hr := h.ok.rise
  have inj : ∀ a b, a < m → b < m → fr l a = fr l b → a = b := fun a b ha hb e => kk_inj0 a (by omega) b (by omega) (congrArg Rw.key e)
  have nd : cur.Nodup := (riseK_iff.1 hr).imp fun {a b} hab e => by subst e; simp [ltK, ltB_irrefl] at hab
  have hlen := h.len
  have e1 : (lookK Rw.key cur (kk i)).isSome = true ↔ fr l i ∈ cur := by
    constructor
    · intro hs
      obtain ⟨r, hq⟩ := Option.isSome_iff_exists.1 hs
      obtain ⟨h1, h2⟩ := lookK_mem hq
      obtain ⟨j, hj, rfl⟩ := h.mem r h1
      obtain rfl := kk_inj0 j (by omega) i (by omega) h2
      exact h1
    · intro hm
      have := lookK_of_mem hr hm
      rw [show (fr l i).key = kk i from rfl] at this
      rw [this]
      rfl
  rw [Bool.eq_iff_iff, e1, decide_eq_true_eq, List.countP_eq_length_filter]
  have ndr : ((List.range m).filter (newP l i)).Nodup := List.Pairwise.filter _ List.nodup_range
  have hmem : ∀ j, j ∈ (List.range m).filter (newP l i) ↔ j < m ∧ ltSt (fr l i).st (fr l j).st := fun j => by rw [List.mem_filter, List.mem_range, newP_lt]
  constructor
  · intro hm
    have nd2 : (fr l i :: ((List.range m).filter (newP l i)).map (fr l)).Nodup := by
      rw [List.nodup_cons]
      constructor
      · intro hx
        obtain ⟨j, hj, e⟩ := List.mem_map.1 hx
        have h2 := ((hmem j).1 hj).2
        rw [e] at h2
        exact ltSt_irrefl _ h2
      · rw [List.Nodup, List.pairwise_map]
        refine List.Pairwise.imp_of_mem ?_ ndr
        intro a b ha hb hab e
        exact hab (inj a b ((hmem a).1 ha).1 ((hmem b).1 hb).1 e)
    have := nodup_le nd2 (b := cur) fun x hx => by
      rcases List.mem_cons.1 hx with rfl | hx
      · exact hm
      · obtain ⟨j, hj, rfl⟩ := List.mem_map.1 hx
        obtain ⟨h1, h2⟩ := (hmem j).1 hj
        refine Classical.byContradiction fun hno => ?_
        exact ltSt_irrefl _ (ltSt_trans h2 (h.top j h1 hno _ hm))
    simp only [List.length_cons, List.length_map] at this
    omega
  · intro hlt
    refine Classical.byContradiction fun hno => ?_
    have h1 := nodup_le nd (b := ((List.range m).filter (newP l i)).map (fr l)) fun r hx => by
      obtain ⟨j, hj, rfl⟩ := h.mem r hx
      exact List.mem_map.2 ⟨j, (hmem j).2 ⟨hj, h.top i hi hno _ hx⟩, rfl⟩
    rw [List.length_map] at h1
    have h2 : ¬ m ≤ k := fun hmk => hno (h.all hmk i hi)
    omega
set_option maxHeartbeats 4000000 in
theorem lawFull (most : Int) (hmo : 0 ≤ most ∧ most ≤ 255) (l : List Int) (hl : ∀ t ∈ l, 0 ≤ t ∧ t ≤ 255) (S : Mem) :
    CallD Tryd.prog O 3 [.int .u8 most, .sl none 1 l.length (bytesD l)] S fun d S' => S' = S ∧ d = .bool true := by
  obtain ⟨mn, rfl⟩ := Int.eq_ofNat_of_zero_le hmo.1
  refine CallD.e Tryd.func3 rfl Tryd.ntmps3 (by rfl) ?_
  by_cases h60 : 60 < l.length
  · repeat' (first|refine Go.a rfl ?_|refine Go.rg ?_|refine GoR.nil ?_|refine Go.ret ?_|refine Go.b rfl ?_|refine Go.rgS dmx (by decide) ?_|refine Go.rgD [4, 8, 15, 16] (fun _ => True) dmx (by decide) 20 (by decide) (by trivial) ?_|refine GoW.nil rfl ?_|((first|refine GoR.o (by rfl) (by rfl) ?_|refine GoW.o (by rfl) (by rfl) ?_|refine GoW.rd (by rfl) (by rfl) ?_);(conv => arg 1;simp only [G,Z,Y,Gx,un_neg,cutD,decide_true,decide_false,simprocAttr,fb2,fb3,fb4,fb5,fb9,fb22,fb24,fb30,fb31,fb33,fb34,show decide (60 < (l.length : Int)) = true by simp; omega]);first|show GoR ..|(show _ ∧ GoW ..;refine ⟨by exact fun _ => trivial,?_⟩)|(show _ ∧ _ ∧ _ ∧ GoW ..;refine ⟨rfl,by trivial,(fun H _=>by simp only [G,Z,Y,Gx,un_neg,cutD,decide_true,decide_false,simprocAttr,fb2,fb3,fb4,fb5,fb9,fb22,fb24,fb30,fb31,fb33,fb34,show decide (60 < (l.length : Int)) = true by simp; omega]),?_⟩))|(refine GoW.c c6 (by rfl) (by rfl) rfl ?_;(refine (known _).ret ?_);refine ⟨by exact fun _ => trivial,?_⟩)|(refine GoR.c c6 (by rfl) (by rfl) rfl ?_;(refine (known _).ret ?_))|refine GoR.s (by rfl) rfl rfl ?_|refine GoW.s (by rfl) rfl rfl (by exact fun _ => trivial) ?_|(refine GoR.splitG rfl (fun hc => ?_) (fun hc => ?_) <;> simp only [hc])|refine Go.condB rfl (fun hc => ?_) (fun hc => ?_))
    refine ⟨(by first | exact .inl rfl | exact .inr rfl), fin ?_⟩
    rw [resD_tmp (fn := Tryd.f3) rfl]
    simp only [optThen_some,resultD_tmp,resultD_cell,G,Z,Y,Gx,un_neg,cutD,decide_true,decide_false,simprocAttr,fb2,fb3,fb4,fb5,fb9,fb22,fb24,fb30,fb31,fb33,fb34]
    exact ⟨_, [], by simp, .bool, rfl⟩
  have d60 : decide (60 < (l.length : Int)) = false := by simp; omega
  have q1 : Int.tmod (mn : Int) 10 = ((mn % 10 : Nat) : Int) := rfl
  have q2 : IntKind.i64.wrap ((mn % 10 : Nat) : Int) = ((mn % 10 : Nat) : Int) := wrap64 (by omega) (by omega)
  have q3 : IntKind.i64.wrap (1 + ((mn % 10 : Nat) : Int)) = ((1 + mn % 10 : Nat) : Int) := by rw [wrap64 (by omega) (by omega)]; omega
  have g10 : ((10 : Int) = 0) = False := by decide
  have hk1 : 1 ≤ 1 + mn % 10 := by omega
  have hk2 : 1 + mn % 10 ≤ 64 := by omega
  generalize 1 + mn % 10 = k at *
  repeat' (first|refine Go.a rfl ?_|refine Go.rg ?_|refine GoR.nil ?_|refine Go.ret ?_|refine Go.b rfl ?_|refine Go.rgS dmx (by decide) ?_|refine Go.rgD [4, 8, 15, 16] (fun _ => True) dmx (by decide) 20 (by decide) (by trivial) ?_|refine GoW.nil rfl ?_|((first|refine GoR.o (by rfl) (by rfl) ?_|refine GoW.o (by rfl) (by rfl) ?_|refine GoW.rd (by rfl) (by rfl) ?_);(conv => arg 1;simp only [G,Z,Y,Gx,un_neg,cutD,decide_true,decide_false,simprocAttr,fb2,fb3,fb4,fb5,fb9,fb22,fb24,fb30,fb31,fb33,fb34,d60, q1, q2, q3, g10, cv_u8]);first|show GoR ..|(show _ ∧ GoW ..;refine ⟨by exact fun _ => trivial,?_⟩)|(show _ ∧ _ ∧ _ ∧ GoW ..;refine ⟨rfl,by trivial,(fun H _=>by simp only [G,Z,Y,Gx,un_neg,cutD,decide_true,decide_false,simprocAttr,fb2,fb3,fb4,fb5,fb9,fb22,fb24,fb30,fb31,fb33,fb34,d60, q1, q2, q3, g10, cv_u8]),?_⟩))|(refine GoW.c c6 (by rfl) (by rfl) rfl ?_;(refine (known _).ret ?_);refine ⟨by exact fun _ => trivial,?_⟩)|(refine GoR.c c6 (by rfl) (by rfl) rfl ?_;(refine (known _).ret ?_))|(refine GoW.c c7 (by rfl) (by rfl) rfl ?_;(refine (new0 (S0 := S) (most := (k : Int)) (by omega) (by omega) .refl).mono ?_; rintro _ S1 ⟨T, rfl, hT, _, _⟩);refine ⟨by exact fun _ => trivial,?_⟩)|(refine GoR.c c7 (by rfl) (by rfl) rfl ?_;(refine (new0 (S0 := S) (most := (k : Int)) (by omega) (by omega) .refl).mono ?_; rintro _ S1 ⟨T, rfl, hT, _, _⟩))|refine GoR.s (by rfl) rfl rfl ?_|refine GoW.s (by rfl) rfl rfl (by exact fun _ => trivial) ?_|(refine GoR.splitG rfl (fun hc => ?_) (fun hc => ?_) <;> simp only [hc])|refine Go.condB rfl (fun hc => ?_) (fun hc => ?_))
  generalize ht : T.t = t at *
  refine Go.keep [(1, .sl none 1 l.length (bytesD l)), (5, .int .i64 (k : Int)), (6, .ptr t 0), (8, .int .i64 ((0 : Nat) : Int))] (.cons .refl (.cons .refl (.cons .refl (.cons .refl (.nil))))) ?_
  refine Go.while (α := Nat × List Rw × Tb × Mem) (fun x => l.length - x.1) (fun x => [(1, .sl none 1 l.length (bytesD l)), (5, .int .i64 (k : Int)), (6, .ptr t 0), (8, .int .i64 (x.1 : Int))]) (fun x => x.2.2.2)
    (fun x => x.1 ≤ l.length ∧ x.2.2.1.t = t ∧ Tab0 S x.2.2.2 x.2.2.1 k x.2.1 ∧ FullI l k x.1 x.2.1) ?_ (0, [], T, S1) ⟨Nat.zero_le _, ht, hT, .nil, by simp, by simp, by simp, by simp⟩
  clear hT ht
  rintro ⟨i, cur, T, S1⟩ ⟨hi, ht, hT, hI⟩ next
  dsimp only at hi ht hT hI next
  by_cases h1 : i < l.length
  · have at1 := bytesAt h1
    have hb := hl _ (List.getElem_mem h1)
    have w4 : IntKind.i64.wrap l[i] = l[i] := wrap64 (by omega) (by omega)
    have cvt := cv_ticks (show i < 60 by omega)
    have hkk : (⟨#[107]⟩ : ByteArray) ++ strOfNums [((97 + i / 26 : Nat) : Int), ((97 + i % 26 : Nat) : Int)] = kk i := rfl
    have g26 : ((26 : Int) = 0) = False := by decide
    obtain ⟨c', e, hpp⟩ : ∃ c' e, putT k cur (fr l i) = (c', e) := ⟨_, _, rfl⟩
    obtain ⟨hI2, he0⟩ := hI.put h1 (by omega) hk1 hk2 hl hpp
    have hsz := kk_size i (by omega)
    have htk : tick l i = l[i] := by simp [tick, h1]
    rw [fr, htk] at hpp
    have hp := fun E => put0n (hT.app E) ht hpp (by have := hI.len; omega) (by omega) (by omega) (by show ByteArray.size (⟨#[47, 122]⟩ : ByteArray) < _; decide)
    simp only [tkS] at hp
    by_cases hik : i < k
    · obtain rfl := he0 hik
      repeat' (first|refine Go.a rfl ?_|refine Go.rg ?_|refine GoR.nil ?_|refine Go.ret ?_|refine Go.b rfl ?_|refine Go.rgS dmx (by decide) ?_|refine Go.rgD [4, 8, 15, 16] (fun _ => True) dmx (by decide) 20 (by decide) (by trivial) ?_|refine GoW.nil rfl ?_|((first|refine GoR.o (by rfl) (by rfl) ?_|refine GoW.o (by rfl) (by rfl) ?_|refine GoW.rd (by rfl) (by rfl) ?_);(conv => arg 1;simp only [G,Z,Y,Gx,un_neg,cutD,decide_true,decide_false,simprocAttr,fb2,fb3,fb4,fb5,fb9,fb22,fb24,fb30,fb31,fb33,fb34,show decide ((i : Int) < (l.length : Int)) = true by simp; omega, at1, w4, cvt, g26, cv_u8, cv_two, hkk, show decide ((i : Int) < (k : Int)) = true by simp; omega, bne_self_eq_false, wrap_succ (show i < 4611686018427387904 by omega)]);first|show GoR ..|(show _ ∧ GoW ..;refine ⟨by exact fun _ => trivial,?_⟩)|(show _ ∧ _ ∧ _ ∧ GoW ..;refine ⟨rfl,by trivial,(fun H _=>by simp only [G,Z,Y,Gx,un_neg,cutD,decide_true,decide_false,simprocAttr,fb2,fb3,fb4,fb5,fb9,fb22,fb24,fb30,fb31,fb33,fb34,show decide ((i : Int) < (l.length : Int)) = true by simp; omega, at1, w4, cvt, g26, cv_u8, cv_two, hkk, show decide ((i : Int) < (k : Int)) = true by simp; omega, bne_self_eq_false, wrap_succ (show i < 4611686018427387904 by omega)]),?_⟩))|(refine GoW.c c8 (by rfl) (by rfl) rfl ?_;(refine (hp _).mono ?_; rintro _ S2 ⟨rfl, T2, e2, hT2, _⟩);refine ⟨by exact fun _ => trivial,?_⟩)|(refine GoR.c c8 (by rfl) (by rfl) rfl ?_;(refine (hp _).mono ?_; rintro _ S2 ⟨rfl, T2, e2, hT2, _⟩))|refine GoR.s (by rfl) rfl rfl ?_|refine GoW.s (by rfl) rfl rfl (by exact fun _ => trivial) ?_|(refine GoR.splitG rfl (fun hc => ?_) (fun hc => ?_) <;> simp only [hc])|refine Go.condB rfl (fun hc => ?_) (fun hc => ?_))
      refine Go.lpN ?_
      refine Go.keep [(1, .sl none 1 l.length (bytesD l)), (5, .int .i64 (k : Int)), (6, .ptr t 0), (8, .int .i64 ((i + 1 : Nat) : Int))] (.cons .refl (.cons .refl (.cons .refl (.cons .refl (.nil))))) ?_
      exact next (i + 1, c', T2, S2) (by dsimp only; omega) ⟨h1, e2, hT2, hI2⟩
    · repeat' (first|refine Go.a rfl ?_|refine Go.rg ?_|refine GoR.nil ?_|refine Go.ret ?_|refine Go.b rfl ?_|refine Go.rgS dmx (by decide) ?_|refine Go.rgD [4, 8, 15, 16] (fun _ => True) dmx (by decide) 20 (by decide) (by trivial) ?_|refine GoW.nil rfl ?_|((first|refine GoR.o (by rfl) (by rfl) ?_|refine GoW.o (by rfl) (by rfl) ?_|refine GoW.rd (by rfl) (by rfl) ?_);(conv => arg 1;simp only [G,Z,Y,Gx,un_neg,cutD,decide_true,decide_false,simprocAttr,fb2,fb3,fb4,fb5,fb9,fb22,fb24,fb30,fb31,fb33,fb34,show decide ((i : Int) < (l.length : Int)) = true by simp; omega, at1, w4, cvt, g26, cv_u8, cv_two, hkk, show decide ((i : Int) < (k : Int)) = false by simp; omega, wrap_succ (show i < 4611686018427387904 by omega)]);first|show GoR ..|(show _ ∧ GoW ..;refine ⟨by exact fun _ => trivial,?_⟩)|(show _ ∧ _ ∧ _ ∧ GoW ..;refine ⟨rfl,by trivial,(fun H _=>by simp only [G,Z,Y,Gx,un_neg,cutD,decide_true,decide_false,simprocAttr,fb2,fb3,fb4,fb5,fb9,fb22,fb24,fb30,fb31,fb33,fb34,show decide ((i : Int) < (l.length : Int)) = true by simp; omega, at1, w4, cvt, g26, cv_u8, cv_two, hkk, show decide ((i : Int) < (k : Int)) = false by simp; omega, wrap_succ (show i < 4611686018427387904 by omega)]),?_⟩))|(refine GoW.c c8 (by rfl) (by rfl) rfl ?_;(refine (hp _).mono ?_; rintro _ S2 ⟨rfl, T2, e2, hT2, _⟩);refine ⟨by exact fun _ => trivial,?_⟩)|(refine GoR.c c8 (by rfl) (by rfl) rfl ?_;(refine (hp _).mono ?_; rintro _ S2 ⟨rfl, T2, e2, hT2, _⟩))|refine GoR.s (by rfl) rfl rfl ?_|refine GoW.s (by rfl) rfl rfl (by exact fun _ => trivial) ?_|(refine GoR.splitG rfl (fun hc => ?_) (fun hc => ?_) <;> simp only [hc])|refine Go.condB rfl (fun hc => ?_) (fun hc => ?_))
      refine Go.lpN ?_
      refine Go.keep [(1, .sl none 1 l.length (bytesD l)), (5, .int .i64 (k : Int)), (6, .ptr t 0), (8, .int .i64 ((i + 1 : Nat) : Int))] (.cons .refl (.cons .refl (.cons .refl (.cons .refl (.nil))))) ?_
      exact next (i + 1, c', T2, S2) (by dsimp only; omega) ⟨h1, e2, hT2, hI2⟩
  clear next
  obtain rfl : i = l.length := by omega
  have hrw := rows0 (orc := O) hT ht
  have hlen := hI.len
  by_cases hlk : k < l.length
  case' pos =>
    rw [show min l.length k = k by omega] at hlen
    rw [hlen] at hrw
    repeat' (first|refine Go.a rfl ?_|refine Go.rg ?_|refine GoR.nil ?_|refine Go.ret ?_|refine Go.b rfl ?_|refine Go.rgS dmx (by decide) ?_|refine Go.rgD [4, 8, 15, 16] (fun _ => True) dmx (by decide) 20 (by decide) (by trivial) ?_|refine GoW.nil rfl ?_|((first|refine GoR.o (by rfl) (by rfl) ?_|refine GoW.o (by rfl) (by rfl) ?_|refine GoW.rd (by rfl) (by rfl) ?_);(conv => arg 1;simp only [G,Z,Y,Gx,un_neg,cutD,decide_true,decide_false,simprocAttr,fb2,fb3,fb4,fb5,fb9,fb22,fb24,fb30,fb31,fb33,fb34,show decide ((l.length : Int) < (l.length : Int)) = false by simp, show decide ((k : Int) < (l.length : Int)) = true by simp; omega, bne_self_eq_false]);first|show GoR ..|(show _ ∧ GoW ..;refine ⟨by exact fun _ => trivial,?_⟩)|(show _ ∧ _ ∧ _ ∧ GoW ..;refine ⟨rfl,by trivial,(fun H _=>by simp only [G,Z,Y,Gx,un_neg,cutD,decide_true,decide_false,simprocAttr,fb2,fb3,fb4,fb5,fb9,fb22,fb24,fb30,fb31,fb33,fb34,show decide ((l.length : Int) < (l.length : Int)) = false by simp, show decide ((k : Int) < (l.length : Int)) = true by simp; omega, bne_self_eq_false]),?_⟩))|(refine GoW.c c9 (by rfl) (by rfl) rfl ?_;(refine hrw.ret ?_);refine ⟨by exact fun _ => trivial,?_⟩)|(refine GoR.c c9 (by rfl) (by rfl) rfl ?_;(refine hrw.ret ?_))|refine GoR.s (by rfl) rfl rfl ?_|refine GoW.s (by rfl) rfl rfl (by exact fun _ => trivial) ?_|(refine GoR.splitG rfl (fun hc => ?_) (fun hc => ?_) <;> simp only [hc])|refine Go.condB rfl (fun hc => ?_) (fun hc => ?_))
  case' neg =>
    rw [show min l.length k = l.length by omega] at hlen
    rw [hlen] at hrw
    repeat' (first|refine Go.a rfl ?_|refine Go.rg ?_|refine GoR.nil ?_|refine Go.ret ?_|refine Go.b rfl ?_|refine Go.rgS dmx (by decide) ?_|refine Go.rgD [4, 8, 15, 16] (fun _ => True) dmx (by decide) 20 (by decide) (by trivial) ?_|refine GoW.nil rfl ?_|((first|refine GoR.o (by rfl) (by rfl) ?_|refine GoW.o (by rfl) (by rfl) ?_|refine GoW.rd (by rfl) (by rfl) ?_);(conv => arg 1;simp only [G,Z,Y,Gx,un_neg,cutD,decide_true,decide_false,simprocAttr,fb2,fb3,fb4,fb5,fb9,fb22,fb24,fb30,fb31,fb33,fb34,show decide ((l.length : Int) < (l.length : Int)) = false by simp, show decide ((k : Int) < (l.length : Int)) = false by simp; omega, bne_self_eq_false]);first|show GoR ..|(show _ ∧ GoW ..;refine ⟨by exact fun _ => trivial,?_⟩)|(show _ ∧ _ ∧ _ ∧ GoW ..;refine ⟨rfl,by trivial,(fun H _=>by simp only [G,Z,Y,Gx,un_neg,cutD,decide_true,decide_false,simprocAttr,fb2,fb3,fb4,fb5,fb9,fb22,fb24,fb30,fb31,fb33,fb34,show decide ((l.length : Int) < (l.length : Int)) = false by simp, show decide ((k : Int) < (l.length : Int)) = false by simp; omega, bne_self_eq_false]),?_⟩))|(refine GoW.c c9 (by rfl) (by rfl) rfl ?_;(refine hrw.ret ?_);refine ⟨by exact fun _ => trivial,?_⟩)|(refine GoR.c c9 (by rfl) (by rfl) rfl ?_;(refine hrw.ret ?_))|refine GoR.s (by rfl) rfl rfl ?_|refine GoW.s (by rfl) rfl rfl (by exact fun _ => trivial) ?_|(refine GoR.splitG rfl (fun hc => ?_) (fun hc => ?_) <;> simp only [hc])|refine Go.condB rfl (fun hc => ?_) (fun hc => ?_))
  all_goals
    refine Go.keep [(1, .sl none 1 l.length (bytesD l)), (5, .int .i64 (k : Int)), (6, .ptr t 0), (12, .int .i64 ((0 : Nat) : Int))] (.cons .refl (.cons .refl (.cons .refl (.cons .refl (.nil))))) ?_
    refine Go.while (α := Nat × Mem) (fun x => l.length - x.1) (fun x => [(1, .sl none 1 l.length (bytesD l)), (5, .int .i64 (k : Int)), (6, .ptr t 0), (12, .int .i64 (x.1 : Int))]) (fun x => x.2) (fun x => x.1 ≤ l.length ∧ Tab0 S x.2 T k cur) ?_ (0, S1) ⟨Nat.zero_le _, hT⟩
    clear hT hrw
    rintro ⟨i, M⟩ ⟨hi, hT⟩ next
    dsimp only at hi hT next
    by_cases h1 : i < l.length
    · have cvt := cv_ticks (show i < 60 by omega)
      have hkk : (⟨#[107]⟩ : ByteArray) ++ strOfNums [((97 + i / 26 : Nat) : Int), ((97 + i % 26 : Nat) : Int)] = kk i := rfl
      have g26 : ((26 : Int) = 0) = False := by decide
      have hg := fun E => get0 (orc := O) (hT.app E) ht (kk i)
      have hth := hI.there (by omega) hk1 h1
      have hcn : decide ((List.range l.length).countP (newP l i) < k) = decide ((((List.range l.length).countP (newP l i) : Nat) : Int) < (k : Int)) := by
        rw [Bool.eq_iff_iff, decide_eq_true_eq, decide_eq_true_eq]
        omega
      rw [hcn] at hth
      rw [hth] at hg
      have at0 := bytesAt h1
      generalize (lookK Rw.key cur (kk i)).getD noRow = x at *
      simp only [Rw.c] at hg
      repeat' (first|refine Go.a rfl ?_|refine Go.rg ?_|refine GoR.nil ?_|refine Go.ret ?_|refine Go.b rfl ?_|refine Go.rgS dmx (by decide) ?_|refine Go.rgD [4, 8, 15, 16] (fun _ => True) dmx (by decide) 20 (by decide) (by trivial) ?_|refine GoW.nil rfl ?_|((first|refine GoR.o (by rfl) (by rfl) ?_|refine GoW.o (by rfl) (by rfl) ?_|refine GoW.rd (by rfl) (by rfl) ?_);(conv => arg 1;simp only [G,Z,Y,Gx,un_neg,cutD,decide_true,decide_false,simprocAttr,fb2,fb3,fb4,fb5,fb9,fb22,fb24,fb30,fb31,fb33,fb34,show decide ((i : Int) < (l.length : Int)) = true by simp; omega, cvt, g26, cv_u8, cv_two, hkk]);first|show GoR ..|(show _ ∧ GoW ..;refine ⟨by exact fun _ => trivial,?_⟩)|(show _ ∧ _ ∧ _ ∧ GoW ..;refine ⟨rfl,by trivial,(fun H _=>by simp only [G,Z,Y,Gx,un_neg,cutD,decide_true,decide_false,simprocAttr,fb2,fb3,fb4,fb5,fb9,fb22,fb24,fb30,fb31,fb33,fb34,show decide ((i : Int) < (l.length : Int)) = true by simp; omega, cvt, g26, cv_u8, cv_two, hkk]),?_⟩))|(refine GoW.c c10 (by rfl) (by rfl) rfl ?_;(refine (hg _).ret ?_);refine ⟨by exact fun _ => trivial,?_⟩)|(refine GoR.c c10 (by rfl) (by rfl) rfl ?_;(refine (hg _).ret ?_))|refine GoR.s (by rfl) rfl rfl ?_|refine GoW.s (by rfl) rfl rfl (by exact fun _ => trivial) ?_|(refine GoR.splitG rfl (fun hc => ?_) (fun hc => ?_) <;> simp only [hc])|refine Go.condB rfl (fun hc => ?_) (fun hc => ?_))
      refine Go.keep [(1, .sl none 1 l.length (bytesD l)), (5, .int .i64 (k : Int)), (6, .ptr t 0), (12, .int .i64 (i : Int)), (14, .bool (decide ((((List.range l.length).countP (newP l i) : Nat) : Int) < (k : Int)))), (15, .int .i64 (((List.range 0).countP (newP l i) : Nat) : Int)), (16, .int .i64 ((0 : Nat) : Int))] (.cons .refl (.cons .refl (.cons .refl (.cons .refl (.cons .refl (.cons .refl (.cons .refl .nil))))))) ?_
      have hT2 := hT.app [.own, .obj x.c]
      refine Go.while (α := Nat) (fun j => l.length - j) (fun j => [(1, .sl none 1 l.length (bytesD l)), (5, .int .i64 (k : Int)), (6, .ptr t 0), (12, .int .i64 (i : Int)), (14, .bool (decide ((((List.range l.length).countP (newP l i) : Nat) : Int) < (k : Int)))), (15, .int .i64 (((List.range j).countP (newP l i) : Nat) : Int)), (16, .int .i64 (j : Int))]) (fun _ => M ++ [.own, .obj x.c]) (fun j => j ≤ l.length) ?_ 0 (Nat.zero_le _)
      intro j hj next2
      by_cases h2 : j < l.length
      · have a1 := bytesAt h2
        have dj : decide ((j : Int) < (l.length : Int)) = true := by simp; omega
        have ti : tick l i = l[i] := by simp [tick, h1]
        have tj : tick l j = l[j] := by simp [tick, h2]
        have hcs : (List.range (j + 1)).countP (newP l i) = (List.range j).countP (newP l i) + if newP l i j = true then 1 else 0 := by
          rw [List.range_succ, List.countP_append, List.countP_singleton]
        have hcl : (List.range j).countP (newP l i) ≤ j := Nat.le_trans List.countP_le_length (by rw [List.length_range]; exact Nat.le_refl _)
        by_cases c1 : l[i] < l[j]
        · have hnp : newP l i j = true := by simp [newP, ti, tj, c1]
          have wc : IntKind.i64.wrap ((((List.range j).countP (newP l i) : Nat) : Int) + 1) = (((List.range (j + 1)).countP (newP l i) : Nat) : Int) := by rw [hcs, hnp, if_pos rfl]; exact wrap_succ (by omega)
          repeat' (first|refine Go.a rfl ?_|refine Go.rg ?_|refine GoR.nil ?_|refine Go.ret ?_|refine Go.b rfl ?_|refine Go.rgS dmx (by decide) ?_|refine Go.rgD [4, 8, 15, 16] (fun _ => True) dmx (by decide) 20 (by decide) (by trivial) ?_|refine GoW.nil rfl ?_|((first|refine GoR.o (by rfl) (by rfl) ?_|refine GoW.o (by rfl) (by rfl) ?_|refine GoW.rd (by rfl) (by rfl) ?_);(conv => arg 1;simp only [G,Z,Y,Gx,un_neg,cutD,decide_true,decide_false,simprocAttr,fb2,fb3,fb4,fb5,fb9,fb22,fb24,fb30,fb31,fb33,fb34,dj, a1, at0, decide_eq_true c1, wc, wrap_succ (show j < 4611686018427387904 by omega)]);first|show GoR ..|(show _ ∧ GoW ..;refine ⟨by exact fun _ => trivial,?_⟩)|(show _ ∧ _ ∧ _ ∧ GoW ..;refine ⟨rfl,by trivial,(fun H _=>by simp only [G,Z,Y,Gx,un_neg,cutD,decide_true,decide_false,simprocAttr,fb2,fb3,fb4,fb5,fb9,fb22,fb24,fb30,fb31,fb33,fb34,dj, a1, at0, decide_eq_true c1, wc, wrap_succ (show j < 4611686018427387904 by omega)]),?_⟩))|refine GoR.s (by rfl) rfl rfl ?_|refine GoW.s (by rfl) rfl rfl (by exact fun _ => trivial) ?_|(refine GoR.splitG rfl (fun hc => ?_) (fun hc => ?_) <;> simp only [hc])|refine Go.condB rfl (fun hc => ?_) (fun hc => ?_))
          refine Go.lpN ?_
          refine Go.keep [(1, .sl none 1 l.length (bytesD l)), (5, .int .i64 (k : Int)), (6, .ptr t 0), (12, .int .i64 (i : Int)), (14, .bool (decide ((((List.range l.length).countP (newP l i) : Nat) : Int) < (k : Int)))), (15, .int .i64 (((List.range (j + 1)).countP (newP l i) : Nat) : Int)), (16, .int .i64 ((j + 1 : Nat) : Int))] (.cons .refl (.cons .refl (.cons .refl (.cons .refl (.cons .refl (.cons .refl (.cons .refl (.nil)))))))) ?_
          exact next2 (j + 1) (by omega) h2
        by_cases c2 : l[j] = l[i]
        · by_cases c3 : i < j
          · have hnp : newP l i j = true := by simp [newP, ti, tj, c2, c3]
            have wc : IntKind.i64.wrap ((((List.range j).countP (newP l i) : Nat) : Int) + 1) = (((List.range (j + 1)).countP (newP l i) : Nat) : Int) := by rw [hcs, hnp, if_pos rfl]; exact wrap_succ (by omega)
            repeat' (first|refine Go.a rfl ?_|refine Go.rg ?_|refine GoR.nil ?_|refine Go.ret ?_|refine Go.b rfl ?_|refine Go.rgS dmx (by decide) ?_|refine Go.rgD [4, 8, 15, 16] (fun _ => True) dmx (by decide) 20 (by decide) (by trivial) ?_|refine GoW.nil rfl ?_|((first|refine GoR.o (by rfl) (by rfl) ?_|refine GoW.o (by rfl) (by rfl) ?_|refine GoW.rd (by rfl) (by rfl) ?_);(conv => arg 1;simp only [G,Z,Y,Gx,un_neg,cutD,decide_true,decide_false,simprocAttr,fb2,fb3,fb4,fb5,fb9,fb22,fb24,fb30,fb31,fb33,fb34,dj, a1, at0, decide_eq_false c1, show (l[j] == l[i]) = true by simpa using c2, show decide ((i : Int) < (j : Int)) = true by simp; omega, wc, wrap_succ (show j < 4611686018427387904 by omega)]);first|show GoR ..|(show _ ∧ GoW ..;refine ⟨by exact fun _ => trivial,?_⟩)|(show _ ∧ _ ∧ _ ∧ GoW ..;refine ⟨rfl,by trivial,(fun H _=>by simp only [G,Z,Y,Gx,un_neg,cutD,decide_true,decide_false,simprocAttr,fb2,fb3,fb4,fb5,fb9,fb22,fb24,fb30,fb31,fb33,fb34,dj, a1, at0, decide_eq_false c1, show (l[j] == l[i]) = true by simpa using c2, show decide ((i : Int) < (j : Int)) = true by simp; omega, wc, wrap_succ (show j < 4611686018427387904 by omega)]),?_⟩))|refine GoR.s (by rfl) rfl rfl ?_|refine GoW.s (by rfl) rfl rfl (by exact fun _ => trivial) ?_|(refine GoR.splitG rfl (fun hc => ?_) (fun hc => ?_) <;> simp only [hc])|refine Go.condB rfl (fun hc => ?_) (fun hc => ?_))
            refine Go.lpN ?_
            refine Go.keep [(1, .sl none 1 l.length (bytesD l)), (5, .int .i64 (k : Int)), (6, .ptr t 0), (12, .int .i64 (i : Int)), (14, .bool (decide ((((List.range l.length).countP (newP l i) : Nat) : Int) < (k : Int)))), (15, .int .i64 (((List.range (j + 1)).countP (newP l i) : Nat) : Int)), (16, .int .i64 ((j + 1 : Nat) : Int))] (.cons .refl (.cons .refl (.cons .refl (.cons .refl (.cons .refl (.cons .refl (.cons .refl (.nil)))))))) ?_
            exact next2 (j + 1) (by omega) h2
          · have hnp : newP l i j = false := by simp [newP, ti, tj, c2, c3]
            replace hcs : (List.range (j + 1)).countP (newP l i) = (List.range j).countP (newP l i) := by rw [hcs, hnp]; rfl
            repeat' (first|refine Go.a rfl ?_|refine Go.rg ?_|refine GoR.nil ?_|refine Go.ret ?_|refine Go.b rfl ?_|refine Go.rgS dmx (by decide) ?_|refine Go.rgD [4, 8, 15, 16] (fun _ => True) dmx (by decide) 20 (by decide) (by trivial) ?_|refine GoW.nil rfl ?_|((first|refine GoR.o (by rfl) (by rfl) ?_|refine GoW.o (by rfl) (by rfl) ?_|refine GoW.rd (by rfl) (by rfl) ?_);(conv => arg 1;simp only [G,Z,Y,Gx,un_neg,cutD,decide_true,decide_false,simprocAttr,fb2,fb3,fb4,fb5,fb9,fb22,fb24,fb30,fb31,fb33,fb34,dj, a1, at0, decide_eq_false c1, show (l[j] == l[i]) = true by simpa using c2, show decide ((i : Int) < (j : Int)) = false by simp; omega, wrap_succ (show j < 4611686018427387904 by omega)]);first|show GoR ..|(show _ ∧ GoW ..;refine ⟨by exact fun _ => trivial,?_⟩)|(show _ ∧ _ ∧ _ ∧ GoW ..;refine ⟨rfl,by trivial,(fun H _=>by simp only [G,Z,Y,Gx,un_neg,cutD,decide_true,decide_false,simprocAttr,fb2,fb3,fb4,fb5,fb9,fb22,fb24,fb30,fb31,fb33,fb34,dj, a1, at0, decide_eq_false c1, show (l[j] == l[i]) = true by simpa using c2, show decide ((i : Int) < (j : Int)) = false by simp; omega, wrap_succ (show j < 4611686018427387904 by omega)]),?_⟩))|refine GoR.s (by rfl) rfl rfl ?_|refine GoW.s (by rfl) rfl rfl (by exact fun _ => trivial) ?_|(refine GoR.splitG rfl (fun hc => ?_) (fun hc => ?_) <;> simp only [hc])|refine Go.condB rfl (fun hc => ?_) (fun hc => ?_))
            refine Go.lpN ?_
            rw [← hcs]
            refine Go.keep [(1, .sl none 1 l.length (bytesD l)), (5, .int .i64 (k : Int)), (6, .ptr t 0), (12, .int .i64 (i : Int)), (14, .bool (decide ((((List.range l.length).countP (newP l i) : Nat) : Int) < (k : Int)))), (15, .int .i64 (((List.range (j + 1)).countP (newP l i) : Nat) : Int)), (16, .int .i64 ((j + 1 : Nat) : Int))] (.cons .refl (.cons .refl (.cons .refl (.cons .refl (.cons .refl (.cons .refl (.cons .refl (.nil)))))))) ?_
            exact next2 (j + 1) (by omega) h2
        · have hnp : newP l i j = false := by
            have hc1 : decide (l[i] < l[j]) = false := decide_eq_false c1
            simp [newP, ti, tj, c2, hc1]
          replace hcs : (List.range (j + 1)).countP (newP l i) = (List.range j).countP (newP l i) := by rw [hcs, hnp]; rfl
          repeat' (first|refine Go.a rfl ?_|refine Go.rg ?_|refine GoR.nil ?_|refine Go.ret ?_|refine Go.b rfl ?_|refine Go.rgS dmx (by decide) ?_|refine Go.rgD [4, 8, 15, 16] (fun _ => True) dmx (by decide) 20 (by decide) (by trivial) ?_|refine GoW.nil rfl ?_|((first|refine GoR.o (by rfl) (by rfl) ?_|refine GoW.o (by rfl) (by rfl) ?_|refine GoW.rd (by rfl) (by rfl) ?_);(conv => arg 1;simp only [G,Z,Y,Gx,un_neg,cutD,decide_true,decide_false,simprocAttr,fb2,fb3,fb4,fb5,fb9,fb22,fb24,fb30,fb31,fb33,fb34,dj, a1, at0, decide_eq_false c1, show (l[j] == l[i]) = false by simpa using c2, wrap_succ (show j < 4611686018427387904 by omega)]);first|show GoR ..|(show _ ∧ GoW ..;refine ⟨by exact fun _ => trivial,?_⟩)|(show _ ∧ _ ∧ _ ∧ GoW ..;refine ⟨rfl,by trivial,(fun H _=>by simp only [G,Z,Y,Gx,un_neg,cutD,decide_true,decide_false,simprocAttr,fb2,fb3,fb4,fb5,fb9,fb22,fb24,fb30,fb31,fb33,fb34,dj, a1, at0, decide_eq_false c1, show (l[j] == l[i]) = false by simpa using c2, wrap_succ (show j < 4611686018427387904 by omega)]),?_⟩))|refine GoR.s (by rfl) rfl rfl ?_|refine GoW.s (by rfl) rfl rfl (by exact fun _ => trivial) ?_|(refine GoR.splitG rfl (fun hc => ?_) (fun hc => ?_) <;> simp only [hc])|refine Go.condB rfl (fun hc => ?_) (fun hc => ?_))
          refine Go.lpN ?_
          rw [← hcs]
          refine Go.keep [(1, .sl none 1 l.length (bytesD l)), (5, .int .i64 (k : Int)), (6, .ptr t 0), (12, .int .i64 (i : Int)), (14, .bool (decide ((((List.range l.length).countP (newP l i) : Nat) : Int) < (k : Int)))), (15, .int .i64 (((List.range (j + 1)).countP (newP l i) : Nat) : Int)), (16, .int .i64 ((j + 1 : Nat) : Int))] (.cons .refl (.cons .refl (.cons .refl (.cons .refl (.cons .refl (.cons .refl (.cons .refl (.nil)))))))) ?_
          exact next2 (j + 1) (by omega) h2
      · clear next2
        obtain rfl : j = l.length := by omega
        have hT2 := hT.app [.own, .obj x.c]
        repeat' (first|refine Go.a rfl ?_|refine Go.rg ?_|refine GoR.nil ?_|refine Go.ret ?_|refine Go.b rfl ?_|refine Go.rgS dmx (by decide) ?_|refine Go.rgD [4, 8, 15, 16] (fun _ => True) dmx (by decide) 20 (by decide) (by trivial) ?_|refine GoW.nil rfl ?_|((first|refine GoR.o (by rfl) (by rfl) ?_|refine GoW.o (by rfl) (by rfl) ?_|refine GoW.rd (by rfl) (by rfl) ?_);(conv => arg 1;simp only [G,Z,Y,Gx,un_neg,cutD,decide_true,decide_false,simprocAttr,fb2,fb3,fb4,fb5,fb9,fb22,fb24,fb30,fb31,fb33,fb34,show decide ((l.length : Int) < (l.length : Int)) = false by simp, bne_self_eq_false, wrap_succ (show i < 4611686018427387904 by omega)]);first|show GoR ..|(show _ ∧ GoW ..;refine ⟨by exact fun _ => trivial,?_⟩)|(show _ ∧ _ ∧ _ ∧ GoW ..;refine ⟨rfl,by trivial,(fun H _=>by simp only [G,Z,Y,Gx,un_neg,cutD,decide_true,decide_false,simprocAttr,fb2,fb3,fb4,fb5,fb9,fb22,fb24,fb30,fb31,fb33,fb34,show decide ((l.length : Int) < (l.length : Int)) = false by simp, bne_self_eq_false, wrap_succ (show i < 4611686018427387904 by omega)]),?_⟩))|refine GoR.s (by rfl) rfl rfl ?_|refine GoW.s (by rfl) rfl rfl (by exact fun _ => trivial) ?_|(refine GoR.splitG rfl (fun hc => ?_) (fun hc => ?_) <;> simp only [hc])|refine Go.condB rfl (fun hc => ?_) (fun hc => ?_))
        refine Go.lpN ?_
        refine Go.keep [(1, .sl none 1 l.length (bytesD l)), (5, .int .i64 (k : Int)), (6, .ptr t 0), (12, .int .i64 ((i + 1 : Nat) : Int))] (.cons .refl (.cons .refl (.cons .refl (.cons .refl (.nil))))) ?_
        exact next (i + 1, _) (by dsimp only; omega) ⟨h1, hT2⟩
    · clear next
      obtain rfl : i = l.length := by omega
      obtain ⟨Eg, hEg⟩ := hT.fr.pre (by simp)
      repeat' (first|refine Go.a rfl ?_|refine Go.rg ?_|refine GoR.nil ?_|refine Go.ret ?_|refine Go.b rfl ?_|refine Go.rgS dmx (by decide) ?_|refine Go.rgD [4, 8, 15, 16] (fun _ => True) dmx (by decide) 20 (by decide) (by trivial) ?_|refine GoW.nil rfl ?_|((first|refine GoR.o (by rfl) (by rfl) ?_|refine GoW.o (by rfl) (by rfl) ?_|refine GoW.rd (by rfl) (by rfl) ?_);(conv => arg 1;simp only [G,Z,Y,Gx,un_neg,cutD,decide_true,decide_false,simprocAttr,fb2,fb3,fb4,fb5,fb9,fb22,fb24,fb30,fb31,fb33,fb34,show decide ((l.length : Int) < (l.length : Int)) = false by simp]);first|show GoR ..|(show _ ∧ GoW ..;refine ⟨by exact fun _ => trivial,?_⟩)|(show _ ∧ _ ∧ _ ∧ GoW ..;refine ⟨rfl,by trivial,(fun H _=>by simp only [G,Z,Y,Gx,un_neg,cutD,decide_true,decide_false,simprocAttr,fb2,fb3,fb4,fb5,fb9,fb22,fb24,fb30,fb31,fb33,fb34,show decide ((l.length : Int) < (l.length : Int)) = false by simp]),?_⟩))|refine GoR.s (by rfl) rfl rfl ?_|refine GoW.s (by rfl) rfl rfl (by exact fun _ => trivial) ?_|(refine GoR.splitG rfl (fun hc => ?_) (fun hc => ?_) <;> simp only [hc])|refine Go.condB rfl (fun hc => ?_) (fun hc => ?_))
      refine ⟨(by first | exact .inl rfl | exact .inr rfl), fin ?_⟩
      rw [resD_tmp (fn := Tryd.f3) rfl]
      simp only [optThen_some,resultD_tmp,resultD_cell,G,Z,Y,Gx,un_neg,cutD,decide_true,decide_false,simprocAttr,fb2,fb3,fb4,fb5,fb9,fb22,fb24,fb30,fb31,fb33,fb34]
      exact ⟨_, Eg, hEg, .bool, rfl⟩
end Go.Proofs.DuT
