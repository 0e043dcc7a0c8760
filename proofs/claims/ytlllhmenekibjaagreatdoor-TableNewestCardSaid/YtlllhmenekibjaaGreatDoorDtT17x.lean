/- The law TableNewest. -/
import Derived.Test.YtlllhmenekibjaaGreatDoorDtT10x
set_option linter.unusedSimpArgs false
set_option linter.unusedVariables false
namespace Go.Proofs.DtT
open Go Go.DM Go.Proofs.DtF
set_option maxRecDepth 100000

/-- What is there of rows that were put. -/
structure NewI (p : Rw → Prop) (n : Nat) (cur : List Rw) : Prop where
  ok : OkT cur
  len : cur.length ≤ n
  mem : ∀ r ∈ cur, p r
  top : ∀ r, p r → ∃ o, lookK Rw.key cur r.key = some o ∧ ¬ ltSt o.st r.st
theorem NewI.nil {p : Rw → Prop} (h : ∀ r, ¬ p r) : NewI p 0 [] := ⟨.nil, Nat.le_refl _, by simp, fun r hr => absurd hr (h r)⟩
theorem NewI.put {p q : Rw → Prop} {n : Nat} {cur : List Rw} (h : NewI p n cur) (hn : n < 64) {r : Rw} (hc : chkR r = 0) (hr : OkR r) (hq : ∀ x, q x ↔ p x ∨ x = r) : NewI q (n + 1) (putT 64 cur r).1 := by
  have hl := h.len
  have hok := h.ok.putT (most := 64) (by omega) hr
  have hput : NewI q (n + 1) (putK Rw.key cur r) ∨ ¬ (∀ o, lookK Rw.key cur r.key = some o → 0 < cmpSt r.st o.st) := by
    by_cases ha : ∀ o, lookK Rw.key cur r.key = some o → 0 < cmpSt r.st o.st
    rotate_left
    · exact .inr ha
    refine .inl ⟨h.ok.put (by omega) hr, by rw [lenK_put h.ok.rise]; split <;> omega, fun x hx => ?_, fun x hx => ?_⟩
    · rcases memK_put h.ok.rise hx with hx | rfl
      · exact (hq _).2 (.inl (h.mem _ hx))
      · exact (hq _).2 (.inr rfl)
    · by_cases hk : r.key = x.key
      · refine ⟨r, by rw [← hk]; exact lookK_put h.ok.rise r, ?_⟩
        rcases (hq _).1 hx with hp | rfl
        · obtain ⟨o, h1, h2⟩ := h.top x hp
          rw [← hk] at h1
          have h3 := cmpSt_pos.1 (ha o h1)
          exact fun h4 => h2 (ltSt_trans h3 h4)
        · exact ltSt_irrefl _
      · rw [lookK_put_ne h.ok.rise r hk]
        rcases (hq _).1 hx with hp | rfl
        · exact h.top x hp
        · exact absurd rfl hk
  cases hl : lookK Rw.key cur r.key with
  | none =>
    rw [putT_new hc hl (by have := h.len; omega)]
    rcases hput with hp | hp
    · exact hp
    · exact absurd (fun o e => by rw [hl] at e; cases e) hp
  | some o =>
    by_cases hn : 0 < cmpSt r.st o.st
    · rw [putT_newer hc hl hn]
      rcases hput with hp | hp
      · exact hp
      · exact absurd (fun o' e => by rw [hl] at e; cases e; exact hn) hp
    · rw [putT_old hc hl hn]
      refine ⟨h.ok, by have := h.len; dsimp only; omega, fun x hx => (hq _).2 (.inl (h.mem x hx)), fun x hx => ?_⟩
      rcases (hq _).1 hx with hp | rfl
      · exact h.top x hp
      · exact ⟨o, hl, fun hlt => hn (cmpSt_pos.2 hlt)⟩
/-- Of each key one is the newest. -/
def OneEach (l : List Rw) (i : Nat) : Prop := ∀ j (hj : j < l.length), j < i → ∀ k (hk : k < l.length), k < j → l[k].key = l[j].key → ¬ cmpSt l[k].st l[j].st = 0
theorem NewI.ext {l a b : List Rw} {n m : Nat} (ho : OneEach l l.length) (ha : NewI (· ∈ l) n a) (hb : NewI (· ∈ l) m b) : a = b := by
  refine extK ha.ok.rise hb.ok.rise fun s => ?_
  have one : ∀ x ∈ l, ∀ y ∈ l, x.key = y.key → ¬ ltSt x.st y.st → ¬ ltSt y.st x.st → x = y := fun x hx y hy hk h1 h2 => by
    obtain ⟨i, hi, rfl⟩ := List.mem_iff_getElem.1 hx
    obtain ⟨j, hj, rfl⟩ := List.mem_iff_getElem.1 hy
    have e : l[i].st = l[j].st := by
      rcases ltSt_total l[i].st l[j].st with h | h | h
      · exact absurd h h1
      · exact h
      · exact absurd h h2
    rcases Nat.lt_trichotomy i j with h | rfl | h
    · exact absurd (cmpSt_zero.2 e) (ho j hj hj i hi h hk)
    · rfl
    · exact absurd (cmpSt_zero.2 e.symm) (ho i hi hi j hj h hk.symm)
  cases hq : lookK Rw.key a s with
  | some x =>
    obtain ⟨hx, rfl⟩ := lookK_mem hq
    obtain ⟨y, hy, h1⟩ := hb.top x (ha.mem x hx)
    obtain ⟨hy2, hk⟩ := lookK_mem hy
    obtain ⟨z, hz, h2⟩ := ha.top y (hb.mem y hy2)
    rw [hk, hq] at hz
    cases hz
    rw [hy, one x (ha.mem x hx) y (hb.mem y hy2) hk.symm h2 h1]
  | none =>
    cases hq2 : lookK Rw.key b s with
    | none => rfl
    | some y =>
      obtain ⟨hy, rfl⟩ := lookK_mem hq2
      obtain ⟨z, hz, _⟩ := ha.top y (hb.mem y hy)
      rw [hz] at hq
      cases hq
theorem turn_all {n t : Nat} (j : Nat) (hj : j < n) : ∃ i, i < n ∧ (i + t) % n = j := by
  have hn : 0 < n := by omega
  have ht : t % n < n := Nat.mod_lt _ hn
  refine ⟨(j + (n - t % n)) % n, Nat.mod_lt _ hn, ?_⟩
  have e : j + (n - t % n) + t = j + n * (t / n + 1) := by have := Nat.div_add_mod t n; rw [Nat.mul_add]; omega
  rw [Nat.mod_add_mod, e, Nat.add_mul_mod_self_left]
  exact Nat.mod_eq_of_lt hj
/-- The rows that the second table has been handed. -/
def inTurn (l : List Rw) (t i : Nat) (r : Rw) : Prop := ∃ j, j < i ∧ l[(j + t) % l.length]? = some r
theorem inTurn_succ {l : List Rw} {t i : Nat} (h : (i + t) % l.length < l.length) (r : Rw) : inTurn l t (i + 1) r ↔ inTurn l t i r ∨ r = l[(i + t) % l.length] := by
  constructor
  · rintro ⟨j, hj, e⟩
    rcases Nat.lt_or_ge j i with h1 | h1
    · exact .inl ⟨j, h1, e⟩
    · obtain rfl : j = i := by omega
      rw [List.getElem?_eq_getElem h] at e
      exact .inr (Option.some.inj e).symm
  · rintro (⟨j, hj, e⟩ | rfl)
    · exact ⟨j, by omega, e⟩
    · exact ⟨i, by omega, List.getElem?_eq_getElem h⟩
theorem inTurn_all {l : List Rw} {t : Nat} (r : Rw) : inTurn l t l.length r ↔ r ∈ l := by
  constructor
  · rintro ⟨j, _, e⟩
    exact List.mem_of_getElem? e
  · intro h
    obtain ⟨j, hj, rfl⟩ := List.mem_iff_getElem.1 h
    obtain ⟨i, hi, e⟩ := turn_all (t := t) j hj
    exact ⟨i, hi, by rw [e]; exact List.getElem?_eq_getElem hj⟩
theorem take_succ_mem {l : List Rw} {i : Nat} (h : i < l.length) (r : Rw) : r ∈ l.take (i + 1) ↔ r ∈ l.take i ∨ r = l[i] := by
  rw [List.take_succ_eq_append_getElem h, List.mem_append, List.mem_singleton]
theorem NewI.congr {p q : Rw → Prop} {n : Nat} {cur : List Rw} (h : NewI p n cur) (e : ∀ r, p r ↔ q r) : NewI q n cur := ⟨h.ok, h.len, fun r hr => (e r).1 (h.mem r hr), fun r hr => h.top r ((e r).2 hr)⟩
theorem Tab0.kept {S S1 S2 TA TB a b ma mb} (hb : Tab0 S S1 TB mb b) (ha : Tab0 S S2 TA ma a) (h : TabAt S2 TB mb b) : Tab0 S S2 TB mb b := ⟨h, hb.ok, hb.lo, ha.fr⟩
set_option maxHeartbeats 8000000 in
theorem lawNewest (l : List Rw) (turn : Int) (ht : 0 ≤ turn ∧ turn < 256) (S : Mem) : CallD Tryz.prog O 4 [.sl none 6 l.length (rowsC l), .int .u8 turn] S fun d S' => S' = S ∧ d = .bool true := by
  have hfw := fun S => fewRows (orc := O) l S
  obtain ⟨tn, rfl⟩ := Int.eq_ofNat_of_zero_le ht.1
  refine CallD.e Tryz.func4 rfl Tryz.ntmps4 (by rfl) ?_
  by_cases h60 : 60 < l.length
  · repeat' (first|refine Go.a rfl ?_|refine Go.rg ?_|refine GoR.nil ?_|refine Go.ret ?_|refine Go.b rfl ?_|refine Go.rgS dmx (by decide) ?_|(refine GoR.o (by rfl) (by rfl) ?_;(conv => arg 1;simp only [G,Z,Y,Gx,un_neg,cutD,decide_true,decide_false,simprocAttr,fb2,fb3,fb5,fb9,fb32,fb33,fb35,fb62,show decide (60 < (l.length : Int)) = true by simp; omega]);show GoR ..)|(refine GoR.c c7 (by rfl) (by rfl) rfl ?_;(refine (known _).ret ?_))|refine GoR.s (by rfl) rfl rfl ?_|(refine GoR.splitG rfl (fun hc => ?_) (fun hc => ?_) <;> simp only [hc])|refine Go.condB rfl (fun hc => ?_) (fun hc => ?_))
    refine ⟨(by first | exact .inl rfl | exact .inr rfl), fin ?_⟩
    rw [resD_tmp (fn := Tryz.f4) rfl]
    simp only [optThen_some,resultD_tmp,resultD_cell,G,Z,Y,Gx,un_neg,cutD,decide_true,decide_false,simprocAttr,fb2,fb3,fb5,fb9,fb32,fb33,fb35,fb62]
    exact ⟨_, [], by simp, .bool, rfl⟩
  have d60 : decide (60 < (l.length : Int)) = false := by simp; omega
  cases hfe : (decide (l.length ≤ 70) && l.all fewR) with
  | false =>
    rw [hfe] at hfw
    repeat' (first|refine Go.a rfl ?_|refine Go.rg ?_|refine GoR.nil ?_|refine Go.ret ?_|refine Go.b rfl ?_|refine Go.rgS dmx (by decide) ?_|(refine GoR.o (by rfl) (by rfl) ?_;(conv => arg 1;simp only [G,Z,Y,Gx,un_neg,cutD,decide_true,decide_false,simprocAttr,fb2,fb3,fb5,fb9,fb32,fb33,fb35,fb62,d60]);show GoR ..)|(refine GoR.c c7 (by rfl) (by rfl) rfl ?_;(refine (known _).ret ?_))|(refine GoR.c c23 (by rfl) (by rfl) rfl ?_;(refine (hfw _).ret ?_))|refine GoR.s (by rfl) rfl rfl ?_|(refine GoR.splitG rfl (fun hc => ?_) (fun hc => ?_) <;> simp only [hc])|refine Go.condB rfl (fun hc => ?_) (fun hc => ?_))
    refine ⟨(by first | exact .inl rfl | exact .inr rfl), fin ?_⟩
    rw [resD_tmp (fn := Tryz.f4) rfl]
    simp only [optThen_some,resultD_tmp,resultD_cell,G,Z,Y,Gx,un_neg,cutD,decide_true,decide_false,simprocAttr,fb2,fb3,fb5,fb9,fb32,fb33,fb35,fb62]
    exact ⟨_, [], by simp, .bool, rfl⟩
  | true =>
  rw [hfe] at hfw
  have hall : ∀ i (h : i < l.length), FewR l[i] ∧ OkR l[i] := fun i h => fewR_ok (by
    simp only [Bool.and_eq_true, List.all_eq_true] at hfe
    exact hfe.2 _ (List.getElem_mem h))
  clear hfe
  repeat' (first|refine Go.a rfl ?_|refine Go.rg ?_|refine GoR.nil ?_|refine Go.ret ?_|refine Go.b rfl ?_|refine Go.rgS dmx (by decide) ?_|(refine GoR.o (by rfl) (by rfl) ?_;(conv => arg 1;simp only [G,Z,Y,Gx,un_neg,cutD,decide_true,decide_false,simprocAttr,fb2,fb3,fb5,fb9,fb32,fb33,fb35,fb62,d60]);show GoR ..)|(refine GoR.c c7 (by rfl) (by rfl) rfl ?_;(refine (known _).ret ?_))|(refine GoR.c c23 (by rfl) (by rfl) rfl ?_;(refine (hfw _).ret ?_))|(refine GoR.c c8 (by rfl) (by rfl) rfl ?_;(refine (new0 (S0 := S) (most := 64) (by decide) (by decide) .refl).mono ?_; rintro _ S1 ⟨A, rfl, hA1, hf1, hA2⟩))|refine GoR.s (by rfl) rfl rfl ?_)
  have hnb := new0 (orc := O) (S0 := S) (most := 64) (by decide) (by decide) hA1.fr
  repeat' (first|refine Go.a rfl ?_|refine Go.rg ?_|refine GoR.nil ?_|refine Go.ret ?_|refine Go.b rfl ?_|refine Go.rgS dmx (by decide) ?_|(refine GoR.o (by rfl) (by rfl) ?_;(conv => arg 1;simp only [G,Z,Y,Gx,un_neg,cutD,decide_true,decide_false,simprocAttr,fb2,fb3,fb5,fb9,fb32,fb33,fb35,fb62]);show GoR ..)|(refine GoR.c c8 (by rfl) (by rfl) rfl ?_;(refine hnb.mono ?_; rintro _ S2 ⟨B, rfl, hB, hf2, hB2⟩))|refine GoR.s (by rfl) rfl rfl ?_|(refine GoR.splitG rfl (fun hc => ?_) (fun hc => ?_) <;> simp only [hc])|refine Go.condB rfl (fun hc => ?_) (fun hc => ?_))
  have hA := hA1.grow hf2
  have hAB : ∀ o ∈ B.own, o ∉ A.own := fun o ho hx => by
    have := hA1.tab.lt o hx
    have := hB2 o ho
    omega
  clear hnb hf1 hA1 hA2 hf2 hB2
  obtain ⟨Eg, hEg⟩ := hA.fr.pre (by simp)
  refine Go.keep [(0, .sl none 6 l.length (rowsC l)), (1, .int .u8 (tn : Int)), (5, .ptr A.t 0), (7, .ptr B.t 0), (9, .int .i64 ((0 : Nat) : Int))] (.cons .refl (.cons .refl (.cons .refl (.cons .refl (.cons .refl (.nil)))))) ?_
  refine Go.while (α := Nat) (fun i => l.length - i) (fun i => [(0, .sl none 6 l.length (rowsC l)), (1, .int .u8 (tn : Int)), (5, .ptr A.t 0), (7, .ptr B.t 0), (9, .int .i64 (i : Int))]) (fun _ => S2)
    (fun i => i ≤ l.length ∧ (∀ j (h : j < l.length), j < i → chkR l[j] = 0) ∧ OneEach l i) ?_ 0 ⟨Nat.zero_le _, by simp, fun j hj h => by omega⟩
  rintro i ⟨hi, hck, hone⟩ next
  by_cases h1 : i < l.length
  · have dl : decide ((i : Int) < (l.length : Int)) = true := by simp; omega
    have at1 := rowsAt h1
    have h4 := fun S => of4 (orc := O) l[i] (by have := (hall i h1).2.len; omega) S
    have hch := fun S => refCheck l[i] (hall i h1).1 S
    by_cases hc : chkR l[i] = 0
    rotate_left
    · clear next
      simp only [Rw.c] at *
      repeat' (first|refine Go.a rfl ?_|refine Go.rg ?_|refine GoR.nil ?_|refine Go.ret ?_|refine Go.b rfl ?_|refine Go.rgS dmx (by decide) ?_|(refine GoR.o (by rfl) (by rfl) ?_;(conv => arg 1;simp only [G,Z,Y,Gx,un_neg,cutD,decide_true,decide_false,simprocAttr,fb2,fb3,fb5,fb9,fb32,fb33,fb35,fb62,dl, at1, show (chkR l[i] != 0) = true by simpa using hc]);show GoR ..)|(refine GoR.c c11 (by rfl) (by rfl) rfl ?_;(refine (h4 _).ret ?_))|(refine GoR.c c24 (by rfl) (by rfl) rfl ?_;(refine (hch _).ret ?_))|refine GoR.s (by rfl) rfl rfl ?_|(refine GoR.splitG rfl (fun hc => ?_) (fun hc => ?_) <;> simp only [hc])|refine Go.condB rfl (fun hc => ?_) (fun hc => ?_))
      refine ⟨(by first | exact .inl rfl | exact .inr rfl), fin ?_⟩
      rw [resD_tmp (fn := Tryz.f4) rfl]
      simp only [optThen_some,resultD_tmp,resultD_cell,G,Z,Y,Gx,un_neg,cutD,decide_true,decide_false,simprocAttr,fb2,fb3,fb5,fb9,fb32,fb33,fb35,fb62]
      exact ⟨_, Eg, hEg, .bool, rfl⟩
    simp only [Rw.c] at at1 h4 hch
    repeat' (first|refine Go.a rfl ?_|refine Go.rg ?_|refine GoR.nil ?_|refine Go.ret ?_|refine Go.b rfl ?_|refine Go.rgS dmx (by decide) ?_|(refine GoR.o (by rfl) (by rfl) ?_;(conv => arg 1;simp only [G,Z,Y,Gx,un_neg,cutD,decide_true,decide_false,simprocAttr,fb2,fb3,fb5,fb9,fb32,fb33,fb35,fb62,dl, at1, hc, bne_self_eq_false]);show GoR ..)|(refine GoR.c c11 (by rfl) (by rfl) rfl ?_;(refine (h4 _).ret ?_))|(refine GoR.c c24 (by rfl) (by rfl) rfl ?_;(refine (hch _).ret ?_))|refine GoR.s (by rfl) rfl rfl ?_|(refine GoR.splitG rfl (fun hc => ?_) (fun hc => ?_) <;> simp only [hc])|refine Go.condB rfl (fun hc => ?_) (fun hc => ?_))
    refine Go.keep [(0, .sl none 6 l.length (rowsC l)), (1, .int .u8 (tn : Int)), (5, .ptr A.t 0), (7, .ptr B.t 0), (9, .int .i64 (i : Int)), (10, .int .i64 ((0 : Nat) : Int))] (.cons .refl (.cons .refl (.cons .refl (.cons .refl (.cons .refl (.cons .refl (.nil))))))) ?_
    refine Go.while (α := Nat) (fun k => i - k) (fun k => [(0, .sl none 6 l.length (rowsC l)), (1, .int .u8 (tn : Int)), (5, .ptr A.t 0), (7, .ptr B.t 0), (9, .int .i64 (i : Int)), (10, .int .i64 (k : Int))]) (fun _ => S2)
      (fun k => k ≤ i ∧ ∀ j (hj : j < l.length), j < k → l[j].key = l[i].key → ¬ cmpSt l[j].st l[i].st = 0) ?_ 0 ⟨Nat.zero_le _, by simp⟩
    rintro k ⟨hk, hq⟩ next2
    by_cases h2 : k < i
    · have dk : decide ((k : Int) < (i : Int)) = true := by simp; omega
      have h3 : k < l.length := by omega
      have a1 := (rowsAt h1).1
      have a2 := (rowsAt h3).1
      have hcs := fun S => compareSt (orc := O) l[k].st l[i].st S
      have k1 := rowKey h1
      have k2 := rowKey h3
      have s1 := rowSt h1
      have s2 := rowSt h3
      simp only [St.c] at hcs s1 s2
      by_cases he : l[k].key = l[i].key
      · by_cases hz : cmpSt l[k].st l[i].st = 0
        · clear next next2
          repeat' (first|refine Go.a rfl ?_|refine Go.rg ?_|refine GoR.nil ?_|refine Go.ret ?_|refine Go.b rfl ?_|refine Go.rgS dmx (by decide) ?_|(refine GoR.o (by rfl) (by rfl) ?_;(conv => arg 1;simp only [G,Z,Y,Gx,un_neg,cutD,decide_true,decide_false,simprocAttr,fb2,fb3,fb5,fb9,fb32,fb33,fb35,fb62,dk, a1, a2, k1, k2, s1, s2, decide_eq_true he, hz, beq_self_eq_true]);show GoR ..)|(refine GoR.c c25 (by rfl) (by rfl) rfl ?_;(refine (hcs _).ret ?_))|refine GoR.s (by rfl) rfl rfl ?_|(refine GoR.splitG rfl (fun hc => ?_) (fun hc => ?_) <;> simp only [hc])|refine Go.condB rfl (fun hc => ?_) (fun hc => ?_))
          refine ⟨(by first | exact .inl rfl | exact .inr rfl), fin ?_⟩
          rw [resD_tmp (fn := Tryz.f4) rfl]
          simp only [optThen_some,resultD_tmp,resultD_cell,G,Z,Y,Gx,un_neg,cutD,decide_true,decide_false,simprocAttr,fb2,fb3,fb5,fb9,fb32,fb33,fb35,fb62]
          exact ⟨_, Eg, hEg, .bool, rfl⟩
        · repeat' (first|refine Go.a rfl ?_|refine Go.rg ?_|refine GoR.nil ?_|refine Go.ret ?_|refine Go.b rfl ?_|refine Go.rgS dmx (by decide) ?_|(refine GoR.o (by rfl) (by rfl) ?_;(conv => arg 1;simp only [G,Z,Y,Gx,un_neg,cutD,decide_true,decide_false,simprocAttr,fb2,fb3,fb5,fb9,fb32,fb33,fb35,fb62,dk, a1, a2, k1, k2, s1, s2, decide_eq_true he, show (cmpSt l[k].st l[i].st == 0) = false by simpa using hz, wrap_succ (show k < 4611686018427387904 by omega)]);show GoR ..)|(refine GoR.c c25 (by rfl) (by rfl) rfl ?_;(refine (hcs _).ret ?_))|refine GoR.s (by rfl) rfl rfl ?_|(refine GoR.splitG rfl (fun hc => ?_) (fun hc => ?_) <;> simp only [hc])|refine Go.condB rfl (fun hc => ?_) (fun hc => ?_))
          refine Go.lpN ?_
          refine Go.keep [(0, .sl none 6 l.length (rowsC l)), (1, .int .u8 (tn : Int)), (5, .ptr A.t 0), (7, .ptr B.t 0), (9, .int .i64 (i : Int)), (10, .int .i64 ((k + 1 : Nat) : Int))] (.cons .refl (.cons .refl (.cons .refl (.cons .refl (.cons .refl (.cons .refl (.nil))))))) ?_
          refine next2 (k + 1) (by omega) ⟨h2, fun j hj hlt hkk => ?_⟩
          rcases Nat.lt_or_ge j k with h | h
          · exact hq j hj h hkk
          · obtain rfl : j = k := by omega
            exact hz
      · repeat' (first|refine Go.a rfl ?_|refine Go.rg ?_|refine GoR.nil ?_|refine Go.ret ?_|refine Go.b rfl ?_|refine Go.rgS dmx (by decide) ?_|(refine GoR.o (by rfl) (by rfl) ?_;(conv => arg 1;simp only [G,Z,Y,Gx,un_neg,cutD,decide_true,decide_false,simprocAttr,fb2,fb3,fb5,fb9,fb32,fb33,fb35,fb62,dk, a1, a2, k1, k2, s1, s2, decide_eq_false he, wrap_succ (show k < 4611686018427387904 by omega)]);show GoR ..)|(refine GoR.c c25 (by rfl) (by rfl) rfl ?_;(refine (hcs _).ret ?_))|refine GoR.s (by rfl) rfl rfl ?_|(refine GoR.splitG rfl (fun hc => ?_) (fun hc => ?_) <;> simp only [hc])|refine Go.condB rfl (fun hc => ?_) (fun hc => ?_))
        refine Go.lpN ?_
        refine Go.keep [(0, .sl none 6 l.length (rowsC l)), (1, .int .u8 (tn : Int)), (5, .ptr A.t 0), (7, .ptr B.t 0), (9, .int .i64 (i : Int)), (10, .int .i64 ((k + 1 : Nat) : Int))] (.cons .refl (.cons .refl (.cons .refl (.cons .refl (.cons .refl (.cons .refl (.nil))))))) ?_
        refine next2 (k + 1) (by omega) ⟨h2, fun j hj hlt hkk => ?_⟩
        rcases Nat.lt_or_ge j k with h | h
        · exact hq j hj h hkk
        · obtain rfl : j = k := by omega
          exact absurd hkk he
    · clear next2
      obtain rfl : k = i := by omega
      repeat' (first|refine Go.a rfl ?_|refine Go.rg ?_|refine GoR.nil ?_|refine Go.ret ?_|refine Go.b rfl ?_|refine Go.rgS dmx (by decide) ?_|(refine GoR.o (by rfl) (by rfl) ?_;(conv => arg 1;simp only [G,Z,Y,Gx,un_neg,cutD,decide_true,decide_false,simprocAttr,fb2,fb3,fb5,fb9,fb32,fb33,fb35,fb62,show decide ((k : Int) < (k : Int)) = false by simp, wrap_succ (show k < 4611686018427387904 by omega)]);show GoR ..)|refine GoR.s (by rfl) rfl rfl ?_|(refine GoR.splitG rfl (fun hc => ?_) (fun hc => ?_) <;> simp only [hc])|refine Go.condB rfl (fun hc => ?_) (fun hc => ?_))
      refine Go.lpN ?_
      refine Go.keep [(0, .sl none 6 l.length (rowsC l)), (1, .int .u8 (tn : Int)), (5, .ptr A.t 0), (7, .ptr B.t 0), (9, .int .i64 ((k + 1 : Nat) : Int))] (.cons .refl (.cons .refl (.cons .refl (.cons .refl (.cons .refl (.nil)))))) ?_
      refine next (k + 1) (by omega) ⟨h1, fun j hj hlt => ?_, fun j hj hlt m hm hmj => ?_⟩
      · rcases Nat.lt_or_ge j k with h | h
        · exact hck j hj h
        · obtain rfl : j = k := by omega
          exact hc
      · rcases Nat.lt_or_ge j k with h | h
        · exact hone j hj h m hm hmj
        · obtain rfl : j = k := by omega
          exact hq m hm hmj
  clear next
  obtain rfl : i = l.length := by omega
  repeat' (first|refine Go.a rfl ?_|refine Go.rg ?_|refine GoR.nil ?_|refine Go.ret ?_|refine Go.b rfl ?_|refine Go.rgS dmx (by decide) ?_|(refine GoR.o (by rfl) (by rfl) ?_;(conv => arg 1;simp only [G,Z,Y,Gx,un_neg,cutD,decide_true,decide_false,simprocAttr,fb2,fb3,fb5,fb9,fb32,fb33,fb35,fb62,show decide ((l.length : Int) < (l.length : Int)) = false by simp]);show GoR ..)|refine GoR.s (by rfl) rfl rfl ?_|(refine GoR.splitG rfl (fun hc => ?_) (fun hc => ?_) <;> simp only [hc])|refine Go.condB rfl (fun hc => ?_) (fun hc => ?_))
  refine Go.keep [(0, .sl none 6 l.length (rowsC l)), (1, .int .u8 (tn : Int)), (5, .ptr A.t 0), (7, .ptr B.t 0), (11, .int .i64 ((0 : Nat) : Int))] (.cons .refl (.cons .refl (.cons .refl (.cons .refl (.cons .refl (.nil)))))) ?_
  refine Go.while (α := Nat × List Rw × List Rw × Tb × Tb × Mem) (fun x => l.length - x.1) (fun x => [(0, .sl none 6 l.length (rowsC l)), (1, .int .u8 (tn : Int)), (5, .ptr A.t 0), (7, .ptr B.t 0), (11, .int .i64 (x.1 : Int))]) (fun x => x.2.2.2.2.2)
    (fun x => x.1 ≤ l.length ∧ NewI (· ∈ l.take x.1) x.1 x.2.1 ∧ NewI (inTurn l tn x.1) x.1 x.2.2.1 ∧ x.2.2.2.1.t = A.t ∧ x.2.2.2.2.1.t = B.t ∧ Tab0 S x.2.2.2.2.2 x.2.2.2.1 64 x.2.1 ∧ Tab0 S x.2.2.2.2.2 x.2.2.2.2.1 64 x.2.2.1 ∧ ∀ o ∈ x.2.2.2.2.1.own, o ∉ x.2.2.2.1.own) ?_ (0, [], [], A, B, S2) ⟨Nat.zero_le _, .nil (by simp), .nil (by rintro r ⟨j, hj, _⟩; omega), rfl, rfl, hA, hB, hAB⟩
  have eA : A.t = A.t := rfl
  generalize hAt : A.t = At at *
  generalize hBt : B.t = Bt at *
  clear hA hB hAB hAt hBt eA Eg hEg
  rintro ⟨i, a, b, A, B, S1⟩ ⟨hi, na, nb, eA, eB, hA, hB, hAB⟩ next
  dsimp only at hi na nb eA eB hA hB hAB next
  by_cases h1 : i < l.length
  · have dl : decide ((i : Int) < (l.length : Int)) = true := by simp; omega
    have hm : (i + tn) % l.length < l.length := Nat.mod_lt _ (by omega)
    have at1 := rowsAt h1
    have at2 := rowsAt hm
    have g1 : IntKind.i64.wrap (tn : Int) = (tn : Int) := wrap64 (by omega) (by omega)
    have g2 : IntKind.i64.wrap ((i : Int) + (tn : Int)) = ((i + tn : Nat) : Int) := by rw [← Int.natCast_add]; exact wrap64 (by omega) (by omega)
    have g3 : Int.tmod ((i + tn : Nat) : Int) (l.length : Int) = (((i + tn) % l.length : Nat) : Int) := (Int.ofNat_tmod _ _).symm
    have g4 : (((l.length : Nat) : Int) = 0) = False := by simp; rintro rfl; simp at h1
    have cv := fun S n => conv_int (S := S) (k2 := .u8) (n := n) Tryz.underlying5 Tryz.underlying3
    obtain ⟨a', ea, hpa⟩ : ∃ a' e, putT 64 a l[i] = (a', e) := ⟨_, _, rfl⟩
    obtain ⟨b', eb, hpb⟩ : ∃ b' e, putT 64 b l[(i + tn) % l.length] = (b', e) := ⟨_, _, rfl⟩
    have na' : NewI (· ∈ l.take (i + 1)) (i + 1) a' := by
      have := na.put (q := (· ∈ l.take (i + 1))) (by omega) (hck i h1 h1) (hall i h1).2 (take_succ_mem h1)
      rwa [hpa] at this
    have nb' : NewI (inTurn l tn (i + 1)) (i + 1) b' := by
      have := nb.put (q := inTurn l tn (i + 1)) (by omega) (hck _ hm hm) (hall _ hm).2 (inTurn_succ hm)
      rwa [hpb] at this
    have hA1 := put0 hA eA (by have := na.len; omega) (by decide) l[i] (hall i h1).1 (hall i h1).2 hpa
    simp only [Rw.c] at at1 at2 hA1
    repeat' (first|refine Go.a rfl ?_|refine Go.rg ?_|refine GoR.nil ?_|refine Go.ret ?_|refine Go.b rfl ?_|refine Go.rgS dmx (by decide) ?_|(refine GoR.o (by rfl) (by rfl) ?_;(conv => arg 1;simp only [G,Z,Y,Gx,un_neg,cutD,decide_true,decide_false,simprocAttr,fb2,fb3,fb5,fb9,fb32,fb33,fb35,fb62,dl, at1]);show GoR ..)|(refine GoR.c c12 (by rfl) (by rfl) rfl ?_;(refine hA1.mono ?_; rintro _ S2 ⟨rfl, A2, eA2, hA2, hoth⟩))|refine GoR.s (by rfl) rfl rfl ?_|(refine GoR.splitG rfl (fun hc => ?_) (fun hc => ?_) <;> simp only [hc])|refine Go.condB rfl (fun hc => ?_) (fun hc => ?_))
    obtain ⟨kB, hAB2⟩ := hoth B _ _ hB.tab hAB
    have hB2 := Tab0.kept hB hA2 kB
    have hB3 := put0 hB2 eB (by have := nb.len; omega) (by decide) l[(i + tn) % l.length] (hall _ hm).1 (hall _ hm).2 hpb
    simp only [Rw.c] at hB3
    repeat' (first|refine Go.a rfl ?_|refine Go.rg ?_|refine GoR.nil ?_|refine Go.ret ?_|refine Go.b rfl ?_|refine Go.rgS dmx (by decide) ?_|(refine GoR.o (by rfl) (by rfl) ?_;(conv => arg 1;simp only [G,Z,Y,Gx,un_neg,cutD,decide_true,decide_false,simprocAttr,fb2,fb3,fb5,fb9,fb32,fb33,fb35,fb62,cv, g1, g2, g3, g4, at2, wrap_succ (show i < 4611686018427387904 by omega)]);show GoR ..)|(refine GoR.c c12 (by rfl) (by rfl) rfl ?_;(refine hB3.mono ?_; rintro _ S3 ⟨rfl, B2, eB2, hB4, hoth2⟩))|refine GoR.s (by rfl) rfl rfl ?_|(refine GoR.splitG rfl (fun hc => ?_) (fun hc => ?_) <;> simp only [hc])|refine Go.condB rfl (fun hc => ?_) (fun hc => ?_))
    obtain ⟨kA, hAB3⟩ := hoth2 A2 _ _ hA2.tab (fun o ho hx => hAB2 o hx ho)
    refine Go.lpN ?_
    refine Go.keep [(0, .sl none 6 l.length (rowsC l)), (1, .int .u8 (tn : Int)), (5, .ptr At 0), (7, .ptr Bt 0), (11, .int .i64 ((i + 1 : Nat) : Int))] (.cons .refl (.cons .refl (.cons .refl (.cons .refl (.cons .refl (.nil)))))) ?_
    exact next (i + 1, a', b', A2, B2, S3) (by dsimp only; omega) ⟨h1, na', nb', eA2, eB2, Tab0.kept hA2 hB4 kA, hB4, fun o ho hx => hAB3 o hx ho⟩
  clear next
  obtain rfl : i = l.length := by omega
  rw [List.take_length] at na
  obtain rfl := NewI.ext hone na (nb.congr inTurn_all)
  clear nb
  have hra := rows0 (orc := O) hA eA
  have hrb := rows0 (orc := O) hB eB
  have hok := hA.ok
  have hal := na.len
  obtain ⟨Eg, hEg⟩ := hA.fr.pre (by simp)
  repeat' (first|refine Go.a rfl ?_|refine Go.rg ?_|refine GoR.nil ?_|refine Go.ret ?_|refine Go.b rfl ?_|refine Go.rgS dmx (by decide) ?_|(refine GoR.o (by rfl) (by rfl) ?_;(conv => arg 1;simp only [G,Z,Y,Gx,un_neg,cutD,decide_true,decide_false,simprocAttr,fb2,fb3,fb5,fb9,fb32,fb33,fb35,fb62,show decide ((l.length : Int) < (l.length : Int)) = false by simp, bne_self_eq_false]);show GoR ..)|(refine GoR.c c26 (by rfl) (by rfl) rfl ?_;(first | (refine hra.ret ?_) | (refine hrb.ret ?_)))|refine GoR.s (by rfl) rfl rfl ?_|(refine GoR.splitG rfl (fun hc => ?_) (fun hc => ?_) <;> simp only [hc])|refine Go.condB rfl (fun hc => ?_) (fun hc => ?_))
  refine Go.keep [(0, .sl none 6 l.length (rowsC l)), (5, .ptr At 0), (12, .sl none 6 a.length (rowsC a)), (13, .sl none 6 a.length (rowsC a)), (14, .int .i64 ((0 : Nat) : Int))] (.cons .refl (.cons .refl (.cons .refl (.cons .refl (.cons .refl (.nil)))))) ?_
  refine Go.while (α := Nat) (fun i => a.length - i) (fun i => [(0, .sl none 6 l.length (rowsC l)), (5, .ptr At 0), (12, .sl none 6 a.length (rowsC a)), (13, .sl none 6 a.length (rowsC a)), (14, .int .i64 (i : Int))]) (fun _ => S1) (fun i => i ≤ a.length) ?_ 0 (Nat.zero_le _)
  intro i hi next
  by_cases h1 : i < a.length
  · have at1 := rowsAt h1
    have hr := hok.ok _ (List.getElem_mem h1)
    have hsr := fun S => rowSame (orc := O) a[i] a[i] (by have := hr.len; omega) hr.atl S
    rw [sameR_self] at hsr
    simp only [Rw.c] at at1 hsr
    repeat' (first|refine Go.a rfl ?_|refine Go.rg ?_|refine GoR.nil ?_|refine Go.ret ?_|refine Go.b rfl ?_|refine Go.rgS dmx (by decide) ?_|(refine GoR.o (by rfl) (by rfl) ?_;(conv => arg 1;simp only [G,Z,Y,Gx,un_neg,cutD,decide_true,decide_false,simprocAttr,fb2,fb3,fb5,fb9,fb32,fb33,fb35,fb62,show decide ((i : Int) < (a.length : Int)) = true by simp; omega, at1, wrap_succ (show i < 4611686018427387904 by omega)]);show GoR ..)|(refine GoR.c c27 (by rfl) (by rfl) rfl ?_;(refine (hsr _).ret ?_))|refine GoR.s (by rfl) rfl rfl ?_|(refine GoR.splitG rfl (fun hc => ?_) (fun hc => ?_) <;> simp only [hc])|refine Go.condB rfl (fun hc => ?_) (fun hc => ?_))
    refine Go.lpN ?_
    refine Go.keep [(0, .sl none 6 l.length (rowsC l)), (5, .ptr At 0), (12, .sl none 6 a.length (rowsC a)), (13, .sl none 6 a.length (rowsC a)), (14, .int .i64 ((i + 1 : Nat) : Int))] (.cons .refl (.cons .refl (.cons .refl (.cons .refl (.cons .refl (.nil)))))) ?_
    exact next (i + 1) (by omega) h1
  clear next
  obtain rfl : i = a.length := by omega
  repeat' (first|refine Go.a rfl ?_|refine Go.rg ?_|refine GoR.nil ?_|refine Go.ret ?_|refine Go.b rfl ?_|refine Go.rgS dmx (by decide) ?_|(refine GoR.o (by rfl) (by rfl) ?_;(conv => arg 1;simp only [G,Z,Y,Gx,un_neg,cutD,decide_true,decide_false,simprocAttr,fb2,fb3,fb5,fb9,fb32,fb33,fb35,fb62,show decide ((a.length : Int) < (a.length : Int)) = false by simp]);show GoR ..)|refine GoR.s (by rfl) rfl rfl ?_|(refine GoR.splitG rfl (fun hc => ?_) (fun hc => ?_) <;> simp only [hc])|refine Go.condB rfl (fun hc => ?_) (fun hc => ?_))
  refine Go.keep [(0, .sl none 6 l.length (rowsC l)), (5, .ptr At 0), (15, .int .i64 ((0 : Nat) : Int))] (.cons .refl (.cons .refl (.cons .refl (.nil)))) ?_
  refine Go.while (α := Nat × Mem) (fun x => l.length - x.1) (fun x => [(0, .sl none 6 l.length (rowsC l)), (5, .ptr At 0), (15, .int .i64 (x.1 : Int))]) (fun x => x.2) (fun x => x.1 ≤ l.length ∧ Tab0 S x.2 A 64 a) ?_ (0, S1) ⟨Nat.zero_le _, hA⟩
  clear hA hB hra hrb hEg Eg
  rintro ⟨i, S1⟩ ⟨hi, hA⟩ next
  dsimp only at hi hA next
  by_cases h1 : i < l.length
  · obtain ⟨o, hq, hlt⟩ := na.top l[i] (List.getElem_mem h1)
    have hg := get0 (orc := O) hA eA l[i].key
    have hnw := fun S => newer (orc := O) l[i].st o.st S
    have a1 := (rowsAt h1).1
    have k1 := rowKey h1
    have s1 := rowSt h1
    have hn : decide (0 < cmpSt l[i].st o.st) = false := decide_eq_false fun h => hlt (cmpSt_pos.1 h)
    rw [hq] at hg
    rw [hn] at hnw
    have ho : ∀ E, objAt (S1 ++ (.obj o.c :: E)) S1.length = some o.c := fun E => by simp [objAt]
    simp only [Rw.c, St.c, Option.getD_some, Option.isSome_some] at *
    repeat' (first|refine Go.a rfl ?_|refine Go.rg ?_|refine GoR.nil ?_|refine Go.ret ?_|refine Go.b rfl ?_|refine Go.rgS dmx (by decide) ?_|(refine GoR.o (by rfl) (by rfl) ?_;(conv => arg 1;simp only [G,Z,Y,Gx,un_neg,cutD,decide_true,decide_false,simprocAttr,fb2,fb3,fb5,fb9,fb32,fb33,fb35,fb62,show decide ((i : Int) < (l.length : Int)) = true by simp; omega, a1, k1, s1, ho, wrap_succ (show i < 4611686018427387904 by omega)]);show GoR ..)|(refine GoR.c c21 (by rfl) (by rfl) rfl ?_;(refine hg.ret ?_))|(refine GoR.c c28 (by rfl) (by rfl) rfl ?_;(refine (hnw _).ret ?_))|refine GoR.s (by rfl) rfl rfl ?_|(refine GoR.splitG rfl (fun hc => ?_) (fun hc => ?_) <;> simp only [hc])|refine Go.condB rfl (fun hc => ?_) (fun hc => ?_))
    refine Go.lpN ?_
    refine Go.keep [(0, .sl none 6 l.length (rowsC l)), (5, .ptr At 0), (15, .int .i64 ((i + 1 : Nat) : Int))] (.cons .refl (.cons .refl (.cons .refl (.nil)))) ?_
    exact next (i + 1, _) (by dsimp only; omega) ⟨h1, hA.app _⟩
  · clear next
    obtain rfl : i = l.length := by omega
    obtain ⟨Eg, hEg⟩ := hA.fr.pre (by simp)
    repeat' (first|refine Go.a rfl ?_|refine Go.rg ?_|refine GoR.nil ?_|refine Go.ret ?_|refine Go.b rfl ?_|refine Go.rgS dmx (by decide) ?_|(refine GoR.o (by rfl) (by rfl) ?_;(conv => arg 1;simp only [G,Z,Y,Gx,un_neg,cutD,decide_true,decide_false,simprocAttr,fb2,fb3,fb5,fb9,fb32,fb33,fb35,fb62,show decide ((l.length : Int) < (l.length : Int)) = false by simp]);show GoR ..)|refine GoR.s (by rfl) rfl rfl ?_|(refine GoR.splitG rfl (fun hc => ?_) (fun hc => ?_) <;> simp only [hc])|refine Go.condB rfl (fun hc => ?_) (fun hc => ?_))
    refine ⟨(by first | exact .inl rfl | exact .inr rfl), fin ?_⟩
    rw [resD_tmp (fn := Tryz.f4) rfl]
    simp only [optThen_some,resultD_tmp,resultD_cell,G,Z,Y,Gx,un_neg,cutD,decide_true,decide_false,simprocAttr,fb2,fb3,fb5,fb9,fb32,fb33,fb35,fb62]
    exact ⟨_, Eg, hEg, .bool, rfl⟩
end Go.Proofs.DtT
