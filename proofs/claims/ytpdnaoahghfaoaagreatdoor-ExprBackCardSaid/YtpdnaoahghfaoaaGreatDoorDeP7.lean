/- The document's reader: products and sums. -/
import Derived.Test.YtpdnaoahghfaoaaGreatDoorDeP6
set_option linter.unusedSimpArgs false
set_option linter.unusedVariables false
namespace Go.Proofs.DeT
open Go Go.DM
set_option maxRecDepth 100000

/-- What the reader is like when it has read a part: just so, or it has noted the same error at the same place. -/
def RR (l : List Tok) (r : Nd × St) (w : Int) (c : List D) (d : D) : Prop :=
  (r.2.e = 0 ∧ c = rC l (r.2.i : Int) (r.2.n : Int) 0 w ∧ d = .agg r.1.c) ∨ (r.2.e ≠ 0 ∧ ∃ (a k : Int) (nd : Nd), c = rC l a k r.2.e (r.2.i : Int) ∧ d = .agg nd.c)
/-- A function of the document is a part of its reader. -/
structure PartR (l : List Tok) (o : Nat) (g : FuncId) (part : St → Option (Nd × St)) : Prop where
  ok : ∀ (M : List D → Mem) (n0 : Nat), Fam M o n0 → ∀ (i n : Nat) r (w : Int), Bs l ⟨i, n, 0⟩ → part ⟨i, n, 0⟩ = some r → CallD Tryz.prog O g [.ptr o 0] (M (rC l (i : Int) (n : Int) 0 w)) fun d S' => ∃ c, S' = M c ∧ RR l r w c d
  bad : ∀ (M : List D → Mem) (n0 : Nat), Fam M o n0 → ∀ (a k b w : Int), b ≠ 0 → CallD Tryz.prog O g [.ptr o 0] (M (rC l a k b w)) fun d S' => S' = M (rC l a k b w) ∧ d = .agg nilN.c
  bs : ∀ st r, Bs l st → part st = some r → Bs l r.2
theorem PartR.okE {l : List Tok} {o : Nat} {g : FuncId} {part : St → Option (Nd × St)} (h : PartR l o g part) {M : List D → Mem} {n0 : Nat} (hF : Fam M o n0) (E : Mem) {i n : Nat} {r : Nd × St} (w : Int) (hb : Bs l ⟨i, n, 0⟩) (hr : part ⟨i, n, 0⟩ = some r) :
    CallD Tryz.prog O g [.ptr o 0] (M (rC l (i : Int) (n : Int) 0 w) ++ E) fun d S' => ∃ c, S' = M c ++ E ∧ RR l r w c d := h.ok (fun c => M c ++ E) _ (hF.app E) i n r w hb hr
theorem PartR.badE {l : List Tok} {o : Nat} {g : FuncId} {part : St → Option (Nd × St)} (h : PartR l o g part) {M : List D → Mem} {n0 : Nat} (hF : Fam M o n0) (E : Mem) (a k : Int) {b : Int} (w : Int) (hb : b ≠ 0) :
    CallD Tryz.prog O g [.ptr o 0] (M (rC l a k b w) ++ E) fun d S' => S' = M (rC l a k b w) ++ E ∧ d = .agg nilN.c := h.bad (fun c => M c ++ E) _ (hF.app E) a k b w hb
theorem RR.form {l : List Tok} {r : Nd × St} {w : Int} {c : List D} {d : D} (h : RR l r w c d) : ∃ (nd : Nd) (y : D), d = .agg [.str nd.op, .str nd.name, .int .i64 nd.n, y] ∧ KidY y nd.kids ∧
    ((r.2.e = 0 ∧ nd = r.1 ∧ c = rC l (r.2.i : Int) (r.2.n : Int) 0 w) ∨ (r.2.e ≠ 0 ∧ ∃ (a k : Int), c = rC l a k r.2.e (r.2.i : Int))) := by
  rcases h with ⟨h1, h2, h3⟩ | ⟨h1, a, k, nd, h2, h3⟩
  · obtain ⟨y, hy, hk⟩ := kidY_of r.1
    exact ⟨r.1, y, by rw [h3, hy]; rfl, hk, .inl ⟨h1, rfl, h2⟩⟩
  · obtain ⟨y, hy, hk⟩ := kidY_of nd
    exact ⟨nd, y, by rw [h3, hy]; rfl, hk, .inr ⟨h1, a, k, h2⟩⟩
theorem loopF_err {l : List Tok} {part : St → Option (Nd × St)} {sg : List ByteArray} {fu : Nat} {nd : Nd} {st : St} {r : Nd × St} (h : loopF l part sg fu nd st = some r) (he : st.e ≠ 0) : r = (nd, st) := by
  cases fu with
  | zero => cases h
  | succ fu =>
    unfold loopF at h
    rw [if_neg fun q => he q.1] at h
    cases h
    rfl
theorem loop_bs {l : List Tok} {part : St → Option (Nd × St)} (hp : ∀ st r, Bs l st → part st = some r → Bs l r.2) {sg : List ByteArray} {r : Nd × St} : ∀ (fu : Nat) (nd : Nd) (st : St), Bs l st → loopF l part sg fu nd st = some r → Bs l r.2
  | 0, _, _, _, h => by cases h
  | fu + 1, nd, ⟨i, n, e⟩, hb, h => by
    unfold loopF at h
    by_cases hc : e = 0 ∧ isT l i sg = true
    · rw [if_pos hc] at h
      obtain ⟨hi, _⟩ := isT_lt hc.2
      have hn := hb.2.2 hc.1
      dsimp only at hn h
      by_cases hbig : 32 < n + 1
      · rw [if_pos hbig] at h
        cases h
        exact ⟨by dsimp only; omega, by dsimp only; omega, nz4⟩
      · rw [if_neg hbig] at h
        cases hr2 : part ⟨i + 1, n + 1, 0⟩ with
        | none => rw [hr2] at h; cases h
        | some r2 =>
          rw [hr2, Option.bind_some] at h
          exact loop_bs hp fu _ _ (hp _ _ ⟨by dsimp only; omega, by dsimp only; omega, fun _ => by dsimp only; omega⟩ hr2) h
    · rw [if_neg hc] at h
      cases h
      exact hb
theorem fold_bs {l : List Tok} {part : St → Option (Nd × St)} (hp : ∀ st r, Bs l st → part st = some r → Bs l r.2) {sg : List ByteArray} {fu : Nat} (st : St) (r : Nd × St) (hb : Bs l st) (h : foldF l part sg fu st = some r) : Bs l r.2 := by
  unfold foldF at h
  cases hr1 : part st with
  | none => rw [hr1] at h; cases h
  | some r1 => rw [hr1, Option.bind_some] at h; exact loop_bs hp fu _ _ (hp _ _ hb hr1) h
theorem isT_sub {l : List Tok} {i : Nat} {sg : List ByteArray} (h : isT l i sg = false) {s : ByteArray} (hs : s ∈ sg) : isT l i [s] = false := by
  by_cases hi : i < l.length
  · rw [isT_at hi] at h
    rw [isT_one hi, Bool.eq_false_iff]
    intro hc
    simp only [Bool.and_eq_true, decide_eq_true_eq] at hc
    rw [decide_eq_true hc.1, Bool.true_and, (Lib.containsS_iff _ _).2 (hc.2 ▸ hs)] at h
    cases h
  · exact isT_no (by omega)

theorem nil_wf2 : Wf (.agg [.str ⟨#[]⟩, .str ⟨#[]⟩, .int .i64 0, .sl none 4 0 (ndsC [])]) (.agg nilN.c) := by
  rw [nilN, Nd.c_mk]
  exact .refl
theorem kidZ_two {a b : Nd} {y z : D} (h : KidY y a.kids) (h2 : KidY z b.kids) {id : Option Nat} : KidY (.sl id 4 2 (ndX a y ++ ndX b z)) [a, b] := by
  refine ⟨?_, rfl, rfl⟩
  have e : ndsC [a, b] = a.c ++ b.c := by simp [ndsC]
  rw [e]
  exact .sl' (.append (ndX_wf h) (ndX_wf h2))

set_option maxHeartbeats 4000000 in
theorem prdR {l : List Tok} (hl : l.length < 100000) {o : Nat} {part : St → Option (Nd × St)} {fu : Nat} (hp : PartR l o 161 part) : PartR l o 134 (foldF l part mulS fu) := by
  refine ⟨?_, ?_, fun st r hb hr => fold_bs hp.bs st r hb hr⟩
  · intro M n0 hF i0 n1 r w hb hr
    obtain ⟨m1, m2, m3, m4, m5, m6, m7, m8, m9, m10, m11⟩ := hF.facts
    unfold foldF at hr
    cases hr1 : part ⟨i0, n1, 0⟩ with
    | none => rw [hr1] at hr; cases hr
    | some r1 =>
    rw [hr1, Option.bind_some] at hr
    have hb1 := hp.bs _ _ hb hr1
    have hp1 := fun E => hp.okE hF E w hb hr1
    refine CallD.upd hF ?_
    refine CallD.eb Tryz.func134 rfl Tryz.ntmps134 (by rfl) ?_
    repeat' (first|refine Go.a rfl ?_|refine Go.rg ?_|refine GoR.nil ?_|refine Go.ret ?_|refine Go.b rfl ?_|refine Go.rgS dmx (by decide) ?_|(refine GoR.o (by rfl) (by rfl) ?_;(conv => arg 1;simp only [G,Z,Y,Gx,un_neg,cutD,decide_true,decide_false,simprocAttr,fb2,fb3,fb9,fb78,fb80,fb86,fb138,fb151,m1, m2, m3, m4, m5, m6, m7, m8, m9, m10, m11]);show GoR ..)|(refine GoR.c c161 (by rfl) (by rfl) rfl ?_;(refine CallD.mono (hp1 _) ?_; rintro _ _ ⟨c1, rfl, hrr⟩; obtain ⟨nd1, y1, rfl, hk1, hrr⟩ := hrr.form; have ho1 := hk1.one; have hc1 := hk1.cells))|refine GoR.s (by rfl) rfl rfl ?_)
    repeat' (first|refine Go.a rfl ?_|refine Go.rg ?_|refine GoR.nil ?_|refine Go.ret ?_|refine Go.b rfl ?_|refine Go.rgS dmx (by decide) ?_|(refine GoR.o (by rfl) (by rfl) ?_;(conv => arg 1;simp only [G,Z,Y,Gx,un_neg,cutD,decide_true,decide_false,simprocAttr,fb2,fb3,fb9,fb78,fb80,fb86,fb138,fb151,m1, m2, m3, m4, m5, m6, m7, m8, m9, m10, m11, ho1, hc1]);show GoR ..)|refine GoR.s (by rfl) rfl rfl ?_|(refine GoR.splitG rfl (fun hc => ?_) (fun hc => ?_) <;> simp only [hc])|refine Go.condB rfl (fun hc => ?_) (fun hc => ?_))
    refine Go.keep [(0, .ptr o 0), (2, .ptr n0 0), (3, .ptr (n0 + 1) 0)] (.cons .refl (.cons .refl (.cons .refl (.nil)))) ?_
    refine Go.while (α := Nat × Nd × D × List D × Mem) (fun a => a.1) (fun _ => [(0, .ptr o 0), (2, .ptr n0 0), (3, .ptr (n0 + 1) 0)])
      (fun a => M a.2.2.2.1 ++ (.obj [.str ⟨#[]⟩, .str ⟨#[]⟩, .int .i64 0, .nils] :: .obj [.str a.2.1.op, .str a.2.1.name, .int .i64 a.2.1.n, a.2.2.1] :: a.2.2.2.2))
      (fun a => KidY a.2.2.1 a.2.1.kids ∧ ((∃ i n : Nat, a.2.2.2.1 = rC l (i : Int) (n : Int) 0 w ∧ Bs l ⟨i, n, 0⟩ ∧ loopF l part mulS a.1 a.2.1 ⟨i, n, 0⟩ = some r) ∨ (r.2.e ≠ 0 ∧ ∃ p q : Int, a.2.2.2.1 = rC l p q r.2.e (r.2.i : Int)))) ?_ (fu, nd1, y1, c1, []) ⟨hk1, ?_⟩
    rotate_left
    · rcases hrr with ⟨h1, rfl, rfl⟩ | ⟨h1, p, q, rfl⟩
      · obtain ⟨nd1, ⟨i1, n1, e1⟩⟩ := r1
        obtain rfl : e1 = 0 := h1
        exact .inl ⟨i1, n1, rfl, hb1, hr⟩
      · have := loopF_err hr h1
        subst this
        exact .inr ⟨h1, p, q, rfl⟩
    clear hr hb1 hk1 ho1 hc1 hp1 hr1 hb hrr
    rintro ⟨fu, ⟨op, nm, k, ks⟩, y, c, E⟩ ⟨hky, hst⟩ next
    simp only [Nd.op, Nd.name, Nd.n, Nd.kids] at hky hst next ⊢
    have hoy := hky.one
    have hcy := hky.cells
    rcases hst with ⟨i, n, rfl, hb, hr⟩ | ⟨he, p, q, rfl⟩
    · have hq := fun E s => rIsE hF E l i (n : Int) 0 w s
      cases fu with
      | zero => cases hr
      | succ fu =>
      unfold loopF at hr
      by_cases hc : isT l i mulS = true
      · rw [if_pos ⟨rfl, hc⟩] at hr
        obtain ⟨hi, hk3, hm, hop⟩ := isT_lt hc
        have htk := fun E => rTickE hF E l i n w (by omega) (by have := hb.2.1; dsimp only at this; omega)
        have hn : n ≤ 32 := hb.2.2 rfl
        have hqs : ∀ s, isT l i [s] = decide (l[i].t = s) := fun s => by rw [isT_one hi, decide_eq_true hk3, Bool.true_and]
        dsimp only at hr
        by_cases hbig : 32 < n + 1
        · rw [if_pos hbig] at hr
          cases hr
          have hbd := fun E => hp.badE hF E ((i + 1 : Nat) : Int) ((n + 1 : Nat) : Int) (b := 4) (i : Int) (by decide)
          simp only [nilN, Nd.c_mk] at hbd
          unfold tickC at htk
          simp only [if_pos hbig] at htk
          have hyy := fun id => kidY_two (a := .mk op nm k ks) (b := nilN) (y := y) hky (id := id)
          simp only [ndX, Nd.op, Nd.name, Nd.n, nilN, Nd.c_mk] at hyy
          simp only [mulS, List.mem_cons, List.not_mem_nil, or_false] at hm
          rcases hm with ht | ht | ht
          all_goals
            repeat' (first|refine Go.a rfl ?_|refine Go.rg ?_|refine GoR.nil ?_|refine Go.ret ?_|refine Go.b rfl ?_|refine Go.rgS dmx (by decide) ?_|(refine GoR.o (by rfl) (by rfl) ?_;(conv => arg 1;simp only [G,Z,Y,Gx,un_neg,cutD,decide_true,decide_false,simprocAttr,fb2,fb3,fb9,fb78,fb80,fb86,fb138,fb151,m1, m2, m3, m4, m5, m6, m7, m8, m9, m10, m11, hoy, hcy, rC_at, hqs, ht, toksAt hi, Tok.c, repD2, wrA, wrB, show decide (((⟨#[42]⟩ : ByteArray) : ByteArray) = (⟨#[47]⟩ : ByteArray)) = false by decide, show decide (((⟨#[42]⟩ : ByteArray) : ByteArray) = (⟨#[37]⟩ : ByteArray)) = false by decide, show decide (((⟨#[47]⟩ : ByteArray) : ByteArray) = (⟨#[42]⟩ : ByteArray)) = false by decide, show decide (((⟨#[47]⟩ : ByteArray) : ByteArray) = (⟨#[37]⟩ : ByteArray)) = false by decide, show decide (((⟨#[37]⟩ : ByteArray) : ByteArray) = (⟨#[42]⟩ : ByteArray)) = false by decide, show decide (((⟨#[37]⟩ : ByteArray) : ByteArray) = (⟨#[47]⟩ : ByteArray)) = false by decide]);show GoR ..)|(refine GoR.c c135 (by rfl) (by rfl) rfl ?_;(refine CallD.ret2 (hq _ _) ?_))|(refine GoR.c c136 (by rfl) (by rfl) rfl ?_;(refine CallD.ret2 (htk _) ?_))|(refine GoR.c c161 (by rfl) (by rfl) rfl ?_;(refine CallD.ret2 (hbd _) ?_))|refine GoR.s (by rfl) rfl rfl ?_|(refine GoR.splitG rfl (fun hc => ?_) (fun hc => ?_) <;> simp only [hc])|refine Go.condB rfl (fun hc => ?_) (fun hc => ?_))
            refine Go.lpN ?_
            refine Go.keep [(0, .ptr o 0), (2, .ptr n0 0), (3, .ptr (n0 + 1) 0)] (.cons .refl (.cons .refl (.cons .refl (.nil)))) ?_
            exact next (fu, .mk _ ⟨#[]⟩ 0 [.mk op nm k ks, nilN], _, _, _) (Nat.lt_succ_self _) ⟨hyy _, .inr ⟨fun e => nz4 e, _, _, rfl⟩⟩
        · rw [if_neg hbig] at hr
          unfold tickC at htk
          simp only [if_neg hbig] at htk
          cases hr1 : part ⟨i + 1, n + 1, 0⟩ with
          | none => rw [hr1] at hr; cases hr
          | some r1 =>
          rw [hr1, Option.bind_some, hop] at hr
          have hbs : Bs l ⟨i + 1, n + 1, 0⟩ := ⟨by dsimp only; omega, by dsimp only; omega, fun _ => by dsimp only; omega⟩
          have hb1 := hp.bs _ _ hbs hr1
          have hp1 := fun E => hp.okE hF E w hbs hr1
          simp only [mulS, List.mem_cons, List.not_mem_nil, or_false] at hm
          rcases hm with ht | ht | ht
          all_goals
            repeat' (first|refine Go.a rfl ?_|refine Go.rg ?_|refine GoR.nil ?_|refine Go.ret ?_|refine Go.b rfl ?_|refine Go.rgS dmx (by decide) ?_|(refine GoR.o (by rfl) (by rfl) ?_;(conv => arg 1;simp only [G,Z,Y,Gx,un_neg,cutD,decide_true,decide_false,simprocAttr,fb2,fb3,fb9,fb78,fb80,fb86,fb138,fb151,m1, m2, m3, m4, m5, m6, m7, m8, m9, m10, m11, hoy, hcy, rC_at, hqs, ht, toksAt hi, Tok.c, repD2, wrA, wrB, show decide (((⟨#[42]⟩ : ByteArray) : ByteArray) = (⟨#[47]⟩ : ByteArray)) = false by decide, show decide (((⟨#[42]⟩ : ByteArray) : ByteArray) = (⟨#[37]⟩ : ByteArray)) = false by decide, show decide (((⟨#[47]⟩ : ByteArray) : ByteArray) = (⟨#[42]⟩ : ByteArray)) = false by decide, show decide (((⟨#[47]⟩ : ByteArray) : ByteArray) = (⟨#[37]⟩ : ByteArray)) = false by decide, show decide (((⟨#[37]⟩ : ByteArray) : ByteArray) = (⟨#[42]⟩ : ByteArray)) = false by decide, show decide (((⟨#[37]⟩ : ByteArray) : ByteArray) = (⟨#[47]⟩ : ByteArray)) = false by decide]);show GoR ..)|(refine GoR.c c135 (by rfl) (by rfl) rfl ?_;(refine CallD.ret2 (hq _ _) ?_))|(refine GoR.c c136 (by rfl) (by rfl) rfl ?_;(refine CallD.ret2 (htk _) ?_))|(refine GoR.c c161 (by rfl) (by rfl) rfl ?_;(refine CallD.mono (hp1 _) ?_; rintro _ _ ⟨c1, rfl, hrr⟩; obtain ⟨⟨op1, nm1, k1, ks1⟩, y1, rfl, hk1, hrr⟩ := hrr.form; have ho1 := hk1.one; have hc1 := hk1.cells; simp only [Nd.op, Nd.name, Nd.n]))|refine GoR.s (by rfl) rfl rfl ?_|(refine GoR.splitG rfl (fun hc => ?_) (fun hc => ?_) <;> simp only [hc])|refine Go.condB rfl (fun hc => ?_) (fun hc => ?_))
            have hyy := fun id => kidZ_two (a := .mk op nm k ks) (b := .mk op1 nm1 k1 ks1) (y := y) (z := y1) hky hk1 (id := id)
            simp only [ndX, Nd.op, Nd.name, Nd.n] at hyy
            repeat' (first|refine Go.a rfl ?_|refine Go.rg ?_|refine GoR.nil ?_|refine Go.ret ?_|refine Go.b rfl ?_|refine Go.rgS dmx (by decide) ?_|(refine GoR.o (by rfl) (by rfl) ?_;(conv => arg 1;simp only [G,Z,Y,Gx,un_neg,cutD,decide_true,decide_false,simprocAttr,fb2,fb3,fb9,fb78,fb80,fb86,fb138,fb151,m1, m2, m3, m4, m5, m6, m7, m8, m9, m10, m11, hoy, hcy, ho1, hc1, rC_at, hqs, ht, toksAt hi, Tok.c, repD2, wrA, wrB]);show GoR ..)|refine GoR.s (by rfl) rfl rfl ?_|(refine GoR.splitG rfl (fun hc => ?_) (fun hc => ?_) <;> simp only [hc])|refine Go.condB rfl (fun hc => ?_) (fun hc => ?_))
            refine Go.lpN ?_
            refine Go.keep [(0, .ptr o 0), (2, .ptr n0 0), (3, .ptr (n0 + 1) 0)] (.cons .refl (.cons .refl (.cons .refl (.nil)))) ?_
            refine next (fu, .mk _ ⟨#[]⟩ 0 [.mk op nm k ks, .mk op1 nm1 k1 ks1], _, _, _) (Nat.lt_succ_self _) ⟨hyy _, ?_⟩
            clear next
            rw [ht] at hr
            rcases hrr with ⟨h1, h2, rfl⟩ | ⟨h1, p, q, rfl⟩
            · obtain ⟨nd1, ⟨i1, n1, e1⟩⟩ := r1
              obtain rfl : e1 = 0 := h1
              subst h2
              exact .inl ⟨i1, n1, rfl, hb1, hr⟩
            · have := loopF_err hr h1
              subst this
              exact .inr ⟨h1, p, q, rfl⟩
      · rw [if_neg fun q => hc q.2] at hr
        cases hr
        clear next
        have hc0 : isT l i mulS = false := by simpa using hc
        repeat' (first|refine Go.a rfl ?_|refine Go.rg ?_|refine GoR.nil ?_|refine Go.ret ?_|refine Go.b rfl ?_|refine Go.rgS dmx (by decide) ?_|(refine GoR.o (by rfl) (by rfl) ?_;(conv => arg 1;simp only [G,Z,Y,Gx,un_neg,cutD,decide_true,decide_false,simprocAttr,fb2,fb3,fb9,fb78,fb80,fb86,fb138,fb151,m1, m2, m3, m4, m5, m6, m7, m8, m9, m10, m11, hoy, hcy, rC_at, isT_sub hc0 (show (⟨#[42]⟩ : ByteArray) ∈ mulS by simp [mulS]), isT_sub hc0 (show (⟨#[47]⟩ : ByteArray) ∈ mulS by simp [mulS]), isT_sub hc0 (show (⟨#[37]⟩ : ByteArray) ∈ mulS by simp [mulS])]);show GoR ..)|(refine GoR.c c135 (by rfl) (by rfl) rfl ?_;(refine CallD.ret2 (hq _ _) ?_))|refine GoR.s (by rfl) rfl rfl ?_|(refine GoR.splitG rfl (fun hc => ?_) (fun hc => ?_) <;> simp only [hc])|refine Go.condB rfl (fun hc => ?_) (fun hc => ?_))
        refine ⟨(by first | exact .inl rfl | exact .inr rfl), fin ?_⟩
        rw [resD_cell (fn := Tryz.f134) rfl]
        simp only [optThen_some,resultD_tmp,resultD_cell,G,Z,Y,Gx,un_neg,cutD,decide_true,decide_false,simprocAttr,fb2,fb3,fb9,fb78,fb80,fb86,fb138,fb151,m1, m2, m3, m4, m5, m6, m7, m8, m9, m10, m11, hoy, hcy]
        exact ⟨_, _, _, rfl, rC_low, .agg' (ndX_wf (n := .mk op nm k ks) hky), nd_low _, .inl ⟨rfl, rfl, rfl⟩⟩
    · clear next
      repeat' (first|refine Go.a rfl ?_|refine Go.rg ?_|refine GoR.nil ?_|refine Go.ret ?_|refine Go.b rfl ?_|refine Go.rgS dmx (by decide) ?_|(refine GoR.o (by rfl) (by rfl) ?_;(conv => arg 1;simp only [G,Z,Y,Gx,un_neg,cutD,decide_true,decide_false,simprocAttr,fb2,fb3,fb9,fb78,fb80,fb86,fb138,fb151,m1, m2, m3, m4, m5, m6, m7, m8, m9, m10, m11, hoy, hcy, rC_at, show (r.2.e == 0) = false by simpa using he]);show GoR ..)|refine GoR.s (by rfl) rfl rfl ?_|(refine GoR.splitG rfl (fun hc => ?_) (fun hc => ?_) <;> simp only [hc])|refine Go.condB rfl (fun hc => ?_) (fun hc => ?_))
      refine ⟨(by first | exact .inl rfl | exact .inr rfl), fin ?_⟩
      rw [resD_cell (fn := Tryz.f134) rfl]
      simp only [optThen_some,resultD_tmp,resultD_cell,G,Z,Y,Gx,un_neg,cutD,decide_true,decide_false,simprocAttr,fb2,fb3,fb9,fb78,fb80,fb86,fb138,fb151,m1, m2, m3, m4, m5, m6, m7, m8, m9, m10, m11, hoy, hcy]
      exact ⟨_, _, _, rfl, rC_low, .agg' (ndX_wf (n := .mk op nm k ks) hky), nd_low _, .inr ⟨he, p, q, _, rfl, rfl⟩⟩
  · intro M n0 hF a k b w hb
    obtain ⟨m1, m2, m3, m4, m5, m6, m7, m8, m9, m10, m11⟩ := hF.facts
    have hbd := fun E => hp.badE hF E a k w hb
    simp only [nilN, Nd.c_mk] at hbd
    refine CallD.updE hF ?_
    refine CallD.eb Tryz.func134 rfl Tryz.ntmps134 (by rfl) ?_
    repeat' (first|refine Go.a rfl ?_|refine Go.rg ?_|refine GoR.nil ?_|refine Go.ret ?_|refine Go.b rfl ?_|refine Go.rgS dmx (by decide) ?_|(refine GoR.o (by rfl) (by rfl) ?_;(conv => arg 1;simp only [G,Z,Y,Gx,un_neg,cutD,decide_true,decide_false,simprocAttr,fb2,fb3,fb9,fb78,fb80,fb86,fb138,fb151,m1, m2, m3, m4, m5, m6, m7, m8, m9, m10, m11, rC_at]);show GoR ..)|(refine GoR.c c161 (by rfl) (by rfl) rfl ?_;(refine CallD.ret2 (hbd _) ?_))|refine GoR.s (by rfl) rfl rfl ?_|(refine GoR.splitG rfl (fun hc => ?_) (fun hc => ?_) <;> simp only [hc])|refine Go.condB rfl (fun hc => ?_) (fun hc => ?_))
    refine Go.keep [(0, .ptr o 0), (2, .ptr n0 0), (3, .ptr (n0 + 1) 0)] (.cons .refl (.cons .refl (.cons .refl (.nil)))) ?_
    refine Go.while (α := Unit) (fun _ => 0) (fun _ => [(0, .ptr o 0), (2, .ptr n0 0), (3, .ptr (n0 + 1) 0)]) (fun _ => M (rC l a k b w) ++ [.obj [.str ⟨#[]⟩, .str ⟨#[]⟩, .int .i64 0, .nils], .obj [.str ⟨#[]⟩, .str ⟨#[]⟩, .int .i64 0, .sl none 4 0 (ndsC [])]]) (fun _ => True) ?_ () trivial
    rintro _ _ next
    clear next
    repeat' (first|refine Go.a rfl ?_|refine Go.rg ?_|refine GoR.nil ?_|refine Go.ret ?_|refine Go.b rfl ?_|refine Go.rgS dmx (by decide) ?_|(refine GoR.o (by rfl) (by rfl) ?_;(conv => arg 1;simp only [G,Z,Y,Gx,un_neg,cutD,decide_true,decide_false,simprocAttr,fb2,fb3,fb9,fb78,fb80,fb86,fb138,fb151,m1, m2, m3, m4, m5, m6, m7, m8, m9, m10, m11, rC_at, show (b == 0) = false by simpa using hb]);show GoR ..)|refine GoR.s (by rfl) rfl rfl ?_|(refine GoR.splitG rfl (fun hc => ?_) (fun hc => ?_) <;> simp only [hc])|refine Go.condB rfl (fun hc => ?_) (fun hc => ?_))
    refine ⟨(by first | exact .inl rfl | exact .inr rfl), fin ?_⟩
    rw [resD_cell (fn := Tryz.f134) rfl]
    simp only [optThen_some,resultD_tmp,resultD_cell,G,Z,Y,Gx,un_neg,cutD,decide_true,decide_false,simprocAttr,fb2,fb3,fb9,fb78,fb80,fb86,fb138,fb151,m1, m2, m3, m4, m5, m6, m7, m8, m9, m10, m11]
    exact ⟨_, rfl, rC_low, nil_wf2, nd_low _⟩

set_option maxHeartbeats 4000000 in
theorem sumR {l : List Tok} (hl : l.length < 100000) {o : Nat} {part : St → Option (Nd × St)} {fu : Nat} (hp : PartR l o 134 part) : PartR l o 93 (foldF l part addS fu) := by
  refine ⟨?_, ?_, fun st r hb hr => fold_bs hp.bs st r hb hr⟩
  · intro M n0 hF i0 n1 r w hb hr
    obtain ⟨m1, m2, m3, m4, m5, m6, m7, m8, m9, m10, m11⟩ := hF.facts
    unfold foldF at hr
    cases hr1 : part ⟨i0, n1, 0⟩ with
    | none => rw [hr1] at hr; cases hr
    | some r1 =>
    rw [hr1, Option.bind_some] at hr
    have hb1 := hp.bs _ _ hb hr1
    have hp1 := fun E => hp.okE hF E w hb hr1
    refine CallD.upd hF ?_
    refine CallD.eb Tryz.func93 rfl Tryz.ntmps93 (by rfl) ?_
    repeat' (first|refine Go.a rfl ?_|refine Go.rg ?_|refine GoR.nil ?_|refine Go.ret ?_|refine Go.b rfl ?_|refine Go.rgS dmx (by decide) ?_|(refine GoR.o (by rfl) (by rfl) ?_;(conv => arg 1;simp only [G,Z,Y,Gx,un_neg,cutD,decide_true,decide_false,simprocAttr,fb2,fb3,fb9,fb78,fb80,fb86,fb138,fb151,m1, m2, m3, m4, m5, m6, m7, m8, m9, m10, m11]);show GoR ..)|(refine GoR.c c134 (by rfl) (by rfl) rfl ?_;(refine CallD.mono (hp1 _) ?_; rintro _ _ ⟨c1, rfl, hrr⟩; obtain ⟨nd1, y1, rfl, hk1, hrr⟩ := hrr.form; have ho1 := hk1.one; have hc1 := hk1.cells))|refine GoR.s (by rfl) rfl rfl ?_)
    repeat' (first|refine Go.a rfl ?_|refine Go.rg ?_|refine GoR.nil ?_|refine Go.ret ?_|refine Go.b rfl ?_|refine Go.rgS dmx (by decide) ?_|(refine GoR.o (by rfl) (by rfl) ?_;(conv => arg 1;simp only [G,Z,Y,Gx,un_neg,cutD,decide_true,decide_false,simprocAttr,fb2,fb3,fb9,fb78,fb80,fb86,fb138,fb151,m1, m2, m3, m4, m5, m6, m7, m8, m9, m10, m11, ho1, hc1]);show GoR ..)|refine GoR.s (by rfl) rfl rfl ?_|(refine GoR.splitG rfl (fun hc => ?_) (fun hc => ?_) <;> simp only [hc])|refine Go.condB rfl (fun hc => ?_) (fun hc => ?_))
    refine Go.keep [(0, .ptr o 0), (2, .ptr n0 0), (3, .ptr (n0 + 1) 0)] (.cons .refl (.cons .refl (.cons .refl (.nil)))) ?_
    refine Go.while (α := Nat × Nd × D × List D × Mem) (fun a => a.1) (fun _ => [(0, .ptr o 0), (2, .ptr n0 0), (3, .ptr (n0 + 1) 0)])
      (fun a => M a.2.2.2.1 ++ (.obj [.str ⟨#[]⟩, .str ⟨#[]⟩, .int .i64 0, .nils] :: .obj [.str a.2.1.op, .str a.2.1.name, .int .i64 a.2.1.n, a.2.2.1] :: a.2.2.2.2))
      (fun a => KidY a.2.2.1 a.2.1.kids ∧ ((∃ i n : Nat, a.2.2.2.1 = rC l (i : Int) (n : Int) 0 w ∧ Bs l ⟨i, n, 0⟩ ∧ loopF l part addS a.1 a.2.1 ⟨i, n, 0⟩ = some r) ∨ (r.2.e ≠ 0 ∧ ∃ p q : Int, a.2.2.2.1 = rC l p q r.2.e (r.2.i : Int)))) ?_ (fu, nd1, y1, c1, []) ⟨hk1, ?_⟩
    rotate_left
    · rcases hrr with ⟨h1, rfl, rfl⟩ | ⟨h1, p, q, rfl⟩
      · obtain ⟨nd1, ⟨i1, n1, e1⟩⟩ := r1
        obtain rfl : e1 = 0 := h1
        exact .inl ⟨i1, n1, rfl, hb1, hr⟩
      · have := loopF_err hr h1
        subst this
        exact .inr ⟨h1, p, q, rfl⟩
    clear hr hb1 hk1 ho1 hc1 hp1 hr1 hb hrr
    rintro ⟨fu, ⟨op, nm, k, ks⟩, y, c, E⟩ ⟨hky, hst⟩ next
    simp only [Nd.op, Nd.name, Nd.n, Nd.kids] at hky hst next ⊢
    have hoy := hky.one
    have hcy := hky.cells
    rcases hst with ⟨i, n, rfl, hb, hr⟩ | ⟨he, p, q, rfl⟩
    · have hq := fun E s => rIsE hF E l i (n : Int) 0 w s
      cases fu with
      | zero => cases hr
      | succ fu =>
      unfold loopF at hr
      by_cases hc : isT l i addS = true
      · rw [if_pos ⟨rfl, hc⟩] at hr
        obtain ⟨hi, hk3, hm, hop⟩ := isT_lt hc
        have htk := fun E => rTickE hF E l i n w (by omega) (by have := hb.2.1; dsimp only at this; omega)
        have hn : n ≤ 32 := hb.2.2 rfl
        have hqs : ∀ s, isT l i [s] = decide (l[i].t = s) := fun s => by rw [isT_one hi, decide_eq_true hk3, Bool.true_and]
        dsimp only at hr
        by_cases hbig : 32 < n + 1
        · rw [if_pos hbig] at hr
          cases hr
          have hbd := fun E => hp.badE hF E ((i + 1 : Nat) : Int) ((n + 1 : Nat) : Int) (b := 4) (i : Int) (by decide)
          simp only [nilN, Nd.c_mk] at hbd
          unfold tickC at htk
          simp only [if_pos hbig] at htk
          have hyy := fun id => kidY_two (a := .mk op nm k ks) (b := nilN) (y := y) hky (id := id)
          simp only [ndX, Nd.op, Nd.name, Nd.n, nilN, Nd.c_mk] at hyy
          simp only [addS, List.mem_cons, List.not_mem_nil, or_false] at hm
          rcases hm with ht | ht
          all_goals
            repeat' (first|refine Go.a rfl ?_|refine Go.rg ?_|refine GoR.nil ?_|refine Go.ret ?_|refine Go.b rfl ?_|refine Go.rgS dmx (by decide) ?_|(refine GoR.o (by rfl) (by rfl) ?_;(conv => arg 1;simp only [G,Z,Y,Gx,un_neg,cutD,decide_true,decide_false,simprocAttr,fb2,fb3,fb9,fb78,fb80,fb86,fb138,fb151,m1, m2, m3, m4, m5, m6, m7, m8, m9, m10, m11, hoy, hcy, rC_at, hqs, ht, toksAt hi, Tok.c, repD2, wrA, wrB, show decide (((⟨#[43]⟩ : ByteArray) : ByteArray) = (⟨#[45]⟩ : ByteArray)) = false by decide, show decide (((⟨#[45]⟩ : ByteArray) : ByteArray) = (⟨#[43]⟩ : ByteArray)) = false by decide]);show GoR ..)|(refine GoR.c c135 (by rfl) (by rfl) rfl ?_;(refine CallD.ret2 (hq _ _) ?_))|(refine GoR.c c136 (by rfl) (by rfl) rfl ?_;(refine CallD.ret2 (htk _) ?_))|(refine GoR.c c134 (by rfl) (by rfl) rfl ?_;(refine CallD.ret2 (hbd _) ?_))|refine GoR.s (by rfl) rfl rfl ?_|(refine GoR.splitG rfl (fun hc => ?_) (fun hc => ?_) <;> simp only [hc])|refine Go.condB rfl (fun hc => ?_) (fun hc => ?_))
            refine Go.lpN ?_
            refine Go.keep [(0, .ptr o 0), (2, .ptr n0 0), (3, .ptr (n0 + 1) 0)] (.cons .refl (.cons .refl (.cons .refl (.nil)))) ?_
            exact next (fu, .mk _ ⟨#[]⟩ 0 [.mk op nm k ks, nilN], _, _, _) (Nat.lt_succ_self _) ⟨hyy _, .inr ⟨fun e => nz4 e, _, _, rfl⟩⟩
        · rw [if_neg hbig] at hr
          unfold tickC at htk
          simp only [if_neg hbig] at htk
          cases hr1 : part ⟨i + 1, n + 1, 0⟩ with
          | none => rw [hr1] at hr; cases hr
          | some r1 =>
          rw [hr1, Option.bind_some, hop] at hr
          have hbs : Bs l ⟨i + 1, n + 1, 0⟩ := ⟨by dsimp only; omega, by dsimp only; omega, fun _ => by dsimp only; omega⟩
          have hb1 := hp.bs _ _ hbs hr1
          have hp1 := fun E => hp.okE hF E w hbs hr1
          simp only [addS, List.mem_cons, List.not_mem_nil, or_false] at hm
          rcases hm with ht | ht
          all_goals
            repeat' (first|refine Go.a rfl ?_|refine Go.rg ?_|refine GoR.nil ?_|refine Go.ret ?_|refine Go.b rfl ?_|refine Go.rgS dmx (by decide) ?_|(refine GoR.o (by rfl) (by rfl) ?_;(conv => arg 1;simp only [G,Z,Y,Gx,un_neg,cutD,decide_true,decide_false,simprocAttr,fb2,fb3,fb9,fb78,fb80,fb86,fb138,fb151,m1, m2, m3, m4, m5, m6, m7, m8, m9, m10, m11, hoy, hcy, rC_at, hqs, ht, toksAt hi, Tok.c, repD2, wrA, wrB, show decide (((⟨#[43]⟩ : ByteArray) : ByteArray) = (⟨#[45]⟩ : ByteArray)) = false by decide, show decide (((⟨#[45]⟩ : ByteArray) : ByteArray) = (⟨#[43]⟩ : ByteArray)) = false by decide]);show GoR ..)|(refine GoR.c c135 (by rfl) (by rfl) rfl ?_;(refine CallD.ret2 (hq _ _) ?_))|(refine GoR.c c136 (by rfl) (by rfl) rfl ?_;(refine CallD.ret2 (htk _) ?_))|(refine GoR.c c134 (by rfl) (by rfl) rfl ?_;(refine CallD.mono (hp1 _) ?_; rintro _ _ ⟨c1, rfl, hrr⟩; obtain ⟨⟨op1, nm1, k1, ks1⟩, y1, rfl, hk1, hrr⟩ := hrr.form; have ho1 := hk1.one; have hc1 := hk1.cells; simp only [Nd.op, Nd.name, Nd.n]))|refine GoR.s (by rfl) rfl rfl ?_|(refine GoR.splitG rfl (fun hc => ?_) (fun hc => ?_) <;> simp only [hc])|refine Go.condB rfl (fun hc => ?_) (fun hc => ?_))
            have hyy := fun id => kidZ_two (a := .mk op nm k ks) (b := .mk op1 nm1 k1 ks1) (y := y) (z := y1) hky hk1 (id := id)
            simp only [ndX, Nd.op, Nd.name, Nd.n] at hyy
            repeat' (first|refine Go.a rfl ?_|refine Go.rg ?_|refine GoR.nil ?_|refine Go.ret ?_|refine Go.b rfl ?_|refine Go.rgS dmx (by decide) ?_|(refine GoR.o (by rfl) (by rfl) ?_;(conv => arg 1;simp only [G,Z,Y,Gx,un_neg,cutD,decide_true,decide_false,simprocAttr,fb2,fb3,fb9,fb78,fb80,fb86,fb138,fb151,m1, m2, m3, m4, m5, m6, m7, m8, m9, m10, m11, hoy, hcy, ho1, hc1, rC_at, hqs, ht, toksAt hi, Tok.c, repD2, wrA, wrB]);show GoR ..)|refine GoR.s (by rfl) rfl rfl ?_|(refine GoR.splitG rfl (fun hc => ?_) (fun hc => ?_) <;> simp only [hc])|refine Go.condB rfl (fun hc => ?_) (fun hc => ?_))
            refine Go.lpN ?_
            refine Go.keep [(0, .ptr o 0), (2, .ptr n0 0), (3, .ptr (n0 + 1) 0)] (.cons .refl (.cons .refl (.cons .refl (.nil)))) ?_
            refine next (fu, .mk _ ⟨#[]⟩ 0 [.mk op nm k ks, .mk op1 nm1 k1 ks1], _, _, _) (Nat.lt_succ_self _) ⟨hyy _, ?_⟩
            clear next
            rw [ht] at hr
            rcases hrr with ⟨h1, h2, rfl⟩ | ⟨h1, p, q, rfl⟩
            · obtain ⟨nd1, ⟨i1, n1, e1⟩⟩ := r1
              obtain rfl : e1 = 0 := h1
              subst h2
              exact .inl ⟨i1, n1, rfl, hb1, hr⟩
            · have := loopF_err hr h1
              subst this
              exact .inr ⟨h1, p, q, rfl⟩
      · rw [if_neg fun q => hc q.2] at hr
        cases hr
        clear next
        have hc0 : isT l i addS = false := by simpa using hc
        repeat' (first|refine Go.a rfl ?_|refine Go.rg ?_|refine GoR.nil ?_|refine Go.ret ?_|refine Go.b rfl ?_|refine Go.rgS dmx (by decide) ?_|(refine GoR.o (by rfl) (by rfl) ?_;(conv => arg 1;simp only [G,Z,Y,Gx,un_neg,cutD,decide_true,decide_false,simprocAttr,fb2,fb3,fb9,fb78,fb80,fb86,fb138,fb151,m1, m2, m3, m4, m5, m6, m7, m8, m9, m10, m11, hoy, hcy, rC_at, isT_sub hc0 (show (⟨#[43]⟩ : ByteArray) ∈ addS by simp [addS]), isT_sub hc0 (show (⟨#[45]⟩ : ByteArray) ∈ addS by simp [addS])]);show GoR ..)|(refine GoR.c c135 (by rfl) (by rfl) rfl ?_;(refine CallD.ret2 (hq _ _) ?_))|refine GoR.s (by rfl) rfl rfl ?_|(refine GoR.splitG rfl (fun hc => ?_) (fun hc => ?_) <;> simp only [hc])|refine Go.condB rfl (fun hc => ?_) (fun hc => ?_))
        refine ⟨(by first | exact .inl rfl | exact .inr rfl), fin ?_⟩
        rw [resD_cell (fn := Tryz.f93) rfl]
        simp only [optThen_some,resultD_tmp,resultD_cell,G,Z,Y,Gx,un_neg,cutD,decide_true,decide_false,simprocAttr,fb2,fb3,fb9,fb78,fb80,fb86,fb138,fb151,m1, m2, m3, m4, m5, m6, m7, m8, m9, m10, m11, hoy, hcy]
        exact ⟨_, _, _, rfl, rC_low, .agg' (ndX_wf (n := .mk op nm k ks) hky), nd_low _, .inl ⟨rfl, rfl, rfl⟩⟩
    · clear next
      repeat' (first|refine Go.a rfl ?_|refine Go.rg ?_|refine GoR.nil ?_|refine Go.ret ?_|refine Go.b rfl ?_|refine Go.rgS dmx (by decide) ?_|(refine GoR.o (by rfl) (by rfl) ?_;(conv => arg 1;simp only [G,Z,Y,Gx,un_neg,cutD,decide_true,decide_false,simprocAttr,fb2,fb3,fb9,fb78,fb80,fb86,fb138,fb151,m1, m2, m3, m4, m5, m6, m7, m8, m9, m10, m11, hoy, hcy, rC_at, show (r.2.e == 0) = false by simpa using he]);show GoR ..)|refine GoR.s (by rfl) rfl rfl ?_|(refine GoR.splitG rfl (fun hc => ?_) (fun hc => ?_) <;> simp only [hc])|refine Go.condB rfl (fun hc => ?_) (fun hc => ?_))
      refine ⟨(by first | exact .inl rfl | exact .inr rfl), fin ?_⟩
      rw [resD_cell (fn := Tryz.f93) rfl]
      simp only [optThen_some,resultD_tmp,resultD_cell,G,Z,Y,Gx,un_neg,cutD,decide_true,decide_false,simprocAttr,fb2,fb3,fb9,fb78,fb80,fb86,fb138,fb151,m1, m2, m3, m4, m5, m6, m7, m8, m9, m10, m11, hoy, hcy]
      exact ⟨_, _, _, rfl, rC_low, .agg' (ndX_wf (n := .mk op nm k ks) hky), nd_low _, .inr ⟨he, p, q, _, rfl, rfl⟩⟩
  · intro M n0 hF a k b w hb
    obtain ⟨m1, m2, m3, m4, m5, m6, m7, m8, m9, m10, m11⟩ := hF.facts
    have hbd := fun E => hp.badE hF E a k w hb
    simp only [nilN, Nd.c_mk] at hbd
    refine CallD.updE hF ?_
    refine CallD.eb Tryz.func93 rfl Tryz.ntmps93 (by rfl) ?_
    repeat' (first|refine Go.a rfl ?_|refine Go.rg ?_|refine GoR.nil ?_|refine Go.ret ?_|refine Go.b rfl ?_|refine Go.rgS dmx (by decide) ?_|(refine GoR.o (by rfl) (by rfl) ?_;(conv => arg 1;simp only [G,Z,Y,Gx,un_neg,cutD,decide_true,decide_false,simprocAttr,fb2,fb3,fb9,fb78,fb80,fb86,fb138,fb151,m1, m2, m3, m4, m5, m6, m7, m8, m9, m10, m11, rC_at]);show GoR ..)|(refine GoR.c c134 (by rfl) (by rfl) rfl ?_;(refine CallD.ret2 (hbd _) ?_))|refine GoR.s (by rfl) rfl rfl ?_|(refine GoR.splitG rfl (fun hc => ?_) (fun hc => ?_) <;> simp only [hc])|refine Go.condB rfl (fun hc => ?_) (fun hc => ?_))
    refine Go.keep [(0, .ptr o 0), (2, .ptr n0 0), (3, .ptr (n0 + 1) 0)] (.cons .refl (.cons .refl (.cons .refl (.nil)))) ?_
    refine Go.while (α := Unit) (fun _ => 0) (fun _ => [(0, .ptr o 0), (2, .ptr n0 0), (3, .ptr (n0 + 1) 0)]) (fun _ => M (rC l a k b w) ++ [.obj [.str ⟨#[]⟩, .str ⟨#[]⟩, .int .i64 0, .nils], .obj [.str ⟨#[]⟩, .str ⟨#[]⟩, .int .i64 0, .sl none 4 0 (ndsC [])]]) (fun _ => True) ?_ () trivial
    rintro _ _ next
    clear next
    repeat' (first|refine Go.a rfl ?_|refine Go.rg ?_|refine GoR.nil ?_|refine Go.ret ?_|refine Go.b rfl ?_|refine Go.rgS dmx (by decide) ?_|(refine GoR.o (by rfl) (by rfl) ?_;(conv => arg 1;simp only [G,Z,Y,Gx,un_neg,cutD,decide_true,decide_false,simprocAttr,fb2,fb3,fb9,fb78,fb80,fb86,fb138,fb151,m1, m2, m3, m4, m5, m6, m7, m8, m9, m10, m11, rC_at, show (b == 0) = false by simpa using hb]);show GoR ..)|refine GoR.s (by rfl) rfl rfl ?_|(refine GoR.splitG rfl (fun hc => ?_) (fun hc => ?_) <;> simp only [hc])|refine Go.condB rfl (fun hc => ?_) (fun hc => ?_))
    refine ⟨(by first | exact .inl rfl | exact .inr rfl), fin ?_⟩
    rw [resD_cell (fn := Tryz.f93) rfl]
    simp only [optThen_some,resultD_tmp,resultD_cell,G,Z,Y,Gx,un_neg,cutD,decide_true,decide_false,simprocAttr,fb2,fb3,fb9,fb78,fb80,fb86,fb138,fb151,m1, m2, m3, m4, m5, m6, m7, m8, m9, m10, m11]
    exact ⟨_, rfl, rC_low, nil_wf2, nd_low _⟩
end Go.Proofs.DeT
