/- What the package of Chain's laws knows. -/
import Derived.Test.YtlllhmenekibjaaGreatDoorDtC6x
set_option linter.unusedSimpArgs false
set_option linter.unusedVariables false
namespace Go.Proofs.DtT
open Go Go.DM Go.Proofs.DtF
set_option maxRecDepth 100000

variable {orc : DOracle}
theorem ch0PutN {S0 S c ps zs most w l} (h : Ch0 S0 S c ps zs most w l) {s : ByteArray} {i : Nat} (hs : findS zs s = (i : Int)) {m : List Rw} (hm : (rowsOf l)[i]? = some m) (h1 : 1 ≤ most) {k : ByteArray} {st : St} {m' : List Rw} {e : Int} (hp : putT most m (rowAt k st) = (m', e)) (hll : m.length < 900000) (hk : k.size < 1000000) (ho : st.org.size < 1000000) :
    CallD Tryz.prog O 35 [.ptr c 0, .str s, .agg [.str k, .int .i64 st.tick, .int .i64 st.inc, .int .i64 st.seq, .str st.org, .nils]] S fun d S' => d = .int .i64 e ∧ ∃ l', rowsOf l' = (rowsOf l).set i m' ∧ Ch0 S0 S' c ps zs most w l' ∧ Off l S l' S' :=
  CallD.weak (.cons .refl (.cons .refl (.cons (.agg' (.cons .refl (.cons .refl (.cons .refl (.cons .refl (.cons .refl (.cons .nilE .nil))))))) .nil))) (ch0Put h hs hm h1 (rowAt k st) (rowAt_few hk ho) (rowAt_ok k st) hll hp)
theorem chPut0N {S c ps zs most w l} (h : ChAt S c ps zs most w l) {s : ByteArray} (hs : findS zs s < 0) (k : ByteArray) (st : St) :
    CallD Tryz.prog orc 35 [.ptr c 0, .str s, .agg [.str k, .int .i64 st.tick, .int .i64 st.inc, .int .i64 st.seq, .str st.org, .nils]] S fun d S' => S' = S ∧ d = .int .i64 12 :=
  CallD.weak (.cons .refl (.cons .refl (.cons (.agg' (.cons .refl (.cons .refl (.cons .refl (.cons .refl (.cons .refl (.cons .nilE .nil))))))) .nil))) (chPut0 h hs (rowAt k st))
def kx3 : Rw := rowAt (⟨#[120]⟩ : ByteArray) ⟨3, 0, 0, (⟨#[47, 97, 47, 120]⟩ : ByteArray)⟩
theorem kxR : pathR (⟨#[47, 97, 47, 120]⟩ : ByteArray) = true := by decide +kernel
theorem kxP : partsP (⟨#[47, 97, 47, 120]⟩ : ByteArray) = [(⟨#[97]⟩ : ByteArray), (⟨#[120]⟩ : ByteArray)] := by decide +kernel
theorem kxZ : zonesP [(⟨#[97]⟩ : ByteArray), (⟨#[120]⟩ : ByteArray)] = [(⟨#[47]⟩ : ByteArray), (⟨#[47, 97]⟩ : ByteArray)] := by decide +kernel
theorem kxF : findS [(⟨#[47]⟩ : ByteArray), (⟨#[47, 97]⟩ : ByteArray)] (⟨#[47]⟩ : ByteArray) = ((0 : Nat) : Int) ∧ findS [(⟨#[47]⟩ : ByteArray), (⟨#[47, 97]⟩ : ByteArray)] (⟨#[47, 97]⟩ : ByteArray) = ((1 : Nat) : Int) ∧ findS [(⟨#[47]⟩ : ByteArray), (⟨#[47, 97]⟩ : ByteArray)] (⟨#[47, 98]⟩ : ByteArray) = -1 := by decide +kernel
theorem kxput : putT 5 [] kx3 = ([kx3], 0) := putT_new (by decide +kernel) rfl (by decide)
theorem kxlook : lookK Rw.key [kx3] (⟨#[120]⟩ : ByteArray) = some kx3 := by rw [lookK_cons]; exact if_pos rfl
theorem kxg1 : goneL 10 2 ⟨#[]⟩ [kx3] = [(⟨#[120]⟩ : ByteArray)] ∧ keptL 10 2 ⟨#[]⟩ [kx3] = [] := by
  have h : goneP 10 2 ⟨#[]⟩ kx3 = true := by decide +kernel
  constructor
  · simp [goneL, h]; rfl
  · simp [keptL, h]
theorem kxg2 : goneL 10 2 (⟨#[120]⟩ : ByteArray) [kx3] = [] ∧ keptL 10 2 (⟨#[120]⟩ : ByteArray) [kx3] = [kx3] := by
  have h : goneP 10 2 (⟨#[120]⟩ : ByteArray) kx3 = false := by decide +kernel
  constructor
  · simp [goneL, h]
  · simp [keptL, h]
theorem kxsw : swC 10 2 [(⟨#[97]⟩ : ByteArray), (⟨#[120]⟩ : ByteArray)] [[kx3], [kx3]] 2 = ([[], [kx3]], 1) := by
  have h0 : keepC [(⟨#[97]⟩ : ByteArray), (⟨#[120]⟩ : ByteArray)] 2 0 = ⟨#[]⟩ := rfl
  have h1 : keepC [(⟨#[97]⟩ : ByteArray), (⟨#[120]⟩ : ByteArray)] 2 1 = (⟨#[120]⟩ : ByteArray) := rfl
  have hn : ¬ ((10 : Int) < 0 ∨ (2 : Int) < 0) := by decide
  simp only [swC, List.length_cons, List.length_nil, Nat.zero_add, Nat.reduceAdd, h0, h1, keptX, goneX, if_neg hn, List.getD_cons_zero, List.getD_cons_succ, kxg1, kxg2, List.set_cons_zero, List.set_cons_succ]
set_option maxHeartbeats 4000000 in
theorem known18 (S : Mem) : CallD Tryz.prog O 29 [] S fun d S' => S' = S ∧ d = .bool true := by
  refine CallD.e Tryz.func29 rfl Tryz.ntmps29 (by rfl) ?_
  have hnew := ch0New (⟨#[47, 97, 47, 120]⟩ : ByteArray) (by decide) kxR (by rw [kxP]; decide) (most := 5) (by decide) (by decide) (S0 := S) .refl
  simp only [kxP, kxZ] at hnew
  repeat' (first|refine Go.a rfl ?_|refine Go.rg ?_|refine GoR.nil ?_|refine Go.ret ?_|refine Go.b rfl ?_|(refine GoR.o (by rfl) (by rfl) ?_;(conv => arg 1;simp only [G,Z,Y,Gx,un_neg,cutD,decide_true,decide_false,simprocAttr,fb2,fb3,fb9,fb32,fb33,fb35,fb51,fb62,fb71,bne_self_eq_false]);show GoR ..)|(refine GoR.c c30 (by rfl) (by rfl) rfl ?_;(refine hnew.mono ?_; rintro _ S1 ⟨c, w, l, rfl, h1, hr1, hf1⟩))|refine GoR.s (by rfl) rfl rfl ?_|(refine GoR.splitG rfl (fun hc => ?_) (fun hc => ?_) <;> simp only [hc])|refine Go.condB rfl (fun hc => ?_) (fun hc => ?_))
  obtain ⟨f0, f1, fb⟩ := kxF
  have hr1' : rowsOf l = [[], []] := hr1
  have hp1 := fun E => ch0PutN (h1.app E) f1 (m := []) (by rw [hr1']; rfl) (by decide) kxput (by decide) (by decide) (by decide)
  have hro : ∀ E, objAt (S1 ++ (.obj [.str (⟨#[120]⟩ : ByteArray), .int .i64 3, .int .i64 0, .int .i64 0, .str (⟨#[47, 97, 47, 120]⟩ : ByteArray), .nils] :: E)) S1.length = some [.str (⟨#[120]⟩ : ByteArray), .int .i64 3, .int .i64 0, .int .i64 0, .str (⟨#[47, 97, 47, 120]⟩ : ByteArray), .nils] := fun E => by simp [objAt]
  have hn1 : S1.length ∉ ownC l := fun hx => by have := h1.at_.lt.2 _ hx; omega
  dsimp only at hp1
  repeat' (first|refine Go.a rfl ?_|refine Go.rg ?_|refine GoR.nil ?_|refine Go.ret ?_|refine Go.b rfl ?_|(refine GoR.o (by rfl) (by rfl) ?_;(conv => arg 1;simp only [G,Z,Y,Gx,un_neg,cutD,decide_true,decide_false,simprocAttr,fb2,fb3,fb9,fb32,fb33,fb35,fb51,fb62,fb71,hro]);show GoR ..)|(refine GoR.c c35 (by rfl) (by rfl) rfl ?_;(refine (hp1 _).mono ?_; rintro _ S2 ⟨rfl, l2, hr2, h2, off2⟩))|refine GoR.s (by rfl) rfl rfl ?_)
  obtain ⟨ho2, hn2⟩ := off2 _ _ hn1 (hro _)
  rw [hr1'] at hr2
  have hr2' : rowsOf l2 = [[], [kx3]] := hr2
  have hp2 := chPut0N (orc := O) h2.at_ (s := (⟨#[47, 98]⟩ : ByteArray)) (by rw [fb]; decide) (⟨#[120]⟩ : ByteArray) ⟨3, 0, 0, (⟨#[47, 97, 47, 120]⟩ : ByteArray)⟩
  have hg2 := ch0Get (orc := O) h2 f1 (m := [kx3]) (by rw [hr2']; rfl) (⟨#[120]⟩ : ByteArray)
  rw [kxlook] at hg2
  have hz2 := fun E => chZones (orc := O) (h2.app E).at_
  have hl2 : l2.length = 2 := by have := congrArg List.length hr2'; simpa [rowsOf] using this
  have ht2 := fun E => ch0Twin (orc := O) (h2.app E) (by omega)
  have hxo : ∀ E, objAt (S2 ++ (.obj kx3.c :: E)) S2.length = some kx3.c := fun E => by simp [objAt]
  have hr2o := fun E => objAt_old (E := E) ho2
  have hn2' : S2.length ∉ ownC l2 := fun hx => by have := h2.at_.lt.2 _ hx; omega
  simp only [kx3, Rw.c, rowAt, Option.getD_some, Option.isSome_some, strsD, attsC, List.length_nil, List.flatMap_nil] at hg2 hxo hz2
  dsimp only at hp2
  repeat' (first|refine Go.a rfl ?_|refine Go.rg ?_|refine GoR.nil ?_|refine Go.ret ?_|refine Go.b rfl ?_|(refine GoR.o (by rfl) (by rfl) ?_;(conv => arg 1;simp only [G,Z,Y,Gx,un_neg,cutD,decide_true,decide_false,simprocAttr,fb2,fb3,fb9,fb32,fb33,fb35,fb51,fb62,fb71,ho2, hr2o]);show GoR ..)|(refine GoR.c c35 (by rfl) (by rfl) rfl ?_;(refine hp2.ret ?_))|(refine GoR.c c39 (by rfl) (by rfl) rfl ?_;(refine hg2.ret ?_))|(refine GoR.c c33 (by rfl) (by rfl) rfl ?_;(refine (hz2 _).ret ?_))|(refine GoR.c c38 (by rfl) (by rfl) rfl ?_;(refine (ht2 _).mono ?_; rintro _ S3 ⟨t, w3, l3, rfl, h3, hr3, h3c, htn, hdis, hf3⟩))|refine GoR.s (by rfl) rfl rfl ?_)
  have ho3 := hf3.obj (hr2o _) (by simp)
  have hx3 := hf3.obj (hxo _) (by simp)
  rw [hr2'] at hr3
  have hp3 := ch0PutN h3c f0 (m := []) (by rw [hr2']; rfl) (by decide) kxput (by decide) (by decide) (by decide)
  dsimp only at hp3
  repeat' (first|refine Go.a rfl ?_|refine Go.rg ?_|refine GoR.nil ?_|refine Go.ret ?_|refine Go.b rfl ?_|(refine GoR.o (by rfl) (by rfl) ?_;(conv => arg 1;simp only [G,Z,Y,Gx,un_neg,cutD,decide_true,decide_false,simprocAttr,fb2,fb3,fb9,fb32,fb33,fb35,fb51,fb62,fb71,ho3]);show GoR ..)|(refine GoR.c c35 (by rfl) (by rfl) rfl ?_;(refine hp3.mono ?_; rintro _ S4 ⟨rfl, l4, hr4, h4, off4⟩))|refine GoR.s (by rfl) rfl rfl ?_)
  obtain ⟨t4, tn4, td4⟩ := off4.chain h3.at_ htn hdis
  obtain ⟨hx4, xn4⟩ := off4 _ _ hn2' hx3
  rw [hr2'] at hr4
  have hr4' : rowsOf l4 = [[kx3], [kx3]] := hr4
  have hl4 : l4.length = 2 := by have := congrArg List.length hr4'; simpa [rowsOf] using this
  have hs4 := ch0Sweep h4 10 2 (ls := [[], [kx3]]) (n := 1) (by rw [hr4']; simp) (by rw [hr4', hl4]; exact kxsw)
  have hn0 := fun S => chNew0 (⟨#[47]⟩ : ByteArray) (by decide) (.inr (by decide +kernel)) 5 S
  repeat' (first|refine Go.a rfl ?_|refine Go.rg ?_|refine GoR.nil ?_|refine Go.ret ?_|refine Go.b rfl ?_|(refine GoR.o (by rfl) (by rfl) ?_;(conv => arg 1;simp only [G,Z,Y,Gx,un_neg,cutD,decide_true,decide_false,simprocAttr,fb2,fb3,fb9,fb32,fb33,fb35,fb51,fb62,fb71]);show GoR ..)|(refine GoR.c c37 (by rfl) (by rfl) rfl ?_;(refine hs4.mono ?_; rintro _ S5 ⟨rfl, l5, hr5, h5, off5⟩))|(refine GoR.c c30 (by rfl) (by rfl) rfl ?_;(refine (hn0 _).ret ?_))|refine GoR.s (by rfl) rfl rfl ?_)
  obtain ⟨t5, _, _⟩ := off5.chain t4 tn4 td4
  obtain ⟨hx5, _⟩ := off5 _ _ xn4 hx4
  have hk0 : CallD Tryz.prog O 42 [.ptr c 0, .str (⟨#[47]⟩ : ByteArray)] S5 fun d S' => S' = S5 ∧ d = .str (⟨#[97]⟩ : ByteArray) := by
    have := chKey (orc := O) h5.at_ (⟨#[47]⟩ : ByteArray)
    rw [f0] at this
    exact this
  have hk1 : CallD Tryz.prog O 42 [.ptr c 0, .str (⟨#[47, 97]⟩ : ByteArray)] S5 fun d S' => S' = S5 ∧ d = .str (⟨#[120]⟩ : ByteArray) := by
    have := chKey (orc := O) h5.at_ (⟨#[47, 97]⟩ : ByteArray)
    rw [f1] at this
    exact this
  have hk2 : CallD Tryz.prog O 42 [.ptr c 0, .str (⟨#[47, 98]⟩ : ByteArray)] S5 fun d S' => S' = S5 ∧ d = .str ⟨#[]⟩ := by
    have := chKey (orc := O) h5.at_ (⟨#[47, 98]⟩ : ByteArray)
    rw [fb] at this
    exact this
  have hh1 : CallD Tryz.prog O 41 [.ptr c 0, .str (⟨#[47, 97]⟩ : ByteArray)] S5 fun d S' => S' = S5 ∧ d = .bool true := by
    have := chHas (orc := O) h5.at_ (⟨#[47, 97]⟩ : ByteArray)
    rw [f1] at this
    exact this
  have hh2 : CallD Tryz.prog O 41 [.ptr c 0, .str (⟨#[47, 98]⟩ : ByteArray)] S5 fun d S' => S' = S5 ∧ d = .bool false := by
    have := chHas (orc := O) h5.at_ (⟨#[47, 98]⟩ : ByteArray)
    rw [fb] at this
    exact this
  have hw0 : CallD Tryz.prog O 44 [.ptr c 0, .str (⟨#[47]⟩ : ByteArray)] S5 fun d S' => S' = S5 ∧ d = .sl none 6 0 [] := ch0Rows (orc := O) h5 f0 (m := []) (by rw [hr5] <;> rfl)
  have hw1 : CallD Tryz.prog O 44 [.ptr c 0, .str (⟨#[47, 97]⟩ : ByteArray)] S5 fun d S' => S' = S5 ∧ d = .sl none 6 1 (rowsC [kx3]) := ch0Rows (orc := O) h5 f1 (m := [kx3]) (by rw [hr5] <;> rfl)
  have h6 : Ch0 S S5 t [(⟨#[97]⟩ : ByteArray), (⟨#[120]⟩ : ByteArray)] [(⟨#[47]⟩ : ByteArray), (⟨#[47, 97]⟩ : ByteArray)] 5 w3 l3 := ⟨t5, h3.lo, h3.low, h5.fr⟩
  have hw2 : CallD Tryz.prog O 44 [.ptr t 0, .str (⟨#[47]⟩ : ByteArray)] S5 fun d S' => S' = S5 ∧ d = .sl none 6 0 [] := ch0Rows (orc := O) h6 f0 (m := []) (by rw [hr3] <;> rfl)
  have g0 : IntKind.i64.wrap ((0 : Int) + 0) = 0 := rfl
  have g3 : Int.toNat 0 = 0 := rfl
  have g4 : Int.toNat 1 = 1 := rfl
  repeat' (first|refine Go.a rfl ?_|refine Go.rg ?_|refine GoR.nil ?_|refine Go.ret ?_|refine Go.b rfl ?_|(refine GoR.o (by rfl) (by rfl) ?_;(conv => arg 1;simp only [G,Z,Y,Gx,un_neg,cutD,decide_true,decide_false,simprocAttr,fb2,fb3,fb9,fb32,fb33,fb35,fb51,fb62,fb71,g0, g3, g4, hx5]);show GoR ..)|(refine GoR.c c42 (by rfl) (by rfl) rfl ?_;(first | (refine hk0.ret ?_) | (refine hk1.ret ?_) | (refine hk2.ret ?_)))|(refine GoR.c c41 (by rfl) (by rfl) rfl ?_;(first | (refine hh1.ret ?_) | (refine hh2.ret ?_)))|(refine GoR.c c44 (by rfl) (by rfl) rfl ?_;(first | (refine hw0.ret ?_) | (refine hw1.ret ?_) | (refine hw2.ret ?_)))|refine GoR.s (by rfl) rfl rfl ?_|(refine GoR.splitG rfl (fun hc => ?_) (fun hc => ?_) <;> simp only [hc])|refine Go.condB rfl (fun hc => ?_) (fun hc => ?_))
  refine ⟨(by first | exact .inl rfl | exact .inr rfl), fin ?_⟩
  rw [resD_tmp (fn := Tryz.f29) rfl]
  simp only [optThen_some,resultD_tmp,resultD_cell,G,Z,Y,Gx,un_neg,cutD,decide_true,decide_false,simprocAttr,fb2,fb3,fb9,fb32,fb33,fb35,fb51,fb62,fb71]
  obtain ⟨E, hE⟩ := h5.fr.pre (by simp)
  exact ⟨_, E, hE, .bool, rfl⟩
end Go.Proofs.DtT

/- The law ChainApart. -/
namespace Go.Proofs.DtT
open Go Go.DM Go.Proofs.DtF
set_option maxRecDepth 100000
variable {orc : DOracle}

theorem countK_put {l : List Rw} (hr : RiseB Rw.key l) {a : Rw} (h : lookK Rw.key l a.key = none) (p : Rw → Bool) : (putK Rw.key l a).countP p = l.countP p + if p a then 1 else 0 := by
  obtain ⟨x, m, y, c⟩ := cutK_of hr a.key
  rcases c.mid with ⟨rfl, _⟩ | ⟨u, _, _, hu⟩
  · rw [c.put a rfl]
    conv => rhs; rw [c.eq]
    simp only [List.nil_append, List.countP_append, List.countP_cons]
    omega
  · rw [hu] at h
    cases h
theorem swC_two {now age : Int} {ps : List ByteArray} {ls : List (List Rw)} : ∀ i, i ≤ ls.length → (swC now age ps ls i).2 = ((List.range i).map fun j => (goneX now age (keepC ps ls.length j) (ls.getD j [])).length).sum
  | 0, _ => rfl
  | i + 1, h => by rw [swC, List.range_succ, List.map_append, List.sum_append, ← swC_two i (by omega)]; simp
theorem swC_one {now age : Int} {ps : List ByteArray} {ls : List (List Rw)} : ∀ i, i ≤ ls.length → ∀ j, j < ls.length → (swC now age ps ls i).1[j]? = some (if j < i then keptX now age (keepC ps ls.length j) (ls.getD j []) else ls.getD j [])
  | 0, _, j, h => by simp [swC, h]
  | i + 1, h, j, hj => by
    rw [swC, List.getElem?_set]
    have hl := swC_len (now := now) (age := age) (ps := ps) (ls := ls) i
    by_cases e : i = j
    · subst e
      rw [if_pos rfl, if_pos (by omega), if_pos (by omega)]
    · rw [if_neg e, swC_one i (by omega) j hj]
      by_cases h2 : j < i
      · rw [if_pos h2, if_pos (by omega)]
      · rw [if_neg h2, if_neg (by omega)]
def owD (d : Nat) : ByteArray := [(⟨#[47, 97]⟩ : ByteArray), (⟨#[47, 97, 47, 98]⟩ : ByteArray), (⟨#[47, 97, 47, 98, 47, 99]⟩ : ByteArray), (⟨#[47, 97, 47, 98, 47, 99, 47, 100]⟩ : ByteArray)].getD d ⟨#[]⟩
theorem owD1 : ∀ d, d < 4 → pathR (owD d) = true ∧ (partsP (owD d)).length = d + 1 ∧ (owD d).size < 1000 ∧ pathOk (owD d) = true := by decide +kernel
theorem owD2 : ∀ d, d < 4 → ∀ i, i < d + 1 → findS (zonesP (partsP (owD d))) ((zonesP (partsP (owD d))).getD i ⟨#[]⟩) = (i : Int) ∧ nameOk ((partsP (owD d)).getD i ⟨#[]⟩) = true ∧ (partsP (owD d)).getD i ⟨#[]⟩ ≠ (⟨#[113]⟩ : ByteArray) := by decide +kernel
def qR (t : Int) : Rw := rowAt (⟨#[113]⟩ : ByteArray) ⟨t, 0, 0, (⟨#[47, 113]⟩ : ByteArray)⟩
def oR (p own : ByteArray) : Rw := rowAt p ⟨0, 0, 0, own⟩
def baseR (t : Int) (b : Bool) : List Rw := if b then [qR t] else []
theorem baseR_ok {t : Int} {b : Bool} : OkT (baseR t b) := by
  cases b
  · exact .nil
  · exact ⟨fun i h => by simp [baseR] at h, by simp [baseR], fun r hr => by simp [baseR] at hr; subst hr; exact rowAt_ok _ _⟩
theorem qR_chk {t : Int} (ht : 0 ≤ t ∧ t ≤ 255) : chkR (qR t) = 0 := by
  have h1 : inOk t = true := by simp only [inOk, Bool.and_eq_true, decide_eq_true_eq]; omega
  have h3 : inOk 0 = true := by decide
  have h4 : pathOk (⟨#[47, 113]⟩ : ByteArray) = true := by decide +kernel
  have h5 : nameOk (⟨#[113]⟩ : ByteArray) = true := by decide +kernel
  simp [chkR, qR, rowAt, chk, h1, h3, h4, h5]
  rfl
theorem oR_chk {p own : ByteArray} (hp : nameOk p = true) (ho : pathOk own = true) : chkR (oR p own) = 0 := by
  have h3 : inOk 0 = true := by decide
  simp [chkR, oR, rowAt, chk, h3, hp, ho]
  rfl
theorem oR_no {t : Int} {b : Bool} {p : ByteArray} (h : p ≠ (⟨#[113]⟩ : ByteArray)) : lookK Rw.key (baseR t b) p = none := by
  cases b
  · rfl
  · show lookK Rw.key [qR t] p = none
    rw [lookK_cons, if_neg (fun e : (qR t).key = p => h e.symm)]
    rfl
theorem putQ {t : Int} (ht : 0 ≤ t ∧ t ≤ 255) : putT 8 [] (qR t) = ([qR t], 0) := putT_new (qR_chk ht) rfl (by decide)
theorem putO {t : Int} {b : Bool} {p own : ByteArray} (hp : nameOk p = true) (ho : pathOk own = true) (h : p ≠ (⟨#[113]⟩ : ByteArray)) : putT 8 (baseR t b) (oR p own) = (putK Rw.key (baseR t b) (oR p own), 0) :=
  putT_new (oR_chk hp ho) (oR_no h) (by cases b <;> simp [baseR])
theorem sweptO {t : Int} (ht : 0 ≤ t ∧ t ≤ 255) {b : Bool} {p own keep : ByteArray} (h : p ≠ (⟨#[113]⟩ : ByteArray)) (hk : keep ≠ (⟨#[113]⟩ : ByteArray)) :
    (goneX 1000 1 keep (putK Rw.key (baseR t b) (oR p own))).length = (if b then 1 else 0) + (if p = keep then 0 else 1) ∧ (keptX 1000 1 keep (putK Rw.key (baseR t b) (oR p own))).length = if p = keep then 1 else 0 := by
  have w : IntKind.i64.wrap ((1000 : Int) - 1) = 999 := by decide
  have hn : ¬ ((1000 : Int) < 0 ∨ (1 : Int) < 0) := by decide
  have g1 : goneP 1000 1 keep (qR t) = true := by
    rw [goneP, w, decide_eq_false (fun e : (qR t).key = keep => hk e.symm)]
    show (!false && decide (t < 999)) = true
    rw [decide_eq_true (by omega)]
    rfl
  have g2 : goneP 1000 1 keep (oR p own) = !decide (p = keep) := by
    rw [goneP, w]
    show (!decide (p = keep) && decide ((0 : Int) < 999)) = !decide (p = keep)
    rw [decide_eq_true (p := (0 : Int) < 999) (by decide), Bool.and_true]
  have c := fun f => countK_put baseR_ok.rise (a := oR p own) (l := baseR t b) (oR_no h) f
  unfold goneX keptX
  rw [if_neg hn, if_neg hn, goneL, keptL, List.length_map, ← List.countP_eq_length_filter, ← List.countP_eq_length_filter, c, c]
  rw [g2]
  cases b <;> by_cases e : p = keep
  · simp [baseR, e]
  · simp [baseR, e]
  · simp [baseR, e, g1]
  · simp [baseR, e, g1]
theorem sumO : ∀ n, n < 5 → ∀ k, k < n → ((List.range n).map fun j => (if decide (j = k) = true then 1 else 0) + (if j + 1 = n then 0 else 1)).sum = n := by decide
set_option maxHeartbeats 4000000 in
theorem lawApart (deep which tick : Int) (hd : 0 ≤ deep ∧ deep ≤ 255) (hw : 0 ≤ which ∧ which ≤ 255) (ht : 0 ≤ tick ∧ tick ≤ 255) (S : Mem) :
    CallD Tryz.prog O 6 [.int .u8 deep, .int .u8 which, .int .u8 tick] S fun d S' => S' = S ∧ d = .bool true := by
  obtain ⟨dn, rfl⟩ := Int.eq_ofNat_of_zero_le hd.1
  obtain ⟨wn, rfl⟩ := Int.eq_ofNat_of_zero_le hw.1
  have q1 : Int.tmod (dn : Int) 4 = ((dn % 4 : Nat) : Int) := rfl
  have hd4 : dn % 4 < 4 := by omega
  generalize dn % 4 = d at *
  obtain ⟨o1, o2, o3, o4⟩ := owD1 d hd4
  have hz := owD2 d hd4
  have hn := ch0New (owD d) (by omega) o1 (by omega) (most := 8) (by decide) (by decide) (S0 := S) (S := S ++ [.own]) .app
  have hzl := zonesP_len (partsP (owD d))
  rw [o2] at hzl
  have hcell : ([.str (⟨#[47, 97]⟩ : ByteArray), .str (⟨#[47, 97, 47, 98]⟩ : ByteArray), .str (⟨#[47, 97, 47, 98, 47, 99]⟩ : ByteArray), .str (⟨#[47, 97, 47, 98, 47, 99, 47, 100]⟩ : ByteArray)] : List D)[d]? = some (.str (owD d)) := by
    have key : ∀ d, d < 4 → ([(⟨#[47, 97]⟩ : ByteArray), (⟨#[47, 97, 47, 98]⟩ : ByteArray), (⟨#[47, 97, 47, 98, 47, 99]⟩ : ByteArray), (⟨#[47, 97, 47, 98, 47, 99, 47, 100]⟩ : ByteArray)] : List ByteArray)[d]? = some (owD d) := by decide +kernel
    have := congrArg (Option.map D.str) (key d hd4)
    rw [← List.getElem?_map] at this
    exact this
  have hix : ((0 ≤ (d : Int) ∧ (d : Int) < ((4 : Nat) : Int)) = True) ∧ ((0 ≤ (d : Int) ∧ (d : Int) < (4 : Int)) = True) := by simp; omega
  generalize hown : owD d = own at *
  generalize partsP own = ps at *
  generalize zonesP ps = zs at *
  refine CallD.e Tryz.func6 rfl Tryz.ntmps6 (by rfl) ?_
  have g4 : ((4 : Int) = 0) = False := by decide
  have r4 : ∀ x : D, repD [x] 4 = [x, x, x, x] := fun _ => rfl
  repeat' (first|refine Go.a rfl ?_|refine Go.rg ?_|refine GoR.nil ?_|refine Go.ret ?_|refine Go.b rfl ?_|refine Go.rgS dmx (by decide) ?_|refine Go.rgD [14] (fun _ => True) dmx (by decide) 24 (by decide) (by trivial) ?_|refine GoW.nil rfl ?_|((first|refine GoR.o (by rfl) (by rfl) ?_|refine GoW.o (by rfl) (by rfl) ?_|refine GoW.rd (by rfl) (by rfl) ?_);(conv => arg 1;simp only [G,Z,Y,Gx,un_neg,cutD,decide_true,decide_false,simprocAttr,fb2,fb3,fb5,fb9,fb25,fb32,fb33,fb35,fb51,fb62,fb71,q1, g4, r4, hcell, hix, bne_self_eq_false]);first|show GoR ..|(show _ ∧ GoW ..;refine ⟨by exact fun _ => trivial,?_⟩)|(show _ ∧ _ ∧ _ ∧ GoW ..;refine ⟨rfl,by trivial,(fun H _=>by simp only [G,Z,Y,Gx,un_neg,cutD,decide_true,decide_false,simprocAttr,fb2,fb3,fb5,fb9,fb25,fb32,fb33,fb35,fb51,fb62,fb71,q1, g4, r4, hcell, hix, bne_self_eq_false]),?_⟩))|(refine GoW.c c29 (by rfl) (by rfl) rfl ?_;(refine (known18 _).ret ?_);refine ⟨by exact fun _ => trivial,?_⟩)|(refine GoR.c c29 (by rfl) (by rfl) rfl ?_;(refine (known18 _).ret ?_))|(refine GoW.c c30 (by rfl) (by rfl) rfl ?_;(refine hn.mono ?_; rintro _ S1 ⟨c, w, l, rfl, h1, hr1, hf1⟩);refine ⟨by exact fun _ => trivial,?_⟩)|(refine GoR.c c30 (by rfl) (by rfl) rfl ?_;(refine hn.mono ?_; rintro _ S1 ⟨c, w, l, rfl, h1, hr1, hf1⟩))|refine GoR.s (by rfl) rfl rfl ?_|refine GoW.s (by rfl) rfl rfl (by exact fun _ => trivial) ?_|(refine GoR.splitG rfl (fun hc => ?_) (fun hc => ?_) <;> simp only [hc])|refine Go.condB rfl (fun hc => ?_) (fun hc => ?_))
  obtain ⟨n, hnn⟩ : ∃ n, n = d + 1 := ⟨_, rfl⟩
  rw [← hnn] at hzl o2
  simp only [← hnn] at hz
  have hn5 : n < 5 := by omega
  have hn1 : 0 < n := by omega
  have hzn := chZones (orc := O) h1.at_
  unfold strsD at hzn
  rw [hzl] at hzn
  have zAt : ∀ i, i < n → ((0 ≤ (i : Int) ∧ (i : Int) < (n : Int)) = True) ∧ (zs.map D.str)[i]? = some (.str (zs.getD i ⟨#[]⟩)) := fun i hi => by
    have hi2 : i < zs.length := by omega
    exact ⟨by simp; omega, by simp [hi2]⟩
  have w1 : IntKind.i64.wrap (d : Int) = (d : Int) := wrap64 (by omega) (by omega)
  have w2 : IntKind.i64.wrap (1 + (d : Int)) = (n : Int) := by rw [wrap64 (by omega) (by omega)]; omega
  have w3 : IntKind.i64.wrap (wn : Int) = (wn : Int) := wrap64 (by omega) (by omega)
  have w4 : IntKind.i64.wrap tick = tick := wrap64 (by omega) (by omega)
  have q2 : Int.tmod (wn : Int) (n : Int) = ((wn % n : Nat) : Int) := (Int.ofNat_tmod _ _).symm
  have g5 : ((n : Int) = 0) = False := by simp; omega
  have hk : wn % n < n := Nat.mod_lt _ hn1
  generalize wn % n = k at *
  have cv1 := fun (S : Mem) (m : Int) => conv_int (S := S) (k2 := .u8) (n := m) Tryz.underlying5 Tryz.underlying3
  have cv2 := fun (S : Mem) (m : Int) => conv_int (S := S) (k2 := .u8) (n := m) Tryz.underlying5 Tryz.underlying2
  have hm0 : (rowsOf l)[k]? = some [] := by rw [hr1]; simp [o2, hk]
  have hpq := ch0PutN h1 (hz k hk).1 hm0 (by decide) (putQ ht) (by decide) (by decide) (by show ByteArray.size (⟨#[47, 113]⟩ : ByteArray) < _; decide)
  dsimp only at hpq
  have ak := zAt k hk
  repeat' (first|refine Go.a rfl ?_|refine Go.rg ?_|refine GoR.nil ?_|refine Go.ret ?_|refine Go.b rfl ?_|refine Go.rgS dmx (by decide) ?_|refine Go.rgD [14] (fun _ => True) dmx (by decide) 24 (by decide) (by trivial) ?_|refine GoW.nil rfl ?_|((first|refine GoR.o (by rfl) (by rfl) ?_|refine GoW.o (by rfl) (by rfl) ?_|refine GoW.rd (by rfl) (by rfl) ?_);(conv => arg 1;simp only [G,Z,Y,Gx,un_neg,cutD,decide_true,decide_false,simprocAttr,fb2,fb3,fb5,fb9,fb25,fb32,fb33,fb35,fb51,fb62,fb71,q1, g4, cv1, cv2, w1, w2, w3, w4, q2, g5, ak, bne_self_eq_false]);first|show GoR ..|(show _ ∧ GoW ..;refine ⟨by exact fun _ => trivial,?_⟩)|(show _ ∧ _ ∧ _ ∧ GoW ..;refine ⟨rfl,by trivial,(fun H _=>by simp only [G,Z,Y,Gx,un_neg,cutD,decide_true,decide_false,simprocAttr,fb2,fb3,fb5,fb9,fb25,fb32,fb33,fb35,fb51,fb62,fb71,q1, g4, cv1, cv2, w1, w2, w3, w4, q2, g5, ak, bne_self_eq_false]),?_⟩))|(refine GoW.c c33 (by rfl) (by rfl) rfl ?_;(refine hzn.ret ?_);refine ⟨by exact fun _ => trivial,?_⟩)|(refine GoR.c c33 (by rfl) (by rfl) rfl ?_;(refine hzn.ret ?_))|(refine GoW.c c35 (by rfl) (by rfl) rfl ?_;(refine hpq.mono ?_; rintro _ S2 ⟨rfl, l2, hr2, h2, _⟩);refine ⟨by exact fun _ => trivial,?_⟩)|(refine GoR.c c35 (by rfl) (by rfl) rfl ?_;(refine hpq.mono ?_; rintro _ S2 ⟨rfl, l2, hr2, h2, _⟩))|refine GoR.s (by rfl) rfl rfl ?_|refine GoW.s (by rfl) rfl rfl (by exact fun _ => trivial) ?_|(refine GoR.splitG rfl (fun hc => ?_) (fun hc => ?_) <;> simp only [hc])|refine Go.condB rfl (fun hc => ?_) (fun hc => ?_))
  have hrow : ∀ j, j < n → (rowsOf l2)[j]? = some (if j < 0 then putK Rw.key (baseR tick (decide (j = k))) (oR (ps.getD j ⟨#[]⟩) own) else baseR tick (decide (j = k))) := fun j hj => by
    rw [hr2, hr1, if_neg (by omega), List.getElem?_set]
    by_cases e : k = j
    · subst e
      rw [if_pos rfl, if_pos (by simp [o2, hk])]
      simp [baseR]
    · rw [if_neg e, decide_eq_false (fun h => e h.symm)]
      simp [o2, hj, baseR]
  refine Go.keep [(7, .str own), (8, .ptr c 0), (10, .sl none 1 n (zs.map .str)), (11, .int .i64 (k : Int)), (12, .int .i64 0), (13, .int .i64 ((0 : Nat) : Int))] (.cons .refl (.cons .refl (.cons .refl (.cons .refl (.cons .refl (.cons .refl (.nil))))))) ?_
  refine Go.while (α := Nat × Tl × Mem) (fun x => n - x.1) (fun x => [(7, .str own), (8, .ptr c 0), (10, .sl none 1 n (zs.map .str)), (11, .int .i64 (k : Int)), (12, .int .i64 0), (13, .int .i64 (x.1 : Int))]) (fun x => x.2.2)
    (fun x => x.1 ≤ n ∧ Ch0 S x.2.2 c ps zs 8 w x.2.1 ∧ ∀ j, j < n → (rowsOf x.2.1)[j]? = some (if j < x.1 then putK Rw.key (baseR tick (decide (j = k))) (oR (ps.getD j ⟨#[]⟩) own) else baseR tick (decide (j = k)))) ?_ (0, l2, S2) ⟨Nat.zero_le _, h2, hrow⟩
  clear hrow hr2 h2 hpq hzn hr1 h1 hn hf1
  rintro ⟨i, l1, S1⟩ ⟨hi, h1, hrow⟩ next
  dsimp only at hi h1 hrow next
  by_cases hin : i < n
  · have ai := zAt i hin
    obtain ⟨z1, z2, z3⟩ := hz i hin
    have hmi := hrow i hin
    rw [if_neg (by omega)] at hmi
    have hrw := ch0Rows (orc := O) h1 z1 hmi
    have hky : CallD Tryz.prog O 42 [.ptr c 0, .str (zs.getD i ⟨#[]⟩)] S1 fun d S' => S' = S1 ∧ d = .str (ps.getD i ⟨#[]⟩) := by
      have := chKey (orc := O) h1.at_ (zs.getD i ⟨#[]⟩)
      rw [z1, if_neg (by omega)] at this
      exact this
    have hpt := ch0PutN h1 z1 hmi (by decide) (putO (t := tick) (b := decide (i = k)) z2 o4 z3) (by cases decide (i = k) <;> simp [baseR]) (by have := nameOk_size z2; omega) (by show own.size < _; omega)
    dsimp only at hpt
    have hrow2 : ∀ l2, rowsOf l2 = (rowsOf l1).set i (putK Rw.key (baseR tick (decide (i = k))) (oR (ps.getD i ⟨#[]⟩) own)) → ∀ j, j < n → (rowsOf l2)[j]? = some (if j < i + 1 then putK Rw.key (baseR tick (decide (j = k))) (oR (ps.getD j ⟨#[]⟩) own) else baseR tick (decide (j = k))) := fun l2 e j hj => by
      have hln : (rowsOf l1).length = n := by
        have := h1.at_.z
        rw [hzl] at this
        rw [rowsOf, List.length_map, ← this]
      rw [e, List.getElem?_set]
      by_cases e : i = j
      · subst e
        rw [if_pos rfl, if_pos (by omega), if_pos (by omega)]
      · rw [if_neg e, hrow j hj]
        by_cases h2 : j < i
        · rw [if_pos h2, if_pos (by omega)]
        · rw [if_neg h2, if_neg (by omega)]
    have di : decide ((i : Int) < (n : Int)) = true := by simp; omega
    by_cases e : i = k
    · have de : decide (i = k) = true := by simpa using e
      have be : ((i : Int) == (k : Int)) = true := by simp [e]
      rw [de] at hrw hpt hrow2
      have hle : (baseR tick true).length = 1 := rfl
      rw [hle] at hrw
      repeat' (first|refine Go.a rfl ?_|refine Go.rg ?_|refine GoR.nil ?_|refine Go.ret ?_|refine Go.b rfl ?_|refine Go.rgS dmx (by decide) ?_|refine Go.rgD [14] (fun _ => True) dmx (by decide) 24 (by decide) (by trivial) ?_|refine GoW.nil rfl ?_|((first|refine GoR.o (by rfl) (by rfl) ?_|refine GoW.o (by rfl) (by rfl) ?_|refine GoW.rd (by rfl) (by rfl) ?_);(conv => arg 1;simp only [G,Z,Y,Gx,un_neg,cutD,decide_true,decide_false,simprocAttr,fb2,fb3,fb5,fb9,fb25,fb32,fb33,fb35,fb51,fb62,fb71,di, ai, be, bne_self_eq_false, wrap_succ (show i < 4611686018427387904 by omega)]);first|show GoR ..|(show _ ∧ GoW ..;refine ⟨by exact fun _ => trivial,?_⟩)|(show _ ∧ _ ∧ _ ∧ GoW ..;refine ⟨rfl,by trivial,(fun H _=>by simp only [G,Z,Y,Gx,un_neg,cutD,decide_true,decide_false,simprocAttr,fb2,fb3,fb5,fb9,fb25,fb32,fb33,fb35,fb51,fb62,fb71,di, ai, be, bne_self_eq_false, wrap_succ (show i < 4611686018427387904 by omega)]),?_⟩))|(refine GoW.c c44 (by rfl) (by rfl) rfl ?_;(refine hrw.ret ?_);refine ⟨by exact fun _ => trivial,?_⟩)|(refine GoR.c c44 (by rfl) (by rfl) rfl ?_;(refine hrw.ret ?_))|(refine GoW.c c42 (by rfl) (by rfl) rfl ?_;(refine hky.ret ?_);refine ⟨by exact fun _ => trivial,?_⟩)|(refine GoR.c c42 (by rfl) (by rfl) rfl ?_;(refine hky.ret ?_))|(refine GoW.c c35 (by rfl) (by rfl) rfl ?_;(refine hpt.mono ?_; rintro _ S2 ⟨rfl, l2, hr2, h2, _⟩);refine ⟨by exact fun _ => trivial,?_⟩)|(refine GoR.c c35 (by rfl) (by rfl) rfl ?_;(refine hpt.mono ?_; rintro _ S2 ⟨rfl, l2, hr2, h2, _⟩))|refine GoR.s (by rfl) rfl rfl ?_|refine GoW.s (by rfl) rfl rfl (by exact fun _ => trivial) ?_|(refine GoR.splitG rfl (fun hc => ?_) (fun hc => ?_) <;> simp only [hc])|refine Go.condB rfl (fun hc => ?_) (fun hc => ?_))
      refine Go.lpN ?_
      refine Go.keep [(7, .str own), (8, .ptr c 0), (10, .sl none 1 n (zs.map .str)), (11, .int .i64 (k : Int)), (12, .int .i64 0), (13, .int .i64 ((i + 1 : Nat) : Int))] (.cons .refl (.cons .refl (.cons .refl (.cons .refl (.cons .refl (.cons .refl (.nil))))))) ?_
      exact next (i + 1, l2, S2) (by dsimp only; omega) ⟨hin, h2, hrow2 l2 hr2⟩
    · have de : decide (i = k) = false := by simpa using e
      have be : ((i : Int) == (k : Int)) = false := by simp; omega
      rw [de] at hrw hpt hrow2
      have hle : (baseR tick false).length = 0 := rfl
      rw [hle] at hrw
      repeat' (first|refine Go.a rfl ?_|refine Go.rg ?_|refine GoR.nil ?_|refine Go.ret ?_|refine Go.b rfl ?_|refine Go.rgS dmx (by decide) ?_|refine Go.rgD [14] (fun _ => True) dmx (by decide) 24 (by decide) (by trivial) ?_|refine GoW.nil rfl ?_|((first|refine GoR.o (by rfl) (by rfl) ?_|refine GoW.o (by rfl) (by rfl) ?_|refine GoW.rd (by rfl) (by rfl) ?_);(conv => arg 1;simp only [G,Z,Y,Gx,un_neg,cutD,decide_true,decide_false,simprocAttr,fb2,fb3,fb5,fb9,fb25,fb32,fb33,fb35,fb51,fb62,fb71,di, ai, be, bne_self_eq_false, wrap_succ (show i < 4611686018427387904 by omega)]);first|show GoR ..|(show _ ∧ GoW ..;refine ⟨by exact fun _ => trivial,?_⟩)|(show _ ∧ _ ∧ _ ∧ GoW ..;refine ⟨rfl,by trivial,(fun H _=>by simp only [G,Z,Y,Gx,un_neg,cutD,decide_true,decide_false,simprocAttr,fb2,fb3,fb5,fb9,fb25,fb32,fb33,fb35,fb51,fb62,fb71,di, ai, be, bne_self_eq_false, wrap_succ (show i < 4611686018427387904 by omega)]),?_⟩))|(refine GoW.c c44 (by rfl) (by rfl) rfl ?_;(refine hrw.ret ?_);refine ⟨by exact fun _ => trivial,?_⟩)|(refine GoR.c c44 (by rfl) (by rfl) rfl ?_;(refine hrw.ret ?_))|(refine GoW.c c42 (by rfl) (by rfl) rfl ?_;(refine hky.ret ?_);refine ⟨by exact fun _ => trivial,?_⟩)|(refine GoR.c c42 (by rfl) (by rfl) rfl ?_;(refine hky.ret ?_))|(refine GoW.c c35 (by rfl) (by rfl) rfl ?_;(refine hpt.mono ?_; rintro _ S2 ⟨rfl, l2, hr2, h2, _⟩);refine ⟨by exact fun _ => trivial,?_⟩)|(refine GoR.c c35 (by rfl) (by rfl) rfl ?_;(refine hpt.mono ?_; rintro _ S2 ⟨rfl, l2, hr2, h2, _⟩))|refine GoR.s (by rfl) rfl rfl ?_|refine GoW.s (by rfl) rfl rfl (by exact fun _ => trivial) ?_|(refine GoR.splitG rfl (fun hc => ?_) (fun hc => ?_) <;> simp only [hc])|refine Go.condB rfl (fun hc => ?_) (fun hc => ?_))
      refine Go.lpN ?_
      refine Go.keep [(7, .str own), (8, .ptr c 0), (10, .sl none 1 n (zs.map .str)), (11, .int .i64 (k : Int)), (12, .int .i64 0), (13, .int .i64 ((i + 1 : Nat) : Int))] (.cons .refl (.cons .refl (.cons .refl (.cons .refl (.cons .refl (.cons .refl (.nil))))))) ?_
      exact next (i + 1, l2, S2) (by dsimp only; omega) ⟨hin, h2, hrow2 l2 hr2⟩
  clear next
  obtain rfl : n = i := by omega
  have hll : l1.length = n := by rw [← h1.at_.z, hzl]
  have hrl : (rowsOf l1).length = n := by rw [rowsOf, List.length_map, hll]
  have hB : ∀ j, j < n → (rowsOf l1).getD j [] = putK Rw.key (baseR tick (decide (j = k))) (oR (ps.getD j ⟨#[]⟩) own) := fun j hj => by
    rw [List.getD_eq_getElem?_getD, hrow j hj, if_pos hj]
    rfl
  have hsl : ∀ j, j < n → (goneX 1000 1 (keepC ps n j) (putK Rw.key (baseR tick (decide (j = k))) (oR (ps.getD j ⟨#[]⟩) own))).length = (if decide (j = k) = true then 1 else 0) + (if j + 1 = n then 0 else 1) ∧ (keptX 1000 1 (keepC ps n j) (putK Rw.key (baseR tick (decide (j = k))) (oR (ps.getD j ⟨#[]⟩) own))).length = if j + 1 = n then 1 else 0 := fun j hj => by
    obtain ⟨_, z2, z3⟩ := hz j hj
    by_cases e : j + 1 = n
    · have hk : keepC ps n j = ps.getD j ⟨#[]⟩ := if_pos e
      have := sweptO ht (b := decide (j = k)) (own := own) (keep := keepC ps n j) z3 (by rw [hk]; exact z3)
      rw [if_pos hk.symm, if_pos hk.symm] at this
      rw [if_pos e, if_pos e]
      exact this
    · have hk : keepC ps n j = ⟨#[]⟩ := if_neg e
      have hne : ¬ ps.getD j ⟨#[]⟩ = keepC ps n j := fun h => by
        rw [hk] at h
        rw [h] at z2
        revert z2
        decide
      have := sweptO ht (b := decide (j = k)) (own := own) (keep := keepC ps n j) z3 (by rw [hk]; decide)
      rw [if_neg hne, if_neg hne] at this
      rw [if_neg e, if_neg e]
      exact this
  have hcnt : (swC 1000 1 ps (rowsOf l1) l1.length).2 = n := by
    rw [hll, swC_two n (by omega), hrl]
    refine Eq.trans ?_ (sumO n hn5 k hk)
    congr 1
    refine List.map_congr_left fun j hj => ?_
    rw [List.mem_range] at hj
    rw [hB j hj]
    exact (hsl j hj).1
  have hsm : ∀ m ∈ rowsOf l1, m.length ≤ 1000 := fun m hm => by
    obtain ⟨j, hj, rfl⟩ := List.mem_iff_getElem.1 hm
    have := hrow j (by omega)
    rw [List.getElem?_eq_getElem hj, if_pos (by omega)] at this
    rw [Option.some.inj this, lenK_put baseR_ok.rise]
    cases decide (j = k) <;> simp [baseR] <;> split <;> omega
  have hsw := ch0Sweep h1 1000 1 hsm (ls := (swC 1000 1 ps (rowsOf l1) l1.length).1) (n := n) (by rw [← hcnt])
  repeat' (first|refine Go.a rfl ?_|refine Go.rg ?_|refine GoR.nil ?_|refine Go.ret ?_|refine Go.b rfl ?_|refine Go.rgS dmx (by decide) ?_|refine Go.rgD [14] (fun _ => True) dmx (by decide) 24 (by decide) (by trivial) ?_|refine GoW.nil rfl ?_|((first|refine GoR.o (by rfl) (by rfl) ?_|refine GoW.o (by rfl) (by rfl) ?_|refine GoW.rd (by rfl) (by rfl) ?_);(conv => arg 1;simp only [G,Z,Y,Gx,un_neg,cutD,decide_true,decide_false,simprocAttr,fb2,fb3,fb5,fb9,fb25,fb32,fb33,fb35,fb51,fb62,fb71,show decide ((n : Int) < (n : Int)) = false by simp]);first|show GoR ..|(show _ ∧ GoW ..;refine ⟨by exact fun _ => trivial,?_⟩)|(show _ ∧ _ ∧ _ ∧ GoW ..;refine ⟨rfl,by trivial,(fun H _=>by simp only [G,Z,Y,Gx,un_neg,cutD,decide_true,decide_false,simprocAttr,fb2,fb3,fb5,fb9,fb25,fb32,fb33,fb35,fb51,fb62,fb71,show decide ((n : Int) < (n : Int)) = false by simp]),?_⟩))|(refine GoW.c c37 (by rfl) (by rfl) rfl ?_;(refine hsw.mono ?_; rintro _ S2 ⟨rfl, l2, hr2, h2, _⟩);refine ⟨by exact fun _ => trivial,?_⟩)|(refine GoR.c c37 (by rfl) (by rfl) rfl ?_;(refine hsw.mono ?_; rintro _ S2 ⟨rfl, l2, hr2, h2, _⟩))|refine GoR.s (by rfl) rfl rfl ?_|refine GoW.s (by rfl) rfl rfl (by exact fun _ => trivial) ?_|(refine GoR.splitG rfl (fun hc => ?_) (fun hc => ?_) <;> simp only [hc])|refine Go.condB rfl (fun hc => ?_) (fun hc => ?_))
  clear hsw h1
  refine Go.keep [(8, .ptr c 0), (10, .sl none 1 n (zs.map .str)), (12, .int .i64 0), (15, .int .i64 (n : Int)), (16, .int .i64 0), (17, .int .i64 ((0 : Nat) : Int))] (.cons .refl (.cons .refl (.cons .refl (.cons .refl (.cons .refl (.cons .refl (.nil))))))) ?_
  refine Go.while (α := Nat × Int) (fun x => n - x.1) (fun x => [(8, .ptr c 0), (10, .sl none 1 n (zs.map .str)), (12, .int .i64 0), (15, .int .i64 (n : Int)), (16, .int .i64 x.2), (17, .int .i64 (x.1 : Int))]) (fun _ => S2) (fun x => x.1 ≤ n ∧ x.2 = if x.1 = n then 1 else 0) ?_ (0, 0) ⟨Nat.zero_le _, by dsimp only; rw [if_neg (by omega)]⟩
  rintro ⟨i, left⟩ ⟨hi, hleft⟩ next
  dsimp only at hi hleft next
  by_cases hin : i < n
  · have ai := zAt i hin
    rw [if_neg (by omega)] at hleft
    subst hleft
    obtain ⟨z1, _, _⟩ := hz i hin
    have hmi : (rowsOf l2)[i]? = some (keptX 1000 1 (keepC ps n i) (putK Rw.key (baseR tick (decide (i = k))) (oR (ps.getD i ⟨#[]⟩) own))) := by
      rw [hr2, hll, swC_one n (by omega) i (by omega), if_pos hin, hrl, hB i hin]
    have hrw := ch0Rows (orc := O) h2 z1 hmi
    rw [(hsl i hin).2] at hrw
    have di : decide ((i : Int) < (n : Int)) = true := by simp; omega
    by_cases e : i + 1 = n
    · rw [if_pos e] at hrw
      repeat' (first|refine Go.a rfl ?_|refine Go.rg ?_|refine GoR.nil ?_|refine Go.ret ?_|refine Go.b rfl ?_|refine Go.rgS dmx (by decide) ?_|refine Go.rgD [14] (fun _ => True) dmx (by decide) 24 (by decide) (by trivial) ?_|refine GoW.nil rfl ?_|((first|refine GoR.o (by rfl) (by rfl) ?_|refine GoW.o (by rfl) (by rfl) ?_|refine GoW.rd (by rfl) (by rfl) ?_);(conv => arg 1;simp only [G,Z,Y,Gx,un_neg,cutD,decide_true,decide_false,simprocAttr,fb2,fb3,fb5,fb9,fb25,fb32,fb33,fb35,fb51,fb62,fb71,di, ai, show IntKind.i64.wrap ((0 : Int) + 1) = 1 from rfl, wrap_succ (show i < 4611686018427387904 by omega)]);first|show GoR ..|(show _ ∧ GoW ..;refine ⟨by exact fun _ => trivial,?_⟩)|(show _ ∧ _ ∧ _ ∧ GoW ..;refine ⟨rfl,by trivial,(fun H _=>by simp only [G,Z,Y,Gx,un_neg,cutD,decide_true,decide_false,simprocAttr,fb2,fb3,fb5,fb9,fb25,fb32,fb33,fb35,fb51,fb62,fb71,di, ai, show IntKind.i64.wrap ((0 : Int) + 1) = 1 from rfl, wrap_succ (show i < 4611686018427387904 by omega)]),?_⟩))|(refine GoW.c c44 (by rfl) (by rfl) rfl ?_;(refine hrw.ret ?_);refine ⟨by exact fun _ => trivial,?_⟩)|(refine GoR.c c44 (by rfl) (by rfl) rfl ?_;(refine hrw.ret ?_))|refine GoR.s (by rfl) rfl rfl ?_|refine GoW.s (by rfl) rfl rfl (by exact fun _ => trivial) ?_|(refine GoR.splitG rfl (fun hc => ?_) (fun hc => ?_) <;> simp only [hc])|refine Go.condB rfl (fun hc => ?_) (fun hc => ?_))
      refine Go.lpN ?_
      refine Go.keep [(8, .ptr c 0), (10, .sl none 1 n (zs.map .str)), (12, .int .i64 0), (15, .int .i64 (n : Int)), (16, .int .i64 1), (17, .int .i64 ((i + 1 : Nat) : Int))] (.cons .refl (.cons .refl (.cons .refl (.cons .refl (.cons .refl (.cons .refl (.nil))))))) ?_
      exact next (i + 1, 1) (by dsimp only; omega) ⟨hin, by dsimp only; rw [if_pos e]⟩
    · rw [if_neg e] at hrw
      repeat' (first|refine Go.a rfl ?_|refine Go.rg ?_|refine GoR.nil ?_|refine Go.ret ?_|refine Go.b rfl ?_|refine Go.rgS dmx (by decide) ?_|refine Go.rgD [14] (fun _ => True) dmx (by decide) 24 (by decide) (by trivial) ?_|refine GoW.nil rfl ?_|((first|refine GoR.o (by rfl) (by rfl) ?_|refine GoW.o (by rfl) (by rfl) ?_|refine GoW.rd (by rfl) (by rfl) ?_);(conv => arg 1;simp only [G,Z,Y,Gx,un_neg,cutD,decide_true,decide_false,simprocAttr,fb2,fb3,fb5,fb9,fb25,fb32,fb33,fb35,fb51,fb62,fb71,di, ai, show IntKind.i64.wrap ((0 : Int) + 0) = 0 from rfl, wrap_succ (show i < 4611686018427387904 by omega)]);first|show GoR ..|(show _ ∧ GoW ..;refine ⟨by exact fun _ => trivial,?_⟩)|(show _ ∧ _ ∧ _ ∧ GoW ..;refine ⟨rfl,by trivial,(fun H _=>by simp only [G,Z,Y,Gx,un_neg,cutD,decide_true,decide_false,simprocAttr,fb2,fb3,fb5,fb9,fb25,fb32,fb33,fb35,fb51,fb62,fb71,di, ai, show IntKind.i64.wrap ((0 : Int) + 0) = 0 from rfl, wrap_succ (show i < 4611686018427387904 by omega)]),?_⟩))|(refine GoW.c c44 (by rfl) (by rfl) rfl ?_;(refine hrw.ret ?_);refine ⟨by exact fun _ => trivial,?_⟩)|(refine GoR.c c44 (by rfl) (by rfl) rfl ?_;(refine hrw.ret ?_))|refine GoR.s (by rfl) rfl rfl ?_|refine GoW.s (by rfl) rfl rfl (by exact fun _ => trivial) ?_|(refine GoR.splitG rfl (fun hc => ?_) (fun hc => ?_) <;> simp only [hc])|refine Go.condB rfl (fun hc => ?_) (fun hc => ?_))
      refine Go.lpN ?_
      refine Go.keep [(8, .ptr c 0), (10, .sl none 1 n (zs.map .str)), (12, .int .i64 0), (15, .int .i64 (n : Int)), (16, .int .i64 0), (17, .int .i64 ((i + 1 : Nat) : Int))] (.cons .refl (.cons .refl (.cons .refl (.cons .refl (.cons .refl (.cons .refl (.nil))))))) ?_
      exact next (i + 1, 0) (by dsimp only; omega) ⟨hin, by dsimp only; rw [if_neg e]⟩
  · clear next
    obtain rfl : n = i := by omega
    rw [if_pos rfl] at hleft
    subst hleft
    obtain ⟨E, hE⟩ := h2.fr.pre (by simp)
    repeat' (first|refine Go.a rfl ?_|refine Go.rg ?_|refine GoR.nil ?_|refine Go.ret ?_|refine Go.b rfl ?_|refine Go.rgS dmx (by decide) ?_|refine Go.rgD [14] (fun _ => True) dmx (by decide) 24 (by decide) (by trivial) ?_|refine GoW.nil rfl ?_|((first|refine GoR.o (by rfl) (by rfl) ?_|refine GoW.o (by rfl) (by rfl) ?_|refine GoW.rd (by rfl) (by rfl) ?_);(conv => arg 1;simp only [G,Z,Y,Gx,un_neg,cutD,decide_true,decide_false,simprocAttr,fb2,fb3,fb5,fb9,fb25,fb32,fb33,fb35,fb51,fb62,fb71,show decide ((n : Int) < (n : Int)) = false by simp, beq_self_eq_true]);first|show GoR ..|(show _ ∧ GoW ..;refine ⟨by exact fun _ => trivial,?_⟩)|(show _ ∧ _ ∧ _ ∧ GoW ..;refine ⟨rfl,by trivial,(fun H _=>by simp only [G,Z,Y,Gx,un_neg,cutD,decide_true,decide_false,simprocAttr,fb2,fb3,fb5,fb9,fb25,fb32,fb33,fb35,fb51,fb62,fb71,show decide ((n : Int) < (n : Int)) = false by simp, beq_self_eq_true]),?_⟩))|refine GoR.s (by rfl) rfl rfl ?_|refine GoW.s (by rfl) rfl rfl (by exact fun _ => trivial) ?_|(refine GoR.splitG rfl (fun hc => ?_) (fun hc => ?_) <;> simp only [hc])|refine Go.condB rfl (fun hc => ?_) (fun hc => ?_))
    refine ⟨(by first | exact .inl rfl | exact .inr rfl), fin ?_⟩
    rw [resD_tmp (fn := Tryz.f6) rfl]
    simp only [optThen_some,resultD_tmp,resultD_cell,G,Z,Y,Gx,un_neg,cutD,decide_true,decide_false,simprocAttr,fb2,fb3,fb5,fb9,fb25,fb32,fb33,fb35,fb51,fb62,fb71]
    exact ⟨_, E, hE, .bool, rfl⟩
end Go.Proofs.DtT
