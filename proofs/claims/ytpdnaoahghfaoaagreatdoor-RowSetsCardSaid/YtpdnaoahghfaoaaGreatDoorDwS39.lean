/- The law RowSets. -/
import Derived.Test.YtpdnaoahghfaoaaGreatDoorDwS38
set_option linter.unusedSimpArgs false
set_option linter.unusedVariables false
namespace Go.Proofs.DwT
open Go Go.DM Go.Proofs.DeT
set_option maxRecDepth 100000

theorem chkA : chk ⟨0, 0, 0, (⟨#[47, 97]⟩ : ByteArray)⟩ = 0 := by decide +kernel
theorem good_iff {l : List Att} : goodL l = true ↔ fewL l = true ∧ l.length ≤ 32 ∧ (∀ a ∈ l, nameOk a.n = true ∧ chkV a.v = 0) ∧ RiseB Att.n l := by
  rw [goodL, Bool.and_eq_true, beq_iff_eq, rowA_ok chkA]
theorem nameOk_size {s : ByteArray} (h : nameOk s = true) : s.size ≤ 8 := by
  simp only [nameOk, Bool.and_eq_true, decide_eq_true_eq] at h
  exact h.1.1.2
theorem good_set {l : List Att} (h : goodL l = true) {s : ByteArray} {v : Val} (hn : nameOk s = true) (hv : chkV v = 0) (hf : (decide (v.s.size ≤ 200) && decide (v.l.length ≤ 40)) = true) (h32 : (setL l s v).length ≤ 32) : goodL (setL l s v) = true := by
  obtain ⟨g1, g2, g3, g4⟩ := good_iff.1 h
  refine good_iff.2 ⟨?_, h32, fun a ha => ?_, rise_set g4 s v⟩
  · simp only [fewL, Bool.and_eq_true, decide_eq_true_eq, List.all_eq_true] at g1 ⊢
    refine ⟨by omega, fun a ha => ?_⟩
    rcases mem_set g4 ha with ha | rfl
    · exact g1.2 a ha
    · have := nameOk_size hn
      rw [fewA, Bool.and_eq_true, decide_eq_true_eq]
      exact ⟨by show s.size ≤ 100; omega, hf⟩
  · rcases mem_set g4 ha with ha | rfl
    · exact g3 a ha
    · exact ⟨hn, hv⟩
set_option maxHeartbeats 2000000 in
theorem lawSets (l : List Att) (nm : ByteArray) (v : Val) (S : Mem) : CallD Tryz.prog O 5 [.sl none 5 l.length (attsC l), .str nm, .agg v.c] S fun d S' => S' = S ∧ d = .bool true := by
  have hg := fun S => good4 l S
  have hfw := fun S => few2 (orc := O) v S
  simp only [Val.c] at hfw ⊢
  refine CallD.e Tryz.func5 rfl Tryz.ntmps5 (by rfl) ?_
  cases hgl : goodL l with
  | false =>
    repeat' (first|refine Go.a rfl ?_|refine Go.rg ?_|refine GoR.nil ?_|refine Go.ret ?_|refine Go.b rfl ?_|refine Go.rgS dmx (by decide) ?_|(refine GoR.o (by rfl) (by rfl) ?_;(conv => arg 1;simp only [G,Z,Y,Gx,un_neg,cutD,decide_true,decide_false,simprocAttr,fb2,fb3,fb9,fb24,fb45,fb47,fb55,fb71,hgl]);show GoR ..)|(refine GoR.c c12 (by rfl) (by rfl) rfl ?_;(refine (known _).ret ?_))|(refine GoR.c c35 (by rfl) (by rfl) rfl ?_;(refine (hg _).ret ?_))|refine GoR.s (by rfl) rfl rfl ?_|(refine GoR.splitG rfl (fun hc => ?_) (fun hc => ?_) <;> simp only [hc])|refine Go.condB rfl (fun hc => ?_) (fun hc => ?_))
    refine ⟨(by first | exact .inl rfl | exact .inr rfl), fin ?_⟩
    rw [resD_tmp (fn := Tryz.f5) rfl]
    simp only [optThen_some,resultD_tmp,resultD_cell,G,Z,Y,Gx,un_neg,cutD,decide_true,decide_false,simprocAttr,fb2,fb3,fb9,fb24,fb45,fb47,fb55,fb71]
    exact ⟨_, _, rfl, .bool, rfl⟩
  | true =>
  by_cases h100 : 100 < nm.size
  · repeat' (first|refine Go.a rfl ?_|refine Go.rg ?_|refine GoR.nil ?_|refine Go.ret ?_|refine Go.b rfl ?_|refine Go.rgS dmx (by decide) ?_|(refine GoR.o (by rfl) (by rfl) ?_;(conv => arg 1;simp only [G,Z,Y,Gx,un_neg,cutD,decide_true,decide_false,simprocAttr,fb2,fb3,fb9,fb24,fb45,fb47,fb55,fb71,hgl, show decide (100 < (nm.size : Int)) = true by simp; omega]);show GoR ..)|(refine GoR.c c12 (by rfl) (by rfl) rfl ?_;(refine (known _).ret ?_))|(refine GoR.c c35 (by rfl) (by rfl) rfl ?_;(refine (hg _).ret ?_))|refine GoR.s (by rfl) rfl rfl ?_|(refine GoR.splitG rfl (fun hc => ?_) (fun hc => ?_) <;> simp only [hc])|refine Go.condB rfl (fun hc => ?_) (fun hc => ?_))
    refine ⟨(by first | exact .inl rfl | exact .inr rfl), fin ?_⟩
    rw [resD_tmp (fn := Tryz.f5) rfl]
    simp only [optThen_some,resultD_tmp,resultD_cell,G,Z,Y,Gx,un_neg,cutD,decide_true,decide_false,simprocAttr,fb2,fb3,fb9,fb24,fb45,fb47,fb55,fb71]
    exact ⟨_, _, rfl, .bool, rfl⟩
  have d100 : decide (100 < (nm.size : Int)) = false := by simp; omega
  cases hfe : (decide (v.s.size ≤ 200) && decide (v.l.length ≤ 40)) with
  | false =>
    repeat' (first|refine Go.a rfl ?_|refine Go.rg ?_|refine GoR.nil ?_|refine Go.ret ?_|refine Go.b rfl ?_|refine Go.rgS dmx (by decide) ?_|(refine GoR.o (by rfl) (by rfl) ?_;(conv => arg 1;simp only [G,Z,Y,Gx,un_neg,cutD,decide_true,decide_false,simprocAttr,fb2,fb3,fb9,fb24,fb45,fb47,fb55,fb71,hgl, d100, hfe]);show GoR ..)|(refine GoR.c c12 (by rfl) (by rfl) rfl ?_;(refine (known _).ret ?_))|(refine GoR.c c35 (by rfl) (by rfl) rfl ?_;(refine (hg _).ret ?_))|(refine GoR.c c24 (by rfl) (by rfl) rfl ?_;(refine (hfw _).ret ?_))|refine GoR.s (by rfl) rfl rfl ?_|(refine GoR.splitG rfl (fun hc => ?_) (fun hc => ?_) <;> simp only [hc])|refine Go.condB rfl (fun hc => ?_) (fun hc => ?_))
    refine ⟨(by first | exact .inl rfl | exact .inr rfl), fin ?_⟩
    rw [resD_tmp (fn := Tryz.f5) rfl]
    simp only [optThen_some,resultD_tmp,resultD_cell,G,Z,Y,Gx,un_neg,cutD,decide_true,decide_false,simprocAttr,fb2,fb3,fb9,fb24,fb45,fb47,fb55,fb71]
    exact ⟨_, _, rfl, .bool, rfl⟩
  | true =>
  have hfe2 := hfe
  simp only [Bool.and_eq_true, decide_eq_true_eq] at hfe2
  obtain ⟨g1, g2, g3, g4⟩ := good_iff.1 hgl
  obtain ⟨_, gf⟩ := fewA_size g1
  have hok : OkA l := ⟨g4, g2, fun a ha => by have := gf a ha; omega, fun a ha => by have := gf a ha; omega⟩
  have hset := fun S => rowSet l nm v g4 (by omega) hok.l (by omega) (by omega) S
  simp only [Val.c] at hset
  by_cases hbad : ∃ e, e ≠ 0 ∧ setD l nm v = .tup [attsD [], .int .i64 e]
  · obtain ⟨e, he, hs⟩ := hbad
    rw [hs] at hset
    simp only [attsD, List.length_nil, show attsC [] = [] from rfl] at hset
    repeat' (first|refine Go.a rfl ?_|refine Go.rg ?_|refine GoR.nil ?_|refine Go.ret ?_|refine Go.b rfl ?_|refine Go.rgS dmx (by decide) ?_|(refine GoR.o (by rfl) (by rfl) ?_;(conv => arg 1;simp only [G,Z,Y,Gx,un_neg,cutD,decide_true,decide_false,simprocAttr,fb2,fb3,fb9,fb24,fb45,fb47,fb55,fb71,hgl, d100, hfe, show (e != 0) = true by simpa using he]);show GoR ..)|(refine GoR.c c12 (by rfl) (by rfl) rfl ?_;(refine (known _).ret ?_))|(refine GoR.c c35 (by rfl) (by rfl) rfl ?_;(refine (hg _).ret ?_))|(refine GoR.c c24 (by rfl) (by rfl) rfl ?_;(refine (hfw _).ret ?_))|(refine GoR.c c25 (by rfl) (by rfl) rfl ?_;(refine (hset _).ret ?_))|refine GoR.s (by rfl) rfl rfl ?_|(refine GoR.splitG rfl (fun hc => ?_) (fun hc => ?_) <;> simp only [hc])|refine Go.condB rfl (fun hc => ?_) (fun hc => ?_))
    refine ⟨(by first | exact .inl rfl | exact .inr rfl), fin ?_⟩
    rw [resD_tmp (fn := Tryz.f5) rfl]
    simp only [optThen_some,resultD_tmp,resultD_cell,G,Z,Y,Gx,un_neg,cutD,decide_true,decide_false,simprocAttr,fb2,fb3,fb9,fb24,fb45,fb47,fb55,fb71]
    exact ⟨_, _, rfl, .bool, rfl⟩
  have hn : nameOk nm = true := by
    cases hq : nameOk nm with
    | true => rfl
    | false => exact absurd ⟨5, by decide, setD_name hq⟩ hbad
  have hc : chkV v = 0 := Classical.byContradiction fun hc => hbad ⟨chkV v, hc, setD_val hn hc⟩
  have hf : ¬ ((look l nm).isSome = false ∧ 32 ≤ l.length) := fun hf => hbad ⟨4, by decide, setD_full hn hc hf⟩
  rw [setD_ok hn hc hf] at hset
  have hokm := hok.set (s := nm) (v := v) (by omega) (by omega) hf
  have hgm := good_set hgl hn hc hfe hokm.len
  have hlk := look_set g4 nm v
  have hne := fun t (h : ¬ nm = t) => look_set_ne g4 v h
  have hdr : look l nm = none → dropL (setL l nm v) nm = l := drop_set g4 v
  have hgd := fun S => good4 (setL l nm v) S
  rw [hgm] at hgd
  have hdrop := fun S => rowDrop (setL l nm v) nm hokm.rise (by have := hokm.len; omega) hokm.l S
  rw [dropD, hlk] at hdrop
  have hokd := hokm.drop nm
  have hgets := fun t S => rowGet (orc := O) (setL l nm v) t hokm.rise (by have := hokm.len; omega) hokm.l S
  generalize setL l nm v = m at *
  have hget0 := hgets nm
  rw [hlk] at hget0
  have hsame := fun S => valSame (orc := O) v v (by omega) S
  rw [cmpV_self] at hsame
  simp only [Val.c, attsD, Option.getD_some, Option.isSome_some] at hset hget0 hsame hdrop
  repeat' (first|refine Go.a rfl ?_|refine Go.rg ?_|refine GoR.nil ?_|refine Go.ret ?_|refine Go.b rfl ?_|refine Go.rgS dmx (by decide) ?_|(refine GoR.o (by rfl) (by rfl) ?_;(conv => arg 1;simp only [G,Z,Y,Gx,un_neg,cutD,decide_true,decide_false,simprocAttr,fb2,fb3,fb9,fb24,fb45,fb47,fb55,fb71,hgl, d100, hfe, beq_self_eq_true, show ((0 : Int) != 0) = false from rfl]);show GoR ..)|(refine GoR.c c12 (by rfl) (by rfl) rfl ?_;(refine (known _).ret ?_))|(refine GoR.c c35 (by rfl) (by rfl) rfl ?_;(refine (hg _).ret ?_))|(refine GoR.c c24 (by rfl) (by rfl) rfl ?_;(refine (hfw _).ret ?_))|(refine GoR.c c25 (by rfl) (by rfl) rfl ?_;(refine (hset _).ret ?_))|(refine GoR.c c30 (by rfl) (by rfl) rfl ?_;(refine (hget0 _).ret ?_))|(refine GoR.c c36 (by rfl) (by rfl) rfl ?_;(refine (hsame _).ret ?_))|refine GoR.s (by rfl) rfl rfl ?_|(refine GoR.splitG rfl (fun hc => ?_) (fun hc => ?_) <;> simp only [hc])|refine Go.condB rfl (fun hc => ?_) (fun hc => ?_))
  refine Go.keep [(0, .sl none 5 l.length (attsC l)), (1, .str nm), (7, .sl none 5 m.length (attsC m)), (11, .int .i64 ((0 : Nat) : Int))] (.cons .refl (.cons .refl (.cons .refl (.cons .refl (.nil))))) ?_
  refine Go.while (α := Nat × Mem) (fun x => l.length - x.1) (fun x => [(0, .sl none 5 l.length (attsC l)), (1, .str nm), (7, .sl none 5 m.length (attsC m)), (11, .int .i64 (x.1 : Int))]) (fun x => x.2)
    (fun x => x.1 ≤ l.length ∧ Grown S.length S x.2) ?_ (0, _) ⟨Nat.zero_le _, Grown.app⟩
  rintro ⟨i, S1⟩ ⟨hi, hgr⟩ next
  dsimp only at hi hgr next
  by_cases h1 : i < l.length
  · have dl : decide ((i : Int) < (l.length : Int)) = true := by simp; omega
    have a1 := attsAt h1
    simp only [Val.c, Att.c] at a1
    have hat := look_at g4 h1 rfl
    have hgi := hgets l[i].n
    by_cases he : l[i].n = nm
    · rw [he, hlk] at hgi
      simp only [Val.c, Option.getD_some, Option.isSome_some] at hgi
      repeat' (first|refine Go.a rfl ?_|refine Go.rg ?_|refine GoR.nil ?_|refine Go.ret ?_|refine Go.b rfl ?_|refine Go.rgS dmx (by decide) ?_|(refine GoR.o (by rfl) (by rfl) ?_;(conv => arg 1;simp only [G,Z,Y,Gx,un_neg,cutD,decide_true,decide_false,simprocAttr,fb2,fb3,fb9,fb24,fb45,fb47,fb55,fb71,dl, a1, he, decide_true, wrap_succ (show i < 4611686018427387904 by omega)]);show GoR ..)|(refine GoR.c c30 (by rfl) (by rfl) rfl ?_;(refine (hgi _).ret ?_))|refine GoR.s (by rfl) rfl rfl ?_|(refine GoR.splitG rfl (fun hc => ?_) (fun hc => ?_) <;> simp only [hc])|refine Go.condB rfl (fun hc => ?_) (fun hc => ?_))
      refine Go.lpN ?_
      refine Go.keep [(0, .sl none 5 l.length (attsC l)), (1, .str nm), (7, .sl none 5 m.length (attsC m)), (11, .int .i64 ((i + 1 : Nat) : Int))] (.cons .refl (.cons .refl (.cons .refl (.cons .refl (.nil))))) ?_
      exact next (i + 1, _) (by dsimp only; omega) ⟨h1, hgr.trans Grown.app⟩
    · rw [hne _ (fun h => he h.symm), hat] at hgi
      have hsi := fun S => valSame (orc := O) l[i].v l[i].v (hok.l _ (List.getElem_mem _)) S
      rw [cmpV_self] at hsi
      simp only [Val.c, Option.getD_some, Option.isSome_some] at hgi hsi
      repeat' (first|refine Go.a rfl ?_|refine Go.rg ?_|refine GoR.nil ?_|refine Go.ret ?_|refine Go.b rfl ?_|refine Go.rgS dmx (by decide) ?_|(refine GoR.o (by rfl) (by rfl) ?_;(conv => arg 1;simp only [G,Z,Y,Gx,un_neg,cutD,decide_true,decide_false,simprocAttr,fb2,fb3,fb9,fb24,fb45,fb47,fb55,fb71,dl, a1, decide_eq_false he, beq_self_eq_true, wrap_succ (show i < 4611686018427387904 by omega)]);show GoR ..)|(refine GoR.c c30 (by rfl) (by rfl) rfl ?_;(refine (hgi _).ret ?_))|(refine GoR.c c36 (by rfl) (by rfl) rfl ?_;(refine (hsi _).ret ?_))|refine GoR.s (by rfl) rfl rfl ?_|(refine GoR.splitG rfl (fun hc => ?_) (fun hc => ?_) <;> simp only [hc])|refine Go.condB rfl (fun hc => ?_) (fun hc => ?_))
      refine Go.lpN ?_
      refine Go.keep [(0, .sl none 5 l.length (attsC l)), (1, .str nm), (7, .sl none 5 m.length (attsC m)), (11, .int .i64 ((i + 1 : Nat) : Int))] (.cons .refl (.cons .refl (.cons .refl (.cons .refl (.nil))))) ?_
      exact next (i + 1, _) (by dsimp only; omega) ⟨h1, hgr.trans Grown.app⟩
  · clear next
    have dl : decide ((i : Int) < (l.length : Int)) = false := by simp; omega
    have hof := fun S => ofAttrs (orc := O) l (by omega) S
    have hrg := fun S => refGet (orc := O) l nm g4 (by omega) S
    have hgE : ∀ x, Grown S.length S (S1 ++ [Ob.obj x]) := fun x => hgr.trans Grown.app
    cases hq : look l nm with
    | some u =>
      rw [hq] at hrg
      simp only [Val.c, Option.getD_some, Option.isSome_some] at hrg
      obtain ⟨Eg, hEg⟩ := (hgE _).pre [] S rfl (by simp)
      repeat' (first|refine Go.a rfl ?_|refine Go.rg ?_|refine GoR.nil ?_|refine Go.ret ?_|refine Go.b rfl ?_|refine Go.rgS dmx (by decide) ?_|(refine GoR.o (by rfl) (by rfl) ?_;(conv => arg 1;simp only [G,Z,Y,Gx,un_neg,cutD,decide_true,decide_false,simprocAttr,fb2,fb3,fb9,fb24,fb45,fb47,fb55,fb71,dl]);show GoR ..)|(refine GoR.c c23 (by rfl) (by rfl) rfl ?_;(refine (hof _).ret ?_))|(refine GoR.c c31 (by rfl) (by rfl) rfl ?_;(refine (hrg _).ret ?_))|(refine GoR.c c28 (by rfl) (by rfl) rfl ?_;(refine (hdrop _).ret ?_))|(refine GoR.c c35 (by rfl) (by rfl) rfl ?_;(refine (hgd _).ret ?_))|refine GoR.s (by rfl) rfl rfl ?_|(refine GoR.splitG rfl (fun hc => ?_) (fun hc => ?_) <;> simp only [hc])|refine Go.condB rfl (fun hc => ?_) (fun hc => ?_))
      refine ⟨(by first | exact .inl rfl | exact .inr rfl), fin ?_⟩
      rw [resD_tmp (fn := Tryz.f5) rfl]
      simp only [optThen_some,resultD_tmp,resultD_cell,G,Z,Y,Gx,un_neg,cutD,decide_true,decide_false,simprocAttr,fb2,fb3,fb9,fb24,fb45,fb47,fb55,fb71]
      exact ⟨_, Eg, hEg, .bool, rfl⟩
    | none =>
      rw [hq] at hrg
      have e := hdr hq
      rw [e] at hdrop
      have hsl := fun S => sameAttrs (orc := O) l l (by omega) hok.l S
      rw [sameL_self] at hsl
      simp only [Val.c, Option.getD_none, Option.isSome_none] at hrg
      obtain ⟨Eg, hEg⟩ := (hgE _).pre [] S rfl (by simp)
      repeat' (first|refine Go.a rfl ?_|refine Go.rg ?_|refine GoR.nil ?_|refine Go.ret ?_|refine Go.b rfl ?_|refine Go.rgS dmx (by decide) ?_|(refine GoR.o (by rfl) (by rfl) ?_;(conv => arg 1;simp only [G,Z,Y,Gx,un_neg,cutD,decide_true,decide_false,simprocAttr,fb2,fb3,fb9,fb24,fb45,fb47,fb55,fb71,dl]);show GoR ..)|(refine GoR.c c23 (by rfl) (by rfl) rfl ?_;(refine (hof _).ret ?_))|(refine GoR.c c31 (by rfl) (by rfl) rfl ?_;(refine (hrg _).ret ?_))|(refine GoR.c c28 (by rfl) (by rfl) rfl ?_;(refine (hdrop _).ret ?_))|(refine GoR.c c21 (by rfl) (by rfl) rfl ?_;(refine (hsl _).ret ?_))|(refine GoR.c c35 (by rfl) (by rfl) rfl ?_;(refine (hgd _).ret ?_))|refine GoR.s (by rfl) rfl rfl ?_|(refine GoR.splitG rfl (fun hc => ?_) (fun hc => ?_) <;> simp only [hc])|refine Go.condB rfl (fun hc => ?_) (fun hc => ?_))
      refine ⟨(by first | exact .inl rfl | exact .inr rfl), fin ?_⟩
      rw [resD_tmp (fn := Tryz.f5) rfl]
      simp only [optThen_some,resultD_tmp,resultD_cell,G,Z,Y,Gx,un_neg,cutD,decide_true,decide_false,simprocAttr,fb2,fb3,fb9,fb24,fb45,fb47,fb55,fb71]
      exact ⟨_, Eg, hEg, .bool, rfl⟩
end Go.Proofs.DwT
