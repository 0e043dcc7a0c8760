/- A stamp in words; what is known of two stamps. -/
import Derived.Test.YtpdnaoahghfaoaaGreatDoorDwS3
set_option linter.unusedSimpArgs false
set_option linter.unusedVariables false
namespace Go.Proofs.DwT
open Go Go.DM Go.Proofs.DeT
set_option maxRecDepth 100000

def in64 (n : Int) : Prop := -9223372036854775808 ≤ n ∧ n ≤ 9223372036854775807
def In64 (s : St) : Prop := in64 s.tick ∧ in64 s.inc ∧ in64 s.seq
theorem nd_le : ∀ (k u : Nat), u < 10 ^ (k + 1) → Lib.nDigits u ≤ k + 1
  | 0, u, h => by rw [Lib.nDigits_small (by simpa using h)]; exact Nat.le_refl _
  | k + 1, u, h => by
    by_cases h1 : u < 10
    · rw [Lib.nDigits_small h1]; omega
    · rw [Lib.nDigits_big h1]
      have := nd_le k (u / 10) (by rw [Nat.pow_succ] at h; omega)
      omega
theorem decB_size {n : Int} (h : in64 n) : (decB n).size ≤ 21 := by
  have e : (decB n).size = (Lib.itoa n).length := by simp [decB, ByteArray.size]
  rw [e]
  obtain ⟨h1, h2⟩ := h
  unfold Lib.itoa
  split
  · rw [List.length_cons, Lib.decDigits_length]
    have := nd_le 19 n.natAbs (by have : n.natAbs ≤ 9223372036854775808 := by omega
                                  omega)
    omega
  · rw [Lib.decDigits_length]
    have := nd_le 19 n.toNat (by have : n.toNat ≤ 9223372036854775807 := by omega
                                 omega)
    omega
def decsB (l : List Int) : List ByteArray := l.map decB
def textB (s : St) : ByteArray := joinB [decB s.tick, decB s.inc, decB s.seq] ⟨#[46]⟩ ++ ⟨#[64]⟩ ++ s.org
theorem join3_size {a b c : ByteArray} (ha : a.size ≤ 21) (hb : b.size ≤ 21) (hc : c.size ≤ 21) : (joinB [a, b, c] ⟨#[46]⟩).size ≤ 140737488355328 := by
  simp only [joinB, ByteArray.size, List.size_toArray] at *
  simp only [List.map_cons, List.map_nil, Lib.join_length, Lib.lens, List.length_cons, List.length_nil, Array.length_toList]
  simp
  have ea : a.data.size = a.size := rfl
  have eb : b.data.size = b.size := rfl
  have ec : c.data.size = c.size := rfl
  omega
theorem add_str {P : Program} {t : TypeId} {x y : Operand} {a b : ByteArray} (h : a.size + b.size < 4611686018427387904) : binD P .add t x y (.str a) (.str b) = some (.str (a ++ b)) :=
  bin_str (v := .string (a ++ b)) (by simp only [AM.strBin]; rw [if_neg]; show ¬ ((a.size + b.size : Nat) : Int) > 9223372036854775807; omega)
theorem fits_str {n : Nat} {s : ByteArray} (h : n < 1000000) : fitsD 16 n [.str s] := ⟨by omega, by omega, by omega, rfl⟩
theorem take_decs {l : List Int} {i : Nat} (h : i < l.length) : (decsB (l.take (i + 1))).map D.str = (decsB (l.take i)).map D.str ++ [.str (decB l[i])] := by
  rw [List.take_succ_eq_append_getElem h]
  simp only [decsB, List.map_append, List.map_cons, List.map_nil]
theorem stText (s : St) (hn : In64 s) (hs : s.org.size < 1000000) (S : Mem) : CallD Tryz.prog O 63 [.agg s.c] S fun d S' => S' = S ∧ d = .str (textB s) := by
  obtain ⟨a, b, c, org⟩ := s
  obtain ⟨ha, hb, hc'⟩ := hn
  simp only at ha hb hc' hs
  simp only [St.c, textB]
  generalize hl : [a, b, c] = l
  have hlen : l.length = 3 := by rw [← hl]; rfl
  have hin : ∀ x ∈ l, in64 x := by rw [← hl]; simp [ha, hb, hc']
  have hcells : [D.int .i64 a, D.int .i64 b, D.int .i64 c] = intsD l := by rw [← hl]; rfl
  have hrep : repD [D.int .i64 0] 3 = [D.int .i64 0, D.int .i64 0, D.int .i64 0] := rfl
  refine CallD.e Tryz.func63 rfl Tryz.ntmps63 (by rfl) ?_
  have hone : (intsD l).all D.one = true := by simp [intsD, D.one]
  repeat' (first|refine Go.a rfl ?_|refine Go.rg ?_|refine GoR.nil ?_|refine Go.ret ?_|refine Go.b rfl ?_|refine Go.rgS dmx (by decide) ?_|refine Go.rgD [4] (fun _ => True) dmx (by decide) 7 (by decide) (by trivial) ?_|refine GoW.nil rfl ?_|((first|refine GoR.o (by rfl) (by rfl) ?_|refine GoW.o (by rfl) (by rfl) ?_|refine GoW.rd (by rfl) (by rfl) ?_);(conv => arg 1;simp only [G,Z,Y,Gx,un_neg,cutD,decide_true,decide_false,simprocAttr,fb2,fb3,fb9,fb23,fb45,fb100,hrep, List.set_cons_zero, List.set_cons_succ, List.length_cons, List.length_nil, hcells, hone]);first|show GoR ..|(show _ ∧ GoW ..;refine ⟨by exact fun _ => trivial,?_⟩)|(show _ ∧ _ ∧ _ ∧ GoW ..;refine ⟨rfl,by trivial,(fun H _=>by simp only [G,Z,Y,Gx,un_neg,cutD,decide_true,decide_false,simprocAttr,fb2,fb3,fb9,fb23,fb45,fb100,hrep, List.set_cons_zero, List.set_cons_succ, List.length_cons, List.length_nil, hcells, hone]),?_⟩))|refine Go.condB rfl (fun hc => ?_) (fun hc => ?_))
  refine Go.keep [(1, .ptr S.length 0), (3, .nils), (12, .sl (some (S.length + 1)) 1 3 (intsD l)), (13, .int .i64 ((3 : Nat) : Int)), (14, .int .i64 ((0 : Nat) : Int))] (.cons .refl (.cons .refl (.cons .refl (.cons .refl (.cons .refl (.nil)))))) ?_
  refine Go.while (α := Nat × D × Mem) (fun x => 3 - x.1) (fun x => [(1, .ptr S.length 0), (3, x.2.1), (12, .sl (some (S.length + 1)) 1 3 (intsD l)), (13, .int .i64 ((3 : Nat) : Int)), (14, .int .i64 (x.1 : Int))])
    (fun x => S ++ (.obj [.int .i64 a, .int .i64 b, .int .i64 c, .str org] :: .own :: x.2.2))
    (fun x => x.1 ≤ 3 ∧ AccD (S.length + 2) x.2.1 1 x.1 ((decsB (l.take x.1)).map .str) (S ++ (.obj [.int .i64 a, .int .i64 b, .int .i64 c, .str org] :: .own :: x.2.2)))
    ?_ (0, .nils, []) ⟨Nat.zero_le _, .inl ⟨rfl, rfl, rfl⟩⟩
  rintro ⟨i, o, E⟩ ⟨hi, hacc⟩ next
  dsimp only at hi hacc next
  by_cases h1 : i < 3
  · have h2 : i < l.length := by omega
    have hx := hin l[i] (List.getElem_mem _)
    obtain ⟨o', S2, hap, hacc2, hg2⟩ := (hacc.app [.own]).append (P := Tryz.prog) del100 (own := some (S.length + (E.length + 1 + 1))) (m := 1) (new := [.str (decB l[i])]) (by simp) (by simp) (fits_str (by omega))
    obtain ⟨E2, rfl⟩ := hg2.pre (E ++ [.own]) (S ++ [.obj [.int .i64 a, .int .i64 b, .int .i64 c, .str org], .own]) (by simp) (by simp)
    simp only [List.append_assoc, List.cons_append, List.nil_append] at hap hacc2
    have hix := (intsAt h2).2
    have h03 : ((0 ≤ (i : Int) ∧ (i : Int) < ((3 : Nat) : Int)) = True) := by simp; omega
    have h03' : ((0 ≤ (i : Int) ∧ (i : Int) < (3 : Int)) = True) := by simp; omega
    repeat' (first|refine Go.a rfl ?_|refine Go.rg ?_|refine GoR.nil ?_|refine Go.ret ?_|refine Go.b rfl ?_|refine Go.rgS dmx (by decide) ?_|refine Go.rgD [4] (fun _ => True) dmx (by decide) 7 (by decide) (by trivial) ?_|refine GoW.nil rfl ?_|((first|refine GoR.o (by rfl) (by rfl) ?_|refine GoW.o (by rfl) (by rfl) ?_|refine GoW.rd (by rfl) (by rfl) ?_);(conv => arg 1;simp only [G,Z,Y,Gx,un_neg,cutD,decide_true,decide_false,simprocAttr,fb2,fb3,fb9,fb23,fb45,fb100,hix, h03, h03', show decide ((i : Int) < (3 : Int)) = true by simp; omega, wrap_succ (show i < 4611686018427387904 by omega), hap, builtin_append, show decide ((i : Int) < ((3 : Nat) : Int)) = true by simp; omega]);first|show GoR ..|(show _ ∧ GoW ..;refine ⟨by exact fun _ => trivial,?_⟩)|(show _ ∧ _ ∧ _ ∧ GoW ..;refine ⟨rfl,by trivial,(fun H _=>by simp only [G,Z,Y,Gx,un_neg,cutD,decide_true,decide_false,simprocAttr,fb2,fb3,fb9,fb23,fb45,fb100,hix, h03, h03', show decide ((i : Int) < (3 : Int)) = true by simp; omega, wrap_succ (show i < 4611686018427387904 by omega), hap, builtin_append, show decide ((i : Int) < ((3 : Nat) : Int)) = true by simp; omega]),?_⟩))|(refine GoW.c c99 (by rfl) (by rfl) rfl ?_;(refine (formatInt _ hx.1 hx.2 _).ret ?_);refine ⟨by exact fun _ => trivial,?_⟩)|(refine GoR.c c99 (by rfl) (by rfl) rfl ?_;(refine (formatInt _ hx.1 hx.2 _).ret ?_))|refine Go.condB rfl (fun hc => ?_) (fun hc => ?_))
    refine Go.lpN ?_
    refine Go.keep [(1, .ptr S.length 0), (3, o'), (12, .sl (some (S.length + 1)) 1 3 (intsD l)), (13, .int .i64 ((3 : Nat) : Int)), (14, .int .i64 ((i + 1 : Nat) : Int))] (.cons .refl (.cons .refl (.cons .refl (.cons .refl (.cons .refl (.nil)))))) ?_
    refine next (i + 1, o', E2) (by dsimp only; omega) ⟨h1, ?_⟩
    dsimp only
    rw [take_decs h2]
    exact hacc2
  · clear next
    obtain rfl : i = 3 := by omega
    rcases hacc with ⟨_, h, _⟩ | ⟨_, h, _⟩ | ⟨id, _, rfl, _⟩
    · cases h
    · cases h
    · have e3 : decsB (l.take 3) = [decB a, decB b, decB c] := by rw [← hl]; rfl
      rw [e3]
      have hj := join3_size (decB_size ha) (decB_size hb) (decB_size hc')
      have hp1 := fun {t : TypeId} {x y : Operand} => add_str (P := Tryz.prog) (t := t) (x := x) (y := y) (a := joinB [decB a, decB b, decB c] ⟨#[46]⟩) (b := ⟨#[64]⟩) (by show _ + 1 < _; omega)
      have hp2 := fun {t : TypeId} {x y : Operand} => add_str (P := Tryz.prog) (t := t) (x := x) (y := y) (a := joinB [decB a, decB b, decB c] ⟨#[46]⟩ ++ ⟨#[64]⟩) (b := org) (by rw [ByteArray.size_append]; show _ + 1 + _ < _; omega)
      repeat' (first|refine Go.a rfl ?_|refine Go.rg ?_|refine GoR.nil ?_|refine Go.ret ?_|refine Go.b rfl ?_|refine Go.rgS dmx (by decide) ?_|refine Go.rgD [4] (fun H => objAt H S.length = some [.int .i64 a, .int .i64 b, .int .i64 c, .str org]) dmx (by decide) 7 (by decide) (by (simp only [List.append_assoc, List.cons_append, List.nil_append, objAt_app, objAt_app0, objAt_succ, objAt_zero])) ?_|refine GoW.nil rfl ?_|((first|refine GoR.o (by rfl) (by rfl) ?_|refine GoW.o (by rfl) (by rfl) ?_|refine GoW.rd (by rfl) (by rfl) ?_);(conv => arg 1;simp only [G,Z,Y,Gx,un_neg,cutD,decide_true,decide_false,simprocAttr,fb2,fb3,fb9,fb23,fb45,fb100,hp1, hp2]);first|show GoR ..|(show _ ∧ GoW ..;refine ⟨by (first|exact fun h => absurd h (by decide)|(intro _;(simp only [List.append_assoc, List.cons_append, List.nil_append, objAt_app, objAt_app0, objAt_succ, objAt_zero]))),?_⟩)|(show _ ∧ _ ∧ _ ∧ GoW ..;refine ⟨rfl,by (simp only [List.append_assoc, List.cons_append, List.nil_append, objAt_app, objAt_app0, objAt_succ, objAt_zero]),(fun H hI=>by (try dsimp only at hI);simp only [G,Z,Y,Gx,un_neg,cutD,decide_true,decide_false,simprocAttr,fb2,fb3,fb9,fb23,fb45,fb100,hp1, hp2,hI]),?_⟩))|(refine GoW.c c65 (by rfl) (by rfl) rfl ?_;(refine (join _ [decB a, decB b, decB c] ⟨#[46]⟩ (by simp) (join3_size (decB_size ha) (decB_size hb) (decB_size hc')) _).ret ?_);refine ⟨by (first|exact fun h => absurd h (by decide)|(intro _;(simp only [List.append_assoc, List.cons_append, List.nil_append, objAt_app, objAt_app0, objAt_succ, objAt_zero]))),?_⟩)|(refine GoR.c c65 (by rfl) (by rfl) rfl ?_;(refine (join _ [decB a, decB b, decB c] ⟨#[46]⟩ (by simp) (join3_size (decB_size ha) (decB_size hb) (decB_size hc')) _).ret ?_))|refine Go.condB rfl (fun hc => ?_) (fun hc => ?_))
      refine ⟨(by first | exact .inl rfl | exact .inr rfl), fin ?_⟩
      rw [resD_tmp (fn := Tryz.f63) rfl]
      simp only [optThen_some,resultD_tmp,resultD_cell,G,Z,Y,Gx,un_neg,cutD,decide_true,decide_false,simprocAttr,fb2,fb3,fb9,fb23,fb45,fb100]
      exact ⟨_, _, rfl, .str, rfl⟩
end Go.Proofs.DwT
