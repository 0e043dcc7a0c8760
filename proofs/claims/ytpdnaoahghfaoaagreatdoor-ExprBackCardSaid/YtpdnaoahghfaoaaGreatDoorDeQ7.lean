/- The names of a tree, by the document; two lists of texts held against each other. -/
import Derived.Test.YtpdnaoahghfaoaaGreatDoorDeQ6
set_option linter.unusedSimpArgs false
set_option linter.unusedVariables false
namespace Go.Proofs.DeT
open Go Go.DM
set_option maxRecDepth 100000

theorem ap_elems {P : Program} {t e n bytes : Nat} (h : ElemT P t e n bytes) {s x y : D} {S : Mem} (hx : elemsD n x = elemsD n y) : appendD P #[t, t] s x S = appendD P #[t, t] s y S := by
  obtain ⟨hu, i, z, hi, rfl, rfl, hz, hs⟩ := h
  simp [appendD, hu, hi, hz, hs, hx]
theorem accE {P : Program} {b t e bytes : Nat} {o x : D} {xs ys : List ByteArray} {S : Mem} (h : ElemT P t e 1 bytes) (hx : elemsD 1 x = some (ys.length, strC ys)) (ha : AccD b o 1 xs.length (strC xs) S) (hb : b ≤ S.length) (h0 : 0 < bytes) (hl : (xs.length + ys.length) * bytes ≤ 2 ^ 47) (hl2 : xs.length + ys.length < 2 ^ 62) :
    ∃ o' S', appendD P #[t, t] o x S = some (o', S') ∧ AccD b o' 1 (xs ++ ys).length (strC (xs ++ ys)) S' ∧ Grown b S S' := by
  rw [ap_elems h (y := .sl none 1 ys.length (strC ys)) (by rw [hx]; simp [elemsD])]
  exact accS h ha hb h0 hl hl2
/-- What is seen of texts that are gathered. -/
theorem acc_len {P : Program} {b t e : Nat} {o : D} {xs : List ByteArray} {S S' : Mem} (hu : P.underlying t = some (.slice e)) (ha : AccD b o 1 xs.length (strC xs) S) : builtinD P .len #[t] [o] S' = some (.int .i64 (xs.length : Int), S') := by
  rcases ha with ⟨rfl, h, _⟩ | ⟨rfl, h, _⟩ | ⟨id, _, rfl, _⟩
  · rw [len_nil rfl hu, h]; rfl
  · rw [len_nil0 rfl hu, h]; rfl
  · exact len_sl rfl hu
theorem acc_at {P : Program} {b t e : Nat} {o : D} {xs : List ByteArray} {S : Mem} (hu : P.underlying t = some (.slice e)) (hs : AM.sizeA P e = some 1) (ha : AccD b o 1 xs.length (strC xs) S) {i : Nat} (hi : i < xs.length) : indexAtD P t o (.int .i64 (i : Int)) = some (.eptr (strC xs) i) := by
  rcases ha with ⟨rfl, h, _⟩ | ⟨rfl, h, _⟩ | ⟨id, _, rfl, _⟩
  · omega
  · omega
  · rw [ix_sl hu hs, if_pos ⟨by omega, by omega⟩]
    simp
theorem acc_take {P : Program} {b t e : Nat} {o : D} {xs : List ByteArray} {S : Mem} (hu : P.underlying t = some (.slice e)) (hs : AM.sizeA P e = some 1) (ha : AccD b o 1 xs.length (strC xs) S) {i : Nat} (hi : i ≤ xs.length) :
    ∃ o1, sliceD P t o none (some (.int .i64 (i : Int))) none = some o1 ∧ elemsD 1 o1 = some (i, strC (xs.take i)) := by
  rcases ha with ⟨rfl, h, h2⟩ | ⟨rfl, h, h2⟩ | ⟨id, _, rfl, _⟩
  · have h0 : i = 0 := by omega
    subst h0
    exact ⟨.nils, by simp [sliceD, optNatD, natD, hu, hs], by simp [elemsD, strC]⟩
  · have h0 : i = 0 := by omega
    subst h0
    exact ⟨.sl0, by simp [sliceD, optNatD, natD, hu, hs], by simp [elemsD, strC]⟩
  · refine ⟨.sl (if i = xs.length then some id else none) 1 i (strC (xs.take i)), ?_, by simp [elemsD]⟩
    simp [sliceD, optNatD, natD, hu, hs, strC, hi, List.map_take]
theorem acc_drop {P : Program} {b t e : Nat} {o : D} {xs : List ByteArray} {S : Mem} (hu : P.underlying t = some (.slice e)) (hs : AM.sizeA P e = some 1) (ha : AccD b o 1 xs.length (strC xs) S) {i : Nat} (hi : i ≤ xs.length) :
    ∃ o1, sliceD P t o (some (.int .i64 (i : Int))) none none = some o1 ∧ elemsD 1 o1 = some ((xs.drop i).length, strC (xs.drop i)) := by
  rcases ha with ⟨rfl, h, h2⟩ | ⟨rfl, h, h2⟩ | ⟨id, _, rfl, _⟩
  · have h0 : i = 0 := by omega
    subst h0
    have hx : xs = [] := List.eq_nil_of_length_eq_zero h
    subst hx
    exact ⟨.nils, by simp [sliceD, optNatD, natD, hu, hs], by simp [elemsD, strC]⟩
  · have h0 : i = 0 := by omega
    subst h0
    have hx : xs = [] := List.eq_nil_of_length_eq_zero h
    subst hx
    exact ⟨.sl0, by simp [sliceD, optNatD, natD, hu, hs], by simp [elemsD, strC]⟩
  · refine ⟨.sl (some id) 1 (xs.length - i) (strC (xs.drop i)), ?_, by simp [elemsD]⟩
    simp [sliceD, optNatD, natD, hu, hs, strC, hi, List.map_drop]
    exact List.take_of_length_le (by simp)
theorem strAt {l : List ByteArray} {i : Nat} (h : i < l.length) : ((0 ≤ (i : Int) ∧ (i : Int) < (l.length : Int)) = True) ∧ (strC l)[i]? = some (.str l[i]) ∧ (strC l)[i * 1]? = some (.str l[i]) := by
  have : (strC l)[i]? = some (.str l[i]) := by simp [strC, h]
  exact ⟨ix_ok h, this, by rw [Nat.mul_one]; exact this⟩
theorem lss_str {P : Program} {t : TypeId} {x y : Operand} {a b : ByteArray} : binD P .lss t x y (.str a) (.str b) = some (.bool (ltB a b)) := bin_str (v := .bool (ltB a b)) rfl

/-- The names of each part, and of the whole. -/
def outN (ks : List Nd) (i : Nat) : List ByteArray := ((ks.take i).map namesR).flatten
theorem outN_succ {ks : List Nd} {i : Nat} (h : i < ks.length) : outN ks (i + 1) = outN ks i ++ namesR ks[i] := by
  unfold outN
  rw [← List.take_append_getElem h, List.map_append, List.flatten_append]
  simp
theorem outN_le {ks : List Nd} {i : Nat} : (outN ks i).length ≤ cnts ks := by
  have h := flatR_le (ks := ks)
  have : (ks.map namesR).flatten = outN ks i ++ ((ks.drop i).map namesR).flatten := by
    unfold outN
    rw [← List.flatten_append, ← List.map_append, List.take_append_drop]
  rw [this, List.length_append] at h
  omega
theorem insAll_le {l : List ByteArray} : (insAll l).length ≤ l.length := (insAll_facts l).2.2

theorem refNames (n : Nd) (hw : Whole n) (hc : cnt n ≤ 1000) : ∀ (S : Mem), CallD Tryz.prog O 54 [.agg n.c] S fun d S' => S' = S ∧ d = .sl none 1 (namesR n).length (strC (namesR n)) := by
  induction n using Nd.ind with
  | h op nm n ks ih =>
    intro S
    have hsl := whole_slim _ hw
    obtain ⟨hnm, hks, _⟩ := hsl
    have hlow : ∀ {m : Nat} (l : List ByteArray), LowL m (strC l) := fun l => .of_mem fun x hx => by
      obtain ⟨y, _, rfl⟩ := List.mem_map.1 hx
      exact .str _
    rw [Nd.c_mk]
    by_cases hop : op = nameP
    · have hks : ks = [] := by
        obtain ⟨har, _⟩ := hw
        subst hop
        exact List.eq_nil_of_length_eq_zero (by have : (0 : Int) = ks.length := har; omega)
      subst hks
      have hN : namesR (.mk op nm n []) = [nm] := by
        refine namesR_eq (by simp) fun x => ?_
        rw [namesL_mk, if_pos hop]
        simp
      rw [hN]
      subst hop
      refine CallD.e Tryz.func54 rfl Tryz.ntmps54 (by rfl) ?_
      repeat' (first|refine Go.a rfl ?_|refine Go.rg ?_|refine GoR.nil ?_|refine Go.ret ?_|refine Go.b rfl ?_|refine Go.rgS dmx (by decide) ?_|refine Go.rgD [8, 9] (fun _ => True) dmx (by decide) 10 (by decide) (by trivial) ?_|refine GoW.nil rfl ?_|(refine GoW.newL (by decide) (by rfl) rfl (by trivial) ?_;(conv => arg 1;simp only [G,Z,Y,Gx,un_neg,cutD,decide_true,decide_false,simprocAttr,fb2,fb3,fb9,fb78,fb80,fb100,nameP, decide_true]);refine ⟨by first|rfl|simp,by first|rfl|simp,LowL.mem (by repeat' (first | exact .nil | refine .cons ?_ ?_ | exact .str _ | exact .int _ _ | exact .bool _ | exact .nils | assumption)),?_⟩;show GoW ..)|((first|refine GoR.o (by rfl) (by rfl) ?_|refine GoW.o (by rfl) (by rfl) ?_|refine GoW.rd (by rfl) (by rfl) ?_);(conv => arg 1;simp only [G,Z,Y,Gx,un_neg,cutD,decide_true,decide_false,simprocAttr,fb2,fb3,fb9,fb78,fb80,fb100,nameP, decide_true]);first|show GoR ..|(show _ ∧ GoW ..;refine ⟨by exact fun _ => trivial,?_⟩)|(show _ ∧ _ ∧ _ ∧ GoW ..;refine ⟨rfl,by trivial,(fun H _=>by simp only [G,Z,Y,Gx,un_neg,cutD,decide_true,decide_false,simprocAttr,fb2,fb3,fb9,fb78,fb80,fb100,nameP, decide_true]),?_⟩))|refine GoR.s (by rfl) rfl rfl ?_|refine GoW.s (by rfl) rfl rfl (by exact fun _ => trivial) ?_|(refine GoR.splitG rfl (fun hc => ?_) (fun hc => ?_) <;> simp only [hc])|refine Go.condB rfl (fun hc => ?_) (fun hc => ?_))
      refine ⟨(by first | exact .inl rfl | exact .inr rfl), fin ?_⟩
      rw [resD_tmp (fn := Tryz.f54) rfl]
      simp only [optThen_some,resultD_tmp,resultD_cell,G,Z,Y,Gx,un_neg,cutD,decide_true,decide_false,simprocAttr,fb2,fb3,fb9,fb78,fb80,fb100]
      exact ⟨_, _, rfl, (Wf.disown).to_Wk (.sl' (hlow [nm])), rfl⟩
    · have hkc : ∀ k ∈ ks, Whole k ∧ cnt k ≤ 1000 := fun k hk => by
        rw [cnt_mk] at hc
        refine ⟨?_, by have := cnts_mem hk; omega⟩
        obtain ⟨_, _, _, _, hkw, _⟩ := hw
        exact hkw k hk
      have hcs : cnts ks ≤ 1000 := by rw [cnt_mk] at hc; omega
      have hfin := insAll_names (op := op) (nm := nm) (n := n) (ks := ks) hop
      have hopd : decide (op = ((⟨#[110, 97, 109, 101]⟩ : ByteArray) : ByteArray)) = false := decide_eq_false hop
      have hu := Tryz.underlying100
      have hsz := dsz9
      refine CallD.e Tryz.func54 rfl Tryz.ntmps54 (by rfl) ?_
      repeat' (first|refine Go.a rfl ?_|refine Go.rg ?_|refine GoR.nil ?_|refine Go.ret ?_|refine Go.b rfl ?_|refine Go.rgS dmx (by decide) ?_|refine Go.rgD [8, 9] (fun _ => True) dmx (by decide) 10 (by decide) (by trivial) ?_|refine GoW.nil rfl ?_|(refine GoW.newL (by decide) (by rfl) rfl (by trivial) ?_;(conv => arg 1;simp only [G,Z,Y,Gx,un_neg,cutD,decide_true,decide_false,simprocAttr,fb2,fb3,fb9,fb78,fb80,fb100,hopd]);refine ⟨by first|rfl|simp,by first|rfl|simp,LowL.mem (by repeat' (first | exact .nil | refine .cons ?_ ?_ | exact .str _ | exact .int _ _ | exact .bool _ | exact .nils | assumption)),?_⟩;show GoW ..)|((first|refine GoR.o (by rfl) (by rfl) ?_|refine GoW.o (by rfl) (by rfl) ?_|refine GoW.rd (by rfl) (by rfl) ?_);(conv => arg 1;simp only [G,Z,Y,Gx,un_neg,cutD,decide_true,decide_false,simprocAttr,fb2,fb3,fb9,fb78,fb80,fb100,hopd]);first|show GoR ..|(show _ ∧ GoW ..;refine ⟨by exact fun _ => trivial,?_⟩)|(show _ ∧ _ ∧ _ ∧ GoW ..;refine ⟨rfl,by trivial,(fun H _=>by simp only [G,Z,Y,Gx,un_neg,cutD,decide_true,decide_false,simprocAttr,fb2,fb3,fb9,fb78,fb80,fb100,hopd]),?_⟩))|refine GoR.s (by rfl) rfl rfl ?_|refine GoW.s (by rfl) rfl rfl (by exact fun _ => trivial) ?_|(refine GoR.splitG rfl (fun hc => ?_) (fun hc => ?_) <;> simp only [hc])|refine Go.condB rfl (fun hc => ?_) (fun hc => ?_))
      refine Go.keep [(1, .ptr S.length 0), (3, .nils), (4, .int .i64 ((0 : Nat) : Int))] (.cons .refl (.cons .refl (.cons .refl (.nil)))) ?_
      refine Go.while (α := Nat × D × Mem) (fun a => ks.length - a.1) (fun a => [(1, .ptr S.length 0), (3, a.2.1), (4, .int .i64 (a.1 : Int))]) (fun a => a.2.2)
        (fun a => a.1 ≤ ks.length ∧ AccD (S.length + 1) a.2.1 1 (insAll (outN ks a.1)).length (strC (insAll (outN ks a.1))) a.2.2 ∧ Grown (S.length + 1) (S ++ [.obj [.str op, .str nm, .int .i64 n, .sl none 4 ks.length (ndsC ks)]]) a.2.2) ?_
        (0, .nils, S ++ [.obj [.str op, .str nm, .int .i64 n, .sl none 4 ks.length (ndsC ks)]]) ⟨Nat.zero_le _, .inl ⟨rfl, rfl, rfl⟩, .refl⟩
      rintro ⟨i, o, M⟩ ⟨hi, hacc, hg⟩ next
      dsimp only at hi hacc hg next
      have hob : objAt M S.length = some [.str op, .str nm, .int .i64 n, .sl none 4 ks.length (ndsC ks)] := hg.obj S.length _ (by simp [objAt])
      by_cases h1 : i < ks.length
      · have ihk := ih _ (List.getElem_mem h1) (hkc _ (List.getElem_mem h1)).1 (hkc _ (List.getElem_mem h1)).2
        have hle := outN_le (ks := ks) (i := i + 1)
        have hsucc := outN_succ h1
        rw [hsucc, List.length_append] at hle
        generalize namesR ks[i] = L at *
        have ho := hacc.one
        repeat' (first|refine Go.a rfl ?_|refine Go.rg ?_|refine GoR.nil ?_|refine Go.ret ?_|refine Go.b rfl ?_|refine Go.rgS dmx (by decide) ?_|refine Go.rgD [8, 9] (fun _ => True) dmx (by decide) 10 (by decide) (by trivial) ?_|refine GoW.nil rfl ?_|(refine GoW.newL (by decide) (by rfl) rfl (by trivial) ?_;(conv => arg 1;simp only [G,Z,Y,Gx,un_neg,cutD,decide_true,decide_false,simprocAttr,fb2,fb3,fb9,fb78,fb80,fb100,hob, ho, ndsAt h1, show decide ((i : Int) < (ks.length : Int)) = true by simp; omega]);refine ⟨by first|rfl|simp,by first|rfl|simp,LowL.mem (by repeat' (first | exact .nil | refine .cons ?_ ?_ | exact .str _ | exact .int _ _ | exact .bool _ | exact .nils | assumption)),?_⟩;show GoW ..)|((first|refine GoR.o (by rfl) (by rfl) ?_|refine GoW.o (by rfl) (by rfl) ?_|refine GoW.rd (by rfl) (by rfl) ?_);(conv => arg 1;simp only [G,Z,Y,Gx,un_neg,cutD,decide_true,decide_false,simprocAttr,fb2,fb3,fb9,fb78,fb80,fb100,hob, ho, ndsAt h1, show decide ((i : Int) < (ks.length : Int)) = true by simp; omega]);first|show GoR ..|(show _ ∧ GoW ..;refine ⟨by exact fun _ => trivial,?_⟩)|(show _ ∧ _ ∧ _ ∧ GoW ..;refine ⟨rfl,by trivial,(fun H _=>by simp only [G,Z,Y,Gx,un_neg,cutD,decide_true,decide_false,simprocAttr,fb2,fb3,fb9,fb78,fb80,fb100,hob, ho, ndsAt h1, show decide ((i : Int) < (ks.length : Int)) = true by simp; omega]),?_⟩))|(refine GoW.c c54 (by rfl) (by rfl) rfl ?_;(refine (ihk _).ret ?_);refine ⟨by exact fun _ => trivial,?_⟩)|(refine GoR.c c54 (by rfl) (by rfl) rfl ?_;(refine (ihk _).ret ?_))|refine GoR.s (by rfl) rfl rfl ?_|refine GoW.s (by rfl) rfl rfl (by exact fun _ => trivial) ?_|(refine GoR.splitG rfl (fun hc => ?_) (fun hc => ?_) <;> simp only [hc])|refine Go.condB rfl (fun hc => ?_) (fun hc => ?_))
        refine Go.keep [(1, .ptr S.length 0), (3, o), (4, .int .i64 (i : Int)), (5, .sl none 1 L.length (strC L)), (6, .int .i64 ((0 : Nat) : Int))] (.cons .refl (.cons .refl (.cons .refl (.cons .refl (.cons .refl (.nil)))))) ?_
        refine Go.while (α := Nat × D × Mem) (fun a => L.length - a.1) (fun a => [(1, .ptr S.length 0), (3, a.2.1), (4, .int .i64 (i : Int)), (5, .sl none 1 L.length (strC L)), (6, .int .i64 (a.1 : Int))]) (fun a => a.2.2)
          (fun a => a.1 ≤ L.length ∧ AccD (S.length + 1) a.2.1 1 (insAll (outN ks i ++ L.take a.1)).length (strC (insAll (outN ks i ++ L.take a.1))) a.2.2 ∧ Grown (S.length + 1) (S ++ [.obj [.str op, .str nm, .int .i64 n, .sl none 4 ks.length (ndsC ks)]]) a.2.2) ?_
          (0, o, M) ⟨Nat.zero_le _, by simpa using hacc, hg⟩
        clear hacc hg hob ho
        rintro ⟨k, o, M⟩ ⟨hk, hacc, hg⟩ next2
        dsimp only at hk hacc hg next2
        have ho := hacc.one
        by_cases h2 : k < L.length
        · have hlen : (insAll (outN ks i ++ L.take k)).length ≤ 1000 := by
            have := insAll_le (l := outN ks i ++ L.take k)
            rw [List.length_append, List.length_take] at this
            omega
          have hnext : insAll (outN ks i ++ L.take (k + 1)) = insS (insAll (outN ks i ++ L.take k)) L[k] := by
            rw [← List.take_append_getElem h2, ← List.append_assoc, insAll_snoc]
          generalize insAll (outN ks i ++ L.take k) = X at *
          have hML : S.length + 1 ≤ M.length := by have := hg.len; simp at this; omega
          repeat' (first|refine Go.a rfl ?_|refine Go.rg ?_|refine GoR.nil ?_|refine Go.ret ?_|refine Go.b rfl ?_|refine Go.rgS dmx (by decide) ?_|refine Go.rgD [8, 9] (fun _ => True) dmx (by decide) 10 (by decide) (by trivial) ?_|refine GoW.nil rfl ?_|(refine GoW.newL (by decide) (by rfl) rfl (by trivial) ?_;(conv => arg 1;simp only [G,Z,Y,Gx,un_neg,cutD,decide_true,decide_false,simprocAttr,fb2,fb3,fb9,fb78,fb80,fb100,ho, show decide ((k : Int) < (L.length : Int)) = true by simp; omega]);refine ⟨by first|rfl|simp,by first|rfl|simp,LowL.mem (by repeat' (first | exact .nil | refine .cons ?_ ?_ | exact .str _ | exact .int _ _ | exact .bool _ | exact .nils | assumption)),?_⟩;show GoW ..)|((first|refine GoR.o (by rfl) (by rfl) ?_|refine GoW.o (by rfl) (by rfl) ?_|refine GoW.rd (by rfl) (by rfl) ?_);(conv => arg 1;simp only [G,Z,Y,Gx,un_neg,cutD,decide_true,decide_false,simprocAttr,fb2,fb3,fb9,fb78,fb80,fb100,ho, show decide ((k : Int) < (L.length : Int)) = true by simp; omega]);first|show GoR ..|(show _ ∧ GoW ..;refine ⟨by exact fun _ => trivial,?_⟩)|(show _ ∧ _ ∧ _ ∧ GoW ..;refine ⟨rfl,by trivial,(fun H _=>by simp only [G,Z,Y,Gx,un_neg,cutD,decide_true,decide_false,simprocAttr,fb2,fb3,fb9,fb78,fb80,fb100,ho, show decide ((k : Int) < (L.length : Int)) = true by simp; omega]),?_⟩))|refine GoR.s (by rfl) rfl rfl ?_|refine GoW.s (by rfl) rfl rfl (by exact fun _ => trivial) ?_|(refine GoR.splitG rfl (fun hc => ?_) (fun hc => ?_) <;> simp only [hc])|refine Go.condB rfl (fun hc => ?_) (fun hc => ?_))
          refine Go.keep [(1, .ptr S.length 0), (3, o), (4, .int .i64 (i : Int)), (5, .sl none 1 L.length (strC L)), (6, .int .i64 (k : Int)), (7, .int .i64 ((0 : Nat) : Int))] (.cons .refl (.cons .refl (.cons .refl (.cons .refl (.cons .refl (.cons .refl (.nil))))))) ?_
          refine Go.while (α := Nat) (fun a => X.length - a) (fun a => [(1, .ptr S.length 0), (3, o), (4, .int .i64 (i : Int)), (5, .sl none 1 L.length (strC L)), (6, .int .i64 (k : Int)), (7, .int .i64 (a : Int))]) (fun _ => M)
            (fun a => a ≤ posS X L[k]) ?_ 0 (Nat.zero_le _)
          intro a ha next3
          have hpl := pos_le X L[k]
          have hlenF := fun S' => acc_len (S' := S') hu hacc
          by_cases h3 : a < posS X L[k]
          · have hax : a < X.length := by omega
            have hlt : ∀ {t : TypeId} {x y : Operand}, binD Tryz.prog .lss t x y (.str X[a]) (.str L[k]) = some (.bool true) := by
              intro t x y
              rw [lss_str, pos_lt hax h3]
            repeat' (first|refine Go.a rfl ?_|refine Go.rg ?_|refine GoR.nil ?_|refine Go.ret ?_|refine Go.b rfl ?_|refine Go.rgS dmx (by decide) ?_|refine Go.rgD [8, 9] (fun _ => True) dmx (by decide) 10 (by decide) (by trivial) ?_|refine GoW.nil rfl ?_|(refine GoW.newL (by decide) (by rfl) rfl (by trivial) ?_;(conv => arg 1;simp only [G,Z,Y,Gx,un_neg,cutD,decide_true,decide_false,simprocAttr,fb2,fb3,fb9,fb78,fb80,fb100,ho, hlenF, acc_at hu hsz hacc hax, strAt hax, strAt h2, hlt, show decide ((a : Int) < (X.length : Int)) = true by simp; omega, wrap_succ (show a < 4611686018427387904 by omega)]);refine ⟨by first|rfl|simp,by first|rfl|simp,LowL.mem (by repeat' (first | exact .nil | refine .cons ?_ ?_ | exact .str _ | exact .int _ _ | exact .bool _ | exact .nils | assumption)),?_⟩;show GoW ..)|((first|refine GoR.o (by rfl) (by rfl) ?_|refine GoW.o (by rfl) (by rfl) ?_|refine GoW.rd (by rfl) (by rfl) ?_);(conv => arg 1;simp only [G,Z,Y,Gx,un_neg,cutD,decide_true,decide_false,simprocAttr,fb2,fb3,fb9,fb78,fb80,fb100,ho, hlenF, acc_at hu hsz hacc hax, strAt hax, strAt h2, hlt, show decide ((a : Int) < (X.length : Int)) = true by simp; omega, wrap_succ (show a < 4611686018427387904 by omega)]);first|show GoR ..|(show _ ∧ GoW ..;refine ⟨by exact fun _ => trivial,?_⟩)|(show _ ∧ _ ∧ _ ∧ GoW ..;refine ⟨rfl,by trivial,(fun H _=>by simp only [G,Z,Y,Gx,un_neg,cutD,decide_true,decide_false,simprocAttr,fb2,fb3,fb9,fb78,fb80,fb100,ho, hlenF, acc_at hu hsz hacc hax, strAt hax, strAt h2, hlt, show decide ((a : Int) < (X.length : Int)) = true by simp; omega, wrap_succ (show a < 4611686018427387904 by omega)]),?_⟩))|refine GoR.s (by rfl) rfl rfl ?_|refine GoW.s (by rfl) rfl rfl (by exact fun _ => trivial) ?_|(refine GoR.splitG rfl (fun hc => ?_) (fun hc => ?_) <;> simp only [hc])|refine Go.condB rfl (fun hc => ?_) (fun hc => ?_))
            refine Go.lpN ?_
            refine Go.keep [(1, .ptr S.length 0), (3, o), (4, .int .i64 (i : Int)), (5, .sl none 1 L.length (strC L)), (6, .int .i64 (k : Int)), (7, .int .i64 ((a + 1 : Nat) : Int))] (.cons .refl (.cons .refl (.cons .refl (.cons .refl (.cons .refl (.cons .refl (.nil))))))) ?_
            exact next3 (a + 1) (by omega) h3
          · clear next3
            have hap : a = posS X L[k] := by omega
            have w6 := wrap_succ (show k < 4611686018427387904 by omega)
            have found : ∀ h : a < X.length, X[a] = L[k] → insS X L[k] = X := fun h e => by
              unfold insS
              rw [← hap, List.getElem?_eq_getElem h, e, if_pos rfl]
            have ins : ((∃ h : a < X.length, X[a] ≠ L[k]) ∨ a = X.length) → insS X L[k] = X.take a ++ ([L[k]] ++ X.drop a) := fun h => by
              unfold insS
              rw [← hap, if_neg]
              rcases h with ⟨h, e⟩ | h
              · rw [List.getElem?_eq_getElem h]
                simpa using e
              · rw [List.getElem?_eq_none (by omega)]
                simp
            obtain ⟨o1, hs1, he1⟩ := acc_take hu hsz hacc (show a ≤ X.length by omega)
            obtain ⟨o2, hs2, he2⟩ := acc_drop hu hsz hacc (show a ≤ X.length by omega)
            have htk : (X.take a).length = a := by rw [List.length_take]; omega
            obtain ⟨d1, M1, ap1, ac1, g1⟩ := accE (P := Tryz.prog) (b := S.length + 1) (xs := []) (ys := X.take a) (x := o1) (o := .sl (some M.length) 1 0 []) (S := M ++ [.own]) del100 (by rw [he1, htk]) (.inr (.inr ⟨M.length, hML, rfl, by simp⟩)) (by simp; omega) (by omega) (by rw [htk]; simp; omega) (by rw [htk]; simp; omega)
            simp only [List.nil_append] at ac1
            obtain ⟨d2, M2, ap2, ac2, g2⟩ := accE (P := Tryz.prog) (b := S.length + 1) (ys := [L[k]]) (x := .sl none 1 1 [.str L[k]]) del100 (by simp [elemsD, strC]) ac1 (by have := g1.len; simp at this; omega) (by omega) (by rw [htk]; simp; omega) (by rw [htk]; simp; omega)
            obtain ⟨d3, M3, ap3, ac3, g3⟩ := accE (P := Tryz.prog) (b := S.length + 1) (ys := X.drop a) (x := o2) del100 he2 ac2 (by have h1 := g1.len; have h2 := g2.len; simp at h1; omega) (by omega) (by simp [htk]; omega) (by simp [htk]; omega)
            rw [List.append_assoc] at ac3
            have hgM : Grown (S.length + 1) M M3 := Grown.app.trans (g1.trans (g2.trans g3))
            have o1one := ac1.one
            have o2one := ac2.one
            have o3one := ac3.one
            by_cases h4 : a < X.length
            · have hge : ∀ {t : TypeId} {x y : Operand}, binD Tryz.prog .lss t x y (.str X[a]) (.str L[k]) = some (.bool false) := by
                intro t x y
                have h := pos_at (out := X) (x := L[k]) (by omega)
                simp only [← hap] at h
                rw [lss_str, h]
              by_cases h5 : X[a] = L[k]
              · repeat' (first|refine Go.a rfl ?_|refine Go.rg ?_|refine GoR.nil ?_|refine Go.ret ?_|refine Go.b rfl ?_|refine Go.rgS dmx (by decide) ?_|refine Go.rgD [8, 9] (fun _ => True) dmx (by decide) 10 (by decide) (by trivial) ?_|refine GoW.nil rfl ?_|(refine GoW.newL (by decide) (by rfl) rfl (by trivial) ?_;(conv => arg 1;simp only [G,Z,Y,Gx,un_neg,cutD,decide_true,decide_false,simprocAttr,fb2,fb3,fb9,fb78,fb80,fb100,ho, hlenF, acc_at hu hsz hacc h4, strAt h4, strAt h2, hge, decide_eq_true h5, show decide ((a : Int) < (X.length : Int)) = true by simp; omega, w6]);refine ⟨by first|rfl|simp,by first|rfl|simp,LowL.mem (by repeat' (first | exact .nil | refine .cons ?_ ?_ | exact .str _ | exact .int _ _ | exact .bool _ | exact .nils | assumption)),?_⟩;show GoW ..)|((first|refine GoR.o (by rfl) (by rfl) ?_|refine GoW.o (by rfl) (by rfl) ?_|refine GoW.rd (by rfl) (by rfl) ?_);(conv => arg 1;simp only [G,Z,Y,Gx,un_neg,cutD,decide_true,decide_false,simprocAttr,fb2,fb3,fb9,fb78,fb80,fb100,ho, hlenF, acc_at hu hsz hacc h4, strAt h4, strAt h2, hge, decide_eq_true h5, show decide ((a : Int) < (X.length : Int)) = true by simp; omega, w6]);first|show GoR ..|(show _ ∧ GoW ..;refine ⟨by exact fun _ => trivial,?_⟩)|(show _ ∧ _ ∧ _ ∧ GoW ..;refine ⟨rfl,by trivial,(fun H _=>by simp only [G,Z,Y,Gx,un_neg,cutD,decide_true,decide_false,simprocAttr,fb2,fb3,fb9,fb78,fb80,fb100,ho, hlenF, acc_at hu hsz hacc h4, strAt h4, strAt h2, hge, decide_eq_true h5, show decide ((a : Int) < (X.length : Int)) = true by simp; omega, w6]),?_⟩))|refine GoR.s (by rfl) rfl rfl ?_|refine GoW.s (by rfl) rfl rfl (by exact fun _ => trivial) ?_|(refine GoR.splitG rfl (fun hc => ?_) (fun hc => ?_) <;> simp only [hc])|refine Go.condB rfl (fun hc => ?_) (fun hc => ?_))
                refine Go.lpN ?_
                refine Go.keep [(1, .ptr S.length 0), (3, o), (4, .int .i64 (i : Int)), (5, .sl none 1 L.length (strC L)), (6, .int .i64 ((k + 1 : Nat) : Int))] (.cons .refl (.cons .refl (.cons .refl (.cons .refl (.cons .refl (.nil)))))) ?_
                refine next2 (k + 1, o, M) (by dsimp only; omega) ⟨h2, ?_, hg⟩
                dsimp only
                rw [hnext, found h4 h5]
                exact hacc
              · repeat' (first|refine Go.a rfl ?_|refine Go.rg ?_|refine GoR.nil ?_|refine Go.ret ?_|refine Go.b rfl ?_|refine Go.rgS dmx (by decide) ?_|refine Go.rgD [8, 9] (fun _ => True) dmx (by decide) 10 (by decide) (by trivial) ?_|refine GoW.nil rfl ?_|(refine GoW.newL (by decide) (by rfl) rfl (by trivial) ?_;(conv => arg 1;simp only [G,Z,Y,Gx,un_neg,cutD,decide_true,decide_false,simprocAttr,fb2,fb3,fb9,fb78,fb80,fb100,ho, hlenF, acc_at hu hsz hacc h4, strAt h4, strAt h2, hge, decide_eq_false h5, show decide ((a : Int) < (X.length : Int)) = true by simp; omega, w6, hs1, hs2, ap1, ap2, ap3, o1one, o2one, o3one, builtin_append]);refine ⟨by first|rfl|simp,by first|rfl|simp,LowL.mem (by repeat' (first | exact .nil | refine .cons ?_ ?_ | exact .str _ | exact .int _ _ | exact .bool _ | exact .nils | assumption)),?_⟩;show GoW ..)|((first|refine GoR.o (by rfl) (by rfl) ?_|refine GoW.o (by rfl) (by rfl) ?_|refine GoW.rd (by rfl) (by rfl) ?_);(conv => arg 1;simp only [G,Z,Y,Gx,un_neg,cutD,decide_true,decide_false,simprocAttr,fb2,fb3,fb9,fb78,fb80,fb100,ho, hlenF, acc_at hu hsz hacc h4, strAt h4, strAt h2, hge, decide_eq_false h5, show decide ((a : Int) < (X.length : Int)) = true by simp; omega, w6, hs1, hs2, ap1, ap2, ap3, o1one, o2one, o3one, builtin_append]);first|show GoR ..|(show _ ∧ GoW ..;refine ⟨by exact fun _ => trivial,?_⟩)|(show _ ∧ _ ∧ _ ∧ GoW ..;refine ⟨rfl,by trivial,(fun H _=>by simp only [G,Z,Y,Gx,un_neg,cutD,decide_true,decide_false,simprocAttr,fb2,fb3,fb9,fb78,fb80,fb100,ho, hlenF, acc_at hu hsz hacc h4, strAt h4, strAt h2, hge, decide_eq_false h5, show decide ((a : Int) < (X.length : Int)) = true by simp; omega, w6, hs1, hs2, ap1, ap2, ap3, o1one, o2one, o3one, builtin_append]),?_⟩))|refine GoR.s (by rfl) rfl rfl ?_|refine GoW.s (by rfl) rfl rfl (by exact fun _ => trivial) ?_|(refine GoR.splitG rfl (fun hc => ?_) (fun hc => ?_) <;> simp only [hc])|refine Go.condB rfl (fun hc => ?_) (fun hc => ?_))
                refine Go.lpN ?_
                refine Go.keep [(1, .ptr S.length 0), (3, d3), (4, .int .i64 (i : Int)), (5, .sl none 1 L.length (strC L)), (6, .int .i64 ((k + 1 : Nat) : Int))] (.cons .refl (.cons .refl (.cons .refl (.cons .refl (.cons .refl (.nil)))))) ?_
                refine next2 (k + 1, d3, M3) (by dsimp only; omega) ⟨h2, ?_, hg.trans hgM⟩
                dsimp only
                rw [hnext, ins (.inl ⟨h4, h5⟩)]
                exact ac3
            · have hax : a = X.length := by omega
              repeat' (first|refine Go.a rfl ?_|refine Go.rg ?_|refine GoR.nil ?_|refine Go.ret ?_|refine Go.b rfl ?_|refine Go.rgS dmx (by decide) ?_|refine Go.rgD [8, 9] (fun _ => True) dmx (by decide) 10 (by decide) (by trivial) ?_|refine GoW.nil rfl ?_|(refine GoW.newL (by decide) (by rfl) rfl (by trivial) ?_;(conv => arg 1;simp only [G,Z,Y,Gx,un_neg,cutD,decide_true,decide_false,simprocAttr,fb2,fb3,fb9,fb78,fb80,fb100,ho, hlenF, strAt h2, show decide ((a : Int) < (X.length : Int)) = false by simp; omega, w6, hs1, hs2, ap1, ap2, ap3, o1one, o2one, o3one, builtin_append]);refine ⟨by first|rfl|simp,by first|rfl|simp,LowL.mem (by repeat' (first | exact .nil | refine .cons ?_ ?_ | exact .str _ | exact .int _ _ | exact .bool _ | exact .nils | assumption)),?_⟩;show GoW ..)|((first|refine GoR.o (by rfl) (by rfl) ?_|refine GoW.o (by rfl) (by rfl) ?_|refine GoW.rd (by rfl) (by rfl) ?_);(conv => arg 1;simp only [G,Z,Y,Gx,un_neg,cutD,decide_true,decide_false,simprocAttr,fb2,fb3,fb9,fb78,fb80,fb100,ho, hlenF, strAt h2, show decide ((a : Int) < (X.length : Int)) = false by simp; omega, w6, hs1, hs2, ap1, ap2, ap3, o1one, o2one, o3one, builtin_append]);first|show GoR ..|(show _ ∧ GoW ..;refine ⟨by exact fun _ => trivial,?_⟩)|(show _ ∧ _ ∧ _ ∧ GoW ..;refine ⟨rfl,by trivial,(fun H _=>by simp only [G,Z,Y,Gx,un_neg,cutD,decide_true,decide_false,simprocAttr,fb2,fb3,fb9,fb78,fb80,fb100,ho, hlenF, strAt h2, show decide ((a : Int) < (X.length : Int)) = false by simp; omega, w6, hs1, hs2, ap1, ap2, ap3, o1one, o2one, o3one, builtin_append]),?_⟩))|refine GoR.s (by rfl) rfl rfl ?_|refine GoW.s (by rfl) rfl rfl (by exact fun _ => trivial) ?_|(refine GoR.splitG rfl (fun hc => ?_) (fun hc => ?_) <;> simp only [hc])|refine Go.condB rfl (fun hc => ?_) (fun hc => ?_))
              refine Go.lpN ?_
              refine Go.keep [(1, .ptr S.length 0), (3, d3), (4, .int .i64 (i : Int)), (5, .sl none 1 L.length (strC L)), (6, .int .i64 ((k + 1 : Nat) : Int))] (.cons .refl (.cons .refl (.cons .refl (.cons .refl (.cons .refl (.nil)))))) ?_
              refine next2 (k + 1, d3, M3) (by dsimp only; omega) ⟨h2, ?_, hg.trans hgM⟩
              dsimp only
              rw [hnext, ins (.inr hax)]
              exact ac3
        · clear next2
          have hk' : k = L.length := by omega
          subst hk'
          rw [List.take_length, ← hsucc] at hacc
          repeat' (first|refine Go.a rfl ?_|refine Go.rg ?_|refine GoR.nil ?_|refine Go.ret ?_|refine Go.b rfl ?_|refine Go.rgS dmx (by decide) ?_|refine Go.rgD [8, 9] (fun _ => True) dmx (by decide) 10 (by decide) (by trivial) ?_|refine GoW.nil rfl ?_|(refine GoW.newL (by decide) (by rfl) rfl (by trivial) ?_;(conv => arg 1;simp only [G,Z,Y,Gx,un_neg,cutD,decide_true,decide_false,simprocAttr,fb2,fb3,fb9,fb78,fb80,fb100,ho, show decide ((L.length : Int) < (L.length : Int)) = false by simp, wrap_succ (show i < 4611686018427387904 by omega)]);refine ⟨by first|rfl|simp,by first|rfl|simp,LowL.mem (by repeat' (first | exact .nil | refine .cons ?_ ?_ | exact .str _ | exact .int _ _ | exact .bool _ | exact .nils | assumption)),?_⟩;show GoW ..)|((first|refine GoR.o (by rfl) (by rfl) ?_|refine GoW.o (by rfl) (by rfl) ?_|refine GoW.rd (by rfl) (by rfl) ?_);(conv => arg 1;simp only [G,Z,Y,Gx,un_neg,cutD,decide_true,decide_false,simprocAttr,fb2,fb3,fb9,fb78,fb80,fb100,ho, show decide ((L.length : Int) < (L.length : Int)) = false by simp, wrap_succ (show i < 4611686018427387904 by omega)]);first|show GoR ..|(show _ ∧ GoW ..;refine ⟨by exact fun _ => trivial,?_⟩)|(show _ ∧ _ ∧ _ ∧ GoW ..;refine ⟨rfl,by trivial,(fun H _=>by simp only [G,Z,Y,Gx,un_neg,cutD,decide_true,decide_false,simprocAttr,fb2,fb3,fb9,fb78,fb80,fb100,ho, show decide ((L.length : Int) < (L.length : Int)) = false by simp, wrap_succ (show i < 4611686018427387904 by omega)]),?_⟩))|refine GoR.s (by rfl) rfl rfl ?_|refine GoW.s (by rfl) rfl rfl (by exact fun _ => trivial) ?_|(refine GoR.splitG rfl (fun hc => ?_) (fun hc => ?_) <;> simp only [hc])|refine Go.condB rfl (fun hc => ?_) (fun hc => ?_))
          refine Go.lpN ?_
          refine Go.keep [(1, .ptr S.length 0), (3, o), (4, .int .i64 ((i + 1 : Nat) : Int))] (.cons .refl (.cons .refl (.cons .refl (.nil)))) ?_
          exact next (i + 1, o, M) (by dsimp only; omega) ⟨h1, hacc, hg⟩
      · clear next
        have hi' : i = ks.length := by omega
        subst hi'
        have ho := hacc.one
        repeat' (first|refine Go.a rfl ?_|refine Go.rg ?_|refine GoR.nil ?_|refine Go.ret ?_|refine Go.b rfl ?_|refine Go.rgS dmx (by decide) ?_|refine Go.rgD [8, 9] (fun _ => True) dmx (by decide) 10 (by decide) (by trivial) ?_|refine GoW.nil rfl ?_|(refine GoW.newL (by decide) (by rfl) rfl (by trivial) ?_;(conv => arg 1;simp only [G,Z,Y,Gx,un_neg,cutD,decide_true,decide_false,simprocAttr,fb2,fb3,fb9,fb78,fb80,fb100,hob, ho, show decide ((ks.length : Int) < (ks.length : Int)) = false by simp]);refine ⟨by first|rfl|simp,by first|rfl|simp,LowL.mem (by repeat' (first | exact .nil | refine .cons ?_ ?_ | exact .str _ | exact .int _ _ | exact .bool _ | exact .nils | assumption)),?_⟩;show GoW ..)|((first|refine GoR.o (by rfl) (by rfl) ?_|refine GoW.o (by rfl) (by rfl) ?_|refine GoW.rd (by rfl) (by rfl) ?_);(conv => arg 1;simp only [G,Z,Y,Gx,un_neg,cutD,decide_true,decide_false,simprocAttr,fb2,fb3,fb9,fb78,fb80,fb100,hob, ho, show decide ((ks.length : Int) < (ks.length : Int)) = false by simp]);first|show GoR ..|(show _ ∧ GoW ..;refine ⟨by exact fun _ => trivial,?_⟩)|(show _ ∧ _ ∧ _ ∧ GoW ..;refine ⟨rfl,by trivial,(fun H _=>by simp only [G,Z,Y,Gx,un_neg,cutD,decide_true,decide_false,simprocAttr,fb2,fb3,fb9,fb78,fb80,fb100,hob, ho, show decide ((ks.length : Int) < (ks.length : Int)) = false by simp]),?_⟩))|refine GoR.s (by rfl) rfl rfl ?_|refine GoW.s (by rfl) rfl rfl (by exact fun _ => trivial) ?_|(refine GoR.splitG rfl (fun hc => ?_) (fun hc => ?_) <;> simp only [hc])|refine Go.condB rfl (fun hc => ?_) (fun hc => ?_))
        refine ⟨(by first | exact .inl rfl | exact .inr rfl), fin ?_⟩
        rw [resD_tmp (fn := Tryz.f54) rfl]
        simp only [optThen_some,resultD_tmp,resultD_cell,G,Z,Y,Gx,un_neg,cutD,decide_true,decide_false,simprocAttr,fb2,fb3,fb9,fb78,fb80,fb100]
        obtain ⟨E, hE⟩ := hg.pre [] (S ++ [.obj [.str op, .str nm, .int .i64 n, .sl none 4 ks.length (ndsC ks)]]) (by simp) (by simp)
        refine ⟨_, _, by rw [hE, List.append_assoc], ?_, rfl⟩
        have e : insAll (outN ks ks.length) = namesR (.mk op nm n ks) := by
          rw [← hfin]
          unfold outN
          rw [List.take_length]
        rw [e] at hacc
        exact hacc.wf.to_Wk (.sl' (hlow _))

theorem texts6 (l : List ByteArray) (hl : l.length < 1000000) (S : Mem) : CallD Tryz.prog O 52 [.sl none 1 l.length (strC l), .sl none 1 l.length (strC l)] S fun d S' => S' = S ∧ d = .bool true := by
  refine CallD.e Tryz.func52 rfl Tryz.ntmps52 (by rfl) ?_
  repeat' (first|refine Go.a rfl ?_|refine Go.rg ?_|refine GoR.nil ?_|refine Go.ret ?_|refine Go.b rfl ?_|refine Go.rgS dmx (by decide) ?_|(refine GoR.o (by rfl) (by rfl) ?_;(conv => arg 1;simp only [G,Z,Y,Gx,un_neg,cutD,decide_true,decide_false,simprocAttr,fb3,fb9,fb100,bne_self_eq_false]);show GoR ..)|refine Go.condB rfl (fun hc => ?_) (fun hc => ?_))
  refine Go.keep [(0, .sl none 1 l.length (strC l)), (1, .sl none 1 l.length (strC l)), (5, .int .i64 ((0 : Nat) : Int))] (.cons .refl (.cons .refl (.cons .refl (.nil)))) ?_
  refine Go.while (α := Nat) (fun a => l.length - a) (fun a => [(0, .sl none 1 l.length (strC l)), (1, .sl none 1 l.length (strC l)), (5, .int .i64 (a : Int))]) (fun _ => S) (fun a => a ≤ l.length) ?_ 0 (Nat.zero_le _)
  intro i hi next
  by_cases h1 : i < l.length
  · repeat' (first|refine Go.a rfl ?_|refine Go.rg ?_|refine GoR.nil ?_|refine Go.ret ?_|refine Go.b rfl ?_|refine Go.rgS dmx (by decide) ?_|(refine GoR.o (by rfl) (by rfl) ?_;(conv => arg 1;simp only [G,Z,Y,Gx,un_neg,cutD,decide_true,decide_false,simprocAttr,fb3,fb9,fb100,strAt h1, show decide ((i : Int) < (l.length : Int)) = true by simp; omega, wrap_succ (show i < 4611686018427387904 by omega), decide_true, Bool.not_true, ne_eq, not_true_eq_false, bne_self_eq_false]);show GoR ..)|refine Go.condB rfl (fun hc => ?_) (fun hc => ?_))
    refine Go.lpN ?_
    refine Go.keep [(0, .sl none 1 l.length (strC l)), (1, .sl none 1 l.length (strC l)), (5, .int .i64 ((i + 1 : Nat) : Int))] (.cons .refl (.cons .refl (.cons .refl (.nil)))) ?_
    exact next (i + 1) (by omega) h1
  · clear next
    repeat' (first|refine Go.a rfl ?_|refine Go.rg ?_|refine GoR.nil ?_|refine Go.ret ?_|refine Go.b rfl ?_|refine Go.rgS dmx (by decide) ?_|(refine GoR.o (by rfl) (by rfl) ?_;(conv => arg 1;simp only [G,Z,Y,Gx,un_neg,cutD,decide_true,decide_false,simprocAttr,fb3,fb9,fb100,show decide ((i : Int) < (l.length : Int)) = false by simp; omega]);show GoR ..)|refine Go.condB rfl (fun hc => ?_) (fun hc => ?_))
    refine ⟨(by first | exact .inl rfl | exact .inr rfl), fin ?_⟩
    rw [resD_tmp (fn := Tryz.f52) rfl]
    simp only [optThen_some,resultD_tmp,resultD_cell,G,Z,Y,Gx,un_neg,cutD,decide_true,decide_false,simprocAttr,fb3,fb9,fb100]
    exact ⟨_, [], by simp, .bool, rfl⟩
end Go.Proofs.DeT
