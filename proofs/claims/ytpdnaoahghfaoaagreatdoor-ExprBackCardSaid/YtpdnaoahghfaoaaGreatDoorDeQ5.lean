/- A tree's words are read as the tree. -/
import Derived.Test.YtpdnaoahghfaoaaGreatDoorDeP10
import Derived.Test.YtpdnaoahghfaoaaGreatDoorDeT1
import Derived.Test.YtpdnaoahghfaoaaGreatDoorDeK3
set_option linter.unusedSimpArgs false
set_option linter.unusedVariables false
namespace Go.Proofs.DeT
open Go Go.DM
set_option maxRecDepth 100000

/-- A word: its kind, its text, its number. -/
abbrev Wd := Int × ByteArray × Int
def tokW (t : Tok) : Wd := (t.k, t.t, t.n)
def sgW (s : ByteArray) : Wd := (3, s, 0)
def wordsK (op nm : ByteArray) (n : Int) (ws : List (List Wd)) : List Wd :=
  if op = (⟨#[110, 117, 109]⟩ : ByteArray) then [(2, itoaB n, n)] else if op = (⟨#[110, 97, 109, 101]⟩ : ByteArray) then [(1, nm, 0)] else
  match ws with
  | [a] => sgW (⟨#[45]⟩ : ByteArray) :: a
  | [a, b] => sgW (⟨#[40]⟩ : ByteArray) :: (a ++ (sgW op :: (b ++ [sgW (⟨#[41]⟩ : ByteArray)])))
  | _ => []
/-- The words of a tree's text. -/
def wordsN : Nd → List Wd
  | .mk op nm n ks => wordsK op nm n (ks.attach.map fun ⟨k, _⟩ => wordsN k)
termination_by n => SizeOf.sizeOf n
decreasing_by exact Nd.kid_lt ‹_›
theorem wordsN_mk {op nm : ByteArray} {n : Int} {ks : List Nd} : wordsN (.mk op nm n ks) = wordsK op nm n (ks.map wordsN) := by
  rw [wordsN]
  simp
/-- A tree as it is read: what does not matter is left out. -/
def cleanN : Nd → Nd
  | .mk op nm n ks => if op = (⟨#[110, 117, 109]⟩ : ByteArray) then .mk (⟨#[110, 117, 109]⟩ : ByteArray) ⟨#[]⟩ n [] else if op = (⟨#[110, 97, 109, 101]⟩ : ByteArray) then .mk (⟨#[110, 97, 109, 101]⟩ : ByteArray) nm 0 [] else .mk op ⟨#[]⟩ 0 (ks.attach.map fun ⟨k, _⟩ => cleanN k)
termination_by n => SizeOf.sizeOf n
decreasing_by exact Nd.kid_lt ‹_›
theorem cleanN_mk {op nm : ByteArray} {n : Int} {ks : List Nd} : cleanN (.mk op nm n ks) = if op = (⟨#[110, 117, 109]⟩ : ByteArray) then .mk (⟨#[110, 117, 109]⟩ : ByteArray) ⟨#[]⟩ n [] else if op = (⟨#[110, 97, 109, 101]⟩ : ByteArray) then .mk (⟨#[110, 97, 109, 101]⟩ : ByteArray) nm 0 [] else .mk op ⟨#[]⟩ 0 (ks.map cleanN) := by
  rw [cleanN]
  simp
theorem clean_same (n : Nd) (hw : Whole n) : sameS (cleanN n) n = true := by
  induction n using Nd.ind with
  | h op nm n ks ih =>
    rw [cleanN_mk]
    rcases whole_cases hw with ⟨rfl, rfl, _, _⟩ | ⟨rfl, rfl, _⟩ | ⟨k, rfl, rfl, hk⟩ | ⟨k, k2, hq, hop, rfl, hk, hk2⟩
    · rw [if_pos rfl, sameS_mk, sameK_yes rfl (fun i h _ => absurd h (by simp))]
      simp
    · rw [if_neg (by decide), if_pos rfl, sameS_mk, sameK_yes rfl (fun i h _ => absurd h (by simp))]
      simp
    · rw [if_neg (by decide), if_neg (by decide), sameS_mk, sameK_yes (by simp)]
      · rfl
      · intro i h1 h2
        have : i = 0 := by simp at h2; omega
        subst this
        exact ih k (by simp) hk
    · have n1 : op ≠ (⟨#[110, 117, 109]⟩ : ByteArray) := by rcases hop with rfl | rfl | rfl | rfl | rfl <;> decide
      have n2 : op ≠ (⟨#[110, 97, 109, 101]⟩ : ByteArray) := by rcases hop with rfl | rfl | rfl | rfl | rfl <;> decide
      rw [if_neg n1, if_neg n2, sameS_mk, sameK_yes (by simp)]
      · simp [n1, n2]
      · intro i h1 h2
        have : i = 0 ∨ i = 1 := by simp at h2; omega
        rcases this with rfl | rfl
        · exact ih k (by simp) hk
        · exact ih k2 (by simp) hk2

theorem dig_of {k : Nat} (h : k < 10) : dgtB (UInt8.ofNat (48 + k)) = true ∧ (UInt8.ofNat (48 + k)).toNat - 48 = k := by
  have e : (UInt8.ofNat (48 + k)).toNat = 48 + k := by simp; omega
  unfold dgtB
  rw [e]
  simp
  omega
theorem decD : ∀ (f u : Nat), u ≤ f → (∀ b ∈ Lib.decDigits u, dgtB b = true) ∧ numV (Lib.decDigits u) = u ∧ Lib.decDigits u ≠ [] ∧ (1 ≤ u → ∀ b, (Lib.decDigits u).head? = some b → b ≠ 48)
  | f, u, h => by
    by_cases h1 : u < 10
    · rw [Lib.decDigits_one h1]
      obtain ⟨d1, d2⟩ := dig_of h1
      refine ⟨by simpa using d1, by simpa [numV] using d2, by simp, fun hu b hb => ?_⟩
      simp only [List.head?_cons, Option.some.injEq] at hb
      rintro rfl
      have := congrArg UInt8.toNat hb
      have e : (UInt8.ofNat (48 + u)).toNat = 48 + u := by simp; omega
      rw [e] at this
      have : 48 + u = 48 := this
      omega
    · match f, h with
      | 0, h => omega
      | f + 1, h =>
        obtain ⟨a1, a2, a3, a4⟩ := decD f (u / 10) (by omega)
        have e : Lib.decDigits u = Lib.decDigits (u / 10) ++ [UInt8.ofNat (48 + u % 10)] := by rw [Lib.decDigits, dif_neg h1]
        obtain ⟨d1, d2⟩ := dig_of (Nat.mod_lt u (by decide : 0 < 10))
        rw [e]
        refine ⟨fun b hb => ?_, ?_, by simp, fun _ b hb => ?_⟩
        · rcases List.mem_append.1 hb with hb | hb
          · exact a1 b hb
          · rw [List.mem_singleton] at hb; rw [hb]; exact d1
        · unfold numV at a2 ⊢
          rw [List.foldl_append, a2]
          simp only [List.foldl_cons, List.foldl_nil, d2]
          omega
        · have hha : (Lib.decDigits (u / 10) ++ [UInt8.ofNat (48 + u % 10)]).head? = (Lib.decDigits (u / 10)).head? := by
            cases hq : Lib.decDigits (u / 10) with
            | nil => exact absurd hq a3
            | cons x xs => rfl
          rw [hha] at hb
          exact a4 (by omega) b hb
theorem tw_all {p : UInt8 → Bool} {w : List UInt8} (h : ∀ b ∈ w, p b = true) : w.takeWhile p = w := by
  induction w with
  | nil => rfl
  | cons b w ih => rw [List.takeWhile_cons, if_pos (h b (by simp)), ih fun x hx => h x (by simp [hx])]
/-- Behind a word there is no letter and no digit. -/
def RestOk (rest : List UInt8) : Prop := ∀ c, rest.head? = some c → lodB c = false
theorem tw_rest {p : UInt8 → Bool} {w rest : List UInt8} (h : ∀ b ∈ w, p b = true) (hr : ∀ c, rest.head? = some c → p c = false) : (w ++ rest).takeWhile p = w := by
  have := takeWhile_again (p := p) hr w
  rwa [tw_all h] at this
theorem lex_leaf {w rest : List UInt8} {k : Int} {v : Nat} (a : Nat) (hne : w ≠ []) (hb : w.head? ≠ some 32) (h : lexOne (w ++ rest) = .ok (k, w.length, v)) :
    lexS (w ++ rest) a = (lexS rest (a + w.length)).map (⟨k, ⟨w.toArray⟩, v, a⟩ :: ·) := by
  match w, hne with
  | b :: w, _ =>
    have hb' : b ≠ 32 := fun e => hb (by rw [e]; rfl)
    have := lexS_tok (a := a) hb' h
    rw [show (b :: (w.append rest)) = (b :: w) ++ rest from rfl, List.drop_left, List.take_left] at this
    exact this
theorem lex_num {n : Int} (h0 : 0 ≤ n) (hi : in64 n) {rest : List UInt8} (hr : RestOk rest) (a : Nat) :
    lexS ((itoaB n).data.toList ++ rest) a = (lexS rest (a + (itoaB n).size)).map (⟨2, itoaB n, n, a⟩ :: ·) := by
  obtain ⟨u, rfl⟩ : ∃ u : Nat, n = (u : Int) := ⟨n.toNat, by omega⟩
  have e : (itoaB (u : Int)).data.toList = Lib.decDigits u := by
    show (Lib.itoa (u : Int)).toArray.toList = _
    rw [List.toList_toArray]
    unfold Lib.itoa
    rw [if_neg (by omega), Int.toNat_natCast]
  have e2 : itoaB (u : Int) = ⟨(Lib.decDigits u).toArray⟩ := by rw [← e]
  have e3 : (itoaB (u : Int)).size = (Lib.decDigits u).length := by rw [e2, toArr_size]
  obtain ⟨d1, d2, d3, d4⟩ := decD u u (Nat.le_refl _)
  have hdr : ∀ c, rest.head? = some c → dgtB c = false := fun c hc => by
    have := hr c hc
    unfold lodB at this
    simp only [Bool.or_eq_false_iff] at this
    exact this.2
  have hlr : ∀ c, rest.head? = some c → letB c = false := fun c hc => by
    have := hr c hc
    unfold lodB at this
    simp only [Bool.or_eq_false_iff] at this
    exact this.1
  have htw := tw_rest d1 hdr
  rw [e, e3, e2]
  have hone : lexOne (Lib.decDigits u ++ rest) = .ok (2, (Lib.decDigits u).length, u) := by
    generalize hw : Lib.decDigits u = w at *
    match w, d3 with
    | b :: w, _ =>
      have hb := d1 b (by simp)
      have hnl : letB b = false := by
        unfold dgtB at hb
        unfold letB
        simp only [Bool.and_eq_true, decide_eq_true_eq] at hb
        rw [decide_eq_false (by omega), Bool.false_and]
      rw [List.cons_append] at htw ⊢
      unfold lexOne
      dsimp only
      rw [htw, if_neg (by rw [hnl]; decide), if_pos hb, if_neg, d2, if_pos (by have := hi.2; omega)]
      rintro (q | ⟨q1, q2⟩)
      · have e5 : (b :: (w ++ rest))[(b :: w).length]? = rest.head? := by
          rw [← List.cons_append, List.getElem?_append_right (Nat.le_refl _), Nat.sub_self]
          cases rest <;> rfl
        rw [e5] at q
        cases hh : rest.head? with
        | none => rw [hh] at q; cases q
        | some c => rw [hh] at q; have := hlr c hh; simp only [Option.any_some] at q; rw [q] at this; cases this
      · refine d4 ?_ b rfl q2
        rcases Nat.eq_zero_or_pos u with hz | hz
        · subst hz
          have : Lib.decDigits 0 = [UInt8.ofNat 48] := Lib.decDigits_one (by decide)
          rw [this] at hw
          have := congrArg List.length hw
          simp only [List.length_cons, List.length_nil] at this q1
          omega
        · exact hz
  exact lex_leaf a d3 (by
    intro hh
    cases hq : Lib.decDigits u with
    | nil => exact d3 hq
    | cons b w =>
      rw [hq] at hh d1
      simp only [List.head?_cons, Option.some.injEq] at hh
      have := d1 b (by simp)
      rw [hh] at this
      exact absurd this (by decide)) hone
theorem lex_name {nm : ByteArray} (h : nameOk nm = true) {rest : List UInt8} (hr : RestOk rest) (a : Nat) :
    lexS (nm.data.toList ++ rest) a = (lexS rest (a + nm.size)).map (⟨1, nm, 0, a⟩ :: ·) := by
  unfold nameOk at h
  simp only [Bool.and_eq_true, decide_eq_true_eq] at h
  obtain ⟨⟨⟨h1, h8⟩, hf⟩, hall⟩ := h
  have e3 : nm.size = nm.data.toList.length := rfl
  have hfst : nm.data[0]? = nm.data.toList.head? := by
    rw [← Array.getElem?_toList, List.head?_eq_getElem?]
  rw [hfst] at hf
  have hall' : ∀ b ∈ nm.data.toList, lodB b = true := fun b hb => List.all_eq_true.1 hall b hb
  have htw := tw_rest hall' hr
  rw [e3] at h1 h8 ⊢
  have en : nm = ⟨nm.data.toList.toArray⟩ := rfl
  have hone : lexOne (nm.data.toList ++ rest) = .ok (1, nm.data.toList.length, 0) := by
    generalize nm.data.toList = w at *
    match w, h1 with
    | b :: w, _ =>
      have hb : letB b = true := hf
      rw [List.cons_append] at htw ⊢
      unfold lexOne
      dsimp only
      rw [htw, if_pos hb, if_neg (by omega)]
  have := lex_leaf (rest := rest) a (by intro q; rw [q] at h1; simp at h1) (by
    intro hh
    rw [hh] at hf
    exact absurd hf (by decide)) hone
  exact this
theorem lex_sign {c : UInt8} (h : c = 40 ∨ c = 41 ∨ c = 43 ∨ c = 45 ∨ c = 42 ∨ c = 47 ∨ c = 37) (rest : List UInt8) (a : Nat) :
    lexS (c :: rest) a = (lexS rest (a + 1)).map (⟨3, ⟨#[c]⟩, 0, a⟩ :: ·) := by
  have hone : lexOne ([c] ++ rest) = .ok (3, [c].length, 0) := by
    rcases h with rfl | rfl | rfl | rfl | rfl | rfl | rfl <;> rfl
  exact lex_leaf (w := [c]) (v := 0) a (by simp) (by
    rcases h with rfl | rfl | rfl | rfl | rfl | rfl | rfl <;> decide) hone
theorem rest_32 {r : List UInt8} : RestOk (32 :: r) := by
  intro c hc
  simp only [List.head?_cons, Option.some.injEq] at hc
  subst hc
  rfl
theorem rest_41 {r : List UInt8} : RestOk (41 :: r) := by
  intro c hc
  simp only [List.head?_cons, Option.some.injEq] at hc
  subst hc
  rfl
theorem lex_words (n : Nd) (hw : Whole n) : ∀ (rest : List UInt8) (a : Nat), RestOk rest → ∃ (ts : List Tok) (a' : Nat), lexS ((textS n).data.toList ++ rest) a = (lexS rest a').map (ts ++ ·) ∧ ts.map tokW = wordsN n := by
  induction n using Nd.ind with
  | h op nm n ks ih =>
    intro rest a hr
    rw [textS_mk, wordsN_mk]
    rcases whole_cases hw with ⟨rfl, rfl, h0, hi⟩ | ⟨rfl, rfl, hn⟩ | ⟨k, rfl, rfl, hk⟩ | ⟨k, k2, hq, hop, rfl, hk, hk2⟩
    · exact ⟨[⟨2, itoaB n, n, a⟩], _, lex_num h0 hi hr a, rfl⟩
    · exact ⟨[⟨1, nm, 0, a⟩], _, lex_name hn hr a, rfl⟩
    · obtain ⟨ts, a', h1, h2⟩ := ih k (by simp) hk rest (a + 1) hr
      refine ⟨⟨3, (⟨#[45]⟩ : ByteArray), 0, a⟩ :: ts, a', ?_, ?_⟩
      · have e : (textK (⟨#[110, 101, 103]⟩ : ByteArray) nm n ([k].map textS)).data.toList ++ rest = 45 :: ((textS k).data.toList ++ rest) := by
          show (((⟨#[45]⟩ : ByteArray) ++ textS k : ByteArray)).data.toList ++ rest = _
          simp
        rw [e, lex_sign (by decide), h1, map_map]
        rfl
      · show tokW _ :: ts.map tokW = _
        rw [h2]
        rfl
    · obtain ⟨c, hc, hcs⟩ : ∃ c : UInt8, op = ⟨#[c]⟩ ∧ (c = 40 ∨ c = 41 ∨ c = 43 ∨ c = 45 ∨ c = 42 ∨ c = 47 ∨ c = 37) := by
        rcases hop with rfl | rfl | rfl | rfl | rfl
        · exact ⟨43, rfl, by decide⟩
        · exact ⟨45, rfl, by decide⟩
        · exact ⟨42, rfl, by decide⟩
        · exact ⟨47, rfl, by decide⟩
        · exact ⟨37, rfl, by decide⟩
      have e : textK op nm n ([k, k2].map textS) = ((((((⟨#[40]⟩ : ByteArray) ++ textS k) ++ (⟨#[32]⟩ : ByteArray)) ++ op) ++ (⟨#[32]⟩ : ByteArray)) ++ textS k2) ++ (⟨#[41]⟩ : ByteArray) := by
        rcases hop with rfl | rfl | rfl | rfl | rfl <;> rfl
      have ew : wordsK op nm n ([k, k2].map wordsN) = sgW (⟨#[40]⟩ : ByteArray) :: (wordsN k ++ (sgW op :: (wordsN k2 ++ [sgW (⟨#[41]⟩ : ByteArray)]))) := by
        rcases hop with rfl | rfl | rfl | rfl | rfl <;> rfl
      rw [e, ew]
      subst hc
      obtain ⟨ts, a1, h1, h2⟩ := ih k (by simp) hk (32 :: c :: 32 :: ((textS k2).data.toList ++ (41 :: rest))) (a + 1) rest_32
      obtain ⟨ts2, a2, h3, h4⟩ := ih k2 (by simp) hk2 (41 :: rest) (a1 + 1 + 1 + 1) rest_41
      have el : ((((((((⟨#[40]⟩ : ByteArray) ++ textS k) ++ (⟨#[32]⟩ : ByteArray)) ++ (⟨#[c]⟩ : ByteArray)) ++ (⟨#[32]⟩ : ByteArray)) ++ textS k2) ++ (⟨#[41]⟩ : ByteArray) : ByteArray)).data.toList ++ rest = 40 :: ((textS k).data.toList ++ (32 :: c :: 32 :: ((textS k2).data.toList ++ (41 :: rest)))) := by simp
      refine ⟨⟨3, (⟨#[40]⟩ : ByteArray), 0, a⟩ :: (ts ++ (⟨3, ⟨#[c]⟩, 0, a1 + 1⟩ :: (ts2 ++ [⟨3, (⟨#[41]⟩ : ByteArray), 0, a2⟩]))), a2 + 1, ?_, ?_⟩
      · rw [el, lex_sign (by decide), h1, lexS_blank, lex_sign hcs, lexS_blank, h3, lex_sign (by decide)]
        simp only [map_map]
        congr 1
        funext x
        simp
      · simp only [List.map_cons, List.map_append, List.map_nil, h2, h4]
        rfl
theorem lexF_words (n : Nd) (hw : Whole n) (hc : cnt n ≤ 32) : ∃ ts, lexF (textS n) = .ok ts ∧ ts.map tokW = wordsN n := by
  have hz := text_size n hw
  obtain ⟨ts, a', h1, h2⟩ := lex_words n hw [] 0 (fun c h => by cases h)
  refine ⟨ts, ?_, h2⟩
  unfold lexF
  rw [if_neg (by omega)]
  rw [List.append_nil] at h1
  rw [h1, lexS_nil]
  show Except.ok (ts ++ []) = _
  rw [List.append_nil]

/-- From a place on the words are these. -/
def Match (l : List Tok) (i : Nat) (ws : List Wd) : Prop := ∀ j (h : j < ws.length), ∃ h2 : i + j < l.length, tokW l[i + j] = ws[j]
theorem Match.app {l : List Tok} {i : Nat} {xs ys : List Wd} (h : Match l i (xs ++ ys)) : Match l i xs ∧ Match l (i + xs.length) ys := by
  refine ⟨fun j hj => ?_, fun j hj => ?_⟩
  · obtain ⟨h2, e⟩ := h j (by simp; omega)
    exact ⟨h2, by rw [e, List.getElem_append_left hj]⟩
  · obtain ⟨h2, e⟩ := h (xs.length + j) (by simp; omega)
    refine ⟨by omega, ?_⟩
    have e2 : (xs ++ ys)[xs.length + j]'(by simp; omega) = ys[j] := by
      rw [List.getElem_append_right (by omega)]
      simp
    rw [e2] at e
    rw [← e]
    congr 2
    omega
theorem Match.head {l : List Tok} {i : Nat} {x : Wd} {xs : List Wd} (h : Match l i (x :: xs)) : (∃ h2 : i < l.length, tokW l[i] = x) ∧ Match l (i + 1) xs := by
  have := Match.app (xs := [x]) (ys := xs) h
  obtain ⟨h2, e⟩ := this.1 0 (by simp)
  exact ⟨⟨h2, e⟩, this.2⟩
theorem isT_word {l : List Tok} {i : Nat} (h : i < l.length) {s : ByteArray} (e : tokW l[i] = sgW s) (sg : List ByteArray) : isT l i sg = sg.any (fun x => decide (s = x)) := by
  unfold isT
  rw [List.getElem?_eq_getElem h]
  have h1 : l[i].k = 3 := congrArg (·.1) e
  have h2 : l[i].t = s := congrArg (·.2.1) e
  dsimp only
  rw [h1, h2]
  simp
theorem loop_stop {l : List Tok} {part : St → Option (Nd × St)} {sg : List ByteArray} {g : Nat} {nd : Nd} {st : St} (h : isT l st.i sg = false) (hg : 0 < g) : loopF l part sg g nd st = some (nd, st) := by
  obtain ⟨g, rfl⟩ : ∃ k, g = k + 1 := ⟨g - 1, by omega⟩
  unfold loopF
  rw [if_neg]
  rintro ⟨_, q⟩
  rw [h] at q
  cases q
theorem loop_go {l : List Tok} {part : St → Option (Nd × St)} {sg : List ByteArray} {g i m : Nat} {nd : Nd} (h : isT l i sg = true) (hm : m + 1 ≤ 32) {r : Nd × St} (hr : part ⟨i + 1, m + 1, 0⟩ = some r) :
    loopF l part sg (g + 1) nd ⟨i, m, 0⟩ = loopF l part sg g (.mk (opAt l i) ⟨#[]⟩ 0 [nd, r.1]) r.2 := by
  conv => lhs; unfold loopF
  rw [if_pos ⟨rfl, h⟩]
  dsimp only
  rw [if_neg (by omega), hr, Option.bind_some]
theorem st_eq {nd nd' : Nd} {a a' b b' : Nat} (h1 : nd = nd') (h2 : a = a') (h3 : b = b') : some (nd, (⟨a, b, 0⟩ : St)) = some (nd', (⟨a', b', 0⟩ : St)) := by subst h1 h2 h3; rfl
theorem words_pos (n : Nd) (hw : Whole n) : 0 < (wordsN n).length := by
  obtain ⟨op, nm, n, ks⟩ := n
  rw [wordsN_mk]
  rcases whole_cases hw with ⟨rfl, rfl, _, _⟩ | ⟨rfl, rfl, _⟩ | ⟨k, rfl, rfl, hk⟩ | ⟨k, k2, hq, hop, rfl, hk, hk2⟩
  · exact Nat.one_pos
  · exact Nat.one_pos
  · exact Nat.succ_pos _
  · rcases hop with rfl | rfl | rfl | rfl | rfl <;> exact Nat.succ_pos _
theorem fac_tree {l : List Tok} (n : Nd) (hw : Whole n) : ∀ (f i m : Nat), Match l i (wordsN n) → i ≤ l.length → l.length - i < f → m + cnt n ≤ 32 → facF l f ⟨i, m, 0⟩ = some (cleanN n, ⟨i + (wordsN n).length, m + cnt n, 0⟩) := by
  induction n using Nd.ind with
  | h op nm n ks ih =>
    intro f i m hM hi hf hc
    obtain ⟨f, rfl⟩ : ∃ k, f = k + 1 := ⟨f - 1, by omega⟩
    rw [facF_succ, if_neg (fun q => q rfl)]
    rw [wordsN_mk] at hM ⊢
    rw [cnt_mk] at hc ⊢
    rw [cleanN_mk]
    dsimp only
    rcases whole_cases hw with ⟨rfl, rfl, h0, hin⟩ | ⟨rfl, rfl, hn⟩ | ⟨k, rfl, rfl, hk⟩ | ⟨k, k2, hq, hop, rfl, hk, hk2⟩
    · have hM' : Match l i [(2, itoaB n, n)] := hM
      obtain ⟨⟨h2, e⟩, _⟩ := hM'.head
      have e1 : l[i].k = 2 := congrArg (·.1) e
      have e2 : l[i].n = n := congrArg (·.2.2) e
      simp only [cnts, List.map_nil, List.sum_nil] at hc ⊢
      rw [List.getElem?_eq_getElem h2]
      dsimp only
      rw [if_neg (by rw [e1]; decide), if_neg (by omega), if_pos (by first | trivial | rfl)]
      unfold leafN
      rw [if_pos e1, e2]
      rfl
    · have hM' : Match l i [(1, nm, 0)] := hM
      obtain ⟨⟨h2, e⟩, _⟩ := hM'.head
      have e1 : l[i].k = 1 := congrArg (·.1) e
      have e2 : l[i].t = nm := congrArg (·.2.1) e
      simp only [cnts, List.map_nil, List.sum_nil] at hc ⊢
      rw [List.getElem?_eq_getElem h2]
      dsimp only
      rw [if_neg (by rw [e1]; decide), if_neg (by omega), if_neg (by decide), if_pos (by first | trivial | rfl)]
      unfold leafN
      rw [if_neg (by rw [e1]; decide), e2]
      rfl
    · have hM' : Match l i (sgW (⟨#[45]⟩ : ByteArray) :: wordsN k) := hM
      obtain ⟨⟨h2, e⟩, hM2⟩ := hM'.head
      have e1 : l[i].k = 3 := congrArg (·.1) e
      have e2 : l[i].t = (⟨#[45]⟩ : ByteArray) := congrArg (·.2.1) e
      simp only [cnts, List.map_cons, List.map_nil, List.sum_cons, List.sum_nil] at hc ⊢
      rw [List.getElem?_eq_getElem h2]
      dsimp only
      rw [if_pos e1, if_neg (by rw [e2]; decide), if_pos e2, if_neg (by omega), ih k (by simp) hk f (i + 1) (m + 1) hM2 h2 (by omega) (by omega), Option.map_some, if_neg (by decide), if_neg (by decide)]
      have el : (wordsK (⟨#[110, 101, 103]⟩ : ByteArray) nm n [wordsN k]).length = 1 + (wordsN k).length := by
        show (sgW (⟨#[45]⟩ : ByteArray) :: wordsN k).length = _
        rw [List.length_cons]; omega
      rw [el]
      exact st_eq rfl (by omega) (by omega)
    · have ew : wordsK op nm n ([k, k2].map wordsN) = sgW (⟨#[40]⟩ : ByteArray) :: (wordsN k ++ (sgW op :: (wordsN k2 ++ [sgW (⟨#[41]⟩ : ByteArray)]))) := by
        rcases hop with rfl | rfl | rfl | rfl | rfl <;> rfl
      have n1 : op ≠ (⟨#[110, 117, 109]⟩ : ByteArray) := by rcases hop with rfl | rfl | rfl | rfl | rfl <;> decide
      have n2 : op ≠ (⟨#[110, 97, 109, 101]⟩ : ByteArray) := by rcases hop with rfl | rfl | rfl | rfl | rfl <;> decide
      rw [ew] at hM ⊢
      obtain ⟨⟨h2, e⟩, hM2⟩ := hM.head
      obtain ⟨hMa, hM3⟩ := hM2.app
      obtain ⟨⟨h4, e4⟩, hM5⟩ := hM3.head
      obtain ⟨hMb, hM6⟩ := hM5.app
      obtain ⟨⟨h7, e7⟩, _⟩ := hM6.head
      have e1 : l[i].k = 3 := congrArg (·.1) e
      have e2 : l[i].t = (⟨#[40]⟩ : ByteArray) := congrArg (·.2.1) e
      have p1 := words_pos k hk
      have p2 := words_pos k2 hk2
      simp only [cnts, List.map_cons, List.map_nil, List.sum_cons, List.sum_nil] at hc
      have hca : cnts [k, k2] = cnt k + cnt k2 := by simp [cnts]
      rw [hca]
      rw [List.getElem?_eq_getElem h2]
      dsimp only
      rw [if_pos e1, if_pos e2, if_neg n1, if_neg n2]
      have ha := ih k (by simp) hk f (i + 1) m hMa h2 (by omega) (by omega)
      have hb := ih k2 (by simp) hk2 f (i + 1 + (wordsN k).length + 1) (m + cnt k + 1) hMb h4 (by omega) (by omega)
      have hopt : opAt l (i + 1 + (wordsN k).length) = op := by
        unfold opAt
        rw [List.getElem?_eq_getElem h4]
        exact congrArg (·.2.1) e4
      have t1 := isT_word h4 e4
      have t2 := isT_word h7 e7
      have t2m : isT l (i + 1 + (wordsN k).length + 1 + (wordsN k2).length) mulS = false := by rw [t2]; rfl
      have t2a : isT l (i + 1 + (wordsN k).length + 1 + (wordsN k2).length) addS = false := by rw [t2]; rfl
      have t2e : isT l (i + 1 + (wordsN k).length + 1 + (wordsN k2).length) endS = true := by rw [t2]; rfl
      obtain ⟨g, rfl⟩ : ∃ g, f = g + 1 := ⟨f - 1, by omega⟩
      have hsum : sumF l (g + 1) ⟨i + 1, m, 0⟩ = some (.mk op ⟨#[]⟩ 0 [cleanN k, cleanN k2], ⟨i + 1 + (wordsN k).length + 1 + (wordsN k2).length, m + cnt k + 1 + cnt k2, 0⟩) := by
        unfold sumF
        by_cases hmul : op = (⟨#[42]⟩ : ByteArray) ∨ op = (⟨#[47]⟩ : ByteArray) ∨ op = (⟨#[37]⟩ : ByteArray)
        · have tm : isT l (i + 1 + (wordsN k).length) mulS = true := by rw [t1]; rcases hmul with rfl | rfl | rfl <;> rfl
          have hprd : prdF l (g + 1) ⟨i + 1, m, 0⟩ = some (.mk op ⟨#[]⟩ 0 [cleanN k, cleanN k2], ⟨i + 1 + (wordsN k).length + 1 + (wordsN k2).length, m + cnt k + 1 + cnt k2, 0⟩) := by
            unfold prdF foldF
            rw [ha, Option.bind_some]
            dsimp only
            rw [loop_go tm (by omega) hb, hopt]
            exact loop_stop t2m (by omega)
          unfold foldF
          rw [hprd, Option.bind_some]
          exact loop_stop t2a (by omega)
        · have hadd : op = (⟨#[43]⟩ : ByteArray) ∨ op = (⟨#[45]⟩ : ByteArray) := by
            rcases hop with h | h | h | h | h
            · exact .inl h
            · exact .inr h
            · exact absurd (.inl h) hmul
            · exact absurd (.inr (.inl h)) hmul
            · exact absurd (.inr (.inr h)) hmul
          have tm : isT l (i + 1 + (wordsN k).length) mulS = false := by rw [t1]; rcases hadd with rfl | rfl <;> rfl
          have ta : isT l (i + 1 + (wordsN k).length) addS = true := by rw [t1]; rcases hadd with rfl | rfl <;> rfl
          have hprd : prdF l (g + 1) ⟨i + 1, m, 0⟩ = some (cleanN k, ⟨i + 1 + (wordsN k).length, m + cnt k, 0⟩) := by
            unfold prdF foldF
            rw [ha, Option.bind_some]
            exact loop_stop tm (by omega)
          have hprd2 : prdF l (g + 1) ⟨i + 1 + (wordsN k).length + 1, m + cnt k + 1, 0⟩ = some (cleanN k2, ⟨i + 1 + (wordsN k).length + 1 + (wordsN k2).length, m + cnt k + 1 + cnt k2, 0⟩) := by
            unfold prdF foldF
            rw [hb, Option.bind_some]
            exact loop_stop t2m (by omega)
          unfold foldF
          rw [hprd, Option.bind_some]
          dsimp only
          rw [loop_go ta (by omega) hprd2, hopt]
          exact loop_stop t2a (by omega)
      rw [hsum, Option.map_some]
      unfold closeF
      rw [if_neg (fun q => q rfl), if_pos t2e]
      dsimp only
      have el : (sgW (⟨#[40]⟩ : ByteArray) :: (wordsN k ++ (sgW op :: (wordsN k2 ++ [sgW (⟨#[41]⟩ : ByteArray)])))).length = 1 + (wordsN k).length + 1 + (wordsN k2).length + 1 := by
        simp only [List.length_cons, List.length_append, List.length_nil]
        omega
      rw [el]
      exact st_eq rfl (by omega) (by omega)
/-- A tree's words are read as the tree, but for what does not matter. -/
theorem parse_back (n : Nd) (hw : Whole n) (hc : cnt n ≤ 32) : parseF (textS n) = (cleanN n, 0, 0) := by
  obtain ⟨ts, h1, h2⟩ := lexF_words n hw hc
  have hl : ts.length = (wordsN n).length := by rw [← h2, List.length_map]
  have hM : Match ts 0 (wordsN n) := fun j hj => by
    refine ⟨by omega, ?_⟩
    have : (ts.map tokW)[j]'(by simp; omega) = (wordsN n)[j] := by simp only [h2]
    rw [← this]
    simp
  have hf := fac_tree n hw (ts.length + 1) 0 0 hM (Nat.zero_le _) (by omega) (by omega)
  have hT : ∀ sg, isT ts (0 + (wordsN n).length) sg = false := fun sg => isT_no (by omega)
  have hof : ofF ts 0 = some (cleanN n, ⟨0 + (wordsN n).length, 0 + cnt n, 0⟩) := by
    unfold ofF sumF prdF foldF
    rw [hf, Option.bind_some]
    try dsimp only
    rw [loop_stop (hT mulS) (by omega), Option.bind_some]
    exact loop_stop (hT addS) (by omega)
  unfold parseF
  rw [h1]
  dsimp only
  rw [hof]
  dsimp only
  unfold wholeF
  have he : errF ts (cleanN n, ⟨0 + (wordsN n).length, 0 + cnt n, 0⟩) = 0 := if_neg fun q => by have := q.2; dsimp only at this; omega
  rw [he, if_neg (by decide)]
end Go.Proofs.DeT
