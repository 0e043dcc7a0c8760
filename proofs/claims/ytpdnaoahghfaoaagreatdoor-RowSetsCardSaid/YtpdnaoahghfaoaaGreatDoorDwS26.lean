/- Whether a row may be: the document's word. -/
import Derived.Test.YtpdnaoahghfaoaaGreatDoorDwS25
set_option linter.unusedSimpArgs false
set_option linter.unusedVariables false
namespace Go.Proofs.DwT
open Go Go.DM Go.Proofs.DeT
set_option maxRecDepth 100000
variable {orc : DOracle}

structure Rw where
  key : ByteArray
  st : St
  at_ : List Att
def Rw.c (r : Rw) : List D := [.str r.key, .int .i64 r.st.tick, .int .i64 r.st.inc, .int .i64 r.st.seq, .str r.st.org, .sl none 5 r.at_.length (attsC r.at_)]
def chkR (r : Rw) : Int := if nameOk r.key = false then 5 else if chk r.st = 0 then attrsE r.at_ else chk r.st
structure FewR (r : Rw) : Prop where
  key : r.key.size < 1000000
  org : r.st.org.size < 1000000
  atn : ∀ a ∈ r.at_, a.n.size < 1000000
  ats : ∀ a ∈ r.at_, a.v.s.size < 1000000
  atl : ∀ a ∈ r.at_, a.v.l.length < 1000000
theorem rowCheck (r : Rw) (hr : FewR r) (S : Mem) : CallD Tryz.prog O 16 [.agg r.c] S fun d S' => S' = S ∧ d = .int .i64 (chkR r) := by
  have hat := fun S => rowAttrs (orc := O) r.at_ hr.ats S
  have hst := fun S => stCheck r.st hr.org S
  obtain ⟨key, ⟨a, b, c, org⟩, at_⟩ := r
  simp only [Rw.c, St.c] at *
  refine CallD.e Tryz.func16 rfl Tryz.ntmps16 (by rfl) ?_
  cases hn : nameOk key with
  | false =>
    repeat' (first|refine Go.a rfl ?_|refine Go.rg ?_|refine GoR.nil ?_|refine Go.ret ?_|refine Go.b rfl ?_|(refine GoR.o (by rfl) (by rfl) ?_;(conv => arg 1;simp only [G,Z,Y,Gx,un_neg,cutD,decide_true,decide_false,simprocAttr,fb2,fb9,fb23,fb24,fb26,fb35,hn]);show GoR ..)|(refine GoR.c c33 (by rfl) (by rfl) rfl ?_;(refine (rowName _ _).ret ?_))|refine Go.condB rfl (fun hc => ?_) (fun hc => ?_))
    refine ⟨(by first | exact .inl rfl | exact .inr rfl), fin ?_⟩
    rw [resD_tmp (fn := Tryz.f16) rfl]
    simp only [optThen_some,resultD_tmp,resultD_cell,G,Z,Y,Gx,un_neg,cutD,decide_true,decide_false,simprocAttr,fb2,fb9,fb23,fb24,fb26,fb35]
    exact ⟨_, _, rfl, .int, by rw [chkR, if_pos hn]⟩
  | true =>
    by_cases h0 : chk ⟨a, b, c, org⟩ = 0
    · repeat' (first|refine Go.a rfl ?_|refine Go.rg ?_|refine GoR.nil ?_|refine Go.ret ?_|refine Go.b rfl ?_|(refine GoR.o (by rfl) (by rfl) ?_;(conv => arg 1;simp only [G,Z,Y,Gx,un_neg,cutD,decide_true,decide_false,simprocAttr,fb2,fb9,fb23,fb24,fb26,fb35,hn, h0]);show GoR ..)|(refine GoR.c c33 (by rfl) (by rfl) rfl ?_;(refine (rowName _ _).ret ?_))|(refine GoR.c c61 (by rfl) (by rfl) rfl ?_;(refine (hst _).ret ?_))|(refine GoR.c c62 (by rfl) (by rfl) rfl ?_;(refine (hat _).ret ?_))|refine Go.condB rfl (fun hc => ?_) (fun hc => ?_))
      refine ⟨(by first | exact .inl rfl | exact .inr rfl), fin ?_⟩
      rw [resD_tmp (fn := Tryz.f16) rfl]
      simp only [optThen_some,resultD_tmp,resultD_cell,G,Z,Y,Gx,un_neg,cutD,decide_true,decide_false,simprocAttr,fb2,fb9,fb23,fb24,fb26,fb35]
      exact ⟨_, _, rfl, .int, by rw [chkR, if_neg (by simp [hn]), if_pos h0]⟩
    · repeat' (first|refine Go.a rfl ?_|refine Go.rg ?_|refine GoR.nil ?_|refine Go.ret ?_|refine Go.b rfl ?_|(refine GoR.o (by rfl) (by rfl) ?_;(conv => arg 1;simp only [G,Z,Y,Gx,un_neg,cutD,decide_true,decide_false,simprocAttr,fb2,fb9,fb23,fb24,fb26,fb35,hn, show (chk ⟨a, b, c, org⟩ != 0) = true by simpa using h0]);show GoR ..)|(refine GoR.c c33 (by rfl) (by rfl) rfl ?_;(refine (rowName _ _).ret ?_))|(refine GoR.c c61 (by rfl) (by rfl) rfl ?_;(refine (hst _).ret ?_))|refine Go.condB rfl (fun hc => ?_) (fun hc => ?_))
      refine ⟨(by first | exact .inl rfl | exact .inr rfl), fin ?_⟩
      rw [resD_tmp (fn := Tryz.f16) rfl]
      simp only [optThen_some,resultD_tmp,resultD_cell,G,Z,Y,Gx,un_neg,cutD,decide_true,decide_false,simprocAttr,fb2,fb9,fb23,fb24,fb26,fb35]
      exact ⟨_, _, rfl, .int, by rw [chkR, if_neg (by simp [hn]), if_neg h0]⟩
theorem refCheck (r : Rw) (hr : FewR r) (S : Mem) : CallD Tryz.prog O 14 [.agg r.c] S fun d S' => S' = S ∧ d = .int .i64 (chkR r) := by
  have hst := fun S => refCheckStamp r.st hr.org S
  obtain ⟨hkey, _, hatn, hats, _⟩ := hr
  obtain ⟨key, ⟨a, b, c, org⟩, l⟩ := r
  simp only at hkey hatn hats
  have hkn := fun S => refName (orc := O) key (by omega) S
  simp only [Rw.c, St.c] at *
  refine CallD.e Tryz.func14 rfl Tryz.ntmps14 (by rfl) ?_
  cases hn : nameOk key with
  | false =>
    repeat' (first|refine Go.a rfl ?_|refine Go.rg ?_|refine GoR.nil ?_|refine Go.ret ?_|refine Go.b rfl ?_|refine Go.rgS dmx (by decide) ?_|(refine GoR.o (by rfl) (by rfl) ?_;(conv => arg 1;simp only [G,Z,Y,Gx,un_neg,cutD,decide_true,decide_false,simprocAttr,fb2,fb3,fb9,fb30,fb31,fb33,fb45,fb55,fb109,hn]);show GoR ..)|(refine GoR.c c34 (by rfl) (by rfl) rfl ?_;(refine (hkn _).ret ?_))|refine GoR.s (by rfl) rfl rfl ?_|(refine GoR.splitG rfl (fun hc => ?_) (fun hc => ?_) <;> simp only [hc])|refine Go.condB rfl (fun hc => ?_) (fun hc => ?_))
    refine ⟨(by first | exact .inl rfl | exact .inr rfl), fin ?_⟩
    rw [resD_tmp (fn := Tryz.f14) rfl]
    simp only [optThen_some,resultD_tmp,resultD_cell,G,Z,Y,Gx,un_neg,cutD,decide_true,decide_false,simprocAttr,fb2,fb3,fb9,fb30,fb31,fb33,fb45,fb55,fb109]
    exact ⟨_, _, rfl, .int, by rw [chkR, if_pos hn]⟩
  | true =>
    by_cases hc : chk ⟨a, b, c, org⟩ = 0
    · have hR : chkR ⟨key, ⟨a, b, c, org⟩, l⟩ = attrsE l := by rw [chkR, if_neg (by simp [hn]), if_pos hc]
      rw [hR]
      by_cases h32 : 32 < l.length
      · repeat' (first|refine Go.a rfl ?_|refine Go.rg ?_|refine GoR.nil ?_|refine Go.ret ?_|refine Go.b rfl ?_|refine Go.rgS dmx (by decide) ?_|(refine GoR.o (by rfl) (by rfl) ?_;(conv => arg 1;simp only [G,Z,Y,Gx,un_neg,cutD,decide_true,decide_false,simprocAttr,fb2,fb3,fb9,fb30,fb31,fb33,fb45,fb55,fb109,hn, hc, show (decide (32 < (l.length : Int))) = true by simp; omega]);show GoR ..)|(refine GoR.c c34 (by rfl) (by rfl) rfl ?_;(refine (hkn _).ret ?_))|(refine GoR.c c58 (by rfl) (by rfl) rfl ?_;(refine (hst _).ret ?_))|refine GoR.s (by rfl) rfl rfl ?_|(refine GoR.splitG rfl (fun hc => ?_) (fun hc => ?_) <;> simp only [hc])|refine Go.condB rfl (fun hc => ?_) (fun hc => ?_))
        refine ⟨(by first | exact .inl rfl | exact .inr rfl), fin ?_⟩
        rw [resD_tmp (fn := Tryz.f14) rfl]
        simp only [optThen_some,resultD_tmp,resultD_cell,G,Z,Y,Gx,un_neg,cutD,decide_true,decide_false,simprocAttr,fb2,fb3,fb9,fb30,fb31,fb33,fb45,fb55,fb109]
        exact ⟨_, _, rfl, .int, by rw [attrsE, if_pos h32]⟩
      rw [attrsE, if_neg h32]
      repeat' (first|refine Go.a rfl ?_|refine Go.rg ?_|refine GoR.nil ?_|refine Go.ret ?_|refine Go.b rfl ?_|refine Go.rgS dmx (by decide) ?_|(refine GoR.o (by rfl) (by rfl) ?_;(conv => arg 1;simp only [G,Z,Y,Gx,un_neg,cutD,decide_true,decide_false,simprocAttr,fb2,fb3,fb9,fb30,fb31,fb33,fb45,fb55,fb109,hn, hc, show (decide (32 < (l.length : Int))) = false by simp; omega]);show GoR ..)|(refine GoR.c c34 (by rfl) (by rfl) rfl ?_;(refine (hkn _).ret ?_))|(refine GoR.c c58 (by rfl) (by rfl) rfl ?_;(refine (hst _).ret ?_))|refine GoR.s (by rfl) rfl rfl ?_|(refine GoR.splitG rfl (fun hc => ?_) (fun hc => ?_) <;> simp only [hc])|refine Go.condB rfl (fun hc => ?_) (fun hc => ?_))
      refine Go.keep [(1, .ptr S.length 0), (4, .int .i64 ((0 : Nat) : Int))] (.cons .refl (.cons .refl (.nil))) ?_
      refine Go.while (α := Nat) (fun i => l.length - i) (fun i => [(1, .ptr S.length 0), (4, .int .i64 (i : Int))]) (fun _ => S ++ [.obj [.str key, .int .i64 a, .int .i64 b, .int .i64 c, .str org, .sl none 5 l.length (attsC l)]])
        (fun i => i ≤ l.length ∧ attsE none l = attsE (prevN l i) (l.drop i)) ?_ 0 ⟨Nat.zero_le _, rfl⟩
      rintro i ⟨hi, hk⟩ next
      by_cases h1 : i < l.length
      · have hsz := hats l[i] (List.getElem_mem _)
        have hnz := hatn l[i] (List.getElem_mem _)
        have hv := fun S => refCheckValue (orc := O) l[i].v hsz S
        have hnm := fun S => refName (orc := O) l[i].n (by omega) S
        rw [attsE_step h1] at hk
        have dl : decide ((i : Int) < (l.length : Int)) = true := by simp; omega
        simp only [Val.c] at hv
        have at1 := attsAt h1
        simp only [Val.c, Att.c] at at1
        cases hn1 : nameOk l[i].n with
        | false =>
          clear next
          have he : attE (prevN l i) l[i] = 5 := by rw [attE, if_pos hn1]
          repeat' (first|refine Go.a rfl ?_|refine Go.rg ?_|refine GoR.nil ?_|refine Go.ret ?_|refine Go.b rfl ?_|refine Go.rgS dmx (by decide) ?_|(refine GoR.o (by rfl) (by rfl) ?_;(conv => arg 1;simp only [G,Z,Y,Gx,un_neg,cutD,decide_true,decide_false,simprocAttr,fb2,fb3,fb9,fb30,fb31,fb33,fb45,fb55,fb109,dl, at1, hn1]);show GoR ..)|(refine GoR.c c34 (by rfl) (by rfl) rfl ?_;(refine (hnm _).ret ?_))|(refine GoR.c c59 (by rfl) (by rfl) rfl ?_;(refine (hv _).ret ?_))|refine GoR.s (by rfl) rfl rfl ?_|(refine GoR.splitG rfl (fun hc => ?_) (fun hc => ?_) <;> simp only [hc])|refine Go.condB rfl (fun hc => ?_) (fun hc => ?_))
          refine ⟨(by first | exact .inl rfl | exact .inr rfl), fin ?_⟩
          rw [resD_tmp (fn := Tryz.f14) rfl]
          simp only [optThen_some,resultD_tmp,resultD_cell,G,Z,Y,Gx,un_neg,cutD,decide_true,decide_false,simprocAttr,fb2,fb3,fb9,fb30,fb31,fb33,fb45,fb55,fb109]
          exact ⟨_, _, rfl, .int, by rw [hk, he]; rfl⟩
        | true =>
          by_cases h0 : i = 0
          · have hp : prevN l i = none := if_pos h0
            have he : attE (prevN l i) l[i] = chkV l[i].v := by rw [attE, if_neg (by rw [hn1]; decide), hp]; rfl
            have d0 : decide (0 < (i : Int)) = false := by simp; omega
            rw [he] at hk
            by_cases hc0 : chkV l[i].v = 0
            · rw [if_pos hc0] at hk
              repeat' (first|refine Go.a rfl ?_|refine Go.rg ?_|refine GoR.nil ?_|refine Go.ret ?_|refine Go.b rfl ?_|refine Go.rgS dmx (by decide) ?_|(refine GoR.o (by rfl) (by rfl) ?_;(conv => arg 1;simp only [G,Z,Y,Gx,un_neg,cutD,decide_true,decide_false,simprocAttr,fb2,fb3,fb9,fb30,fb31,fb33,fb45,fb55,fb109,dl, at1, hn1, d0, hc0, wrap_succ (show i < 4611686018427387904 by omega)]);show GoR ..)|(refine GoR.c c34 (by rfl) (by rfl) rfl ?_;(refine (hnm _).ret ?_))|(refine GoR.c c59 (by rfl) (by rfl) rfl ?_;(refine (hv _).ret ?_))|refine GoR.s (by rfl) rfl rfl ?_|(refine GoR.splitG rfl (fun hc => ?_) (fun hc => ?_) <;> simp only [hc])|refine Go.condB rfl (fun hc => ?_) (fun hc => ?_))
              refine Go.lpN ?_
              refine Go.keep [(1, .ptr S.length 0), (4, .int .i64 ((i + 1 : Nat) : Int))] (.cons .refl (.cons .refl (.nil))) ?_
              exact next (i + 1) (by omega) ⟨h1, hk⟩
            · clear next
              rw [if_neg hc0] at hk
              repeat' (first|refine Go.a rfl ?_|refine Go.rg ?_|refine GoR.nil ?_|refine Go.ret ?_|refine Go.b rfl ?_|refine Go.rgS dmx (by decide) ?_|(refine GoR.o (by rfl) (by rfl) ?_;(conv => arg 1;simp only [G,Z,Y,Gx,un_neg,cutD,decide_true,decide_false,simprocAttr,fb2,fb3,fb9,fb30,fb31,fb33,fb45,fb55,fb109,dl, at1, hn1, d0, show (chkV l[i].v != 0) = true by simpa using hc0]);show GoR ..)|(refine GoR.c c34 (by rfl) (by rfl) rfl ?_;(refine (hnm _).ret ?_))|(refine GoR.c c59 (by rfl) (by rfl) rfl ?_;(refine (hv _).ret ?_))|refine GoR.s (by rfl) rfl rfl ?_|(refine GoR.splitG rfl (fun hc => ?_) (fun hc => ?_) <;> simp only [hc])|refine Go.condB rfl (fun hc => ?_) (fun hc => ?_))
              refine ⟨(by first | exact .inl rfl | exact .inr rfl), fin ?_⟩
              rw [resD_tmp (fn := Tryz.f14) rfl]
              simp only [optThen_some,resultD_tmp,resultD_cell,G,Z,Y,Gx,un_neg,cutD,decide_true,decide_false,simprocAttr,fb2,fb3,fb9,fb30,fb31,fb33,fb45,fb55,fb109]
              exact ⟨_, _, rfl, .int, by rw [hk]⟩
          · have hp := prevN_pos h1 (show 0 < i by omega)
            have d0 : decide (0 < (i : Int)) = true := by simp; omega
            have at0 := attsAt (l := l) (i := i - 1) (by omega)
            cases hb : ltB (l[i - 1]'(by omega)).n l[i].n with
            | false =>
              clear next
              have hbl : Op.bytesLess (l[i - 1]'(by omega)).n.toList l[i].n.toList = false := hb
              have he : attE (prevN l i) l[i] = 6 := by rw [attE, if_neg (by rw [hn1]; decide), hp, if_pos (by simp [hb])]
              repeat' (first|refine Go.a rfl ?_|refine Go.rg ?_|refine GoR.nil ?_|refine Go.ret ?_|refine Go.b rfl ?_|refine Go.rgS dmx (by decide) ?_|(refine GoR.o (by rfl) (by rfl) ?_;(conv => arg 1;simp only [G,Z,Y,Gx,un_neg,cutD,decide_true,decide_false,simprocAttr,fb2,fb3,fb9,fb30,fb31,fb33,fb45,fb55,fb109,dl, at1, at0, hn1, d0, hbl, pred_cast (show 0 < i by omega) (show i < 4611686018427387904 by omega)]);show GoR ..)|(refine GoR.c c34 (by rfl) (by rfl) rfl ?_;(refine (hnm _).ret ?_))|(refine GoR.c c59 (by rfl) (by rfl) rfl ?_;(refine (hv _).ret ?_))|refine GoR.s (by rfl) rfl rfl ?_|(refine GoR.splitG rfl (fun hc => ?_) (fun hc => ?_) <;> simp only [hc])|refine Go.condB rfl (fun hc => ?_) (fun hc => ?_))
              refine ⟨(by first | exact .inl rfl | exact .inr rfl), fin ?_⟩
              rw [resD_tmp (fn := Tryz.f14) rfl]
              simp only [optThen_some,resultD_tmp,resultD_cell,G,Z,Y,Gx,un_neg,cutD,decide_true,decide_false,simprocAttr,fb2,fb3,fb9,fb30,fb31,fb33,fb45,fb55,fb109]
              exact ⟨_, _, rfl, .int, by rw [hk, he]; rfl⟩
            | true =>
              have hbl : Op.bytesLess (l[i - 1]'(by omega)).n.toList l[i].n.toList = true := hb
              have he : attE (prevN l i) l[i] = chkV l[i].v := by rw [attE, if_neg (by rw [hn1]; decide), hp, if_neg (by simp [hb])]
              rw [he] at hk
              by_cases hc0 : chkV l[i].v = 0
              · rw [if_pos hc0] at hk
                repeat' (first|refine Go.a rfl ?_|refine Go.rg ?_|refine GoR.nil ?_|refine Go.ret ?_|refine Go.b rfl ?_|refine Go.rgS dmx (by decide) ?_|(refine GoR.o (by rfl) (by rfl) ?_;(conv => arg 1;simp only [G,Z,Y,Gx,un_neg,cutD,decide_true,decide_false,simprocAttr,fb2,fb3,fb9,fb30,fb31,fb33,fb45,fb55,fb109,dl, at1, at0, hn1, d0, hbl, hc0, pred_cast (show 0 < i by omega) (show i < 4611686018427387904 by omega), wrap_succ (show i < 4611686018427387904 by omega)]);show GoR ..)|(refine GoR.c c34 (by rfl) (by rfl) rfl ?_;(refine (hnm _).ret ?_))|(refine GoR.c c59 (by rfl) (by rfl) rfl ?_;(refine (hv _).ret ?_))|refine GoR.s (by rfl) rfl rfl ?_|(refine GoR.splitG rfl (fun hc => ?_) (fun hc => ?_) <;> simp only [hc])|refine Go.condB rfl (fun hc => ?_) (fun hc => ?_))
                refine Go.lpN ?_
                refine Go.keep [(1, .ptr S.length 0), (4, .int .i64 ((i + 1 : Nat) : Int))] (.cons .refl (.cons .refl (.nil))) ?_
                exact next (i + 1) (by omega) ⟨h1, hk⟩
              · clear next
                rw [if_neg hc0] at hk
                repeat' (first|refine Go.a rfl ?_|refine Go.rg ?_|refine GoR.nil ?_|refine Go.ret ?_|refine Go.b rfl ?_|refine Go.rgS dmx (by decide) ?_|(refine GoR.o (by rfl) (by rfl) ?_;(conv => arg 1;simp only [G,Z,Y,Gx,un_neg,cutD,decide_true,decide_false,simprocAttr,fb2,fb3,fb9,fb30,fb31,fb33,fb45,fb55,fb109,dl, at1, at0, hn1, d0, hbl, pred_cast (show 0 < i by omega) (show i < 4611686018427387904 by omega), show (chkV l[i].v != 0) = true by simpa using hc0]);show GoR ..)|(refine GoR.c c34 (by rfl) (by rfl) rfl ?_;(refine (hnm _).ret ?_))|(refine GoR.c c59 (by rfl) (by rfl) rfl ?_;(refine (hv _).ret ?_))|refine GoR.s (by rfl) rfl rfl ?_|(refine GoR.splitG rfl (fun hc => ?_) (fun hc => ?_) <;> simp only [hc])|refine Go.condB rfl (fun hc => ?_) (fun hc => ?_))
                refine ⟨(by first | exact .inl rfl | exact .inr rfl), fin ?_⟩
                rw [resD_tmp (fn := Tryz.f14) rfl]
                simp only [optThen_some,resultD_tmp,resultD_cell,G,Z,Y,Gx,un_neg,cutD,decide_true,decide_false,simprocAttr,fb2,fb3,fb9,fb30,fb31,fb33,fb45,fb55,fb109]
                exact ⟨_, _, rfl, .int, by rw [hk]⟩
      · clear next
        repeat' (first|refine Go.a rfl ?_|refine Go.rg ?_|refine GoR.nil ?_|refine Go.ret ?_|refine Go.b rfl ?_|refine Go.rgS dmx (by decide) ?_|(refine GoR.o (by rfl) (by rfl) ?_;(conv => arg 1;simp only [G,Z,Y,Gx,un_neg,cutD,decide_true,decide_false,simprocAttr,fb2,fb3,fb9,fb30,fb31,fb33,fb45,fb55,fb109,show (decide ((i : Int) < (l.length : Int))) = false by simp; omega]);show GoR ..)|refine GoR.s (by rfl) rfl rfl ?_|(refine GoR.splitG rfl (fun hc => ?_) (fun hc => ?_) <;> simp only [hc])|refine Go.condB rfl (fun hc => ?_) (fun hc => ?_))
        refine ⟨(by first | exact .inl rfl | exact .inr rfl), fin ?_⟩
        rw [resD_tmp (fn := Tryz.f14) rfl]
        simp only [optThen_some,resultD_tmp,resultD_cell,G,Z,Y,Gx,un_neg,cutD,decide_true,decide_false,simprocAttr,fb2,fb3,fb9,fb30,fb31,fb33,fb45,fb55,fb109]
        exact ⟨_, _, rfl, .int, by rw [hk, List.drop_of_length_le (by omega)]; rfl⟩
    · repeat' (first|refine Go.a rfl ?_|refine Go.rg ?_|refine GoR.nil ?_|refine Go.ret ?_|refine Go.b rfl ?_|refine Go.rgS dmx (by decide) ?_|(refine GoR.o (by rfl) (by rfl) ?_;(conv => arg 1;simp only [G,Z,Y,Gx,un_neg,cutD,decide_true,decide_false,simprocAttr,fb2,fb3,fb9,fb30,fb31,fb33,fb45,fb55,fb109,hn, show (chk ⟨a, b, c, org⟩ != 0) = true by simpa using hc]);show GoR ..)|(refine GoR.c c34 (by rfl) (by rfl) rfl ?_;(refine (hkn _).ret ?_))|(refine GoR.c c58 (by rfl) (by rfl) rfl ?_;(refine (hst _).ret ?_))|refine GoR.s (by rfl) rfl rfl ?_|(refine GoR.splitG rfl (fun hc => ?_) (fun hc => ?_) <;> simp only [hc])|refine Go.condB rfl (fun hc => ?_) (fun hc => ?_))
      refine ⟨(by first | exact .inl rfl | exact .inr rfl), fin ?_⟩
      rw [resD_tmp (fn := Tryz.f14) rfl]
      simp only [optThen_some,resultD_tmp,resultD_cell,G,Z,Y,Gx,un_neg,cutD,decide_true,decide_false,simprocAttr,fb2,fb3,fb9,fb30,fb31,fb33,fb45,fb55,fb109]
      exact ⟨_, _, rfl, .int, by rw [chkR, if_neg (by simp [hn]), if_neg hc]⟩
end Go.Proofs.DwT
