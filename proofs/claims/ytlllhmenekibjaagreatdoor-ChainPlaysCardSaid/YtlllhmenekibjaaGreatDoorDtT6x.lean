/- A table: a row put. -/
import Derived.Test.YtlllhmenekibjaaGreatDoorDtT3x
set_option linter.unusedSimpArgs false
set_option linter.unusedVariables false
namespace Go.Proofs.DtT
open Go Go.DM Go.Proofs.DtF
set_option maxRecDepth 100000
variable {orc:DOracle}
def putT (most:Int) (l:List Rw) (r:Rw):List Rw×Int:=
 if chkR r≠0 then (l,chkR r) else
 match lookK Rw.key l r.key with
 | some o=>if 0<cmpSt r.st o.st then (putK Rw.key l r,0) else (l,11)
 | none=>if most≤l.length then (if 0<cmpSt r.st (least l).st then (putK Rw.key (dropK Rw.key l (least l).key) r,0) else (l,9)) else (putK Rw.key l r,0)
theorem OkT.put {l:List Rw} (h:OkT l) (hl:l.length<999999) {r:Rw} (hr:OkR r):OkT (putK Rw.key l r):=
 ⟨riseK_put h.rise r,by rw [lenK_put h.rise];split<;>omega,fun x hx=>by
  rcases memK_put h.rise hx with hx | rfl
  ·exact h.ok x hx
  ·exact hr⟩
theorem OkT.drop {l:List Rw} (h:OkT l) (s:ByteArray):OkT (dropK Rw.key l s):=
 ⟨riseK_drop h.rise s,by have:=h.len;rw [lenK_drop h.rise];split<;>omega,fun x hx=>h.ok x (memK_drop h.rise hx)⟩
theorem MovedT.comp {S S1 S2:Mem} {T T1:Tb} {most:Int} {l:List Rw} (h1 : ∀ o∈T1.own,o∈T.own∨S.length≤o) (e1:T1.t=T.t) (e2:T1.m=T.m) (h2:Fr T.own S S1) (y:MovedT S1 T1 most l S2):MovedT S T most l S2:=by
 obtain ⟨T2,b1,b2,b3,b4,b5⟩:=y
 refine ⟨T2,b1.trans e1,b2.trans e2,b3,fun o ho => ?_,h2.trans b5 h1⟩
 rcases b4 o ho with h | h
 ·exact h1 o h
 ·exact .inr (Nat.le_trans h2.len h)
set_option maxHeartbeats 4000000 in
theorem tabPut {S:Mem} {T:Tb} {most:Int} {l:List Rw} (h:TabAt S T most l) (ho:OkT l) (hm:1≤most) (r:Rw) (hr:FewR r) (hrl:OkR r) :
  CallD Tryz.prog O 12 [.ptr T.t 0,.agg r.c] S fun d S'=>d = .int .i64 (putT most l r).2∧MovedT S T most (putT most l r).1 S':=by
 have ht : ∀ E,objAt (S++E) T.t=some [.int .i64 most,.ptr T.m 0]:=fun E=>objAt_old h.tab
 have hck:=fun S=>rowCheck r hr S
 have hap:=fun S=>rowApart (orc:=O) r hrl S
 have hln:=fun E=>mapLen (orc:=O) (h.app E).map
 have hput:=fun E=>mapPut (h.app E).map ho.rise ho.len r
 have hsame : ∀ E,MovedT S T most l (S++E):=fun E=>⟨T,rfl,rfl,h.app E,fun o ho=>.inl ho,.app⟩
 have hget : ∀ S',TabAt S' T most l→CallD Tryz.prog O 58 [.ptr T.m 0,.str r.key] S' fun d S1=>S1=S'∧d = .tup [.agg ((lookK Rw.key l r.key).getD noRow).c,.bool (lookK Rw.key l r.key).isSome]:=fun S' h'=>mapGet h'.map ho.rise ho.len r.key
 by_cases hc:chkR r=0
 rotate_left
 ·rw [putT,if_pos hc]
  simp only [Rw.c] at *
  refine CallD.eb Tryz.func12 rfl Tryz.ntmps12 (by rfl) ?_
  repeat' (first|refine Go.a rfl ?_|refine Go.rg ?_|refine GoR.nil ?_|refine Go.ret ?_|refine Go.b rfl ?_|refine Go.rgS dmx (by decide) ?_|refine Go.rgF (id:=4) 10 [6] [] (fun _=>True) dmx (by decide) 6 (by decide) (by decide) rfl rfl rfl rfl dze35 (by simp [AM.scalarV,Value.cells]) (by trivial) ?_|refine Go.rgD (id:=7) [11] (fun _=>True) dmx (by decide) 15 (by decide) (by trivial) ?_|refine Go.rgD (id:=12) [3,5] (fun _=>True) dmx (by decide) 8 (by decide) (by trivial) ?_|refine GoW.nil rfl ?_|((first|refine GoR.o (by rfl) (by rfl) ?_|refine GoW.o (by rfl) (by rfl) ?_|refine GoW.rd (by rfl) (by rfl) ?_);(conv=>arg 1;simp only [G,Z,Y,Gx,un_neg,cutD,decide_true,decide_false,simprocAttr,fb2,fb3,fb9,fb25,fb32,fb33,fb35,fb99,fb102,show (chkR r != 0)=true by simpa using hc]);first|show GoR ..|(show _∧GoW ..;refine ⟨by exact fun _=>trivial,?_⟩)|(show _∧_∧_∧GoW ..;refine ⟨rfl,by trivial,(fun H _=>by simp only [G,Z,Y,Gx,un_neg,cutD,decide_true,decide_false,simprocAttr,fb2,fb3,fb9,fb25,fb32,fb33,fb35,fb99,fb102,show (chkR r != 0)=true by simpa using hc]),?_⟩))|(refine GoW.c c57 (by rfl) (by rfl) rfl ?_;(refine (hck _).ret ?_);refine ⟨by exact fun _=>trivial,?_⟩)|(refine GoR.c c57 (by rfl) (by rfl) rfl ?_;(refine (hck _).ret ?_))|refine GoR.s (by rfl) rfl rfl ?_|refine GoW.s (by rfl) rfl rfl (by exact fun _=>trivial) ?_|(refine GoR.splitG rfl (fun hc => ?_) (fun hc => ?_)<;>simp only [hc])|refine Go.condB rfl (fun hc => ?_) (fun hc => ?_))
  refine ⟨(by first | exact .inl rfl | exact .inr rfl),fin ?_⟩
  rw [resD_tmp (fn:=Tryz.f12) rfl]
  simp only [optThen_some,resultD_tmp,resultD_cell,G,Z,Y,Gx,un_neg,cutD,decide_true,decide_false,simprocAttr,fb2,fb3,fb9,fb25,fb32,fb33,fb35,fb99,fb102]
  exact hsame _
 have hc0:(chkR r != 0)=false:=by simpa using hc
 rw [putT,if_neg (by simp [hc])]
 cases hq:lookK Rw.key l r.key with
 | some o=>
  rw [hq] at hget
  have hnw:=fun S=>newer (orc:=O) r.st o.st S
  simp only [Option.getD_some,Option.isSome_some] at hget
  by_cases hn:0<cmpSt r.st o.st
  ·simp only [hn,if_true]
   simp only [Rw.c,St.c] at *
   refine CallD.eb Tryz.func12 rfl Tryz.ntmps12 (by rfl) ?_
   repeat' (first|refine Go.a rfl ?_|refine Go.rg ?_|refine GoR.nil ?_|refine Go.ret ?_|refine Go.b rfl ?_|refine Go.rgS dmx (by decide) ?_|refine Go.rgD (id:=4) [3,5,6] (fun H=>TabAt H T most l∧objAt H T.t=some [.int .i64 most,.ptr T.m 0]∧objAt H S.length=some [.str r.key,.int .i64 r.st.tick,.int .i64 r.st.inc,.int .i64 r.st.seq,.str r.st.org,.sl none 5 r.at_.length (attsC r.at_)]) dmx (by decide) 11 (by decide) (by (exact ⟨h.app _,ht _,by simp [objAt,List.getElem?_append_right]⟩)) ?_|refine Go.rgD (id:=7) [11] (fun H=>TabAt H T most l∧objAt H T.t=some [.int .i64 most,.ptr T.m 0]∧objAt H S.length=some [.str r.key,.int .i64 r.st.tick,.int .i64 r.st.inc,.int .i64 r.st.seq,.str r.st.org,.sl none 5 r.at_.length (attsC r.at_)]) dmx (by decide) 15 (by decide) (by (exact ⟨h.app _,ht _,by simp [objAt,List.getElem?_append_right]⟩)) ?_|refine Go.rgD (id:=12) [3,5] (fun H=>TabAt H T most l∧objAt H T.t=some [.int .i64 most,.ptr T.m 0]∧objAt H S.length=some [.str r.key,.int .i64 r.st.tick,.int .i64 r.st.inc,.int .i64 r.st.seq,.str r.st.org,.sl none 5 r.at_.length (attsC r.at_)]) dmx (by decide) 8 (by decide) (by (exact ⟨h.app _,ht _,by simp [objAt,List.getElem?_append_right]⟩)) ?_|refine GoW.nil rfl ?_|((first|refine GoR.o (by rfl) (by rfl) ?_|refine GoW.o (by rfl) (by rfl) ?_|refine GoW.rd (by rfl) (by rfl) ?_);(conv=>arg 1;simp only [G,Z,Y,Gx,un_neg,cutD,decide_true,decide_false,simprocAttr,fb2,fb3,fb9,fb25,fb32,fb33,fb35,fb99,fb102,hc0,ht,hn,List.append_assoc,List.cons_append,List.nil_append]);first|show GoR ..|(show _∧GoW ..;refine ⟨by (first|exact fun h=>absurd h (by decide)|(intro _;(exact ⟨h.app _,ht _,by simp [objAt,List.getElem?_append_right]⟩))),?_⟩)|(show _∧_∧_∧GoW ..;refine ⟨rfl,by (exact ⟨h.app _,ht _,by simp [objAt,List.getElem?_append_right]⟩),(fun H hI=>by (try dsimp only at hI);simp only [G,Z,Y,Gx,un_neg,cutD,decide_true,decide_false,simprocAttr,fb2,fb3,fb9,fb25,fb32,fb33,fb35,fb99,fb102,hc0,ht,hn,List.append_assoc,List.cons_append,List.nil_append,hI]),?_⟩))|refine GoW.cL c58 (by rfl) (by rfl) rfl (by (exact ⟨h.app _,ht _,by simp [objAt,List.getElem?_append_right]⟩)) (fun H hI=>hget H hI.1) ?_|(refine GoW.c c57 (by rfl) (by rfl) rfl ?_;(refine (hck _).ret ?_);refine ⟨by (first|exact fun h=>absurd h (by decide)|(intro _;(exact ⟨h.app _,ht _,by simp [objAt,List.getElem?_append_right]⟩))),?_⟩)|(refine GoR.c c57 (by rfl) (by rfl) rfl ?_;(refine (hck _).ret ?_))|(refine GoW.c c58 (by rfl) (by rfl) rfl ?_;(refine (hget _ (h.app _)).ret ?_);refine ⟨by (first|exact fun h=>absurd h (by decide)|(intro _;(exact ⟨h.app _,ht _,by simp [objAt,List.getElem?_append_right]⟩))),?_⟩)|(refine GoR.c c58 (by rfl) (by rfl) rfl ?_;(refine (hget _ (h.app _)).ret ?_))|(refine GoW.c c28 (by rfl) (by rfl) rfl ?_;(refine (hnw _).ret ?_);refine ⟨by (first|exact fun h=>absurd h (by decide)|(intro _;(exact ⟨h.app _,ht _,by simp [objAt,List.getElem?_append_right]⟩))),?_⟩)|(refine GoR.c c28 (by rfl) (by rfl) rfl ?_;(refine (hnw _).ret ?_))|(refine GoW.c c63 (by rfl) (by rfl) rfl ?_;(refine (hap _).ret ?_);refine ⟨by (first|exact fun h=>absurd h (by decide)|(intro _;(exact ⟨h.app _,ht _,by simp [objAt,List.getElem?_append_right]⟩))),?_⟩)|(refine GoR.c c63 (by rfl) (by rfl) rfl ?_;(refine (hap _).ret ?_))|(refine GoW.c c62 (by rfl) (by rfl) rfl ?_;(refine (hput _).mono ?_;rintro _ S2 ⟨rfl,h2⟩);refine ⟨by (first|exact fun h=>absurd h (by decide)|(intro _;(exact ⟨h.app _,ht _,by simp [objAt,List.getElem?_append_right]⟩))),?_⟩)|(refine GoR.c c62 (by rfl) (by rfl) rfl ?_;(refine (hput _).mono ?_;rintro _ S2 ⟨rfl,h2⟩))|refine GoR.s (by rfl) rfl rfl ?_|refine GoW.s (by rfl) rfl rfl (by (first|exact fun h=>absurd h (by decide)|(intro _;(exact ⟨h.app _,ht _,by simp [objAt,List.getElem?_append_right]⟩)))) ?_|(refine GoR.splitG rfl (fun hc => ?_) (fun hc => ?_)<;>simp only [hc])|refine Go.condB rfl (fun hc => ?_) (fun hc => ?_))
   refine ⟨(by first | exact .inl rfl | exact .inr rfl),fin ?_⟩
   rw [resD_tmp (fn:=Tryz.f12) rfl]
   simp only [optThen_some,resultD_tmp,resultD_cell,G,Z,Y,Gx,un_neg,cutD,decide_true,decide_false,simprocAttr,fb2,fb3,fb9,fb25,fb32,fb33,fb35,fb99,fb102]
   exact Moved.tab h2 h
  ·simp only [hn,if_false]
   simp only [Rw.c,St.c] at *
   refine CallD.eb Tryz.func12 rfl Tryz.ntmps12 (by rfl) ?_
   repeat' (first|refine Go.a rfl ?_|refine Go.rg ?_|refine GoR.nil ?_|refine Go.ret ?_|refine Go.b rfl ?_|refine Go.rgS dmx (by decide) ?_|refine Go.rgD (id:=4) [3,5,6] (fun H=>TabAt H T most l∧objAt H T.t=some [.int .i64 most,.ptr T.m 0]∧objAt H S.length=some [.str r.key,.int .i64 r.st.tick,.int .i64 r.st.inc,.int .i64 r.st.seq,.str r.st.org,.sl none 5 r.at_.length (attsC r.at_)]) dmx (by decide) 11 (by decide) (by (exact ⟨h.app _,ht _,by simp [objAt,List.getElem?_append_right]⟩)) ?_|refine Go.rgD (id:=7) [11] (fun H=>TabAt H T most l∧objAt H T.t=some [.int .i64 most,.ptr T.m 0]∧objAt H S.length=some [.str r.key,.int .i64 r.st.tick,.int .i64 r.st.inc,.int .i64 r.st.seq,.str r.st.org,.sl none 5 r.at_.length (attsC r.at_)]) dmx (by decide) 15 (by decide) (by (exact ⟨h.app _,ht _,by simp [objAt,List.getElem?_append_right]⟩)) ?_|refine Go.rgD (id:=12) [3,5] (fun H=>TabAt H T most l∧objAt H T.t=some [.int .i64 most,.ptr T.m 0]∧objAt H S.length=some [.str r.key,.int .i64 r.st.tick,.int .i64 r.st.inc,.int .i64 r.st.seq,.str r.st.org,.sl none 5 r.at_.length (attsC r.at_)]) dmx (by decide) 8 (by decide) (by (exact ⟨h.app _,ht _,by simp [objAt,List.getElem?_append_right]⟩)) ?_|refine GoW.nil rfl ?_|((first|refine GoR.o (by rfl) (by rfl) ?_|refine GoW.o (by rfl) (by rfl) ?_|refine GoW.rd (by rfl) (by rfl) ?_);(conv=>arg 1;simp only [G,Z,Y,Gx,un_neg,cutD,decide_true,decide_false,simprocAttr,fb2,fb3,fb9,fb25,fb32,fb33,fb35,fb99,fb102,hc0,ht,hn,List.append_assoc,List.cons_append,List.nil_append]);first|show GoR ..|(show _∧GoW ..;refine ⟨by (first|exact fun h=>absurd h (by decide)|(intro _;(exact ⟨h.app _,ht _,by simp [objAt,List.getElem?_append_right]⟩))),?_⟩)|(show _∧_∧_∧GoW ..;refine ⟨rfl,by (exact ⟨h.app _,ht _,by simp [objAt,List.getElem?_append_right]⟩),(fun H hI=>by (try dsimp only at hI);simp only [G,Z,Y,Gx,un_neg,cutD,decide_true,decide_false,simprocAttr,fb2,fb3,fb9,fb25,fb32,fb33,fb35,fb99,fb102,hc0,ht,hn,List.append_assoc,List.cons_append,List.nil_append,hI]),?_⟩))|refine GoW.cL c58 (by rfl) (by rfl) rfl (by (exact ⟨h.app _,ht _,by simp [objAt,List.getElem?_append_right]⟩)) (fun H hI=>hget H hI.1) ?_|(refine GoW.c c57 (by rfl) (by rfl) rfl ?_;(refine (hck _).ret ?_);refine ⟨by (first|exact fun h=>absurd h (by decide)|(intro _;(exact ⟨h.app _,ht _,by simp [objAt,List.getElem?_append_right]⟩))),?_⟩)|(refine GoR.c c57 (by rfl) (by rfl) rfl ?_;(refine (hck _).ret ?_))|(refine GoW.c c58 (by rfl) (by rfl) rfl ?_;(refine (hget _ (h.app _)).ret ?_);refine ⟨by (first|exact fun h=>absurd h (by decide)|(intro _;(exact ⟨h.app _,ht _,by simp [objAt,List.getElem?_append_right]⟩))),?_⟩)|(refine GoR.c c58 (by rfl) (by rfl) rfl ?_;(refine (hget _ (h.app _)).ret ?_))|(refine GoW.c c28 (by rfl) (by rfl) rfl ?_;(refine (hnw _).ret ?_);refine ⟨by (first|exact fun h=>absurd h (by decide)|(intro _;(exact ⟨h.app _,ht _,by simp [objAt,List.getElem?_append_right]⟩))),?_⟩)|(refine GoR.c c28 (by rfl) (by rfl) rfl ?_;(refine (hnw _).ret ?_))|refine GoR.s (by rfl) rfl rfl ?_|refine GoW.s (by rfl) rfl rfl (by (first|exact fun h=>absurd h (by decide)|(intro _;(exact ⟨h.app _,ht _,by simp [objAt,List.getElem?_append_right]⟩)))) ?_|(refine GoR.splitG rfl (fun hc => ?_) (fun hc => ?_)<;>simp only [hc])|refine Go.condB rfl (fun hc => ?_) (fun hc => ?_))
   refine ⟨(by first | exact .inl rfl | exact .inr rfl),fin ?_⟩
   rw [resD_tmp (fn:=Tryz.f12) rfl]
   simp only [optThen_some,resultD_tmp,resultD_cell,G,Z,Y,Gx,un_neg,cutD,decide_true,decide_false,simprocAttr,fb2,fb3,fb9,fb25,fb32,fb33,fb35,fb99,fb102]
   exact hsame _
 | none=>
  rw [hq] at hget
  simp only [Option.getD_none,Option.isSome_none,noRow] at hget
  by_cases hf:most≤l.length
  ·have h0:l≠[]:=by rintro rfl;simp at hf;omega
   have hold:=fun E=>tabOldest (orc:=O) (h.app E) ho.len h0
   have hnw:=fun S=>newer (orc:=O) r.st (least l).st S
   have hdr:=fun E=>mapDrop (h.app E).map ho.rise ho.len (least l).key
   have hod:=ho.drop (least l).key
   by_cases hn:0<cmpSt r.st (least l).st
   ·simp only [hn,hf,if_true]
    generalize least l=x at *
    simp only [Rw.c,St.c] at *
    refine CallD.eb Tryz.func12 rfl Tryz.ntmps12 (by rfl) ?_
    repeat' (first|refine Go.a rfl ?_|refine Go.rg ?_|refine GoR.nil ?_|refine Go.ret ?_|refine Go.b rfl ?_|refine Go.rgS dmx (by decide) ?_|refine Go.rgD (id:=4) [3,5,6] (fun H=>TabAt H T most l∧objAt H T.t=some [.int .i64 most,.ptr T.m 0]∧objAt H S.length=some [.str r.key,.int .i64 r.st.tick,.int .i64 r.st.inc,.int .i64 r.st.seq,.str r.st.org,.sl none 5 r.at_.length (attsC r.at_)]) dmx (by decide) 11 (by decide) (by (exact ⟨h.app _,ht _,by simp [objAt,List.getElem?_append_right]⟩)) ?_|refine Go.rgD (id:=7) [11] (fun H=>TabAt H T most l∧objAt H T.t=some [.int .i64 most,.ptr T.m 0]∧objAt H S.length=some [.str r.key,.int .i64 r.st.tick,.int .i64 r.st.inc,.int .i64 r.st.seq,.str r.st.org,.sl none 5 r.at_.length (attsC r.at_)]) dmx (by decide) 15 (by decide) (by (exact ⟨h.app _,ht _,by simp [objAt,List.getElem?_append_right]⟩)) ?_|refine Go.rgD (id:=12) [3,5] (fun H=>TabAt H T most l∧objAt H T.t=some [.int .i64 most,.ptr T.m 0]∧objAt H S.length=some [.str r.key,.int .i64 r.st.tick,.int .i64 r.st.inc,.int .i64 r.st.seq,.str r.st.org,.sl none 5 r.at_.length (attsC r.at_)]) dmx (by decide) 8 (by decide) (by (exact ⟨h.app _,ht _,by simp [objAt,List.getElem?_append_right]⟩)) ?_|refine GoW.nil rfl ?_|((first|refine GoR.o (by rfl) (by rfl) ?_|refine GoW.o (by rfl) (by rfl) ?_|refine GoW.rd (by rfl) (by rfl) ?_);(conv=>arg 1;simp only [G,Z,Y,Gx,un_neg,cutD,decide_true,decide_false,simprocAttr,fb2,fb3,fb9,fb25,fb32,fb33,fb35,fb99,fb102,hc0,ht,hn,show decide (most≤(l.length:Int))=true by simpa using hf,List.append_assoc,List.cons_append,List.nil_append]);first|show GoR ..|(show _∧GoW ..;refine ⟨by (first|exact fun h=>absurd h (by decide)|(intro _;(exact ⟨h.app _,ht _,by simp [objAt,List.getElem?_append_right]⟩))),?_⟩)|(show _∧_∧_∧GoW ..;refine ⟨rfl,by (exact ⟨h.app _,ht _,by simp [objAt,List.getElem?_append_right]⟩),(fun H hI=>by (try dsimp only at hI);simp only [G,Z,Y,Gx,un_neg,cutD,decide_true,decide_false,simprocAttr,fb2,fb3,fb9,fb25,fb32,fb33,fb35,fb99,fb102,hc0,ht,hn,show decide (most≤(l.length:Int))=true by simpa using hf,List.append_assoc,List.cons_append,List.nil_append,hI]),?_⟩))|refine GoW.cL c58 (by rfl) (by rfl) rfl (by (exact ⟨h.app _,ht _,by simp [objAt,List.getElem?_append_right]⟩)) (fun H hI=>hget H hI.1) ?_|(refine GoW.c c57 (by rfl) (by rfl) rfl ?_;(refine (hck _).ret ?_);refine ⟨by (first|exact fun h=>absurd h (by decide)|(intro _;(exact ⟨h.app _,ht _,by simp [objAt,List.getElem?_append_right]⟩))),?_⟩)|(refine GoR.c c57 (by rfl) (by rfl) rfl ?_;(refine (hck _).ret ?_))|(refine GoW.c c58 (by rfl) (by rfl) rfl ?_;(refine (hget _ (h.app _)).ret ?_);refine ⟨by (first|exact fun h=>absurd h (by decide)|(intro _;(exact ⟨h.app _,ht _,by simp [objAt,List.getElem?_append_right]⟩))),?_⟩)|(refine GoR.c c58 (by rfl) (by rfl) rfl ?_;(refine (hget _ (h.app _)).ret ?_))|(refine GoW.c c59 (by rfl) (by rfl) rfl ?_;(refine (hln _).ret ?_);refine ⟨by (first|exact fun h=>absurd h (by decide)|(intro _;(exact ⟨h.app _,ht _,by simp [objAt,List.getElem?_append_right]⟩))),?_⟩)|(refine GoR.c c59 (by rfl) (by rfl) rfl ?_;(refine (hln _).ret ?_))|(refine GoW.c c60 (by rfl) (by rfl) rfl ?_;(refine (hold _).ret ?_);refine ⟨by (first|exact fun h=>absurd h (by decide)|(intro _;(exact ⟨h.app _,ht _,by simp [objAt,List.getElem?_append_right]⟩))),?_⟩)|(refine GoR.c c60 (by rfl) (by rfl) rfl ?_;(refine (hold _).ret ?_))|(refine GoW.c c28 (by rfl) (by rfl) rfl ?_;(refine (hnw _).ret ?_);refine ⟨by (first|exact fun h=>absurd h (by decide)|(intro _;(exact ⟨h.app _,ht _,by simp [objAt,List.getElem?_append_right]⟩))),?_⟩)|(refine GoR.c c28 (by rfl) (by rfl) rfl ?_;(refine (hnw _).ret ?_))|(refine GoW.c c61 (by rfl) (by rfl) rfl ?_;(refine (hdr _).mono ?_;rintro _ S2 ⟨rfl,h2⟩);refine ⟨by (first|exact fun h=>absurd h (by decide)|(intro _;(exact ⟨h.app _,ht _,by simp [objAt,List.getElem?_append_right]⟩))),?_⟩)|(refine GoR.c c61 (by rfl) (by rfl) rfl ?_;(refine (hdr _).mono ?_;rintro _ S2 ⟨rfl,h2⟩))|refine GoR.s (by rfl) rfl rfl ?_|refine GoW.s (by rfl) rfl rfl (by (first|exact fun h=>absurd h (by decide)|(intro _;(exact ⟨h.app _,ht _,by simp [objAt,List.getElem?_append_right]⟩)))) ?_|(refine GoR.splitG rfl (fun hc => ?_) (fun hc => ?_)<;>simp only [hc])|refine Go.condB rfl (fun hc => ?_) (fun hc => ?_))
    obtain ⟨T1,e1,e2,hT1,hT2,hT3⟩:=Moved.tab h2 h
    have hb:objAt S2 S.length=some [.str r.key,.int .i64 r.st.tick,.int .i64 r.st.inc,.int .i64 r.st.seq,.str r.st.org,.sl none 5 r.at_.length (attsC r.at_)]:=by
     obtain ⟨a',_,_,h3⟩:=h2
     have hlt:=h.lt
     refine h3.obj (by simp [objAt,List.getElem?_append_right]) ?_
     have h4:=hlt T.m (by simp [Tb.own])
     have h5:=hlt T.a (by simp [Tb.own])
     simp only [List.mem_cons,List.not_mem_nil,or_false]
     omega
    have ht2:objAt S2 T.t=some [.int .i64 most,.ptr T.m 0]:=by
     have:=hT1.tab
     rw [e1,e2] at this
     exact this
    have hput2:=mapPut hT1.map hod.rise hod.len r
    rw [e2] at hput2
    simp only [Rw.c] at hput2
    repeat' (first|refine Go.a rfl ?_|refine Go.rg ?_|refine GoR.nil ?_|refine Go.ret ?_|refine Go.b rfl ?_|refine Go.rgS dmx (by decide) ?_|refine Go.rgF (id:=4) 10 [6] [] (fun H=>objAt H T.t=some [.int .i64 most,.ptr T.m 0]∧objAt H S.length=some [.str r.key,.int .i64 r.st.tick,.int .i64 r.st.inc,.int .i64 r.st.seq,.str r.st.org,.sl none 5 r.at_.length (attsC r.at_)]) dmx (by decide) 6 (by decide) (by decide) rfl rfl rfl rfl dze35 (by simp [AM.scalarV,Value.cells]) (by (exact ⟨ht2,hb⟩)) ?_|refine Go.rgD (id:=7) [11] (fun H=>objAt H T.t=some [.int .i64 most,.ptr T.m 0]∧objAt H S.length=some [.str r.key,.int .i64 r.st.tick,.int .i64 r.st.inc,.int .i64 r.st.seq,.str r.st.org,.sl none 5 r.at_.length (attsC r.at_)]) dmx (by decide) 15 (by decide) (by (exact ⟨ht2,hb⟩)) ?_|refine Go.rgD (id:=12) [3,5] (fun H=>objAt H T.t=some [.int .i64 most,.ptr T.m 0]∧objAt H S.length=some [.str r.key,.int .i64 r.st.tick,.int .i64 r.st.inc,.int .i64 r.st.seq,.str r.st.org,.sl none 5 r.at_.length (attsC r.at_)]) dmx (by decide) 8 (by decide) (by (exact ⟨ht2,hb⟩)) ?_|refine GoW.nil rfl ?_|((first|refine GoR.o (by rfl) (by rfl) ?_|refine GoW.o (by rfl) (by rfl) ?_|refine GoW.rd (by rfl) (by rfl) ?_);(conv=>arg 1;simp only [G,Z,Y,Gx,un_neg,cutD,decide_true,decide_false,simprocAttr,fb2,fb3,fb9,fb25,fb32,fb33,fb35,fb99,fb102,ht2,hb]);first|show GoR ..|(show _∧GoW ..;refine ⟨by (first|exact fun h=>absurd h (by decide)|(intro _;(exact ⟨ht2,hb⟩))),?_⟩)|(show _∧_∧_∧GoW ..;refine ⟨rfl,by (exact ⟨ht2,hb⟩),(fun H hI=>by (try dsimp only at hI);simp only [G,Z,Y,Gx,un_neg,cutD,decide_true,decide_false,simprocAttr,fb2,fb3,fb9,fb25,fb32,fb33,fb35,fb99,fb102,ht2,hb,hI]),?_⟩))|(refine GoW.c c63 (by rfl) (by rfl) rfl ?_;(refine (hap _).ret ?_);refine ⟨by (first|exact fun h=>absurd h (by decide)|(intro _;(exact ⟨ht2,hb⟩))),?_⟩)|(refine GoR.c c63 (by rfl) (by rfl) rfl ?_;(refine (hap _).ret ?_))|(refine GoW.c c62 (by rfl) (by rfl) rfl ?_;(refine hput2.mono ?_;rintro _ S3 ⟨rfl,h3⟩);refine ⟨by (first|exact fun h=>absurd h (by decide)|(intro _;(exact ⟨ht2,hb⟩))),?_⟩)|(refine GoR.c c62 (by rfl) (by rfl) rfl ?_;(refine hput2.mono ?_;rintro _ S3 ⟨rfl,h3⟩))|refine GoR.s (by rfl) rfl rfl ?_|refine GoW.s (by rfl) rfl rfl (by (first|exact fun h=>absurd h (by decide)|(intro _;(exact ⟨ht2,hb⟩)))) ?_|(refine GoR.splitG rfl (fun hc => ?_) (fun hc => ?_)<;>simp only [hc])|refine Go.condB rfl (fun hc => ?_) (fun hc => ?_))
    refine ⟨(by first | exact .inl rfl | exact .inr rfl),fin ?_⟩
    rw [resD_tmp (fn:=Tryz.f12) rfl]
    simp only [optThen_some,resultD_tmp,resultD_cell,G,Z,Y,Gx,un_neg,cutD,decide_true,decide_false,simprocAttr,fb2,fb3,fb9,fb25,fb32,fb33,fb35,fb99,fb102]
    rw [← e2] at h3
    exact MovedT.comp hT2 e1 e2 hT3 (Moved.tab (E:=[]) (by simpa using h3) hT1)
   ·simp only [hn,hf,if_true,if_false]
    generalize least l=x at *
    simp only [Rw.c,St.c] at *
    refine CallD.eb Tryz.func12 rfl Tryz.ntmps12 (by rfl) ?_
    repeat' (first|refine Go.a rfl ?_|refine Go.rg ?_|refine GoR.nil ?_|refine Go.ret ?_|refine Go.b rfl ?_|refine Go.rgS dmx (by decide) ?_|refine Go.rgD (id:=4) [3,5,6] (fun H=>TabAt H T most l∧objAt H T.t=some [.int .i64 most,.ptr T.m 0]∧objAt H S.length=some [.str r.key,.int .i64 r.st.tick,.int .i64 r.st.inc,.int .i64 r.st.seq,.str r.st.org,.sl none 5 r.at_.length (attsC r.at_)]) dmx (by decide) 11 (by decide) (by (exact ⟨h.app _,ht _,by simp [objAt,List.getElem?_append_right]⟩)) ?_|refine Go.rgD (id:=7) [11] (fun H=>TabAt H T most l∧objAt H T.t=some [.int .i64 most,.ptr T.m 0]∧objAt H S.length=some [.str r.key,.int .i64 r.st.tick,.int .i64 r.st.inc,.int .i64 r.st.seq,.str r.st.org,.sl none 5 r.at_.length (attsC r.at_)]) dmx (by decide) 15 (by decide) (by (exact ⟨h.app _,ht _,by simp [objAt,List.getElem?_append_right]⟩)) ?_|refine Go.rgD (id:=12) [3,5] (fun H=>TabAt H T most l∧objAt H T.t=some [.int .i64 most,.ptr T.m 0]∧objAt H S.length=some [.str r.key,.int .i64 r.st.tick,.int .i64 r.st.inc,.int .i64 r.st.seq,.str r.st.org,.sl none 5 r.at_.length (attsC r.at_)]) dmx (by decide) 8 (by decide) (by (exact ⟨h.app _,ht _,by simp [objAt,List.getElem?_append_right]⟩)) ?_|refine GoW.nil rfl ?_|((first|refine GoR.o (by rfl) (by rfl) ?_|refine GoW.o (by rfl) (by rfl) ?_|refine GoW.rd (by rfl) (by rfl) ?_);(conv=>arg 1;simp only [G,Z,Y,Gx,un_neg,cutD,decide_true,decide_false,simprocAttr,fb2,fb3,fb9,fb25,fb32,fb33,fb35,fb99,fb102,hc0,ht,hn,show decide (most≤(l.length:Int))=true by simpa using hf,List.append_assoc,List.cons_append,List.nil_append]);first|show GoR ..|(show _∧GoW ..;refine ⟨by (first|exact fun h=>absurd h (by decide)|(intro _;(exact ⟨h.app _,ht _,by simp [objAt,List.getElem?_append_right]⟩))),?_⟩)|(show _∧_∧_∧GoW ..;refine ⟨rfl,by (exact ⟨h.app _,ht _,by simp [objAt,List.getElem?_append_right]⟩),(fun H hI=>by (try dsimp only at hI);simp only [G,Z,Y,Gx,un_neg,cutD,decide_true,decide_false,simprocAttr,fb2,fb3,fb9,fb25,fb32,fb33,fb35,fb99,fb102,hc0,ht,hn,show decide (most≤(l.length:Int))=true by simpa using hf,List.append_assoc,List.cons_append,List.nil_append,hI]),?_⟩))|refine GoW.cL c58 (by rfl) (by rfl) rfl (by (exact ⟨h.app _,ht _,by simp [objAt,List.getElem?_append_right]⟩)) (fun H hI=>hget H hI.1) ?_|(refine GoW.c c57 (by rfl) (by rfl) rfl ?_;(refine (hck _).ret ?_);refine ⟨by (first|exact fun h=>absurd h (by decide)|(intro _;(exact ⟨h.app _,ht _,by simp [objAt,List.getElem?_append_right]⟩))),?_⟩)|(refine GoR.c c57 (by rfl) (by rfl) rfl ?_;(refine (hck _).ret ?_))|(refine GoW.c c58 (by rfl) (by rfl) rfl ?_;(refine (hget _ (h.app _)).ret ?_);refine ⟨by (first|exact fun h=>absurd h (by decide)|(intro _;(exact ⟨h.app _,ht _,by simp [objAt,List.getElem?_append_right]⟩))),?_⟩)|(refine GoR.c c58 (by rfl) (by rfl) rfl ?_;(refine (hget _ (h.app _)).ret ?_))|(refine GoW.c c59 (by rfl) (by rfl) rfl ?_;(refine (hln _).ret ?_);refine ⟨by (first|exact fun h=>absurd h (by decide)|(intro _;(exact ⟨h.app _,ht _,by simp [objAt,List.getElem?_append_right]⟩))),?_⟩)|(refine GoR.c c59 (by rfl) (by rfl) rfl ?_;(refine (hln _).ret ?_))|(refine GoW.c c60 (by rfl) (by rfl) rfl ?_;(refine (hold _).ret ?_);refine ⟨by (first|exact fun h=>absurd h (by decide)|(intro _;(exact ⟨h.app _,ht _,by simp [objAt,List.getElem?_append_right]⟩))),?_⟩)|(refine GoR.c c60 (by rfl) (by rfl) rfl ?_;(refine (hold _).ret ?_))|(refine GoW.c c28 (by rfl) (by rfl) rfl ?_;(refine (hnw _).ret ?_);refine ⟨by (first|exact fun h=>absurd h (by decide)|(intro _;(exact ⟨h.app _,ht _,by simp [objAt,List.getElem?_append_right]⟩))),?_⟩)|(refine GoR.c c28 (by rfl) (by rfl) rfl ?_;(refine (hnw _).ret ?_))|refine GoR.s (by rfl) rfl rfl ?_|refine GoW.s (by rfl) rfl rfl (by (first|exact fun h=>absurd h (by decide)|(intro _;(exact ⟨h.app _,ht _,by simp [objAt,List.getElem?_append_right]⟩)))) ?_|(refine GoR.splitG rfl (fun hc => ?_) (fun hc => ?_)<;>simp only [hc])|refine Go.condB rfl (fun hc => ?_) (fun hc => ?_))
    refine ⟨(by first | exact .inl rfl | exact .inr rfl),fin ?_⟩
    rw [resD_tmp (fn:=Tryz.f12) rfl]
    simp only [optThen_some,resultD_tmp,resultD_cell,G,Z,Y,Gx,un_neg,cutD,decide_true,decide_false,simprocAttr,fb2,fb3,fb9,fb25,fb32,fb33,fb35,fb99,fb102]
    exact hsame _
  ·simp only [hf,if_false]
   simp only [Rw.c] at *
   refine CallD.eb Tryz.func12 rfl Tryz.ntmps12 (by rfl) ?_
   repeat' (first|refine Go.a rfl ?_|refine Go.rg ?_|refine GoR.nil ?_|refine Go.ret ?_|refine Go.b rfl ?_|refine Go.rgS dmx (by decide) ?_|refine Go.rgD (id:=4) [3,5,6] (fun H=>TabAt H T most l∧objAt H T.t=some [.int .i64 most,.ptr T.m 0]∧objAt H S.length=some [.str r.key,.int .i64 r.st.tick,.int .i64 r.st.inc,.int .i64 r.st.seq,.str r.st.org,.sl none 5 r.at_.length (attsC r.at_)]) dmx (by decide) 11 (by decide) (by (exact ⟨h.app _,ht _,by simp [objAt,List.getElem?_append_right]⟩)) ?_|refine Go.rgD (id:=7) [11] (fun H=>TabAt H T most l∧objAt H T.t=some [.int .i64 most,.ptr T.m 0]∧objAt H S.length=some [.str r.key,.int .i64 r.st.tick,.int .i64 r.st.inc,.int .i64 r.st.seq,.str r.st.org,.sl none 5 r.at_.length (attsC r.at_)]) dmx (by decide) 15 (by decide) (by (exact ⟨h.app _,ht _,by simp [objAt,List.getElem?_append_right]⟩)) ?_|refine Go.rgD (id:=12) [3,5] (fun H=>TabAt H T most l∧objAt H T.t=some [.int .i64 most,.ptr T.m 0]∧objAt H S.length=some [.str r.key,.int .i64 r.st.tick,.int .i64 r.st.inc,.int .i64 r.st.seq,.str r.st.org,.sl none 5 r.at_.length (attsC r.at_)]) dmx (by decide) 8 (by decide) (by (exact ⟨h.app _,ht _,by simp [objAt,List.getElem?_append_right]⟩)) ?_|refine GoW.nil rfl ?_|((first|refine GoR.o (by rfl) (by rfl) ?_|refine GoW.o (by rfl) (by rfl) ?_|refine GoW.rd (by rfl) (by rfl) ?_);(conv=>arg 1;simp only [G,Z,Y,Gx,un_neg,cutD,decide_true,decide_false,simprocAttr,fb2,fb3,fb9,fb25,fb32,fb33,fb35,fb99,fb102,hc0,ht,show decide (most≤(l.length:Int))=false by simpa using hf,List.append_assoc,List.cons_append,List.nil_append]);first|show GoR ..|(show _∧GoW ..;refine ⟨by (first|exact fun h=>absurd h (by decide)|(intro _;(exact ⟨h.app _,ht _,by simp [objAt,List.getElem?_append_right]⟩))),?_⟩)|(show _∧_∧_∧GoW ..;refine ⟨rfl,by (exact ⟨h.app _,ht _,by simp [objAt,List.getElem?_append_right]⟩),(fun H hI=>by (try dsimp only at hI);simp only [G,Z,Y,Gx,un_neg,cutD,decide_true,decide_false,simprocAttr,fb2,fb3,fb9,fb25,fb32,fb33,fb35,fb99,fb102,hc0,ht,show decide (most≤(l.length:Int))=false by simpa using hf,List.append_assoc,List.cons_append,List.nil_append,hI]),?_⟩))|refine GoW.cL c58 (by rfl) (by rfl) rfl (by (exact ⟨h.app _,ht _,by simp [objAt,List.getElem?_append_right]⟩)) (fun H hI=>hget H hI.1) ?_|(refine GoW.c c57 (by rfl) (by rfl) rfl ?_;(refine (hck _).ret ?_);refine ⟨by (first|exact fun h=>absurd h (by decide)|(intro _;(exact ⟨h.app _,ht _,by simp [objAt,List.getElem?_append_right]⟩))),?_⟩)|(refine GoR.c c57 (by rfl) (by rfl) rfl ?_;(refine (hck _).ret ?_))|(refine GoW.c c58 (by rfl) (by rfl) rfl ?_;(refine (hget _ (h.app _)).ret ?_);refine ⟨by (first|exact fun h=>absurd h (by decide)|(intro _;(exact ⟨h.app _,ht _,by simp [objAt,List.getElem?_append_right]⟩))),?_⟩)|(refine GoR.c c58 (by rfl) (by rfl) rfl ?_;(refine (hget _ (h.app _)).ret ?_))|(refine GoW.c c59 (by rfl) (by rfl) rfl ?_;(refine (hln _).ret ?_);refine ⟨by (first|exact fun h=>absurd h (by decide)|(intro _;(exact ⟨h.app _,ht _,by simp [objAt,List.getElem?_append_right]⟩))),?_⟩)|(refine GoR.c c59 (by rfl) (by rfl) rfl ?_;(refine (hln _).ret ?_))|(refine GoW.c c63 (by rfl) (by rfl) rfl ?_;(refine (hap _).ret ?_);refine ⟨by (first|exact fun h=>absurd h (by decide)|(intro _;(exact ⟨h.app _,ht _,by simp [objAt,List.getElem?_append_right]⟩))),?_⟩)|(refine GoR.c c63 (by rfl) (by rfl) rfl ?_;(refine (hap _).ret ?_))|(refine GoW.c c62 (by rfl) (by rfl) rfl ?_;(refine (hput _).mono ?_;rintro _ S2 ⟨rfl,h2⟩);refine ⟨by (first|exact fun h=>absurd h (by decide)|(intro _;(exact ⟨h.app _,ht _,by simp [objAt,List.getElem?_append_right]⟩))),?_⟩)|(refine GoR.c c62 (by rfl) (by rfl) rfl ?_;(refine (hput _).mono ?_;rintro _ S2 ⟨rfl,h2⟩))|refine GoR.s (by rfl) rfl rfl ?_|refine GoW.s (by rfl) rfl rfl (by (first|exact fun h=>absurd h (by decide)|(intro _;(exact ⟨h.app _,ht _,by simp [objAt,List.getElem?_append_right]⟩)))) ?_|(refine GoR.splitG rfl (fun hc => ?_) (fun hc => ?_)<;>simp only [hc])|refine Go.condB rfl (fun hc => ?_) (fun hc => ?_))
   refine ⟨(by first | exact .inl rfl | exact .inr rfl),fin ?_⟩
   rw [resD_tmp (fn:=Tryz.f12) rfl]
   simp only [optThen_some,resultD_tmp,resultD_cell,G,Z,Y,Gx,un_neg,cutD,decide_true,decide_false,simprocAttr,fb2,fb3,fb9,fb25,fb32,fb33,fb35,fb99,fb102]
   exact Moved.tab h2 h
end Go.Proofs.DtT
namespace Go.DM
open Go.AM
theorem Fr.grown {F:List Nat} {S S1 S2:Mem} (x:Fr F S S1) (g:Grown S.length S1 S2):Fr F S S2:=by
 refine ⟨Nat.le_trans x.len g.len,fun o ho hF => ?_⟩
 have hl:(S1.take S.length).length=S.length:=by rw [List.length_take];have:=x.len;omega
 obtain ⟨E',e⟩:=g.pre (S1.drop S.length) (S1.take S.length) hl (List.take_append_drop _ _).symm
 rw [e,List.getElem?_append_left (by omega),List.getElem?_take,if_pos ho]
 exact x.at_ o ho hF
theorem AccD.fr {F:List Nat} {b n len:Nat} {o:D} {cells:List D} {S S':Mem} (h:AccD b o n len cells S) (x:Fr F S S') (hF : ∀ j∈F,∃ c,objAt S j=some c):AccD b o n len cells S':=by
 rcases h with h | h | ⟨id,h1,h2,h3⟩
 ·exact .inl h
 ·exact .inr (.inl h)
 ·refine .inr (.inr ⟨id,h1,h2,?_⟩)
  rw [x.at_ id (List.getElem?_eq_some_iff.1 h3).1 fun hj => ?_]
  ·exact h3
  ·obtain ⟨c,hc⟩:=hF id hj
   rw [objAt_some hc] at h3
   cases h3
end Go.DM
namespace Go.Proofs.DtT
open Go Go.DM Go.Proofs.DtF
set_option maxRecDepth 100000
variable {orc:DOracle}
theorem MapAt.objs {S m a l} (h:MapAt S m a l):(∃ c,objAt S m=some c) ∧ ∃ c,objAt S a=some c:=by
 rcases h with ⟨rfl,_,h3⟩ | ⟨_,h2,h3⟩
 ·exact ⟨⟨_,h3⟩,⟨_,h3⟩⟩
 ·exact ⟨⟨_,h2⟩,⟨_,h3⟩⟩
theorem TabAt.objs {S T most l} (h:TabAt S T most l) : ∀ o∈T.own,∃ c,objAt S o=some c:=fun o ho=>by
 obtain ⟨h1,h2⟩:=h.map.objs
 simp only [Tb.own,List.mem_cons,List.not_mem_nil,or_false] at ho
 rcases ho with rfl | rfl | rfl
 ·exact ⟨_,h.tab⟩
 ·exact h1
 ·exact h2
theorem TabAt.grown {b S S' T most l} (h:TabAt S T most l) (g:Grown b S S'):TabAt S' T most l:=by
 refine ⟨g.obj _ _ h.tab,?_,h.tm,h.ta⟩
 rcases h.map with ⟨h1,h2,h3⟩ | ⟨h1,h2,h3⟩
 ·exact .inl ⟨h1,h2,g.obj _ _ h3⟩
 ·exact .inr ⟨h1,g.obj _ _ h2,g.obj _ _ h3⟩
def goneP (now age:Int) (keep:ByteArray) (r:Rw):Bool := !decide (r.key=keep)&&decide (r.st.tick<IntKind.i64.wrap (now - age))
def keptL (now age:Int) (keep:ByteArray) (l:List Rw):List Rw:=l.filter fun r => !goneP now age keep r
def goneL (now age:Int) (keep:ByteArray) (l:List Rw):List ByteArray:=(l.filter (goneP now age keep)).map Rw.key
theorem dropK_filter {l:List Rw} (hr:RiseB Rw.key l) (s:ByteArray):dropK Rw.key l s=l.filter fun r => !decide (r.key=s):=by
 obtain ⟨x,m,y,c⟩:=cutK_of hr s
 have hx:x.filter (fun r => !decide (r.key=s))=x:=List.filter_eq_self.2 fun r hr=>by simpa using neK (c.lo r hr)
 have hy:y.filter (fun r => !decide (r.key=s))=y:=List.filter_eq_self.2 fun r hr=>by simpa using fun e=>neK (c.hi r hr) e.symm
 rw [c.drop]
 conv=>rhs;rw [c.eq]
 rw [List.filter_append,List.filter_append,hx,hy]
 rcases c.mid with ⟨rfl,_⟩ | ⟨u,rfl,e,_⟩
 ·rfl
 ·simp [e]
def sweepL (now age:Int) (keep:ByteArray) (l:List Rw) (i:Nat):List Rw:=keptL now age keep (l.take i)++l.drop i
theorem sweepL_sub {now age:Int} {keep:ByteArray} {l:List Rw} {i:Nat} : (sweepL now age keep l i).Sublist l:=by
 conv=>rhs;rw [← List.take_append_drop i l]
 exact (List.filter_sublist).append (List.Sublist.refl _)
theorem OkT.sub {l m:List Rw} (h:OkT l) (hs:m.Sublist l):OkT m:=
 ⟨riseK_iff.2 ((riseK_iff.1 h.rise).sublist hs),Nat.lt_of_le_of_lt hs.length_le h.len,fun r hr=>h.ok r (hs.subset hr)⟩
theorem sweepL_keep {now age:Int} {keep:ByteArray} {l:List Rw} {i:Nat} (h:i<l.length) (hg:goneP now age keep l[i]=false):sweepL now age keep l (i+1)=sweepL now age keep l i:=by
 unfold sweepL keptL
 rw [List.take_succ_eq_append_getElem h,List.filter_append,List.drop_eq_getElem_cons h]
 simp [hg]
theorem sweepL_gone {now age:Int} {keep:ByteArray} {l:List Rw} {i:Nat} (hr:RiseB Rw.key l) (h:i<l.length) (hg:goneP now age keep l[i]=true):sweepL now age keep l (i+1)=dropK Rw.key (sweepL now age keep l i) l[i].key:=by
 have hs:RiseB Rw.key (sweepL now age keep l i):=riseK_iff.2 ((riseK_iff.1 hr).sublist sweepL_sub)
 rw [dropK_filter hs]
 unfold sweepL keptL
 have h1:List.filter (fun r => !decide (r.key=l[i].key)) (List.filter (fun r => !goneP now age keep r) (l.take i))=List.filter (fun r => !goneP now age keep r) (l.take i):=
  List.filter_eq_self.2 fun r hm=>by
   obtain ⟨j,hj,rfl⟩:=List.mem_iff_getElem.1 (List.mem_filter.1 hm).1
   rw [List.length_take] at hj
   simp only [List.getElem_take,Bool.not_eq_true',decide_eq_false_iff_not]
   exact neK (hr.lt h (show j<i by omega))
 have h2:List.filter (fun r => !decide (r.key=l[i].key)) (l.drop (i+1))=l.drop (i+1):=
  List.filter_eq_self.2 fun r hm=>by
   obtain ⟨j,hj,rfl⟩:=List.mem_iff_getElem.1 hm
   rw [List.length_drop] at hj
   simp only [List.getElem_drop,Bool.not_eq_true',decide_eq_false_iff_not]
   exact fun e=>neK (hr.lt (i:=i) (j:=i+1+j) (by omega) (by omega)) e.symm
 have h3:List.filter (fun r => !decide (r.key=l[i].key)) (l.drop i)=l.drop (i+1):=by
  rw [List.drop_eq_getElem_cons h,List.filter_cons,h2]
  simp
 rw [List.filter_append,h1,h3,List.take_succ_eq_append_getElem h,List.filter_append]
 simp [hg]
theorem goneL_succ {now age:Int} {keep:ByteArray} {l:List Rw} {i:Nat} (h:i<l.length):goneL now age keep (l.take (i+1))=goneL now age keep (l.take i)++if goneP now age keep l[i] then [l[i].key] else []:=by
 unfold goneL
 rw [List.take_succ_eq_append_getElem h,List.filter_append,List.map_append]
 cases hg:goneP now age keep l[i]<;>simp [hg]
def strsD (l:List ByteArray):D:=.sl none 1 l.length (l.map .str)
theorem strs_low {n:Nat} (l:List ByteArray):LowL n (l.map D.str):=.of_mem (by simp;intros;constructor)
theorem clipStrs (own:Option Nat) (l:List ByteArray) (S:Mem):CallD Tryz.prog orc 65 [.sl own 1 l.length (l.map .str)] S fun d S'=>S'=S∧d=strsD l:=by
 unfold strsD
 refine CallD.e Tryz.func65 rfl Tryz.ntmps65 (by rfl) ?_
 have hll:(l.map D.str).length=l.length:=by simp
 by_cases h0:l.length=0
 ·have hi:l.map D.str=[]:=by rw [List.length_eq_zero_iff.1 h0];rfl
  rw [hi,h0]
  have c:sliceD Tryz.prog 51 (.sl own 1 0 []) none (some (.int .i64 0)) (some (.int .i64 0))=some .sl0:=by
   simp [sliceD,optNatD,natD,Tryz.underlying51,dsz9]
  repeat' (first|refine Go.a rfl ?_|refine Go.rg ?_|refine GoR.nil ?_|refine Go.ret ?_|refine Go.b rfl ?_|(refine GoR.o (by rfl) (by rfl) ?_;(conv=>arg 1;simp only [G,Z,Y,Gx,un_neg,cutD,decide_true,decide_false,simprocAttr,fb51,c,Option.map_some,Option.map_none]);show GoR ..)|refine Go.condB rfl (fun hc => ?_) (fun hc => ?_))
  refine ⟨(by first | exact .inl rfl | exact .inr rfl),fin ?_⟩
  rw [resD_tmp (fn:=Tryz.f65) rfl]
  simp only [optThen_some,resultD_tmp,resultD_cell,G,Z,Y,Gx,un_neg,cutD,decide_true,decide_false,simprocAttr,fb51]
  exact ⟨_,[],by simp,.sl0E,rfl⟩
 ·generalize hn:l.length=n at *
  have c : ∃ o',sliceD Tryz.prog 51 (.sl own 1 n (l.map D.str)) none (some (.int .i64 (n:Int))) (some (.int .i64 (n:Int)))=some (.sl o' 1 n (l.map D.str)):=by
   refine ⟨own,?_⟩
   simp [sliceD,optNatD,natD,Tryz.underlying51,dsz9,h0]
   rw [List.take_of_length_le (by omega)]
  obtain ⟨o',c⟩:=c
  repeat' (first|refine Go.a rfl ?_|refine Go.rg ?_|refine GoR.nil ?_|refine Go.ret ?_|refine Go.b rfl ?_|(refine GoR.o (by rfl) (by rfl) ?_;(conv=>arg 1;simp only [G,Z,Y,Gx,un_neg,cutD,decide_true,decide_false,simprocAttr,fb51,c,Option.map_some,Option.map_none]);show GoR ..)|refine Go.condB rfl (fun hc => ?_) (fun hc => ?_))
  refine ⟨(by first | exact .inl rfl | exact .inr rfl),fin ?_⟩
  rw [resD_tmp (fn:=Tryz.f65) rfl]
  simp only [optThen_some,resultD_tmp,resultD_cell,G,Z,Y,Gx,un_neg,cutD,decide_true,decide_false,simprocAttr,fb51]
  exact ⟨_,[],by simp,.disown (strs_low l).get,rfl⟩
theorem tabSweepNo {S:Mem} {T:Tb} {now age:Int} (hn:now<0∨age<0) (keep:ByteArray):CallD Tryz.prog orc 18 [.ptr T.t 0,.int .i64 now,.int .i64 age,.str keep] S fun d S'=>S'=S∧d=strsD []:=by
 by_cases h1:now<0
 ·refine CallD.e Tryz.func18 rfl Tryz.ntmps18 (by rfl) ?_
  repeat' (first|refine Go.a rfl ?_|refine Go.rg ?_|refine GoR.nil ?_|refine Go.ret ?_|refine Go.b rfl ?_|refine Go.rgS dmx (by decide) ?_|(refine GoR.o (by rfl) (by rfl) ?_;(conv=>arg 1;simp only [G,Z,Y,Gx,un_neg,cutD,decide_true,decide_false,simprocAttr,fb2,fb3,fb9,fb32,fb33,fb35,fb51,fb62,fb99,fb102,show decide (now<0)=true by simpa using h1]);show GoR ..)|refine GoR.s (by rfl) rfl rfl ?_|(refine GoR.splitG rfl (fun hc => ?_) (fun hc => ?_)<;>simp only [hc])|refine Go.condB rfl (fun hc => ?_) (fun hc => ?_))
  refine ⟨(by first | exact .inl rfl | exact .inr rfl),fin ?_⟩
  rw [resD_tmp (fn:=Tryz.f18) rfl]
  simp only [optThen_some,resultD_tmp,resultD_cell,G,Z,Y,Gx,un_neg,cutD,decide_true,decide_false,simprocAttr,fb2,fb3,fb9,fb32,fb33,fb35,fb51,fb62,fb99,fb102]
  exact ⟨_,[],by simp,.nilE,rfl⟩
 ·refine CallD.e Tryz.func18 rfl Tryz.ntmps18 (by rfl) ?_
  repeat' (first|refine Go.a rfl ?_|refine Go.rg ?_|refine GoR.nil ?_|refine Go.ret ?_|refine Go.b rfl ?_|refine Go.rgS dmx (by decide) ?_|(refine GoR.o (by rfl) (by rfl) ?_;(conv=>arg 1;simp only [G,Z,Y,Gx,un_neg,cutD,decide_true,decide_false,simprocAttr,fb2,fb3,fb9,fb32,fb33,fb35,fb51,fb62,fb99,fb102,show decide (now<0)=false by simpa using h1,show decide (age<0)=true by simp;omega]);show GoR ..)|refine GoR.s (by rfl) rfl rfl ?_|(refine GoR.splitG rfl (fun hc => ?_) (fun hc => ?_)<;>simp only [hc])|refine Go.condB rfl (fun hc => ?_) (fun hc => ?_))
  refine ⟨(by first | exact .inl rfl | exact .inr rfl),fin ?_⟩
  rw [resD_tmp (fn:=Tryz.f18) rfl]
  simp only [optThen_some,resultD_tmp,resultD_cell,G,Z,Y,Gx,un_neg,cutD,decide_true,decide_false,simprocAttr,fb2,fb3,fb9,fb32,fb33,fb35,fb51,fb62,fb99,fb102]
  exact ⟨_,[],by simp,.nilE,rfl⟩
set_option maxHeartbeats 4000000 in
theorem tabSweep {S:Mem} {T:Tb} {most:Int} {l:List Rw} (h:TabAt S T most l) (ho:OkT l) {now age:Int} (hn:0≤now) (ha:0≤age) (keep:ByteArray) :
  CallD Tryz.prog O 18 [.ptr T.t 0,.int .i64 now,.int .i64 age,.str keep] S fun d S'=>d=strsD (goneL now age keep l)∧MovedT S T most (keptL now age keep l) S':=by
 have hall:=tabAll (orc:=O) h ho.len
 have hll:=ho.len
 refine CallD.wf ?_
 refine CallD.eb Tryz.func18 rfl Tryz.ntmps18 (by rfl) ?_
 repeat' (first|refine Go.a rfl ?_|refine Go.rg ?_|refine GoR.nil ?_|refine Go.ret ?_|refine Go.b rfl ?_|refine Go.rgS dmx (by decide) ?_|(refine GoR.o (by rfl) (by rfl) ?_;(conv=>arg 1;simp only [G,Z,Y,Gx,un_neg,cutD,decide_true,decide_false,simprocAttr,fb2,fb3,fb9,fb32,fb33,fb35,fb51,fb62,fb99,fb102,show decide (now<0)=false by simp;omega,show decide (age<0)=false by simp;omega]);show GoR ..)|(refine GoR.c c64 (by rfl) (by rfl) rfl ?_;(refine hall.ret ?_))|refine GoR.s (by rfl) rfl rfl ?_|(refine GoR.splitG rfl (fun hc => ?_) (fun hc => ?_)<;>simp only [hc])|refine Go.condB rfl (fun hc => ?_) (fun hc => ?_))
 refine Go.keep [(0,.ptr T.t 0),(1,.int .i64 now),(2,.int .i64 age),(3,.str keep),(9,.nils),(19,.sl none 6 l.length (rowsC l)),(20,.int .i64 (l.length:Int)),(21,.int .i64 ((0:Nat):Int))] (.cons .refl (.cons .refl (.cons .refl (.cons .refl (.cons .refl (.cons .refl (.cons .refl (.cons .refl (.nil))))))))) ?_
 refine Go.while (α:=Nat×D×Tb×Mem) (fun x=>l.length - x.1) (fun x=>[(0,.ptr T.t 0),(1,.int .i64 now),(2,.int .i64 age),(3,.str keep),(9,x.2.1),(19,.sl none 6 l.length (rowsC l)),(20,.int .i64 (l.length:Int)),(21,.int .i64 (x.1:Int))]) (fun x=>x.2.2.2)
  (fun x=>x.1≤l.length∧x.2.2.1.t=T.t∧x.2.2.1.m=T.m∧TabAt x.2.2.2 x.2.2.1 most (sweepL now age keep l x.1)∧(∀ o∈x.2.2.1.own,o∈T.own∨S.length≤o)∧Fr T.own S x.2.2.2 ∧
   AccD S.length x.2.1 1 (goneL now age keep (l.take x.1)).length ((goneL now age keep (l.take x.1)).map .str) x.2.2.2) ?_ (0,.nils,T,S) ⟨Nat.zero_le _,rfl,rfl,by simpa [sweepL,keptL] using h,fun o ho=>.inl ho,.refl,.inl ⟨rfl,rfl,rfl⟩⟩
 rintro ⟨i,o,T1,S1⟩ ⟨hi,e1,e2,hT,hown,hfr,hacc⟩ next
 dsimp only at hi e1 e2 hT hown hfr hacc next
 by_cases h1:i<l.length
 ·have dl:decide ((i:Int)<(l.length:Int))=true:=by simp;omega
  have at1:=rowsAt h1
  have hok1:OkT (sweepL now age keep l i):=ho.sub sweepL_sub
  cases hg:goneP now age keep l[i] with
  | false=>
   have hs:=sweepL_keep (now:=now) (age:=age) (keep:=keep) h1 hg
   have hgl:=goneL_succ (now:=now) (age:=age) (keep:=keep) h1
   rw [hg,if_neg (by decide),List.append_nil] at hgl
   simp only [Rw.c] at at1
   by_cases hk:l[i].key=keep
   ·repeat' (first|refine Go.a rfl ?_|refine Go.rg ?_|refine GoR.nil ?_|refine Go.ret ?_|refine Go.b rfl ?_|refine Go.rgS dmx (by decide) ?_|(refine GoR.o (by rfl) (by rfl) ?_;(conv=>arg 1;simp only [G,Z,Y,Gx,un_neg,cutD,decide_true,decide_false,simprocAttr,fb2,fb3,fb9,fb32,fb33,fb35,fb51,fb62,fb99,fb102,dl,at1,hk,decide_true,Bool.not_true,wrap_succ (show i<4611686018427387904 by omega)]);show GoR ..)|refine GoR.s (by rfl) rfl rfl ?_|(refine GoR.splitG rfl (fun hc => ?_) (fun hc => ?_)<;>simp only [hc])|refine Go.condB rfl (fun hc => ?_) (fun hc => ?_))
    refine Go.lpN ?_
    refine Go.keep [(0,.ptr T.t 0),(1,.int .i64 now),(2,.int .i64 age),(3,.str keep),(9,o),(19,.sl none 6 l.length (rowsC l)),(20,.int .i64 (l.length:Int)),(21,.int .i64 ((i+1:Nat):Int))] (.cons .refl (.cons .refl (.cons .refl (.cons .refl (.cons .refl (.cons .refl (.cons .refl (.cons .refl (.nil))))))))) ?_
    refine next (i+1,o,T1,_) (by dsimp only;omega) ⟨h1,e1,e2,?_,hown,hfr.trans (F:=T.own) (G:=[]) .app (by simp),?_⟩
    ·dsimp only;rw [hs];exact hT.app _
    ·dsimp only;rw [hgl];exact hacc.app _
   ·have ht:decide (l[i].st.tick<IntKind.i64.wrap (now - age))=false:=by simpa [goneP,hk] using hg
    repeat' (first|refine Go.a rfl ?_|refine Go.rg ?_|refine GoR.nil ?_|refine Go.ret ?_|refine Go.b rfl ?_|refine Go.rgS dmx (by decide) ?_|(refine GoR.o (by rfl) (by rfl) ?_;(conv=>arg 1;simp only [G,Z,Y,Gx,un_neg,cutD,decide_true,decide_false,simprocAttr,fb2,fb3,fb9,fb32,fb33,fb35,fb51,fb62,fb99,fb102,dl,at1,show decide (l[i].key=keep)=false by simpa using hk,ht,wrap_succ (show i<4611686018427387904 by omega)]);show GoR ..)|refine GoR.s (by rfl) rfl rfl ?_|(refine GoR.splitG rfl (fun hc => ?_) (fun hc => ?_)<;>simp only [hc])|refine Go.condB rfl (fun hc => ?_) (fun hc => ?_))
    refine Go.lpN ?_
    refine Go.keep [(0,.ptr T.t 0),(1,.int .i64 now),(2,.int .i64 age),(3,.str keep),(9,o),(19,.sl none 6 l.length (rowsC l)),(20,.int .i64 (l.length:Int)),(21,.int .i64 ((i+1:Nat):Int))] (.cons .refl (.cons .refl (.cons .refl (.cons .refl (.cons .refl (.cons .refl (.cons .refl (.cons .refl (.nil))))))))) ?_
    refine next (i+1,o,T1,_) (by dsimp only;omega) ⟨h1,e1,e2,?_,hown,hfr.trans (F:=T.own) (G:=[]) .app (by simp),?_⟩
    ·dsimp only;rw [hs];exact hT.app _
    ·dsimp only;rw [hgl];exact hacc.app _
  | true=>
   have hs:=sweepL_gone (now:=now) (age:=age) (keep:=keep) ho.rise h1 hg
   have hgl:=goneL_succ (now:=now) (age:=age) (keep:=keep) h1
   rw [hg,if_pos rfl] at hgl
   have hk:decide (l[i].key=keep)=false:=by simp [goneP] at hg;simpa using hg.1
   have ht:decide (l[i].st.tick<IntKind.i64.wrap (now - age))=true:=by simp [goneP] at hg;simpa using hg.2
   have hgen:(goneL now age keep (l.take i)).length≤i:=by
    unfold goneL
    rw [List.length_map]
    exact Nat.le_trans (List.length_filter_le _ _) (by simp;omega)
   obtain ⟨o',S2,hap,hacc2,hg2⟩:=(hacc.app [.obj l[i].c,.own]).append (P:=Tryz.prog) del51 (own:=some (S1.length+1)) (m:=1) (new:=[.str l[i].key]) (by simp;have:=hfr.len;omega) (by omega) ⟨by omega,by omega,by omega,rfl⟩
   have hT2:TabAt S2 T1 most (sweepL now age keep l i):=(hT.app _).grown hg2
   have hfr2:Fr T.own S S2:=(hfr.trans (F:=T.own) (G:=[]) .app (by simp)).grown hg2
   have hb2:objAt S2 S1.length=some l[i].c:=hg2.obj _ _ (by rw [objAt_app0];rfl)
   have ht2:=hT2.tab
   have hdr:=mapDrop hT2.map hok1.rise hok1.len l[i].key
   rw [e1,e2] at ht2
   rw [e2] at hdr
   rw [← hs] at hdr
   simp only [Rw.c] at at1 hap hb2
   repeat' (first|refine Go.a rfl ?_|refine Go.rg ?_|refine GoR.nil ?_|refine Go.ret ?_|refine Go.b rfl ?_|refine Go.rgS dmx (by decide) ?_|(refine GoR.o (by rfl) (by rfl) ?_;(conv=>arg 1;simp only [G,Z,Y,Gx,un_neg,cutD,decide_true,decide_false,simprocAttr,fb2,fb3,fb9,fb32,fb33,fb35,fb51,fb62,fb99,fb102,dl,at1,hk,ht,List.append_assoc,List.cons_append,List.nil_append,hap,builtin_append,ht2,hb2,wrap_succ (show i<4611686018427387904 by omega)]);show GoR ..)|(refine GoR.c c61 (by rfl) (by rfl) rfl ?_;(refine hdr.mono ?_;rintro _ S3 ⟨rfl,h3⟩))|refine GoR.s (by rfl) rfl rfl ?_|(refine GoR.splitG rfl (fun hc => ?_) (fun hc => ?_)<;>simp only [hc])|refine Go.condB rfl (fun hc => ?_) (fun hc => ?_))
   rw [← e2] at h3
   obtain ⟨T2,f1,f2,f3,f4,f5⟩:=Moved.tab (E:=[]) (by simpa using h3) hT2
   refine Go.lpN ?_
   refine Go.keep [(0,.ptr T.t 0),(1,.int .i64 now),(2,.int .i64 age),(3,.str keep),(9,o'),(19,.sl none 6 l.length (rowsC l)),(20,.int .i64 (l.length:Int)),(21,.int .i64 ((i+1:Nat):Int))] (.cons .refl (.cons .refl (.cons .refl (.cons .refl (.cons .refl (.cons .refl (.cons .refl (.cons .refl (.nil))))))))) ?_
   refine next (i+1,o',T2,S3) (by dsimp only;omega) ⟨h1,f1.trans e1,f2.trans e2,f3,fun j hj => ?_,hfr2.trans f5 fun j hj=>hown j hj,?_⟩
   ·rcases f4 j hj with hj | hj
    ·exact hown j hj
    ·exact .inr (Nat.le_trans hfr2.len hj)
   ·dsimp only
    rw [hgl,List.length_append,List.map_append]
    exact hacc2.fr f5 hT2.objs
 ·clear next
  have hi':i=l.length:=by omega
  subst hi'
  have dl:decide ((l.length:Int)<(l.length:Int))=false:=by simp
  simp only [sweepL,List.take_length,List.drop_length,List.append_nil] at hT hacc
  have hcl:=fun S=>CallD.weak (.cons hacc.wf .nil) (clipStrs (orc:=O) none (goneL now age keep l) S)
  repeat' (first|refine Go.a rfl ?_|refine Go.rg ?_|refine GoR.nil ?_|refine Go.ret ?_|refine Go.b rfl ?_|refine Go.rgS dmx (by decide) ?_|(refine GoR.o (by rfl) (by rfl) ?_;(conv=>arg 1;simp only [G,Z,Y,Gx,un_neg,cutD,decide_true,decide_false,simprocAttr,fb2,fb3,fb9,fb32,fb33,fb35,fb51,fb62,fb99,fb102,dl]);show GoR ..)|(refine GoR.c c65 (by rfl) (by rfl) rfl ?_;(refine (hcl _).ret ?_))|refine GoR.s (by rfl) rfl rfl ?_|(refine GoR.splitG rfl (fun hc => ?_) (fun hc => ?_)<;>simp only [hc])|refine Go.condB rfl (fun hc => ?_) (fun hc => ?_))
  refine ⟨(by first | exact .inl rfl | exact .inr rfl),fin ?_⟩
  rw [resD_tmp (fn:=Tryz.f18) rfl]
  simp only [optThen_some,resultD_tmp,resultD_cell,G,Z,Y,Gx,un_neg,cutD,decide_true,decide_false,simprocAttr,fb2,fb3,fb9,fb32,fb33,fb35,fb51,fb62,fb99,fb102]
  exact ⟨_,.refl,hfr.len,rfl,T1,e1,e2,hT,hown,hfr⟩
end Go.Proofs.DtT
