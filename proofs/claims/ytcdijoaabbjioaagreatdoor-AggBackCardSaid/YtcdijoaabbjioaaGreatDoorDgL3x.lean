/- One word of a text, by the program. -/
import Derived.Test.YtcdijoaabbjioaaGreatDoorDgL1x
set_option linter.unusedSimpArgs false
set_option linter.unusedVariables false
namespace Go.Proofs.DgT
open Go Go.DM
set_option maxRecDepth 100000
theorem y5c:i6a Tryz.prog .neq 170 (.tmp 48) (.const .nilIface) .u9a .u9a=some (.bool false):=by kernel_rfl
theorem e9c:i6a Tryz.prog .neq 170 (.tmp 48) (.const .nilIface) (.iface 263 .bot) .u9a=some (.bool true):=z3d Tryz.underlying170
theorem g3e {P:Program} {t:TypeId} {x y:Operand} {i j:Nat} (h:i+j<4611686018427387904):IntKind.i64.wrap ((i:Int)+(j:Int))=((i+j:Nat):Int):=by rw [wrap64 (by omega) (by omega)];omega
theorem s8d {s:ByteArray} {i n:Nat} (h:i<s.size) (hn:0<n) {k:IntKind} {S:Mem} : indexStr (.str (sub s i n)) (.int k 0) S=some (.int .u8 (s.data[i]'h).toNat,S):=by
 obtain ⟨m,rfl⟩ : ∃ m,n=m+1:=⟨n - 1,by omega⟩
 have e:sub s i (m+1)=⟨(s.data[i]'h::(s.data.toList.drop (i+1)).take m).toArray⟩:=by rw [sub,drop_at h];rfl
 rw [e,s9a (show 0<(s.data[i]'h::(s.data.toList.drop (i+1)).take m).toArray.size by rw [List.size_toArray,List.length_cons];exact Nat.succ_pos _)]
 rfl
theorem b2e (s:ByteArray) (i n:Nat):(sub s i n).data.toList=(s.data.toList.drop i).take n:=by simp [sub]
theorem w8e (p:UInt8→Bool) (s:ByteArray) (i:Nat):(sub s i (tw p s i)).data.toList=(s.data.toList.drop i).takeWhile p:=by rw [b2e,tw,takeWhile_take]
def resT (s:ByteArray) (i:Nat):Except Int (Int×Nat×Nat)→D
 | .error e=>.tup [.agg j5c,.int .i64 e]
 | .ok (k,n,v)=>.tup [.agg (Tok.c ⟨k,sub s i n,v,i⟩),.int .i64 0]
def l3e (s:ByteArray) (i:Nat):Except Int (Int×Nat×Nat):=
 if (s.data[i+tw v1a s i]?).any v5b=true∨(1<tw v1a s i∧s.data[i]?=some 48) then .error 2
 else if e2d ((s.data.toList.drop i).takeWhile v1a)<9223372036854775808 then .ok (2,tw v1a s i,e2d ((s.data.toList.drop i).takeWhile v1a)) else .error 1
set_option maxHeartbeats 1000000 in
theorem m8d (s:ByteArray) (hs:s.size<1000000) (i:Nat) (hi:i<s.size) (hd:v1a (s.data[i]'hi)=true) (S:Mem):a3a Tryz.prog O 125 [.str s,.int .i64 (i:Int)] S fun d S'=>S'=S∧d=resT s i (l3e s i):=by
 have hle:=x3e (p:=v1a) (Nat.le_of_lt hi)
 have hpos:0<tw v1a s i:=by rw [f2e hi hd];omega
 have hsz:=k7b hle
 have htw:=w8e v1a s i
 have hfirst:=fun S=>s8d (n:=tw v1a s i) (k:=.i64) (S:=S) hi hpos
 have hall : ∀ b∈(sub s i (tw v1a s i)).data.toList,v1a b=true:=by rw [htw];exact z5a _
 have hne:(sub s i (tw v1a s i)).data.toList≠[]:=by
  intro e
  have:=congrArg List.length e
  rw [Array.length_toList,List.length_nil] at this
  have e2:(sub s i (tw v1a s i)).data.size=(sub s i (tw v1a s i)).size:=rfl
  omega
 have hpar:=v7e hne hall
 have hrun:=a2e (orc:=O) s hs i (Nat.le_of_lt hi)
 have h48:(s.data[i]?=some 48)↔(s.data[i]'hi).toNat=48:=by
  rw [Array.getElem?_eq_getElem hi,Option.some.injEq,← UInt8.toNat_inj]
  rfl
 unfold l3e
 simp only [h48,← htw]
 generalize hw:tw v1a s i=w at *
 have e1:s.extract i (i+w)=sub s i w:=by rw [extract_eq (by omega)];congr 1;omega
 have e0:resT s i (.ok (2,w,e2d (sub s i w).data.toList)) = .tup [.agg (Tok.c ⟨2,sub s i w,e2d (sub s i w).data.toList,i⟩),.int .i64 0]:=rfl
 generalize hv:e2d (sub s i w).data.toList=v at *
 generalize ht:sub s i w=t at *
 have c1:(i≤i+w∧i+w≤s.size)=True:=by simp;omega
 generalize hb:(s.data[i]'hi).toNat=b at *
 have p8e:((s.data[i+w]?).any v5b=true)∨((s.data[i+w]?).any v5b=false∧1<w∧b=48)∨((s.data[i+w]?).any v5b=false ∧ ¬ (1<w∧b=48)):=by
  cases (s.data[i+w]?).any v5b
  ·by_cases h:1<w∧b=48
   ·exact .inr (.inl ⟨rfl,h⟩)
   ·exact .inr (.inr ⟨rfl,h⟩)
  ·exact .inl rfl
 have dl : ∀ (hlt:i+w<s.size),v5b (s.data[i+w]'hlt)=(s.data[i+w]?).any v5b:=fun hlt=>by rw [Array.getElem?_eq_getElem hlt];rfl
 have dn : ¬ (i+w<s.size)→(s.data[i+w]?).any v5b=false:=fun h=>by rw [Array.getElem?_eq_none (by show s.data.size≤_;have:s.data.size=s.size:=rfl;omega)];rfl
 refine a3a.e Tryz.func125 rfl Tryz.ntmps125 (by rfl) ?_
 have bad : ∀ {S':Mem} {d:D},d=D.tup [.agg j5c,.int .i64 2]→((s.data[i+w]?).any v5b=true∨1<w∧b=48)→d=resT s i (if (s.data[i+w]?).any v5b=true∨1<w∧b=48 then .error 2 else if v<9223372036854775808 then .ok (2,w,v) else .error 1):=fun {_ _} h1 h2=>by rw [if_pos h2];exact h1
 rcases p8e with h | ⟨h,h1,h2⟩ | ⟨h,h12⟩
 ·have hlt:i+w<s.size:=by
   by_cases hlt:i+w<s.size
   ·exact hlt
   ·rw [dn hlt] at h;cases h
  have d1:decide (((i+w:Nat):Int)<(s.size:Int))=true:=by rw [decide_eq_true_iff];omega
  have d2:=(dl hlt).trans h
  repeat' (first|refine Go.a rfl ?_|refine Go.rg ?_|refine GoR.nil ?_|refine Go.ret ?_|refine Go.b rfl ?_|(refine GoR.o (by rfl) (by rfl) ?_;(conv=>arg 1;simp only [G,Z,Y,Gx,vV,simprocAttr,fb2,fb3,fb5,fb9,d5a,u8a,i4a,Option.map_some,e8a,Option.getD_some,c1,e1,d1,d2,f4a hlt]);show GoR ..)|(refine GoR.c c2d (by rfl) (by rfl) rfl ?_;(refine (hrun _).ret ?_))|(refine GoR.c h9d (by rfl) (by rfl) rfl ?_;(refine (s2a _ _).ret ?_))|refine GoR.s (by rfl) rfl rfl ?_|(refine GoR.b1a rfl (fun hc => ?_) (fun hc => ?_)<;>simp only [hc])|refine Go.b0a rfl (fun hc => ?_) (fun hc => ?_))
  refine ⟨(by first | exact .inl rfl | exact .inr rfl),fin ?_⟩
  rw [i1a (fn:=Tryz.f125) rfl]
  simp only [a0a,a2a,a1a,G,Z,Y,Gx,vV,simprocAttr,fb2,fb3,fb5,fb9,d5a,u8a]
  exact ⟨_,_,rfl,.of_low (.a2b (.cons (.agg' (j7a ⟨0,⟨#[]⟩,0,0⟩)) (.cons (.int _ _) .nil))),bad (S':=[]) rfl (.inl h)⟩
 ·have d3:decide (1<(t.size:Int))=true:=by rw [decide_eq_true_iff];omega
  subst h2
  by_cases hlt:i+w<s.size
  ·have d1:decide (((i+w:Nat):Int)<(s.size:Int))=true:=by rw [decide_eq_true_iff];omega
   have d2:=(dl hlt).trans h
   repeat' (first|refine Go.a rfl ?_|refine Go.rg ?_|refine GoR.nil ?_|refine Go.ret ?_|refine Go.b rfl ?_|(refine GoR.o (by rfl) (by rfl) ?_;(conv=>arg 1;simp only [G,Z,Y,Gx,vV,simprocAttr,fb2,fb3,fb5,fb9,d5a,u8a,i4a,Option.map_some,e8a,Option.getD_some,c1,e1,d1,d2,d3,f4a hlt,hfirst]);show GoR ..)|(refine GoR.c c2d (by rfl) (by rfl) rfl ?_;(refine (hrun _).ret ?_))|(refine GoR.c h9d (by rfl) (by rfl) rfl ?_;(refine (s2a _ _).ret ?_))|refine GoR.s (by rfl) rfl rfl ?_|(refine GoR.b1a rfl (fun hc => ?_) (fun hc => ?_)<;>simp only [hc])|refine Go.b0a rfl (fun hc => ?_) (fun hc => ?_))
   refine ⟨(by first | exact .inl rfl | exact .inr rfl),fin ?_⟩
   rw [i1a (fn:=Tryz.f125) rfl]
   simp only [a0a,a2a,a1a,G,Z,Y,Gx,vV,simprocAttr,fb2,fb3,fb5,fb9,d5a,u8a]
   exact ⟨_,_,rfl,.of_low (.a2b (.cons (.agg' (j7a ⟨0,⟨#[]⟩,0,0⟩)) (.cons (.int _ _) .nil))),by rw [if_pos (.inr h1)];rfl⟩
  ·have d1:decide (((i+w:Nat):Int)<(s.size:Int))=false:=by rw [decide_eq_false_iff_not];omega
   repeat' (first|refine Go.a rfl ?_|refine Go.rg ?_|refine GoR.nil ?_|refine Go.ret ?_|refine Go.b rfl ?_|(refine GoR.o (by rfl) (by rfl) ?_;(conv=>arg 1;simp only [G,Z,Y,Gx,vV,simprocAttr,fb2,fb3,fb5,fb9,d5a,u8a,i4a,Option.map_some,e8a,Option.getD_some,c1,e1,d1,d3,hfirst]);show GoR ..)|(refine GoR.c c2d (by rfl) (by rfl) rfl ?_;(refine (hrun _).ret ?_))|refine GoR.s (by rfl) rfl rfl ?_|(refine GoR.b1a rfl (fun hc => ?_) (fun hc => ?_)<;>simp only [hc])|refine Go.b0a rfl (fun hc => ?_) (fun hc => ?_))
   refine ⟨(by first | exact .inl rfl | exact .inr rfl),fin ?_⟩
   rw [i1a (fn:=Tryz.f125) rfl]
   simp only [a0a,a2a,a1a,G,Z,Y,Gx,vV,simprocAttr,fb2,fb3,fb5,fb9,d5a,u8a]
   exact ⟨_,_,rfl,.of_low (.a2b (.cons (.agg' (j7a ⟨0,⟨#[]⟩,0,0⟩)) (.cons (.int _ _) .nil))),by rw [if_pos (.inr h1)];rfl⟩
 ·rw [if_neg (by rw [h];simpa using h12)]
  have d4:(((b:Int)==48)=true∧decide (1<(t.size:Int))=true)→False:=by
   rintro ⟨h1,h2⟩
   rw [beq_iff_eq] at h1
   rw [decide_eq_true_iff] at h2
   exact h12 ⟨by omega,by omega⟩
  by_cases hvv:v<9223372036854775808
  ·rw [if_pos hvv] at hpar ⊢
   rw [e0]
   by_cases hlt:i+w<s.size
   ·have d1:decide (((i+w:Nat):Int)<(s.size:Int))=true:=by rw [decide_eq_true_iff];omega
    have d2:=(dl hlt).trans h
    cases d3:decide (1<(t.size:Int)) with
    | true=>
     have d5:((b:Int)==48)=false:=by cases h:((b:Int)==48) with | true=>exact (d4 ⟨h,d3⟩).elim | false=>rfl
     repeat' (first|refine Go.a rfl ?_|refine Go.rg ?_|refine GoR.nil ?_|refine Go.ret ?_|refine Go.b rfl ?_|(refine GoR.o (by rfl) (by rfl) ?_;(conv=>arg 1;simp only [G,Z,Y,Gx,vV,simprocAttr,fb2,fb3,fb5,fb9,d5a,u8a,i4a,Option.map_some,e8a,Option.getD_some,c1,e1,d1,d2,d3,d5,f4a hlt,hfirst,y5c,wr]);show GoR ..)|(refine GoR.c c2d (by rfl) (by rfl) rfl ?_;(refine (hrun _).ret ?_))|(refine GoR.c h9d (by rfl) (by rfl) rfl ?_;(refine (s2a _ _).ret ?_))|(refine GoR.c c1e (by rfl) (by rfl) rfl ?_;(refine (w6b t _ (by omega) hpar _).ret ?_))|refine GoR.s (by rfl) rfl rfl ?_|(refine GoR.b1a rfl (fun hc => ?_) (fun hc => ?_)<;>simp only [hc])|refine Go.b0a rfl (fun hc => ?_) (fun hc => ?_))
     refine ⟨(by first | exact .inl rfl | exact .inr rfl),fin ?_⟩
     rw [i1a (fn:=Tryz.f125) rfl]
     simp only [a0a,a2a,a1a,G,Z,Y,Gx,vV,simprocAttr,fb2,fb3,fb5,fb9,d5a,u8a,wr]
     exact ⟨_,_,rfl,.of_low (.a2b (.cons (.agg' (j7a ⟨2,t,v,i⟩)) (.cons (.int _ _) .nil))),rfl⟩
    | false=>
     repeat' (first|refine Go.a rfl ?_|refine Go.rg ?_|refine GoR.nil ?_|refine Go.ret ?_|refine Go.b rfl ?_|(refine GoR.o (by rfl) (by rfl) ?_;(conv=>arg 1;simp only [G,Z,Y,Gx,vV,simprocAttr,fb2,fb3,fb5,fb9,d5a,u8a,i4a,Option.map_some,e8a,Option.getD_some,c1,e1,d1,d2,d3,f4a hlt,hfirst,y5c,wr]);show GoR ..)|(refine GoR.c c2d (by rfl) (by rfl) rfl ?_;(refine (hrun _).ret ?_))|(refine GoR.c h9d (by rfl) (by rfl) rfl ?_;(refine (s2a _ _).ret ?_))|(refine GoR.c c1e (by rfl) (by rfl) rfl ?_;(refine (w6b t _ (by omega) hpar _).ret ?_))|refine GoR.s (by rfl) rfl rfl ?_|(refine GoR.b1a rfl (fun hc => ?_) (fun hc => ?_)<;>simp only [hc])|refine Go.b0a rfl (fun hc => ?_) (fun hc => ?_))
     refine ⟨(by first | exact .inl rfl | exact .inr rfl),fin ?_⟩
     rw [i1a (fn:=Tryz.f125) rfl]
     simp only [a0a,a2a,a1a,G,Z,Y,Gx,vV,simprocAttr,fb2,fb3,fb5,fb9,d5a,u8a,wr]
     exact ⟨_,_,rfl,.of_low (.a2b (.cons (.agg' (j7a ⟨2,t,v,i⟩)) (.cons (.int _ _) .nil))),rfl⟩
   ·have d1:decide (((i+w:Nat):Int)<(s.size:Int))=false:=by rw [decide_eq_false_iff_not];omega
    cases d3:decide (1<(t.size:Int)) with
    | true=>
     have d5:((b:Int)==48)=false:=by cases h:((b:Int)==48) with | true=>exact (d4 ⟨h,d3⟩).elim | false=>rfl
     repeat' (first|refine Go.a rfl ?_|refine Go.rg ?_|refine GoR.nil ?_|refine Go.ret ?_|refine Go.b rfl ?_|(refine GoR.o (by rfl) (by rfl) ?_;(conv=>arg 1;simp only [G,Z,Y,Gx,vV,simprocAttr,fb2,fb3,fb5,fb9,d5a,u8a,i4a,Option.map_some,e8a,Option.getD_some,c1,e1,d1,d3,d5,hfirst,y5c,wr]);show GoR ..)|(refine GoR.c c2d (by rfl) (by rfl) rfl ?_;(refine (hrun _).ret ?_))|(refine GoR.c c1e (by rfl) (by rfl) rfl ?_;(refine (w6b t _ (by omega) hpar _).ret ?_))|refine GoR.s (by rfl) rfl rfl ?_|(refine GoR.b1a rfl (fun hc => ?_) (fun hc => ?_)<;>simp only [hc])|refine Go.b0a rfl (fun hc => ?_) (fun hc => ?_))
     refine ⟨(by first | exact .inl rfl | exact .inr rfl),fin ?_⟩
     rw [i1a (fn:=Tryz.f125) rfl]
     simp only [a0a,a2a,a1a,G,Z,Y,Gx,vV,simprocAttr,fb2,fb3,fb5,fb9,d5a,u8a,wr]
     exact ⟨_,_,rfl,.of_low (.a2b (.cons (.agg' (j7a ⟨2,t,v,i⟩)) (.cons (.int _ _) .nil))),rfl⟩
    | false=>
     repeat' (first|refine Go.a rfl ?_|refine Go.rg ?_|refine GoR.nil ?_|refine Go.ret ?_|refine Go.b rfl ?_|(refine GoR.o (by rfl) (by rfl) ?_;(conv=>arg 1;simp only [G,Z,Y,Gx,vV,simprocAttr,fb2,fb3,fb5,fb9,d5a,u8a,i4a,Option.map_some,e8a,Option.getD_some,c1,e1,d1,d3,hfirst,y5c,wr]);show GoR ..)|(refine GoR.c c2d (by rfl) (by rfl) rfl ?_;(refine (hrun _).ret ?_))|(refine GoR.c c1e (by rfl) (by rfl) rfl ?_;(refine (w6b t _ (by omega) hpar _).ret ?_))|refine GoR.s (by rfl) rfl rfl ?_|(refine GoR.b1a rfl (fun hc => ?_) (fun hc => ?_)<;>simp only [hc])|refine Go.b0a rfl (fun hc => ?_) (fun hc => ?_))
     refine ⟨(by first | exact .inl rfl | exact .inr rfl),fin ?_⟩
     rw [i1a (fn:=Tryz.f125) rfl]
     simp only [a0a,a2a,a1a,G,Z,Y,Gx,vV,simprocAttr,fb2,fb3,fb5,fb9,d5a,u8a,wr]
     exact ⟨_,_,rfl,.of_low (.a2b (.cons (.agg' (j7a ⟨2,t,v,i⟩)) (.cons (.int _ _) .nil))),rfl⟩
  ·rw [if_neg hvv] at hpar ⊢
   by_cases hlt:i+w<s.size
   ·have d1:decide (((i+w:Nat):Int)<(s.size:Int))=true:=by rw [decide_eq_true_iff];omega
    have d2:=(dl hlt).trans h
    cases d3:decide (1<(t.size:Int)) with
    | true=>
     have d5:((b:Int)==48)=false:=by cases h:((b:Int)==48) with | true=>exact (d4 ⟨h,d3⟩).elim | false=>rfl
     repeat' (first|refine Go.a rfl ?_|refine Go.rg ?_|refine GoR.nil ?_|refine Go.ret ?_|refine Go.b rfl ?_|(refine GoR.o (by rfl) (by rfl) ?_;(conv=>arg 1;simp only [G,Z,Y,Gx,vV,simprocAttr,fb2,fb3,fb5,fb9,d5a,u8a,i4a,Option.map_some,e8a,Option.getD_some,c1,e1,d1,d2,d3,d5,f4a hlt,hfirst,e9c]);show GoR ..)|(refine GoR.c c2d (by rfl) (by rfl) rfl ?_;(refine (hrun _).ret ?_))|(refine GoR.c h9d (by rfl) (by rfl) rfl ?_;(refine (s2a _ _).ret ?_))|(refine GoR.c c1e (by rfl) (by rfl) rfl ?_;(refine (r7b t (by omega) hpar _).ret ?_))|refine GoR.s (by rfl) rfl rfl ?_|(refine GoR.b1a rfl (fun hc => ?_) (fun hc => ?_)<;>simp only [hc])|refine Go.b0a rfl (fun hc => ?_) (fun hc => ?_))
     refine ⟨(by first | exact .inl rfl | exact .inr rfl),fin ?_⟩
     rw [i1a (fn:=Tryz.f125) rfl]
     simp only [a0a,a2a,a1a,G,Z,Y,Gx,vV,simprocAttr,fb2,fb3,fb5,fb9,d5a,u8a]
     exact ⟨_,_,rfl,.of_low (.a2b (.cons (.agg' (j7a ⟨0,⟨#[]⟩,0,0⟩)) (.cons (.int _ _) .nil))),rfl⟩
    | false=>
     repeat' (first|refine Go.a rfl ?_|refine Go.rg ?_|refine GoR.nil ?_|refine Go.ret ?_|refine Go.b rfl ?_|(refine GoR.o (by rfl) (by rfl) ?_;(conv=>arg 1;simp only [G,Z,Y,Gx,vV,simprocAttr,fb2,fb3,fb5,fb9,d5a,u8a,i4a,Option.map_some,e8a,Option.getD_some,c1,e1,d1,d2,d3,f4a hlt,hfirst,e9c]);show GoR ..)|(refine GoR.c c2d (by rfl) (by rfl) rfl ?_;(refine (hrun _).ret ?_))|(refine GoR.c h9d (by rfl) (by rfl) rfl ?_;(refine (s2a _ _).ret ?_))|(refine GoR.c c1e (by rfl) (by rfl) rfl ?_;(refine (r7b t (by omega) hpar _).ret ?_))|refine GoR.s (by rfl) rfl rfl ?_|(refine GoR.b1a rfl (fun hc => ?_) (fun hc => ?_)<;>simp only [hc])|refine Go.b0a rfl (fun hc => ?_) (fun hc => ?_))
     refine ⟨(by first | exact .inl rfl | exact .inr rfl),fin ?_⟩
     rw [i1a (fn:=Tryz.f125) rfl]
     simp only [a0a,a2a,a1a,G,Z,Y,Gx,vV,simprocAttr,fb2,fb3,fb5,fb9,d5a,u8a]
     exact ⟨_,_,rfl,.of_low (.a2b (.cons (.agg' (j7a ⟨0,⟨#[]⟩,0,0⟩)) (.cons (.int _ _) .nil))),rfl⟩
   ·have d1:decide (((i+w:Nat):Int)<(s.size:Int))=false:=by rw [decide_eq_false_iff_not];omega
    cases d3:decide (1<(t.size:Int)) with
    | true=>
     have d5:((b:Int)==48)=false:=by cases h:((b:Int)==48) with | true=>exact (d4 ⟨h,d3⟩).elim | false=>rfl
     repeat' (first|refine Go.a rfl ?_|refine Go.rg ?_|refine GoR.nil ?_|refine Go.ret ?_|refine Go.b rfl ?_|(refine GoR.o (by rfl) (by rfl) ?_;(conv=>arg 1;simp only [G,Z,Y,Gx,vV,simprocAttr,fb2,fb3,fb5,fb9,d5a,u8a,i4a,Option.map_some,e8a,Option.getD_some,c1,e1,d1,d3,d5,hfirst,e9c]);show GoR ..)|(refine GoR.c c2d (by rfl) (by rfl) rfl ?_;(refine (hrun _).ret ?_))|(refine GoR.c c1e (by rfl) (by rfl) rfl ?_;(refine (r7b t (by omega) hpar _).ret ?_))|refine GoR.s (by rfl) rfl rfl ?_|(refine GoR.b1a rfl (fun hc => ?_) (fun hc => ?_)<;>simp only [hc])|refine Go.b0a rfl (fun hc => ?_) (fun hc => ?_))
     refine ⟨(by first | exact .inl rfl | exact .inr rfl),fin ?_⟩
     rw [i1a (fn:=Tryz.f125) rfl]
     simp only [a0a,a2a,a1a,G,Z,Y,Gx,vV,simprocAttr,fb2,fb3,fb5,fb9,d5a,u8a]
     exact ⟨_,_,rfl,.of_low (.a2b (.cons (.agg' (j7a ⟨0,⟨#[]⟩,0,0⟩)) (.cons (.int _ _) .nil))),rfl⟩
    | false=>
     repeat' (first|refine Go.a rfl ?_|refine Go.rg ?_|refine GoR.nil ?_|refine Go.ret ?_|refine Go.b rfl ?_|(refine GoR.o (by rfl) (by rfl) ?_;(conv=>arg 1;simp only [G,Z,Y,Gx,vV,simprocAttr,fb2,fb3,fb5,fb9,d5a,u8a,i4a,Option.map_some,e8a,Option.getD_some,c1,e1,d1,d3,hfirst,e9c]);show GoR ..)|(refine GoR.c c2d (by rfl) (by rfl) rfl ?_;(refine (hrun _).ret ?_))|(refine GoR.c c1e (by rfl) (by rfl) rfl ?_;(refine (r7b t (by omega) hpar _).ret ?_))|refine GoR.s (by rfl) rfl rfl ?_|(refine GoR.b1a rfl (fun hc => ?_) (fun hc => ?_)<;>simp only [hc])|refine Go.b0a rfl (fun hc => ?_) (fun hc => ?_))
     refine ⟨(by first | exact .inl rfl | exact .inr rfl),fin ?_⟩
     rw [i1a (fn:=Tryz.f125) rfl]
     simp only [a0a,a2a,a1a,G,Z,Y,Gx,vV,simprocAttr,fb2,fb3,fb5,fb9,d5a,u8a]
     exact ⟨_,_,rfl,.of_low (.a2b (.cons (.agg' (j7a ⟨0,⟨#[]⟩,0,0⟩)) (.cons (.int _ _) .nil))),rfl⟩
end Go.Proofs.DgT
namespace Go.Proofs.DgT
open Go Go.DM
set_option maxRecDepth 100000
def u4d (s:ByteArray) (i:Nat) (b:UInt8):Except Int (Int×Nat×Nat):=
 if (b=33∨b=60∨b=62)∧s.data[i+1]?=some 61 then .ok (3,2,0) else if b∈e9d then .ok (3,1,0) else .error 2
theorem sub_one {s:ByteArray} {i:Nat} (h:i<s.size):sub s i 1=⟨#[s.data[i]'h]⟩:=by rw [sub,drop_at h];rfl
theorem s9d {s:ByteArray} {i:Nat} (h:i+1<s.size):sub s i 2=⟨#[s.data[i]'(Nat.lt_of_succ_lt h),s.data[i+1]'h]⟩:=by rw [sub,drop_at (Nat.lt_of_succ_lt h),drop_at h];rfl
theorem m5e (b c:UInt8):Lib.containsS b6e ⟨#[b,c]⟩=decide ((b=33∨b=60∨b=62)∧c=61):=by
 rw [Bool.eq_iff_iff,Lib.containsS_iff,decide_eq_true_iff]
 simp only [b6e,List.mem_cons,List.not_mem_nil,or_false,ByteArray.mk.injEq,Array.mk.injEq,List.cons.injEq,and_true]
 constructor
 ·rintro (⟨h1,h2⟩ | ⟨h1,h2⟩ | ⟨h1,h2⟩)<;>simp [h1,h2]
 ·rintro ⟨h1 | h1 | h1,h2⟩<;>simp [h1,h2]
set_option maxHeartbeats 1000000 in
theorem k4e (s:ByteArray) (hs:s.size<1000000) (i:Nat) (hi:i<s.size) (S:Mem):a3a Tryz.prog O 126 [.str s,.int .i64 (i:Int)] S fun d S'=>S'=S∧d=resT s i (u4d s i (s.data[i]'hi)):=by
 have w1:=b9a (show i<4611686018427387904 by omega)
 have w2:IntKind.i64.wrap ((i:Int)+2)=((i+2:Nat):Int):=by rw [wrap64 (by omega) (by omega)];omega
 have e1:s.extract i (i+1)=sub s i 1:=by rw [extract_eq (by omega)];congr 1;omega
 have c1:(i≤i+1∧i+1≤s.size)=True:=by simp;omega
 have z1:((sub s i 1).size:Int)=1:=by rw [k7b (by omega)];rfl
 have hc1:=l1c (s.data[i]'hi)
 rw [← sub_one hi] at hc1
 have snd : ∀ (S':Mem),resT s i (if s.data[i]'hi∈e9d then .ok (3,1,0) else .error 2)=if decide (s.data[i]'hi∈e9d)=true then .tup [.agg (Tok.c ⟨3,sub s i 1,0,i⟩),.int .i64 0] else .tup [.agg j5c,.int .i64 2]:=fun _=>by
  by_cases h:s.data[i]'hi∈e9d<;>simp [h,resT]
 refine a3a.e Tryz.func126 rfl Tryz.ntmps126 (by rfl) ?_
 by_cases h2:i+1<s.size
 ·have e2:s.extract i (i+2)=sub s i 2:=by rw [extract_eq (by omega)];congr 1;omega
  have c2:(i≤i+2∧i+2≤s.size)=True:=by simp;omega
  have z2:((sub s i 2).size:Int)=2:=by rw [k7b (by omega)];rfl
  have m2:((s.size:Int)<((i+2:Nat):Int))=False:=by simp;omega
  have hct:=s2c none (sub s i 2)
  rw [s9d h2,m5e,← s9d h2] at hct
  have hq:u4d s i (s.data[i]'hi)=if decide ((s.data[i]'hi=33∨s.data[i]'hi=60∨s.data[i]'hi=62)∧s.data[i+1]'h2=61)=true then .ok (3,2,0) else if s.data[i]'hi∈e9d then .ok (3,1,0) else .error 2:=by
   have:s.data[i+1]?=some (s.data[i+1]'h2):=Array.getElem?_eq_getElem h2
   simp only [u4d,this,Option.some.injEq,decide_eq_true_eq]
  rw [hq]
  cases hk:decide ((s.data[i]'hi=33∨s.data[i]'hi=60∨s.data[i]'hi=62)∧s.data[i+1]'h2=61) with
  | true=>
   rw [hk] at hct
   generalize ht:sub s i 2=t at *
   have hr:resT s i (if true=true then .ok (3,2,0) else if s.data[i]'hi∈e9d then .ok (3,1,0) else .error 2) = .tup [.agg (Tok.c ⟨3,t,0,i⟩),.int .i64 0]:=by rw [if_pos rfl,resT,ht];rfl
   rw [hr]
   repeat' (first|refine Go.a rfl ?_|refine Go.rg ?_|refine GoR.nil ?_|refine Go.ret ?_|refine Go.b rfl ?_|(refine GoR.o (by rfl) (by rfl) ?_;(conv=>arg 1;simp only [G,Z,Y,Gx,vV,simprocAttr,fb2,fb3,fb9,d5a,i4a,Option.map_some,e8a,Option.getD_some,w1,w2,m2,c2,e2,z2]);show GoR ..)|(refine GoR.c z9e (by rfl) (by rfl) rfl ?_;(refine (i8b _).ret ?_))|(refine GoR.c c154 (by rfl) (by rfl) rfl ?_;(refine (hct _).ret ?_))|refine GoR.s (by rfl) rfl rfl ?_|(refine GoR.b1a rfl (fun hc => ?_) (fun hc => ?_)<;>simp only [hc])|refine Go.b0a rfl (fun hc => ?_) (fun hc => ?_))
   refine ⟨(by first | exact .inl rfl | exact .inr rfl),fin ?_⟩
   rw [i1a (fn:=Tryz.f126) rfl]
   simp only [a0a,a2a,a1a,G,Z,Y,Gx,vV,simprocAttr,fb2,fb3,fb9,d5a]
   exact ⟨_,_,rfl,.of_low (.a2b (.cons (.agg' (j7a ⟨3,t,0,i⟩)) (.cons (.int _ _) .nil))),rfl⟩
  | false=>
   rw [hk] at hct
   rw [if_neg (by decide),snd []]
   generalize ht:sub s i 2=t at *
   generalize ht1:sub s i 1=u at *
   cases hm:decide (s.data[i]'hi∈e9d) with
   | true=>
    rw [hm] at hc1
    rw [if_pos rfl]
    repeat' (first|refine Go.a rfl ?_|refine Go.rg ?_|refine GoR.nil ?_|refine Go.ret ?_|refine Go.b rfl ?_|(refine GoR.o (by rfl) (by rfl) ?_;(conv=>arg 1;simp only [G,Z,Y,Gx,vV,simprocAttr,fb2,fb3,fb9,d5a,i4a,Option.map_some,e8a,Option.getD_some,w1,w2,m2,c2,e2,z2,c1,e1,z1]);show GoR ..)|(refine GoR.c z9e (by rfl) (by rfl) rfl ?_;(refine (i8b _).ret ?_))|(refine GoR.c c154 (by rfl) (by rfl) rfl ?_;(refine (hct _).ret ?_))|(refine GoR.c c156 (by rfl) (by rfl) rfl ?_;(refine (hc1 _).ret ?_))|refine GoR.s (by rfl) rfl rfl ?_|(refine GoR.b1a rfl (fun hc => ?_) (fun hc => ?_)<;>simp only [hc])|refine Go.b0a rfl (fun hc => ?_) (fun hc => ?_))
    refine ⟨(by first | exact .inl rfl | exact .inr rfl),fin ?_⟩
    rw [i1a (fn:=Tryz.f126) rfl]
    simp only [a0a,a2a,a1a,G,Z,Y,Gx,vV,simprocAttr,fb2,fb3,fb9,d5a]
    exact ⟨_,_,rfl,.of_low (.a2b (.cons (.agg' (j7a ⟨3,u,0,i⟩)) (.cons (.int _ _) .nil))),rfl⟩
   | false=>
    rw [hm] at hc1
    rw [if_neg (by decide)]
    repeat' (first|refine Go.a rfl ?_|refine Go.rg ?_|refine GoR.nil ?_|refine Go.ret ?_|refine Go.b rfl ?_|(refine GoR.o (by rfl) (by rfl) ?_;(conv=>arg 1;simp only [G,Z,Y,Gx,vV,simprocAttr,fb2,fb3,fb9,d5a,i4a,Option.map_some,e8a,Option.getD_some,w1,w2,m2,c2,e2,z2,c1,e1,z1]);show GoR ..)|(refine GoR.c z9e (by rfl) (by rfl) rfl ?_;(refine (i8b _).ret ?_))|(refine GoR.c c154 (by rfl) (by rfl) rfl ?_;(refine (hct _).ret ?_))|(refine GoR.c c156 (by rfl) (by rfl) rfl ?_;(refine (hc1 _).ret ?_))|refine GoR.s (by rfl) rfl rfl ?_|(refine GoR.b1a rfl (fun hc => ?_) (fun hc => ?_)<;>simp only [hc])|refine Go.b0a rfl (fun hc => ?_) (fun hc => ?_))
    refine ⟨(by first | exact .inl rfl | exact .inr rfl),fin ?_⟩
    rw [i1a (fn:=Tryz.f126) rfl]
    simp only [a0a,a2a,a1a,G,Z,Y,Gx,vV,simprocAttr,fb2,fb3,fb9,d5a]
    exact ⟨_,_,rfl,.of_low (.a2b (.cons (.agg' (j7a ⟨0,⟨#[]⟩,0,0⟩)) (.cons (.int _ _) .nil))),rfl⟩
 ·have hsz:s.size=i+1:=by omega
  have m2:((s.size:Int)<((i+2:Nat):Int))=True:=by simp;omega
  have hnone:s.data[i+1]?=none:=Array.getElem?_eq_none (by show s.data.size≤_;have:s.data.size=s.size:=rfl;omega)
  have hq:u4d s i (s.data[i]'hi)=if s.data[i]'hi∈e9d then .ok (3,1,0) else .error 2:=by
   simp only [u4d,hnone]
   rw [if_neg]
   rintro ⟨_,h⟩
   cases h
  rw [hq,snd []]
  have e3:s.extract i s.size=sub s i 1:=by rw [extract_eq (by omega)];congr 1;omega
  have c3:(i≤s.size)=True:=by simp;omega
  generalize ht1:sub s i 1=u at *
  cases hm:decide (s.data[i]'hi∈e9d) with
  | true=>
   rw [hm] at hc1
   rw [if_pos rfl]
   repeat' (first|refine Go.a rfl ?_|refine Go.rg ?_|refine GoR.nil ?_|refine Go.ret ?_|refine Go.b rfl ?_|(refine GoR.o (by rfl) (by rfl) ?_;(conv=>arg 1;simp only [G,Z,Y,Gx,vV,simprocAttr,fb2,fb3,fb9,d5a,i4a,Option.map_some,e8a,Option.getD_some,w1,w2,m2,c3,Nat.le_refl,and_self,e3,c1,e1,z1,show ((1:Int)==2)=false by decide]);show GoR ..)|(refine GoR.c c156 (by rfl) (by rfl) rfl ?_;(refine (hc1 _).ret ?_))|refine GoR.s (by rfl) rfl rfl ?_|(refine GoR.b1a rfl (fun hc => ?_) (fun hc => ?_)<;>simp only [hc])|refine Go.b0a rfl (fun hc => ?_) (fun hc => ?_))
   refine ⟨(by first | exact .inl rfl | exact .inr rfl),fin ?_⟩
   rw [i1a (fn:=Tryz.f126) rfl]
   simp only [a0a,a2a,a1a,G,Z,Y,Gx,vV,simprocAttr,fb2,fb3,fb9,d5a]
   exact ⟨_,_,rfl,.of_low (.a2b (.cons (.agg' (j7a ⟨3,u,0,i⟩)) (.cons (.int _ _) .nil))),rfl⟩
  | false=>
   rw [hm] at hc1
   rw [if_neg (by decide)]
   repeat' (first|refine Go.a rfl ?_|refine Go.rg ?_|refine GoR.nil ?_|refine Go.ret ?_|refine Go.b rfl ?_|(refine GoR.o (by rfl) (by rfl) ?_;(conv=>arg 1;simp only [G,Z,Y,Gx,vV,simprocAttr,fb2,fb3,fb9,d5a,i4a,Option.map_some,e8a,Option.getD_some,w1,w2,m2,c3,Nat.le_refl,and_self,e3,c1,e1,z1,show ((1:Int)==2)=false by decide]);show GoR ..)|(refine GoR.c c156 (by rfl) (by rfl) rfl ?_;(refine (hc1 _).ret ?_))|refine GoR.s (by rfl) rfl rfl ?_|(refine GoR.b1a rfl (fun hc => ?_) (fun hc => ?_)<;>simp only [hc])|refine Go.b0a rfl (fun hc => ?_) (fun hc => ?_))
   refine ⟨(by first | exact .inl rfl | exact .inr rfl),fin ?_⟩
   rw [i1a (fn:=Tryz.f126) rfl]
   simp only [a0a,a2a,a1a,G,Z,Y,Gx,vV,simprocAttr,fb2,fb3,fb9,d5a]
   exact ⟨_,_,rfl,.of_low (.a2b (.cons (.agg' (j7a ⟨0,⟨#[]⟩,0,0⟩)) (.cons (.int _ _) .nil))),rfl⟩
theorem m7c {s:ByteArray} {i:Nat} (hi:i<s.size):j3a (s.data.toList.drop i) =
  if v5b (s.data[i]'hi)=true then (if 8<tw g6b s i then .error 5 else .ok (1,tw g6b s i,0)) else if v1a (s.data[i]'hi)=true then l3e s i else u4d s i (s.data[i]'hi):=by
 have hx:(s.data.toList.drop i)[tw v1a s i]?=s.data[i+tw v1a s i]?:=by simp
 have hy:(s.data.toList.drop (i+1)).head?=s.data[i+1]?:=by rw [List.head?_drop];simp
 have h48:(s.data[i]?=some 48)=(s.data[i]'hi=48):=by rw [Array.getElem?_eq_getElem hi,Option.some.injEq]
 unfold l3e u4d
 simp only [h48]
 rw [← hx,← hy]
 unfold tw
 rw [drop_at hi,j3a]
theorem k3e (s:ByteArray) (hs:s.size<1000000) (i:Nat) (hi:i<s.size) (S:Mem):a3a Tryz.prog O 80 [.str s,.int .i64 (i:Int)] S fun d S'=>S'=S∧d=resT s i (j3a (s.data.toList.drop i)):=by
 rw [m7c hi]
 have hix:=fun {k:IntKind} {S:Mem} => f4a (s:=s) (n:=i) (k:=k) (S:=S) hi
 have hnm:=k2e (orc:=O) s hs i (Nat.le_of_lt hi)
 have hnb:=m8d s hs i hi
 have hsg:=k4e s hs i hi
 have hl:=s2a (orc:=O) (s.data[i]'hi)
 have hd:=f7c (orc:=O) (s.data[i]'hi)
 generalize s.data[i]'hi=b at *
 refine a3a.e Tryz.func80 rfl Tryz.ntmps80 (by rfl) ?_
 cases h1:v5b b with
 | true=>
  rw [h1] at hl
  have hr:resT s i (if true=true then (if 8<tw g6b s i then .error 5 else .ok (1,tw g6b s i,0)) else if v1a b=true then l3e s i else u4d s i b)=if 8<tw g6b s i then .tup [.agg j5c,.int .i64 5] else .tup [.agg (Tok.c ⟨1,sub s i (tw g6b s i),0,i⟩),.int .i64 0]:=by rw [if_pos rfl];split<;>rfl
  rw [hr]
  clear hr
  by_cases h8:8<tw g6b s i
  ·simp only [if_pos h8] at hnm ⊢
   repeat' (first|refine Go.a rfl ?_|refine Go.rg ?_|refine GoR.nil ?_|refine Go.ret ?_|refine Go.b rfl ?_|(refine GoR.o (by rfl) (by rfl) ?_;(conv=>arg 1;simp only [G,Z,Y,Gx,vV,simprocAttr,fb2,fb3,fb9,d5a,hix,j5c,Tok.c]);show GoR ..)|(refine GoR.c h9d (by rfl) (by rfl) rfl ?_;(refine (hl _).ret ?_))|(refine GoR.c i6f (by rfl) (by rfl) rfl ?_;(refine (hnm _).ret ?_))|refine Go.b0a rfl (fun hc => ?_) (fun hc => ?_))
   refine ⟨(by first | exact .inl rfl | exact .inr rfl),fin ?_⟩
   rw [i1a (fn:=Tryz.f80) rfl]
   simp only [a0a,a2a,a1a,G,Z,Y,Gx,vV,simprocAttr,fb2,fb3,fb9,d5a]
   exact ⟨_,_,rfl,.of_low (.a2b (.cons (.agg' (j7a ⟨0,⟨#[]⟩,0,0⟩)) (.cons (.int _ _) .nil))),rfl⟩
  ·simp only [if_neg h8] at hnm ⊢
   generalize sub s i (tw g6b s i)=t at *
   repeat' (first|refine Go.a rfl ?_|refine Go.rg ?_|refine GoR.nil ?_|refine Go.ret ?_|refine Go.b rfl ?_|(refine GoR.o (by rfl) (by rfl) ?_;(conv=>arg 1;simp only [G,Z,Y,Gx,vV,simprocAttr,fb2,fb3,fb9,d5a,hix,j5c,Tok.c]);show GoR ..)|(refine GoR.c h9d (by rfl) (by rfl) rfl ?_;(refine (hl _).ret ?_))|(refine GoR.c i6f (by rfl) (by rfl) rfl ?_;(refine (hnm _).ret ?_))|refine Go.b0a rfl (fun hc => ?_) (fun hc => ?_))
   refine ⟨(by first | exact .inl rfl | exact .inr rfl),fin ?_⟩
   rw [i1a (fn:=Tryz.f80) rfl]
   simp only [a0a,a2a,a1a,G,Z,Y,Gx,vV,simprocAttr,fb2,fb3,fb9,d5a]
   exact ⟨_,_,rfl,.of_low (.a2b (.cons (.agg' (j7a ⟨1,t,0,i⟩)) (.cons (.int _ _) .nil))),rfl⟩
 | false=>
  rw [h1] at hl
  rw [if_neg (by decide)]
  have key : ∀ x,∃ (c1:List D) (e:Int),resT s i x = .tup [.agg c1,.int .i64 e]∧c1.length=4∧(∀ n,e5b n c1)∧c1.all D.one=true:=by
   intro x
   match x with
   | .error e=>exact ⟨j5c,e,rfl,rfl,fun n=>j7a ⟨0,⟨#[]⟩,0,0⟩,rfl⟩
   | .ok (k,n,v)=>exact ⟨_,0,rfl,rfl,fun _=>j7a _,rfl⟩
  cases h2:v1a b with
  | true=>
   rw [h2] at hd
   have hnb:=hnb h2
   rw [if_pos rfl]
   obtain ⟨c1,e,hc,hl4,hlow,hone⟩:=key (l3e s i)
   rw [hc] at hnb ⊢
   match c1,hl4 with
   | [x1,x2,x3,x4],_=>
    repeat' (first|refine Go.a rfl ?_|refine Go.rg ?_|refine GoR.nil ?_|refine Go.ret ?_|refine Go.b rfl ?_|(refine GoR.o (by rfl) (by rfl) ?_;(conv=>arg 1;simp only [G,Z,Y,Gx,vV,simprocAttr,fb2,fb3,fb9,d5a,hix,hone]);show GoR ..)|(refine GoR.c h9d (by rfl) (by rfl) rfl ?_;(refine (hl _).ret ?_))|(refine GoR.c c124 (by rfl) (by rfl) rfl ?_;(refine (hd _).ret ?_))|(refine GoR.c k9f (by rfl) (by rfl) rfl ?_;(refine (hnb _).ret ?_))|refine Go.b0a rfl (fun hc => ?_) (fun hc => ?_))
    refine ⟨(by first | exact .inl rfl | exact .inr rfl),fin ?_⟩
    rw [i1a (fn:=Tryz.f80) rfl]
    simp only [a0a,a2a,a1a,G,Z,Y,Gx,vV,simprocAttr,fb2,fb3,fb9,d5a]
    exact ⟨_,_,rfl,.of_low (.a2b (.cons (.agg' (hlow _)) (.cons (.int _ _) .nil))),rfl⟩
  | false=>
   rw [h2] at hd
   rw [if_neg (by decide)]
   obtain ⟨c1,e,hc,hl4,hlow,hone⟩:=key (u4d s i b)
   rw [hc] at hsg ⊢
   match c1,hl4 with
   | [x1,x2,x3,x4],_=>
    repeat' (first|refine Go.a rfl ?_|refine Go.rg ?_|refine GoR.nil ?_|refine Go.ret ?_|refine Go.b rfl ?_|(refine GoR.o (by rfl) (by rfl) ?_;(conv=>arg 1;simp only [G,Z,Y,Gx,vV,simprocAttr,fb2,fb3,fb9,d5a,hix,hone]);show GoR ..)|(refine GoR.c h9d (by rfl) (by rfl) rfl ?_;(refine (hl _).ret ?_))|(refine GoR.c c124 (by rfl) (by rfl) rfl ?_;(refine (hd _).ret ?_))|(refine GoR.c l0f (by rfl) (by rfl) rfl ?_;(refine (hsg _).ret ?_))|refine Go.b0a rfl (fun hc => ?_) (fun hc => ?_))
    refine ⟨(by first | exact .inl rfl | exact .inr rfl),fin ?_⟩
    rw [i1a (fn:=Tryz.f80) rfl]
    simp only [a0a,a2a,a1a,G,Z,Y,Gx,vV,simprocAttr,fb2,fb3,fb9,d5a]
    exact ⟨_,_,rfl,.of_low (.a2b (.cons (.agg' (hlow _)) (.cons (.int _ _) .nil))),rfl⟩
end Go.Proofs.DgT
namespace Go.Proofs.DgT
open Go Go.DM
set_option maxRecDepth 100000
def t4a (l:List Tok):List D:=l.flatMap Tok.c
theorem z7a (t:Tok):(Tok.c t).length=4:=rfl
theorem p7c (l:List Tok):(t4a l).length=l.length*4:=flat_length z7a l
theorem s0b {n:Nat} (l:List Tok):e5b n (t4a l):=.n7c (by
 intro x hx
 simp only [t4a,List.mem_flatMap] at hx
 obtain ⟨a,_,hx⟩:=hx
 obtain ⟨i,hi,rfl⟩:=List.mem_iff_getElem.1 hx
 exact (j7a a).get i hi)
theorem q6a {l:List Tok} {i:Nat} (h:i<l.length) :
  ((0≤(i:Int)∧(i:Int)<(l.length:Int))=True)∧((i*4+4≤(t4a l).length)=True)∧((t4a l).drop (i*4)).take 4=Tok.c l[i]∧(t4a l)[i*4]?=some (.int .i64 l[i].k)∧(t4a l)[i*4+1]?=some (.str l[i].t)∧(t4a l)[i*4+2]?=some (.int .i64 l[i].n)∧(t4a l)[i*4+3]?=some (.int .i64 (l[i].a:Int)):=
 ⟨y0d h,m1b z7a l i h,f3c z7a l i h,b7c z7a l i h (by omega),j0b z7a l i h (by omega),j0b z7a l i h (by omega),j0b z7a l i h (by omega)⟩
theorem h2e (S:Mem) {orc:c3a} : a3a Tryz.prog orc 81 [.c5a] S fun d S'=>S'=S∧d = .c5a:=by
 refine a3a.e Tryz.func81 rfl Tryz.ntmps81 (by rfl) ?_
 have c:l0a Tryz.prog 71 .c5a none (some (.int .i64 0)) (some (.int .i64 0))=some .c5a:=by
  simp [l0a,d8a,n4c,Tryz.underlying71,a3c]
 repeat' (first|refine Go.a rfl ?_|refine Go.rg ?_|refine GoR.nil ?_|refine Go.ret ?_|refine Go.b rfl ?_|(refine GoR.o (by rfl) (by rfl) ?_;(conv=>arg 1;simp only [G,Z,Y,Gx,vV,simprocAttr,d4a,c,Option.map_some,Option.map_none]);show GoR ..)|refine Go.b0a rfl (fun hc => ?_) (fun hc => ?_))
 refine ⟨(by first | exact .inl rfl | exact .inr rfl),fin ?_⟩
 rw [a8a (fn:=Tryz.f81) rfl]
 simp only [a0a,a2a,a1a,G,Z,Y,Gx,vV,simprocAttr,d4a]
 exact ⟨_,[],by simp,.of_low .c5a,rfl⟩
theorem a0f (S:Mem) {orc:c3a} : a3a Tryz.prog orc 81 [.sl0] S fun d S'=>S'=S∧d = .sl0:=by
 refine a3a.e Tryz.func81 rfl Tryz.ntmps81 (by rfl) ?_
 have c:l0a Tryz.prog 71 .sl0 none (some (.int .i64 0)) (some (.int .i64 0))=some .sl0:=by
  simp [l0a,d8a,n4c,Tryz.underlying71,a3c]
 repeat' (first|refine Go.a rfl ?_|refine Go.rg ?_|refine GoR.nil ?_|refine Go.ret ?_|refine Go.b rfl ?_|(refine GoR.o (by rfl) (by rfl) ?_;(conv=>arg 1;simp only [G,Z,Y,Gx,vV,simprocAttr,d4a,c,Option.map_some,Option.map_none]);show GoR ..)|refine Go.b0a rfl (fun hc => ?_) (fun hc => ?_))
 refine ⟨(by first | exact .inl rfl | exact .inr rfl),fin ?_⟩
 rw [a8a (fn:=Tryz.f81) rfl]
 simp only [a0a,a2a,a1a,G,Z,Y,Gx,vV,simprocAttr,d4a]
 exact ⟨_,[],by simp,.of_low .sl0,rfl⟩
theorem a1f (own:Option Nat) (cells:List D) (S:Mem) {orc:c3a} : a3a Tryz.prog orc 81 [.sl own 4 0 cells] S fun d S'=>S'=S∧d = .sl0:=by
 refine a3a.e Tryz.func81 rfl Tryz.ntmps81 (by rfl) ?_
 have c:l0a Tryz.prog 71 (.sl own 4 0 cells) none (some (.int .i64 ((0:Nat):Int))) (some (.int .i64 ((0:Nat):Int)))=some .sl0:=by
  simp [l0a,d8a,n4c,Tryz.underlying71,a3c]
 repeat' (first|refine Go.a rfl ?_|refine Go.rg ?_|refine GoR.nil ?_|refine Go.ret ?_|refine Go.b rfl ?_|(refine GoR.o (by rfl) (by rfl) ?_;(conv=>arg 1;simp only [G,Z,Y,Gx,vV,simprocAttr,d4a,c,Option.map_some,Option.map_none]);show GoR ..)|refine Go.b0a rfl (fun hc => ?_) (fun hc => ?_))
 refine ⟨(by first | exact .inl rfl | exact .inr rfl),fin ?_⟩
 rw [a8a (fn:=Tryz.f81) rfl]
 simp only [a0a,a2a,a1a,G,Z,Y,Gx,vV,simprocAttr,d4a]
 exact ⟨_,[],by simp,.of_low .sl0,rfl⟩
theorem v6d (own:Option Nat) (n:Nat) (cells:List D) (hn:0<n) (hl:cells.length=n*4) (S:Mem) (hlow:e5b S.length cells) {orc:c3a} : a3a Tryz.prog orc 81 [.sl own 4 n cells] S fun d S'=>S'=S∧d = .sl none 4 n cells:=by
 refine a3a.e Tryz.func81 rfl Tryz.ntmps81 (by rfl) ?_
 have c : ∃ o',l0a Tryz.prog 71 (.sl own 4 n cells) none (some (.int .i64 (n:Int))) (some (.int .i64 (n:Int)))=some (.sl o' 4 n cells):=by
  refine ⟨own,?_⟩
  have hn0 : ¬ n=0:=by omega
  simp [l0a,d8a,n4c,Tryz.underlying71,a3c,hn0]
  rw [List.take_of_length_le (by omega)]
 obtain ⟨o',c⟩:=c
 repeat' (first|refine Go.a rfl ?_|refine Go.rg ?_|refine GoR.nil ?_|refine Go.ret ?_|refine Go.b rfl ?_|(refine GoR.o (by rfl) (by rfl) ?_;(conv=>arg 1;simp only [G,Z,Y,Gx,vV,simprocAttr,d4a,c,Option.map_some,Option.map_none]);show GoR ..)|refine Go.b0a rfl (fun hc => ?_) (fun hc => ?_))
 refine ⟨(by first | exact .inl rfl | exact .inr rfl),fin ?_⟩
 rw [a8a (fn:=Tryz.f81) rfl]
 simp only [a0a,a2a,a1a,G,Z,Y,Gx,vV,simprocAttr,d4a]
 exact ⟨_,[],by simp,.disown hlow.get,rfl⟩
def b5e:Except (Nat×Int) (List Tok)→D
 | .error (a,e)=>.tup [.sl none 4 0 [],.int .i64 (a:Int),.int .i64 e]
 | .ok ts=>.tup [.sl none 4 ts.length (t4a ts),.int .i64 0,.int .i64 0]
def u1c (s:ByteArray):Except (Nat×Int) (List Tok):=if 1024<s.size then .error (0,4) else a6b s.data.toList 0
theorem map_map {α:Type} (x:Except (Nat×Int) (List α)) (f g:List α→List α):(x.map f).map g=x.map (fun l=>g (f l)):=by cases x<;>rfl
theorem j1c {n:Nat} {a e:Int} : Wk n (.tup [.c5a,.int .i64 a,.int .i64 e]) (.tup [.sl none 4 0 [],.int .i64 a,.int .i64 e]):=
 .tup rfl fun i h h'=>by
  match i,h,h' with
  | 0,_,_=>exact .e1d
  | 1,_,_=>exact .of_low (.int _ _)
  | 2,_,_=>exact .of_low (.int _ _)
theorem p8c {n:Nat} {a e:Int} : Wk n (.tup [.sl0,.int .i64 a,.int .i64 e]) (.tup [.sl none 4 0 [],.int .i64 a,.int .i64 e]):=
 .tup rfl fun i h h'=>by
  match i,h,h' with
  | 0,_,_=>exact .h9f
  | 1,_,_=>exact .of_low (.int _ _)
  | 2,_,_=>exact .of_low (.int _ _)
theorem d8d {s:ByteArray} {i:Nat} (hi:i<s.size) (hb:s.data[i]'hi≠32) {k:Int} {n v:Nat} (h:j3a (s.data.toList.drop i) = .ok (k,n,v)) :
  a6b (s.data.toList.drop i) i=(a6b (s.data.toList.drop (i+n)) (i+n)).map (⟨k,sub s i n,v,i⟩ :: ·)∧1≤n∧i+n≤s.size:=by
 have h1:=j7b h
 have e:s.data.toList.drop (i+n)=(s.data.toList.drop i).drop n:=by rw [List.drop_drop]
 have hsub:sub s i n=⟨((s.data.toList.drop i).take n).toArray⟩:=rfl
 refine ⟨?_,h1.1,?_⟩
 ·rw [e,hsub]
  rw [drop_at hi] at h ⊢
  exact z5c hb h
 ·have:=h1.2.1
  rw [List.length_drop] at this
  have e:s.data.toList.length=s.size:=by simp
  omega
theorem u0c {s:ByteArray} {i:Nat} (hi:i<s.size) (hb:s.data[i]'hi≠32) {e:Int} (h:j3a (s.data.toList.drop i) = .error e):a6b (s.data.toList.drop i) i = .error (i,e):=by
 rw [drop_at hi] at h ⊢
 exact y8d hb h
theorem f6c {s:ByteArray} {i:Nat} (hi:i<s.size) (hb:s.data[i]'hi=32):a6b (s.data.toList.drop i) i=a6b (s.data.toList.drop (i+1)) (i+1):=by
 rw [drop_at hi,hb,d1b]
set_option maxHeartbeats 1000000 in
theorem m9d (s:ByteArray) (hs:s.size<1000000) (S:Mem):a3a Tryz.prog O 28 [.str s] S fun d S'=>S'=S∧d=b5e (u1c s):=by
 refine a3a.e Tryz.func28 rfl Tryz.ntmps28 (by rfl) ?_
 by_cases h24:1024<s.size
 ·have d0:decide (1024<(s.size:Int))=true:=by rw [decide_eq_true_iff];omega
  rw [u1c,if_pos h24]
  repeat' (first|refine Go.a rfl ?_|refine Go.rg ?_|refine GoR.nil ?_|refine Go.ret ?_|refine Go.b rfl ?_|(refine GoR.o (by rfl) (by rfl) ?_;(conv=>arg 1;simp only [G,Z,Y,Gx,vV,simprocAttr,fb2,fb3,fb5,fb9,c8a,d4a,d5a,d0]);show GoR ..)|refine Go.b0a rfl (fun hc => ?_) (fun hc => ?_))
  refine ⟨(by first | exact .inl rfl | exact .inr rfl),fin ?_⟩
  rw [k7a (fn:=Tryz.f28) rfl]
  simp only [a0a,a2a,a1a,G,Z,Y,Gx,vV,simprocAttr,fb2,fb3,fb5,fb9,c8a,d4a,d5a]
  exact ⟨_,[],by simp,j1c,rfl⟩
 have d0:decide (1024<(s.size:Int))=false:=by rw [decide_eq_false_iff_not];omega
 rw [u1c,if_neg h24]
 repeat' (first|refine Go.a rfl ?_|refine Go.rg ?_|refine GoR.nil ?_|refine Go.ret ?_|refine Go.b rfl ?_|(refine GoR.o (by rfl) (by rfl) ?_;(conv=>arg 1;simp only [G,Z,Y,Gx,vV,simprocAttr,fb2,fb3,fb5,fb9,c8a,d4a,d5a,d0]);show GoR ..)|refine Go.b0a rfl (fun hc => ?_) (fun hc => ?_))
 refine Go.keep [(0,.str s),(5,.c5a),(6,.int .i64 ((0:Nat):Int))] (.cons .refl (.cons .refl (.cons .refl (.nil)))) ?_
 refine Go.while (α:=Nat×List Tok×D×Mem) (fun x=>s.size - x.1) (fun x=>[(0,.str s),(5,x.2.2.1),(6,.int .i64 (x.1:Int))]) (fun x=>x.2.2.2)
  (fun x=>x.1≤s.size∧a6b s.data.toList 0=(a6b (s.data.toList.drop x.1) x.1).map (x.2.1 ++ ·)∧x.2.1.length≤x.1∧z7b S.length x.2.2.1 4 x.2.1.length (t4a x.2.1) x.2.2.2∧Grown S.length S x.2.2.2) ?_
  (0,[],.c5a,S) ⟨Nat.zero_le _,by simp only [List.drop_zero,List.nil_append];cases a6b s.data.toList 0<;>rfl,Nat.zero_le _,.inl ⟨rfl,rfl,rfl⟩,.refl⟩
 rintro ⟨i,acc,o,S1⟩ ⟨hi,hlex,hlen,hacc,hg⟩ next
 dsimp only at hi hlex hlen hacc hg next
 by_cases h1:i<s.size
 ·have d1:decide ((i:Int)<(s.size:Int))=true:=by rw [decide_eq_true_iff];omega
  by_cases hb:s.data[i]'h1=32
  ·have d2:(((s.data[i]'h1).toNat:Int)==32)=true:=by rw [hb];rfl
   repeat' (first|refine Go.a rfl ?_|refine Go.rg ?_|refine GoR.nil ?_|refine Go.ret ?_|refine Go.b rfl ?_|(refine GoR.o (by rfl) (by rfl) ?_;(conv=>arg 1;simp only [G,Z,Y,Gx,vV,simprocAttr,fb2,fb3,fb5,fb9,c8a,d4a,d5a,d1,d2,f4a h1,b9a (show i<4611686018427387904 by omega)]);show GoR ..)|refine Go.b0a rfl (fun hc => ?_) (fun hc => ?_))
   refine Go.lpN ?_
   refine Go.keep [(0,.str s),(5,o),(6,.int .i64 ((i+1:Nat):Int))] (.cons .refl (.cons .refl (.cons .refl (.nil)))) ?_
   refine next (i+1,acc,o,S1) (by dsimp only;omega) ⟨h1,?_,by dsimp only;omega,hacc,hg⟩
   dsimp only
   rw [hlex,f6c h1 hb]
  ·have d2:(((s.data[i]'h1).toNat:Int)==32)=false:=by
    rw [beq_eq_false_iff_ne]
    intro e
    exact hb (UInt8.toNat_inj.1 (show _=(32:UInt8).toNat by simp;omega))
   have hn:=k3e s hs i h1
   cases ho:j3a (s.data.toList.drop i) with
   | error e=>
    rw [ho] at hn
    have he:((e != 0)=true):=by
     rw [bne_iff_ne]
     intro h0
     rw [m7c h1,h0] at ho
     unfold l3e u4d at ho
     repeat' split at ho
     all_goals first
      | (cases ho;done)
      | (injection ho with ho;cases ho)
    rw [hlex,u0c h1 hb ho]
    simp only [resT,j5c] at hn
    repeat' (first|refine Go.a rfl ?_|refine Go.rg ?_|refine GoR.nil ?_|refine Go.ret ?_|refine Go.b rfl ?_|(refine GoR.o (by rfl) (by rfl) ?_;(conv=>arg 1;simp only [G,Z,Y,Gx,vV,simprocAttr,fb2,fb3,fb5,fb9,c8a,d4a,d5a,d1,d2,f4a h1,he]);show GoR ..)|(refine GoR.c c80 (by rfl) (by rfl) rfl ?_;(refine (hn _).ret ?_))|refine Go.b0a rfl (fun hc => ?_) (fun hc => ?_))
    clear next
    refine ⟨(by first | exact .inl rfl | exact .inr rfl),fin ?_⟩
    rw [k7a (fn:=Tryz.f28) rfl]
    simp only [a0a,a2a,a1a,G,Z,Y,Gx,vV,simprocAttr,fb2,fb3,fb5,fb9,c8a,d4a,d5a]
    obtain ⟨E,hE⟩:=hg.pre [] S rfl (by simp)
    exact ⟨_,E++[.obj [.int .i64 0,.str ⟨#[]⟩,.int .i64 0,.int .i64 0]],by rw [hE];simp,j1c,rfl⟩
   | ok x=>
    obtain ⟨k,n,v⟩:=x
    obtain ⟨e1,e2,e3⟩:=d8d h1 hb ho
    have hsz:((sub s i n).size:Int)=(n:Int):=by rw [k7b e3]
    rw [ho] at hn
    simp only [resT,Tok.c] at hn
    obtain ⟨o',S2,hap,a4b,hg2⟩:=(hacc.app [.obj (Tok.c ⟨k,sub s i n,v,i⟩),.own]).append (P:=Tryz.prog) l9b (own:=some (S1.length+1)) (m:=1) (new:=Tok.c ⟨k,sub s i n,v,i⟩) (by simp;have:=hg.len;omega) (by omega) ⟨by omega,by omega,by omega,rfl⟩
    have hS2:b6a S2 S1.length=some [.int .i64 k,.str (sub s i n),.int .i64 (v:Int),.int .i64 (i:Int)]:=hg2.obj _ _ (by simp [b6a,Tok.c])
    simp only [Tok.c] at hap
    have wn:=g3e (i:=i) (j:=n) (P:=Tryz.prog) (t:=0) (x:=.tmp 0) (y:=.tmp 0) (by omega)
    have ho1:=hacc.one
    have ho2:=a4b.one
    repeat' (first|refine Go.a rfl ?_|refine Go.rg ?_|refine GoR.nil ?_|refine Go.ret ?_|refine Go.b rfl ?_|(refine GoR.o (by rfl) (by rfl) ?_;(conv=>arg 1;simp only [G,Z,Y,Gx,vV,simprocAttr,fb2,fb3,fb5,fb9,c8a,d4a,d5a,d1,d2,f4a h1,ho1,ho2,hap,hS2,hsz,wn,builtin_append,List.append_assoc,List.cons_append,List.nil_append,List.length_append,List.length_cons,List.length_nil]);show GoR ..)|(refine GoR.c c80 (by rfl) (by rfl) rfl ?_;(refine (hn _).ret ?_))|refine Go.b0a rfl (fun hc => ?_) (fun hc => ?_))
    refine Go.lpN ?_
    refine Go.keep [(0,.str s),(5,o'),(6,.int .i64 ((i+n:Nat):Int))] (.cons .refl (.cons .refl (.cons .refl (.nil)))) ?_
    refine next (i+n,acc++[⟨k,sub s i n,v,i⟩],o',S2) (by dsimp only;omega) ⟨e3,?_,by dsimp only;rw [List.length_append];simp;omega,?_,hg.trans (Grown.app.trans hg2)⟩
    ·dsimp only
     rw [hlex,e1,map_map]
     simp
    ·dsimp only
     rw [List.length_append,t4a,List.flatMap_append]
     simpa [t4a] using a4b
 ·have d1:decide ((i:Int)<(s.size:Int))=false:=by rw [decide_eq_false_iff_not];omega
  clear next
  have hend:a6b (s.data.toList.drop i) i = .ok []:=by rw [List.drop_of_length_le (by simp;omega)];rfl
  rw [hlex,hend]
  obtain ⟨E,hE⟩:=hg.pre [] S rfl (by simp)
  rcases hacc with ⟨rfl,hl,hc⟩ | ⟨rfl,hl,hc⟩ | ⟨id,hid,rfl,hown⟩
  ·have:acc=[]:=List.eq_nil_of_length_eq_zero hl
   subst this
   repeat' (first|refine Go.a rfl ?_|refine Go.rg ?_|refine GoR.nil ?_|refine Go.ret ?_|refine Go.b rfl ?_|(refine GoR.o (by rfl) (by rfl) ?_;(conv=>arg 1;simp only [G,Z,Y,Gx,vV,simprocAttr,fb2,fb3,fb5,fb9,c8a,d4a,d5a,d1]);show GoR ..)|(refine GoR.c c81 (by rfl) (by rfl) rfl ?_;(refine (h2e _).ret ?_))|refine Go.b0a rfl (fun hc => ?_) (fun hc => ?_))
   refine ⟨(by first | exact .inl rfl | exact .inr rfl),fin ?_⟩
   rw [k7a (fn:=Tryz.f28) rfl]
   simp only [a0a,a2a,a1a,G,Z,Y,Gx,vV,simprocAttr,fb2,fb3,fb5,fb9,c8a,d4a,d5a]
   exact ⟨_,E,hE,j1c,rfl⟩
  ·have:acc=[]:=List.eq_nil_of_length_eq_zero hl
   subst this
   repeat' (first|refine Go.a rfl ?_|refine Go.rg ?_|refine GoR.nil ?_|refine Go.ret ?_|refine Go.b rfl ?_|(refine GoR.o (by rfl) (by rfl) ?_;(conv=>arg 1;simp only [G,Z,Y,Gx,vV,simprocAttr,fb2,fb3,fb5,fb9,c8a,d4a,d5a,d1]);show GoR ..)|(refine GoR.c c81 (by rfl) (by rfl) rfl ?_;(refine (a0f _).ret ?_))|refine Go.b0a rfl (fun hc => ?_) (fun hc => ?_))
   refine ⟨(by first | exact .inl rfl | exact .inr rfl),fin ?_⟩
   rw [k7a (fn:=Tryz.f28) rfl]
   simp only [a0a,a2a,a1a,G,Z,Y,Gx,vV,simprocAttr,fb2,fb3,fb5,fb9,c8a,d4a,d5a]
   exact ⟨_,E,hE,p8c,rfl⟩
  ·by_cases h0:acc.length=0
   ·have:acc=[]:=List.eq_nil_of_length_eq_zero h0
    subst this
    repeat' (first|refine Go.a rfl ?_|refine Go.rg ?_|refine GoR.nil ?_|refine Go.ret ?_|refine Go.b rfl ?_|(refine GoR.o (by rfl) (by rfl) ?_;(conv=>arg 1;simp only [G,Z,Y,Gx,vV,simprocAttr,fb2,fb3,fb5,fb9,c8a,d4a,d5a,d1]);show GoR ..)|(refine GoR.c c81 (by rfl) (by rfl) rfl ?_;(refine (a1f _ _ _).ret ?_))|refine Go.b0a rfl (fun hc => ?_) (fun hc => ?_))
    refine ⟨(by first | exact .inl rfl | exact .inr rfl),fin ?_⟩
    rw [k7a (fn:=Tryz.f28) rfl]
    simp only [a0a,a2a,a1a,G,Z,Y,Gx,vV,simprocAttr,fb2,fb3,fb5,fb9,c8a,d4a,d5a]
    exact ⟨_,E,hE,p8c,rfl⟩
   ·repeat' (first|refine Go.a rfl ?_|refine Go.rg ?_|refine GoR.nil ?_|refine Go.ret ?_|refine Go.b rfl ?_|(refine GoR.o (by rfl) (by rfl) ?_;(conv=>arg 1;simp only [G,Z,Y,Gx,vV,simprocAttr,fb2,fb3,fb5,fb9,c8a,d4a,d5a,d1]);show GoR ..)|(refine GoR.c c81 (by rfl) (by rfl) rfl ?_;(refine (v6d _ _ _ (by omega) (p7c _) _ (s0b _)).ret ?_))|refine Go.b0a rfl (fun hc => ?_) (fun hc => ?_))
    refine ⟨(by first | exact .inl rfl | exact .inr rfl),fin ?_⟩
    rw [k7a (fn:=Tryz.f28) rfl]
    simp only [a0a,a2a,a1a,G,Z,Y,Gx,vV,simprocAttr,fb2,fb3,fb5,fb9,c8a,d4a,d5a]
    exact ⟨_,E,hE,.of_low (.a2b (.cons (.sl' (s0b _)) (.cons (.int _ _) (.cons (.int _ _) .nil)))),by simp [b5e,Except.map]⟩
end Go.Proofs.DgT
