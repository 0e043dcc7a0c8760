/- A tree in words: by the program, by the document. -/
import Derived.Test.YtcdijoaabbjioaaGreatDoorDgK1x
set_option linter.unusedSimpArgs false
set_option linter.unusedVariables false
namespace Go.Proofs.DgT
open Go Go.DM
set_option maxRecDepth 100000
variable {orc:c3a}
theorem z2d : ∀ (k u:Nat),u<10 ^ (k+1)→Lib.nDigits u≤k+1
 | 0,u,h=>by rw [Lib.nDigits_small (by simpa using h)];exact Nat.le_refl _
 | k+1,u,h=>by
  by_cases h1:u<10
  ·rw [Lib.nDigits_small h1];omega
  ·rw [Lib.nDigits_big h1]
   have:=z2d k (u/10) (by rw [Nat.pow_succ] at h;omega)
   omega
theorem d0b {n:Int} (h:d6d n):(o9a n).size≤21:=by
 have e:(o9a n).size=(Lib.itoa n).length:=by simp [o9a,ByteArray.size]
 rw [e]
 obtain ⟨h1,h2⟩:=h
 unfold Lib.itoa
 split
 ·rw [List.length_cons,Lib.decDigits_length]
  have:=z2d 19 n.natAbs (by
                 have:n.natAbs≤9223372036854775808:=by omega
                 omega)
  omega
 ·rw [Lib.decDigits_length]
  have:=z2d 19 n.toNat (by
                 have:n.toNat≤9223372036854775807:=by omega
                 omega)
  omega
theorem f1e {m:Nat} : ((m:Int)).tmod 10=((m%10:Nat):Int):=(Int.ofNat_tmod m 10).symm
theorem w9e {m:Nat} : ((m:Int)).tdiv 10=((m/10:Nat):Int):=rfl
theorem o5e {m:Nat} : IntKind.i64.wrap (48+((m%10:Nat):Int))=((48+m%10:Nat):Int):=by rw [wrap64 (by omega) (by omega)];omega
theorem x5e {k:Nat} (h:k<256):IntKind.u8.wrap (k:Int)=(k:Int):=by
 simp only [IntKind.wrap,IntKind.bits,IntKind.signed]
 simp
 omega
theorem b1e {k:Nat} (h:k<256):strOfNums [(k:Int)]=⟨#[UInt8.ofNat k]⟩:=by
 simp [strOfNums]
theorem dig {m:Nat} : IntKind.u8.wrap (((48+m%10:Nat)):Int)=((48+m%10:Nat):Int):=x5e (by omega)
theorem q9e {m:Nat} : strOfNums [((48+m%10:Nat):Int)]=⟨#[UInt8.ofNat (48+m%10)]⟩:=b1e (by omega)
theorem y1c (n:Nat) (hn:n<9223372036854775808) (S:Mem):a3a Tryz.prog orc 49 [.int .i64 (n:Int)] S fun d S'=>S'=S∧d = .str (o9a (n:Int)):=by
 have hd:o9a (n:Int)=⟨(Lib.decDigits n).toArray⟩:=by
  unfold o9a Lib.itoa
  rw [if_neg (by omega),Int.toNat_natCast]
 rw [hd]
 refine a3a.e Tryz.func49 rfl Tryz.ntmps49 (by rfl) ?_
 have hl:(((n:Int)) == -9223372036854775808)=false:=by rw [beq_eq_false_iff_ne];omega
 have h0:decide ((n:Int)<0)=false:=by rw [decide_eq_false_iff_not];omega
 repeat' (first|refine Go.a rfl ?_|refine Go.rg ?_|refine GoR.nil ?_|refine Go.ret ?_|refine Go.b rfl ?_|(refine GoR.o (by rfl) (by rfl) ?_;(conv=>arg 1;simp only [G,Z,Y,Gx,vV,simprocAttr,fb2,fb5,fb9,w9d,hl,h0,f1e,o5e,dig,q9e]);show GoR ..)|refine Go.b0a rfl (fun hc => ?_) (fun hc => ?_))
 refine Go.keep [(0,.int .i64 (n:Int)),(3,.str ⟨#[UInt8.ofNat (48+n%10)]⟩)] (.cons .refl (.cons .refl (.nil))) ?_
 refine Go.while (α:=Nat×List UInt8×Mem) (fun x=>x.1) (fun x=>[(0,.int .i64 (x.1:Int)),(3,.str ⟨(UInt8.ofNat (48+x.1%10)::x.2.1).toArray⟩)]) (fun x=>S++(.own::x.2.2))
  (fun x=>x.1<9223372036854775808∧x.2.1.length<1000∧Lib.nDigits x.1+x.2.1.length≤20∧Lib.decDigits n=Lib.decDigits x.1++x.2.1) ?_ (n,[],[]) ⟨hn,by simp,?_,by simp⟩
 rotate_left
 ·have:=z2d 19 n (by omega)
  simpa using this
 rintro ⟨m,tl,E⟩ ⟨hm,htl,h20,hdd⟩ next
 dsimp only at hm htl h20 hdd next
 by_cases h10:m<10
 ·clear next
  have d10:decide (10≤(m:Int))=false:=by rw [decide_eq_false_iff_not];omega
  repeat' (first|refine Go.a rfl ?_|refine Go.rg ?_|refine GoR.nil ?_|refine Go.ret ?_|refine Go.b rfl ?_|(refine GoR.o (by rfl) (by rfl) ?_;(conv=>arg 1;simp only [G,Z,Y,Gx,vV,simprocAttr,fb2,fb5,fb9,w9d,d10,ge_iff_le]);show GoR ..)|refine Go.b0a rfl (fun hc => ?_) (fun hc => ?_))
  refine ⟨(by first | exact .inl rfl | exact .inr rfl),fin ?_⟩
  rw [a8a (fn:=Tryz.f49) rfl]
  simp only [a0a,a2a,a1a,G,Z,Y,Gx,vV,simprocAttr,fb2,fb5,fb9,w9d]
  refine ⟨_,_,rfl,.str,?_⟩
  rw [hdd,Lib.decDigits_one h10,Nat.mod_eq_of_lt h10]
  rfl
 ·have d10:decide (10≤(m:Int))=true:=by rw [decide_eq_true_iff];omega
  have wq:IntKind.i64.wrap ((m/10:Nat):Int)=((m/10:Nat):Int):=wrap64 (by omega) (by omega)
  have hap : ∀ {t:TypeId} {x y:Operand},i6a Tryz.prog .add t x y (.str ⟨#[UInt8.ofNat (48+m/10%10)]⟩) (.str ⟨(UInt8.ofNat (48+m%10)::tl).toArray⟩)=some (.str ⟨(UInt8.ofNat (48+m/10%10)::UInt8.ofNat (48+m%10)::tl).toArray⟩):=by
   intro t x y
   rw [e4a]
   ·congr 2
   ·show 1+(UInt8.ofNat (48+m%10)::tl).toArray.size<_
    rw [List.size_toArray,List.length_cons]
    omega
  repeat' (first|refine Go.a rfl ?_|refine Go.rg ?_|refine GoR.nil ?_|refine Go.ret ?_|refine Go.b rfl ?_|(refine GoR.o (by rfl) (by rfl) ?_;(conv=>arg 1;simp only [G,Z,Y,Gx,vV,simprocAttr,fb2,fb5,fb9,w9d,d10,ge_iff_le,w9e,wq,f1e,o5e,dig,q9e,hap]);show GoR ..)|refine Go.b0a rfl (fun hc => ?_) (fun hc => ?_))
  refine Go.lpN ?_
  refine Go.keep [(0,.int .i64 ((m/10:Nat):Int)),(3,.str ⟨(UInt8.ofNat (48+m/10%10)::UInt8.ofNat (48+m%10)::tl).toArray⟩)] (.cons .refl (.cons .refl .nil)) ?_
  have hnb:=Lib.nDigits_big h10
  have:=next (m/10,UInt8.ofNat (48+m%10)::tl,E++[.own]) (by dsimp only;omega) ⟨by dsimp only;omega,?_,?_,?_⟩
  ·simpa using this
  ·have:=Lib.nDigits_pos (m/10)
   simp only [List.length_cons]
   omega
  ·simp only [List.length_cons]
   omega
  ·rw [hdd]
   dsimp only
   rw [show Lib.decDigits m=Lib.decDigits (m/10)++[UInt8.ofNat (48+m%10)] by rw [Lib.decDigits,dif_neg h10]]
   simp
def p5c (op nm:ByteArray) (n:Int) (ts:List ByteArray):ByteArray:=
 if op=(⟨#[110,117,109]⟩:ByteArray) then o9a n else if op=(⟨#[110,97,109,101]⟩:ByteArray) then nm else
 match ts with
 | [a]=>if op=(⟨#[110,101,103]⟩:ByteArray) then (⟨#[45]⟩:ByteArray)++a else ⟨#[]⟩
 | [a,b]=>((((((⟨#[40]⟩:ByteArray)++a)++(⟨#[32]⟩:ByteArray))++op)++(⟨#[32]⟩:ByteArray))++b)++(⟨#[41]⟩:ByteArray)
 | _=>⟨#[]⟩
def textS:Nd→ByteArray
 | .mk op nm n ks=>p5c op nm n (ks.attach.map fun ⟨k,_⟩=>textS k)
termination_by n=>SizeOf.sizeOf n
decreasing_by exact Nd.p0b ‹_›
theorem r9b {op nm:ByteArray} {n:Int} {ks:List Nd} : textS (.mk op nm n ks)=p5c op nm n (ks.map textS):=by
 rw [textS]
 simp
theorem h6d {op:ByteArray} (h:arity op=2):op=(⟨#[43]⟩:ByteArray)∨op=(⟨#[45]⟩:ByteArray)∨op=(⟨#[42]⟩:ByteArray)∨op=(⟨#[47]⟩:ByteArray)∨op=(⟨#[37]⟩:ByteArray):=by
 unfold arity at h
 split at h
 ·omega
 ·split at h
  ·omega
  ·split at h
   ·assumption
   ·omega
theorem p1a {op nm:ByteArray} {n:Int} {ks:List Nd} (h:Whole (.mk op nm n ks)) :
  (op=(⟨#[110,117,109]⟩:ByteArray)∧ks=[]∧0≤n∧d6d n)∨(op=(⟨#[110,97,109,101]⟩:ByteArray)∧ks=[]∧l6a nm=true)∨(∃ k,op=(⟨#[110,101,103]⟩:ByteArray)∧ks=[k]∧Whole k)∨(∃ k k2,arity op=2∧(op=(⟨#[43]⟩:ByteArray)∨op=(⟨#[45]⟩:ByteArray)∨op=(⟨#[42]⟩:ByteArray)∨op=(⟨#[47]⟩:ByteArray)∨op=(⟨#[37]⟩:ByteArray))∧ks=[k,k2]∧Whole k∧Whole k2):=by
 obtain ⟨har,hn,hz,hi,hk,_⟩:=h
 by_cases h1:op=(⟨#[110,117,109]⟩:ByteArray)
 ·subst h1
  exact .inl ⟨rfl,List.eq_nil_of_length_eq_zero (by have:(0:Int)=ks.length:=har;omega),hz rfl,hi⟩
 by_cases h2:op=(⟨#[110,97,109,101]⟩:ByteArray)
 ·subst h2
  exact .inr (.inl ⟨rfl,List.eq_nil_of_length_eq_zero (by have:(0:Int)=ks.length:=har;omega),hn rfl⟩)
 by_cases h3:op=(⟨#[110,101,103]⟩:ByteArray)
 ·subst h3
  have:(1:Int)=ks.length:=har
  match ks,this with
  | [k],_=>exact .inr (.inr (.inl ⟨k,rfl,rfl,hk k (by simp)⟩))
  | [],h=>simp at h
  | _::_::_,h=>simp at h;omega
 ·have hq:arity op=2:=by
   unfold arity at har ⊢
   rw [if_neg (by simp [h1,h2]),if_neg h3] at har ⊢
   split at har
   ·rename_i h;rw [if_pos h]
   ·omega
  have:(2:Int)=ks.length:=by omega
  match ks,this with
  | [k,k2],_=>exact .inr (.inr (.inr ⟨k,k2,hq,h6d hq,rfl,hk k (by simp),hk k2 (by simp)⟩))
  | [],h=>simp at h
  | [_],h=>simp at h
  | _::_::_::_,h=>simp at h;omega
theorem d2a (a b:ByteArray):(a++b).size=a.size+b.size:=ByteArray.size_append
theorem text_size (n:Nd) (h:Whole n):(textS n).size≤30*cnt n:=by
 induction n using Nd.ind with
 | h op nm n ks ih=>
  rw [r9b,z9a]
  rcases p1a h with ⟨rfl,rfl,_,hi⟩ | ⟨rfl,rfl,hn⟩ | ⟨k,rfl,rfl,hk⟩ | ⟨k,k2,hq,hop,rfl,hk,hk2⟩
  ·show (o9a n).size≤_
   have:=d0b hi
   omega
  ·show nm.size≤_
   have:=v9b hn
   omega
  ·show ((⟨#[45]⟩:ByteArray)++textS k).size≤_
   have:=ih k (by simp) hk
   rw [d2a]
   simp only [cnts,List.map_cons,List.map_nil,List.sum_cons,List.sum_nil]
   show 1+_≤_
   omega
  ·have h1:=ih k (by simp) hk
   have h2:=ih k2 (by simp) hk2
   have e:p5c op nm n ([k,k2].map textS)=((((((⟨#[40]⟩:ByteArray)++textS k)++(⟨#[32]⟩:ByteArray))++op)++(⟨#[32]⟩:ByteArray))++textS k2)++(⟨#[41]⟩:ByteArray):=by
    rcases hop with rfl | rfl | rfl | rfl | rfl<;>rfl
   have e1:op.size=1:=by rcases hop with rfl | rfl | rfl | rfl | rfl<;>rfl
   rw [e]
   simp only [d2a,e1,cnts,List.map_cons,List.map_nil,List.sum_cons,List.sum_nil]
   show 1+_+1+1+1+_+1≤_
   omega
theorem text1 (op nm:ByteArray) (n:Int) (hn:d6d n) (ho:op.size<1000) (kc:List D) (kl:Nat) (ts:List ByteArray) (hts : ∀ t∈ts,t.size<100000) (own:Option Nat) (S:Mem) :
  a3a Tryz.prog O 101 [.agg [.str op,.str nm,.int .i64 n,.sl none 4 kl kc],.sl own 1 ts.length (ts.map .str)] S fun d S'=>S'=S∧d = .str (p5c op nm n ts):=by
 have hf:=fun S=>u9b n hn.1 hn.2 S
 unfold p5c
 by_cases h1:op=(⟨#[110,117,109]⟩:ByteArray)
 ·rw [if_pos h1]
  refine a3a.e Tryz.func101 rfl Tryz.ntmps101 (by rfl) ?_
  repeat' (first|refine Go.a rfl ?_|refine Go.rg ?_|refine GoR.nil ?_|refine Go.ret ?_|refine Go.b rfl ?_|refine Go.rgS dmx (by decide) ?_|(refine GoR.o (by rfl) (by rfl) ?_;(conv=>arg 1;simp only [G,Z,Y,Gx,vV,simprocAttr,fb2,fb3,fb9,c2a,b7a,g2a,decide_eq_true h1]);show GoR ..)|(refine GoR.c c50 (by rfl) (by rfl) rfl ?_;(refine (hf _).ret ?_))|refine GoR.s (by rfl) rfl rfl ?_|(refine GoR.b1a rfl (fun hc => ?_) (fun hc => ?_)<;>simp only [hc])|refine Go.b0a rfl (fun hc => ?_) (fun hc => ?_))
  refine ⟨(by first | exact .inl rfl | exact .inr rfl),fin ?_⟩
  rw [a8a (fn:=Tryz.f101) rfl]
  simp only [a0a,a2a,a1a,G,Z,Y,Gx,vV,simprocAttr,fb2,fb3,fb9,c2a,b7a,g2a]
  exact ⟨_,_,rfl,.str,rfl⟩
 rw [if_neg h1]
 by_cases h2:op=(⟨#[110,97,109,101]⟩:ByteArray)
 ·rw [if_pos h2]
  refine a3a.e Tryz.func101 rfl Tryz.ntmps101 (by rfl) ?_
  repeat' (first|refine Go.a rfl ?_|refine Go.rg ?_|refine GoR.nil ?_|refine Go.ret ?_|refine Go.b rfl ?_|refine Go.rgS dmx (by decide) ?_|(refine GoR.o (by rfl) (by rfl) ?_;(conv=>arg 1;simp only [G,Z,Y,Gx,vV,simprocAttr,fb2,fb3,fb9,c2a,b7a,g2a,decide_eq_false h1,decide_eq_true h2]);show GoR ..)|refine GoR.s (by rfl) rfl rfl ?_|(refine GoR.b1a rfl (fun hc => ?_) (fun hc => ?_)<;>simp only [hc])|refine Go.b0a rfl (fun hc => ?_) (fun hc => ?_))
  refine ⟨(by first | exact .inl rfl | exact .inr rfl),fin ?_⟩
  rw [a8a (fn:=Tryz.f101) rfl]
  simp only [a0a,a2a,a1a,G,Z,Y,Gx,vV,simprocAttr,fb2,fb3,fb9,c2a,b7a,g2a]
  exact ⟨_,_,rfl,.str,rfl⟩
 rw [if_neg h2]
 rcases ts with _ | ⟨a,_ | ⟨b,_ | ⟨c,r⟩⟩⟩
 ·by_cases h3:op=(⟨#[110,101,103]⟩:ByteArray)
  all_goals
   refine a3a.e Tryz.func101 rfl Tryz.ntmps101 (by rfl) ?_
   repeat' (first|refine Go.a rfl ?_|refine Go.rg ?_|refine GoR.nil ?_|refine Go.ret ?_|refine Go.b rfl ?_|refine Go.rgS dmx (by decide) ?_|(refine GoR.o (by rfl) (by rfl) ?_;(conv=>arg 1;simp only [G,Z,Y,Gx,vV,simprocAttr,fb2,fb3,fb9,c2a,b7a,g2a,decide_eq_false h1,decide_eq_false h2,decide_eq_true_iff.2,show decide (op=(⟨#[110,101,103]⟩:ByteArray))=decide (op=(⟨#[110,101,103]⟩:ByteArray)) from rfl,List.length_nil,show (((0:Nat):Int)==1)=false by decide,show (((0:Nat):Int)==2)=false by decide]);show GoR ..)|refine GoR.s (by rfl) rfl rfl ?_|(refine GoR.b1a rfl (fun hc => ?_) (fun hc => ?_)<;>simp only [hc])|refine Go.b0a rfl (fun hc => ?_) (fun hc => ?_))
  all_goals
   refine ⟨(by first | exact .inl rfl | exact .inr rfl),fin ?_⟩
   rw [a8a (fn:=Tryz.f101) rfl]
   simp only [a0a,a2a,a1a,G,Z,Y,Gx,vV,simprocAttr,fb2,fb3,fb9,c2a,b7a,g2a]
   exact ⟨_,_,rfl,.str,rfl⟩
 ·have ha:=hts a (by simp)
  by_cases h3:op=(⟨#[110,101,103]⟩:ByteArray)
  ·dsimp only
   rw [if_pos h3]
   refine a3a.e Tryz.func101 rfl Tryz.ntmps101 (by rfl) ?_
   repeat' (first|refine Go.a rfl ?_|refine Go.rg ?_|refine GoR.nil ?_|refine Go.ret ?_|refine Go.b rfl ?_|refine Go.rgS dmx (by decide) ?_|(refine GoR.o (by rfl) (by rfl) ?_;(conv=>arg 1;simp only [G,Z,Y,Gx,vV,simprocAttr,fb2,fb3,fb9,c2a,b7a,g2a,decide_eq_false h1,decide_eq_false h2,decide_eq_true h3,show (([a].length:Nat):Int)=1 from rfl,List.map_cons,List.map_nil,e4a (P:=Tryz.prog) (a:=(⟨#[45]⟩:ByteArray)) (b:=a) (show 1+a.size<4611686018427387904 by omega)]);show GoR ..)|refine GoR.s (by rfl) rfl rfl ?_|(refine GoR.b1a rfl (fun hc => ?_) (fun hc => ?_)<;>simp only [hc])|refine Go.b0a rfl (fun hc => ?_) (fun hc => ?_))
   refine ⟨(by first | exact .inl rfl | exact .inr rfl),fin ?_⟩
   rw [a8a (fn:=Tryz.f101) rfl]
   simp only [a0a,a2a,a1a,G,Z,Y,Gx,vV,simprocAttr,fb2,fb3,fb9,c2a,b7a,g2a]
   exact ⟨_,_,rfl,.str,rfl⟩
  ·dsimp only
   rw [if_neg h3]
   refine a3a.e Tryz.func101 rfl Tryz.ntmps101 (by rfl) ?_
   repeat' (first|refine Go.a rfl ?_|refine Go.rg ?_|refine GoR.nil ?_|refine Go.ret ?_|refine Go.b rfl ?_|refine Go.rgS dmx (by decide) ?_|(refine GoR.o (by rfl) (by rfl) ?_;(conv=>arg 1;simp only [G,Z,Y,Gx,vV,simprocAttr,fb2,fb3,fb9,c2a,b7a,g2a,decide_eq_false h1,decide_eq_false h2,decide_eq_false h3,show (([a].length:Nat):Int)=1 from rfl]);show GoR ..)|refine GoR.s (by rfl) rfl rfl ?_|(refine GoR.b1a rfl (fun hc => ?_) (fun hc => ?_)<;>simp only [hc])|refine Go.b0a rfl (fun hc => ?_) (fun hc => ?_))
   refine ⟨(by first | exact .inl rfl | exact .inr rfl),fin ?_⟩
   rw [a8a (fn:=Tryz.f101) rfl]
   simp only [a0a,a2a,a1a,G,Z,Y,Gx,vV,simprocAttr,fb2,fb3,fb9,c2a,b7a,g2a]
   exact ⟨_,_,rfl,.str,rfl⟩
 ·have ha:=hts a (by simp)
  have hb:=hts b (by simp)
  have s1:((⟨#[40]⟩:ByteArray)++a).size=1+a.size:=d2a _ _
  have s2:(((⟨#[40]⟩:ByteArray)++a)++(⟨#[32]⟩:ByteArray)).size=2+a.size:=by rw [d2a,s1];show 1+a.size+1=_;omega
  have s3:((((⟨#[40]⟩:ByteArray)++a)++(⟨#[32]⟩:ByteArray))++op).size=2+a.size+op.size:=by rw [d2a,s2]
  have s4:(((((⟨#[40]⟩:ByteArray)++a)++(⟨#[32]⟩:ByteArray))++op)++(⟨#[32]⟩:ByteArray)).size=3+a.size+op.size:=by rw [d2a,s3];show _+1=_;omega
  have s5:((((((⟨#[40]⟩:ByteArray)++a)++(⟨#[32]⟩:ByteArray))++op)++(⟨#[32]⟩:ByteArray))++b).size=3+a.size+op.size+b.size:=by rw [d2a,s4]
  have a1:=fun {t x y} => e4a (P:=Tryz.prog) (t:=t) (x:=x) (y:=y) (a:=(⟨#[40]⟩:ByteArray)) (b:=a) (show 1+a.size<4611686018427387904 by omega)
  have a2:=fun {t x y} => e4a (P:=Tryz.prog) (t:=t) (x:=x) (y:=y) (a:=(⟨#[40]⟩:ByteArray)++a) (b:=(⟨#[32]⟩:ByteArray)) (by rw [s1];show _+1<_;omega)
  have a3:=fun {t x y} => e4a (P:=Tryz.prog) (t:=t) (x:=x) (y:=y) (a:=((⟨#[40]⟩:ByteArray)++a)++(⟨#[32]⟩:ByteArray)) (b:=op) (by rw [s2];omega)
  have a4:=fun {t x y} => e4a (P:=Tryz.prog) (t:=t) (x:=x) (y:=y) (a:=(((⟨#[40]⟩:ByteArray)++a)++(⟨#[32]⟩:ByteArray))++op) (b:=(⟨#[32]⟩:ByteArray)) (by rw [s3];show _+1<_;omega)
  have a5:=fun {t x y} => e4a (P:=Tryz.prog) (t:=t) (x:=x) (y:=y) (a:=((((⟨#[40]⟩:ByteArray)++a)++(⟨#[32]⟩:ByteArray))++op)++(⟨#[32]⟩:ByteArray)) (b:=b) (by rw [s4];omega)
  have a6:=fun {t x y} => e4a (P:=Tryz.prog) (t:=t) (x:=x) (y:=y) (a:=(((((⟨#[40]⟩:ByteArray)++a)++(⟨#[32]⟩:ByteArray))++op)++(⟨#[32]⟩:ByteArray))++b) (b:=(⟨#[41]⟩:ByteArray)) (by rw [s5];show _+1<_;omega)
  by_cases h3:op=(⟨#[110,101,103]⟩:ByteArray)
  ·refine a3a.e Tryz.func101 rfl Tryz.ntmps101 (by rfl) ?_
   repeat' (first|refine Go.a rfl ?_|refine Go.rg ?_|refine GoR.nil ?_|refine Go.ret ?_|refine Go.b rfl ?_|refine Go.rgS dmx (by decide) ?_|(refine GoR.o (by rfl) (by rfl) ?_;(conv=>arg 1;simp only [G,Z,Y,Gx,vV,simprocAttr,fb2,fb3,fb9,c2a,b7a,g2a,decide_eq_false h1,decide_eq_false h2,decide_eq_true h3,show (([a,b].length:Nat):Int)=2 from rfl,show ((2:Int)==1)=false from rfl,List.map_cons,List.map_nil,a1,a2,a3,a4,a5,a6]);show GoR ..)|refine GoR.s (by rfl) rfl rfl ?_|(refine GoR.b1a rfl (fun hc => ?_) (fun hc => ?_)<;>simp only [hc])|refine Go.b0a rfl (fun hc => ?_) (fun hc => ?_))
   refine ⟨(by first | exact .inl rfl | exact .inr rfl),fin ?_⟩
   rw [a8a (fn:=Tryz.f101) rfl]
   simp only [a0a,a2a,a1a,G,Z,Y,Gx,vV,simprocAttr,fb2,fb3,fb9,c2a,b7a,g2a]
   exact ⟨_,_,rfl,.str,rfl⟩
  ·refine a3a.e Tryz.func101 rfl Tryz.ntmps101 (by rfl) ?_
   repeat' (first|refine Go.a rfl ?_|refine Go.rg ?_|refine GoR.nil ?_|refine Go.ret ?_|refine Go.b rfl ?_|refine Go.rgS dmx (by decide) ?_|(refine GoR.o (by rfl) (by rfl) ?_;(conv=>arg 1;simp only [G,Z,Y,Gx,vV,simprocAttr,fb2,fb3,fb9,c2a,b7a,g2a,decide_eq_false h1,decide_eq_false h2,decide_eq_false h3,show (([a,b].length:Nat):Int)=2 from rfl,show ((2:Int)==1)=false from rfl,List.map_cons,List.map_nil,a1,a2,a3,a4,a5,a6]);show GoR ..)|refine GoR.s (by rfl) rfl rfl ?_|(refine GoR.b1a rfl (fun hc => ?_) (fun hc => ?_)<;>simp only [hc])|refine Go.b0a rfl (fun hc => ?_) (fun hc => ?_))
   refine ⟨(by first | exact .inl rfl | exact .inr rfl),fin ?_⟩
   rw [a8a (fn:=Tryz.f101) rfl]
   simp only [a0a,a2a,a1a,G,Z,Y,Gx,vV,simprocAttr,fb2,fb3,fb9,c2a,b7a,g2a]
   exact ⟨_,_,rfl,.str,rfl⟩
 ·have l1:(((r.length+1+1+1:Nat):Int)==1)=false:=by simp;omega
  have l2:(((r.length+1+1+1:Nat):Int)==2)=false:=by simp;omega
  by_cases h3:op=(⟨#[110,101,103]⟩:ByteArray)
  ·refine a3a.e Tryz.func101 rfl Tryz.ntmps101 (by rfl) ?_
   repeat' (first|refine Go.a rfl ?_|refine Go.rg ?_|refine GoR.nil ?_|refine Go.ret ?_|refine Go.b rfl ?_|refine Go.rgS dmx (by decide) ?_|(refine GoR.o (by rfl) (by rfl) ?_;(conv=>arg 1;simp only [G,Z,Y,Gx,vV,simprocAttr,fb2,fb3,fb9,c2a,b7a,g2a,decide_eq_false h1,decide_eq_false h2,decide_eq_true h3,List.length_cons,l1,l2]);show GoR ..)|refine GoR.s (by rfl) rfl rfl ?_|(refine GoR.b1a rfl (fun hc => ?_) (fun hc => ?_)<;>simp only [hc])|refine Go.b0a rfl (fun hc => ?_) (fun hc => ?_))
   refine ⟨(by first | exact .inl rfl | exact .inr rfl),fin ?_⟩
   rw [a8a (fn:=Tryz.f101) rfl]
   simp only [a0a,a2a,a1a,G,Z,Y,Gx,vV,simprocAttr,fb2,fb3,fb9,c2a,b7a,g2a]
   exact ⟨_,_,rfl,.str,rfl⟩
  ·refine a3a.e Tryz.func101 rfl Tryz.ntmps101 (by rfl) ?_
   repeat' (first|refine Go.a rfl ?_|refine Go.rg ?_|refine GoR.nil ?_|refine Go.ret ?_|refine Go.b rfl ?_|refine Go.rgS dmx (by decide) ?_|(refine GoR.o (by rfl) (by rfl) ?_;(conv=>arg 1;simp only [G,Z,Y,Gx,vV,simprocAttr,fb2,fb3,fb9,c2a,b7a,g2a,decide_eq_false h1,decide_eq_false h2,decide_eq_false h3,List.length_cons,l1,l2]);show GoR ..)|refine GoR.s (by rfl) rfl rfl ?_|(refine GoR.b1a rfl (fun hc => ?_) (fun hc => ?_)<;>simp only [hc])|refine Go.b0a rfl (fun hc => ?_) (fun hc => ?_))
   refine ⟨(by first | exact .inl rfl | exact .inr rfl),fin ?_⟩
   rw [a8a (fn:=Tryz.f101) rfl]
   simp only [a0a,a2a,a1a,G,Z,Y,Gx,vV,simprocAttr,fb2,fb3,fb9,c2a,b7a,g2a]
   exact ⟨_,_,rfl,.str,rfl⟩
theorem v7d {n:Nd} (h:Whole n):n.op.size<1000:=by
 obtain ⟨op,nm,n,ks⟩:=n
 rcases p1a h with ⟨rfl,_⟩ | ⟨rfl,_⟩ | ⟨k,rfl,_⟩ | ⟨k,k2,hq,hop,_⟩
 ·exact (by decide:(3:Nat)<1000)
 ·exact (by decide:(4:Nat)<1000)
 ·exact (by decide:(3:Nat)<1000)
 ·rcases hop with rfl | rfl | rfl | rfl | rfl<;>exact (by decide:(1:Nat)<1000)
theorem e4f (n:Nd) (hw:Whole n) (hc:cnt n≤1000) : ∀ (S:Mem),
  a3a Tryz.prog O 100 [.agg n.c,.fn (.func 101) [] []] S fun d S'=>S'=S∧d = .str (textS n):=by
 induction n using Nd.ind with
 | h op nm n ks ih=>
  intro S
  have hop:op.size<1000:=v7d hw
  obtain ⟨har,hnm,hz,hi,hk,_⟩:=hw
  rw [z9a] at hc
  have hks:ks.length≤1000:=by
   have:=i4d.i8c (ks:=ks) (i:=ks.length) (Nat.le_refl _)
   rw [List.take_length] at this
   omega
  rw [Nd.k0a,r9b]
  refine a3a.e Tryz.func100 rfl Tryz.ntmps100 (by rfl) ?_
  repeat' (first|refine Go.a rfl ?_|refine Go.rg ?_|refine GoR.nil ?_|refine Go.ret ?_|refine Go.b rfl ?_|(refine GoR.o (by rfl) (by rfl) ?_;(conv=>arg 1;simp only [G,Z,Y,Gx,vV,simprocAttr,fb2,fb3,fb9,c2a,b7a,g2a]);show GoR ..)|refine Go.b0a rfl (fun hc => ?_) (fun hc => ?_))
  refine Go.keep [(1,.fn (.func 101) [] []),(2,.ptr S.length 0),(5,.c5a),(9,.sl none 4 ks.length (d3a ks)),(10,.int .i64 (ks.length:Int)),(11,.int .i64 ((0:Nat):Int))] (.cons .refl (.cons .refl (.cons .refl (.cons .refl (.cons .refl (.cons .refl (.nil))))))) ?_
  refine Go.while (α:=Nat×D×Mem) (fun a=>ks.length - a.1) (fun a=>[(1,.fn (.func 101) [] []),(2,.ptr S.length 0),(5,a.2.1),(9,.sl none 4 ks.length (d3a ks)),(10,.int .i64 (ks.length:Int)),(11,.int .i64 (a.1:Int))])
   (fun a=>S++(.obj [.str op,.str nm,.int .i64 n,.sl none 4 ks.length (d3a ks)]::a.2.2))
   (fun a=>a.1≤ks.length∧z7b (S.length+1) a.2.1 1 a.1 (((ks.take a.1).map textS).map .str) (S++(.obj [.str op,.str nm,.int .i64 n,.sl none 4 ks.length (d3a ks)]::a.2.2)))
   ?_ (0,.c5a,[]) ⟨Nat.zero_le _,.inl ⟨rfl,rfl,rfl⟩⟩
  rintro ⟨i,o,E⟩ ⟨hii,hacc⟩ next
  dsimp only at hii hacc next
  by_cases h1:i<ks.length
  ·have ihk:=fun S'=>ih _ (List.getElem_mem h1) (hk _ (List.getElem_mem h1)) (by have:=e7c (List.getElem_mem h1);omega) S'
   have hmap:((ks.take (i+1)).map textS).map D.str=((ks.take i).map textS).map .str++[.str (textS ks[i])]:=by
    rw [← List.take_append_getElem h1,List.map_append,List.map_append]
    rfl
   cases hq:ks[i] with
   | mk kop knm kn kks=>
   rw [hq] at ihk hmap
   rw [Nd.k0a] at ihk
   obtain ⟨o',S2,hap,a4b,hg2⟩:=(hacc.app [.obj [.str kop,.str knm,.int .i64 kn,.sl none 4 kks.length (d3a kks)],.own]).append (P:=Tryz.prog) q2a (own:=some (S.length+(E.length+1+1))) (m:=1) (new:=[.str (textS (.mk kop knm kn kks))]) (by simp) (by omega) ⟨by omega,by omega,by omega,rfl⟩
   obtain ⟨E2,rfl⟩:=hg2.pre (E++[.obj [.str kop,.str knm,.int .i64 kn,.sl none 4 kks.length (d3a kks)],.own]) (S++[.obj [.str op,.str nm,.int .i64 n,.sl none 4 ks.length (d3a ks)]]) (by simp) (by simp)
   rw [← hmap] at a4b
   simp only [List.append_assoc,List.cons_append,List.nil_append] at hap a4b
   have ho:=hacc.one
   have ho2:=a4b.one
   repeat' (first|refine Go.a rfl ?_|refine Go.rg ?_|refine GoR.nil ?_|refine Go.ret ?_|refine Go.b rfl ?_|(refine GoR.o (by rfl) (by rfl) ?_;(conv=>arg 1;simp only [G,Z,Y,Gx,vV,simprocAttr,fb2,fb3,fb9,c2a,b7a,g2a,ho,ho2,u5a h1,hq,Nd.k0a,b9a (show i<4611686018427387904 by omega),hap,builtin_append,show decide ((i:Int)<(ks.length:Int))=true by simp;omega]);show GoR ..)|(refine GoR.c i4f (by rfl) (by rfl) rfl ?_;(refine (ihk _).ret ?_))|refine Go.b0a rfl (fun hc => ?_) (fun hc => ?_))
   refine Go.lpN ?_
   refine Go.keep [(1,.fn (.func 101) [] []),(2,.ptr S.length 0),(5,o'),(9,.sl none 4 ks.length (d3a ks)),(10,.int .i64 (ks.length:Int)),(11,.int .i64 ((i+1:Nat):Int))] (.cons .refl (.cons .refl (.cons .refl (.cons .refl (.cons .refl (.cons .refl (.nil))))))) ?_
   exact next (i+1,o',E2) (by dsimp only;omega) ⟨h1,a4b⟩
  ·clear next
   have hi':i=ks.length:=by omega
   subst hi'
   rw [List.take_length] at hacc
   have ho:=hacc.one
   have hcall:=fun S'=>text1 op nm n hi hop (d3a ks) ks.length (ks.map textS) (fun t ht=>by
    obtain ⟨k,hkm,rfl⟩:=List.mem_map.1 ht
    have h2:=text_size k (hk k hkm)
    have h3:=e7c hkm
    omega) none S'
   rw [List.length_map] at hcall
   repeat' (first|refine Go.a rfl ?_|refine Go.rg ?_|refine GoR.nil ?_|refine Go.ret ?_|refine Go.b rfl ?_|(refine GoR.o (by rfl) (by rfl) ?_;(conv=>arg 1;simp only [G,Z,Y,Gx,vV,simprocAttr,fb2,fb3,fb9,c2a,b7a,g2a,ho,show decide ((ks.length:Int)<(ks.length:Int))=false by simp]);show GoR ..)|(refine GoR.c k8f (by rfl) (by rfl) rfl ?_;(refine a3a.weak (args':=[.agg [.str op,.str nm,.int .i64 n,.sl none 4 ks.length (d3a ks)],.sl none 1 ks.length ((ks.map textS).map .str)]) (.cons .refl (.cons hacc.wf .nil)) ((hcall _).ret ?_)))|refine Go.b0a rfl (fun hc => ?_) (fun hc => ?_))
   refine ⟨(by first | exact .inl rfl | exact .inr rfl),fin ?_⟩
   rw [a8a (fn:=Tryz.f100) rfl]
   simp only [a0a,a2a,a1a,G,Z,Y,Gx,vV,simprocAttr,fb2,fb3,fb9,c2a,b7a,g2a]
   exact ⟨_,_,rfl,.str,rfl⟩
theorem q9b (n:Nd) (hw:Whole n) (hc:cnt n≤1000) (S:Mem):a3a Tryz.prog O 51 [.agg n.c] S fun d S'=>S'=S∧d = .str (textS n):=by
 have hf:=e4f n hw hc
 obtain ⟨op,nm,n,ks⟩:=n
 rw [Nd.k0a] at hf ⊢
 refine a3a.e Tryz.func51 rfl Tryz.ntmps51 (by rfl) ?_
 repeat' (first|refine Go.a rfl ?_|refine Go.rg ?_|refine GoR.nil ?_|refine Go.ret ?_|refine Go.b rfl ?_|(refine GoR.o (by rfl) (by rfl) ?_;(conv=>arg 1;simp only [G,Z,Y,Gx,vV,simprocAttr,fb2,fb9,c2a,b7a]);show GoR ..)|(refine GoR.c i4f (by rfl) (by rfl) rfl ?_;(refine (hf _).ret ?_))|refine Go.b0a rfl (fun hc => ?_) (fun hc => ?_))
 refine ⟨(by first | exact .inl rfl | exact .inr rfl),fin ?_⟩
 rw [a8a (fn:=Tryz.f51) rfl]
 simp only [a0a,a2a,a1a,G,Z,Y,Gx,vV,simprocAttr,fb2,fb9,c2a,b7a]
 exact ⟨_,_,rfl,.str,rfl⟩
theorem z3a (n:Nd) (hw:Whole n) (hc:cnt n≤1000) : ∀ (S:Mem),a3a Tryz.prog orc 48 [.agg n.c] S fun d S'=>S'=S∧d = .str (textS n):=by
 induction n using Nd.ind with
 | h op nm n ks ih=>
  intro S
  rw [z9a] at hc
  rw [Nd.k0a,r9b]
  rcases p1a hw with ⟨rfl,rfl,h0,hi⟩ | ⟨rfl,rfl,hn⟩ | ⟨k,rfl,rfl,hk⟩ | ⟨k,k2,hq,hop,rfl,hk,hk2⟩
  ·have hd:=fun S=>y1c (orc:=orc) n.toNat (by have:=hi.2;omega) S
   rw [show ((n.toNat:Nat):Int)=n by omega] at hd
   refine a3a.e Tryz.func48 rfl Tryz.ntmps48 (by rfl) ?_
   repeat' (first|refine Go.a rfl ?_|refine Go.rg ?_|refine GoR.nil ?_|refine Go.ret ?_|refine Go.b rfl ?_|refine Go.rgS dmx (by decide) ?_|refine Go.rgD [8,12,14] (fun _=>True) dmx (by decide) 19 (by decide) (by trivial) ?_|refine GoW.nil rfl ?_|((first|refine GoR.o (by rfl) (by rfl) ?_|refine GoW.o (by rfl) (by rfl) ?_|refine GoW.rd (by rfl) (by rfl) ?_);(conv=>arg 1;simp only [G,Z,Y,Gx,vV,simprocAttr,fb2,fb9,h4a,g4a]);first|show GoR ..|(show _∧GoW ..;refine ⟨by exact fun _=>trivial,?_⟩)|(show _∧_∧_∧GoW ..;refine ⟨rfl,by trivial,(fun H _=>by simp only [G,Z,Y,Gx,vV,simprocAttr,fb2,fb9,h4a,g4a]),?_⟩))|(refine GoW.c c49 (by rfl) (by rfl) rfl ?_;(refine (hd _).ret ?_);refine ⟨by exact fun _=>trivial,?_⟩)|(refine GoR.c c49 (by rfl) (by rfl) rfl ?_;(refine (hd _).ret ?_))|refine Go.b0a rfl (fun hc => ?_) (fun hc => ?_))
   refine ⟨(by first | exact .inl rfl | exact .inr rfl),fin ?_⟩
   rw [a8a (fn:=Tryz.f48) rfl]
   simp only [a0a,a2a,a1a,G,Z,Y,Gx,vV,simprocAttr,fb2,fb9,h4a,g4a]
   exact ⟨_,_,rfl,.str,rfl⟩
  ·refine a3a.e Tryz.func48 rfl Tryz.ntmps48 (by rfl) ?_
   repeat' (first|refine Go.a rfl ?_|refine Go.rg ?_|refine GoR.nil ?_|refine Go.ret ?_|refine Go.b rfl ?_|refine Go.rgS dmx (by decide) ?_|refine Go.rgD [8,12,14] (fun _=>True) dmx (by decide) 19 (by decide) (by trivial) ?_|refine GoW.nil rfl ?_|((first|refine GoR.o (by rfl) (by rfl) ?_|refine GoW.o (by rfl) (by rfl) ?_|refine GoW.rd (by rfl) (by rfl) ?_);(conv=>arg 1;simp only [G,Z,Y,Gx,vV,simprocAttr,fb2,fb9,h4a,g4a]);first|show GoR ..|(show _∧GoW ..;refine ⟨by exact fun _=>trivial,?_⟩)|(show _∧_∧_∧GoW ..;refine ⟨rfl,by trivial,(fun H _=>by simp only [G,Z,Y,Gx,vV,simprocAttr,fb2,fb9,h4a,g4a]),?_⟩))|refine Go.b0a rfl (fun hc => ?_) (fun hc => ?_))
   refine ⟨(by first | exact .inl rfl | exact .inr rfl),fin ?_⟩
   rw [a8a (fn:=Tryz.f48) rfl]
   simp only [a0a,a2a,a1a,G,Z,Y,Gx,vV,simprocAttr,fb2,fb9,h4a,g4a]
   exact ⟨_,_,rfl,.str,rfl⟩
  ·have ihk:=ih k (by simp) hk (by simp only [cnts,List.map_cons,List.map_nil,List.sum_cons,List.sum_nil] at hc;omega)
   have hsz:=text_size k hk
   simp only [cnts,List.map_cons,List.map_nil,List.sum_cons,List.sum_nil] at hc
   have hat:=u5a (l:=[k]) (i:=0) (by simp)
   have ha:=fun {t x y} => e4a (P:=Tryz.prog) (t:=t) (x:=x) (y:=y) (a:=(⟨#[45]⟩:ByteArray)) (b:=textS k) (show 1+(textS k).size<4611686018427387904 by omega)
   have e1:d3a [k]=k.c:=by simp [d3a]
   rw [e1]
   obtain ⟨kop,knm,kn,kks⟩:=k
   rw [Nd.k0a] at ihk ⊢
   refine a3a.e Tryz.func48 rfl Tryz.ntmps48 (by rfl) ?_
   repeat' (first|refine Go.a rfl ?_|refine Go.rg ?_|refine GoR.nil ?_|refine Go.ret ?_|refine Go.b rfl ?_|refine Go.rgS dmx (by decide) ?_|refine Go.rgD [8,12,14] (fun _=>True) dmx (by decide) 19 (by decide) (by trivial) ?_|refine GoW.nil rfl ?_|((first|refine GoR.o (by rfl) (by rfl) ?_|refine GoW.o (by rfl) (by rfl) ?_|refine GoW.rd (by rfl) (by rfl) ?_);(conv=>arg 1;simp only [G,Z,Y,Gx,vV,simprocAttr,fb2,fb9,h4a,g4a,ha,show (([Nd.mk kop knm kn kks].length:Nat):Int)=1 from rfl,List.length_cons,List.length_nil,show ((0:Int)<((1:Nat):Int))=True by simp,List.map_cons,List.map_nil]);first|show GoR ..|(show _∧GoW ..;refine ⟨by exact fun _=>trivial,?_⟩)|(show _∧_∧_∧GoW ..;refine ⟨rfl,by trivial,(fun H _=>by simp only [G,Z,Y,Gx,vV,simprocAttr,fb2,fb9,h4a,g4a,ha,show (([Nd.mk kop knm kn kks].length:Nat):Int)=1 from rfl,List.length_cons,List.length_nil,show ((0:Int)<((1:Nat):Int))=True by simp,List.map_cons,List.map_nil]),?_⟩))|(refine GoW.c c48 (by rfl) (by rfl) rfl ?_;(refine (ihk _).ret ?_);refine ⟨by exact fun _=>trivial,?_⟩)|(refine GoR.c c48 (by rfl) (by rfl) rfl ?_;(refine (ihk _).ret ?_))|refine Go.b0a rfl (fun hc => ?_) (fun hc => ?_))
   refine ⟨(by first | exact .inl rfl | exact .inr rfl),fin ?_⟩
   rw [a8a (fn:=Tryz.f48) rfl]
   simp only [a0a,a2a,a1a,G,Z,Y,Gx,vV,simprocAttr,fb2,fb9,h4a,g4a]
   exact ⟨_,_,rfl,.str,rfl⟩
  ·simp only [cnts,List.map_cons,List.map_nil,List.sum_cons,List.sum_nil] at hc
   have ihk:=ih k (by simp) hk (by omega)
   have g0f:=ih k2 (by simp) hk2 (by omega)
   have hz1:=text_size k hk
   have hz2:=text_size k2 hk2
   have e:p5c op nm n ([k,k2].map textS)=((((((⟨#[40]⟩:ByteArray)++textS k)++(⟨#[32]⟩:ByteArray))++op)++(⟨#[32]⟩:ByteArray))++textS k2)++(⟨#[41]⟩:ByteArray):=by
    rcases hop with rfl | rfl | rfl | rfl | rfl<;>rfl
   have eo:op.size=1:=by rcases hop with rfl | rfl | rfl | rfl | rfl<;>rfl
   have n1:decide (op=(⟨#[110,117,109]⟩:ByteArray))=false:=by rcases hop with rfl | rfl | rfl | rfl | rfl<;>decide
   have n2:decide (op=(⟨#[110,97,109,101]⟩:ByteArray))=false:=by rcases hop with rfl | rfl | rfl | rfl | rfl<;>decide
   have n3:decide (op=(⟨#[110,101,103]⟩:ByteArray))=false:=by rcases hop with rfl | rfl | rfl | rfl | rfl<;>decide
   rw [e]
   generalize textS k=a at *
   generalize textS k2=b at *
   have s1:((⟨#[40]⟩:ByteArray)++a).size=1+a.size:=d2a _ _
   have s2:(((⟨#[40]⟩:ByteArray)++a)++(⟨#[32]⟩:ByteArray)).size=2+a.size:=by rw [d2a,s1];show 1+a.size+1=_;omega
   have s3:((((⟨#[40]⟩:ByteArray)++a)++(⟨#[32]⟩:ByteArray))++op).size=2+a.size+op.size:=by rw [d2a,s2]
   have s4:(((((⟨#[40]⟩:ByteArray)++a)++(⟨#[32]⟩:ByteArray))++op)++(⟨#[32]⟩:ByteArray)).size=3+a.size+op.size:=by rw [d2a,s3];show _+1=_;omega
   have s5:((((((⟨#[40]⟩:ByteArray)++a)++(⟨#[32]⟩:ByteArray))++op)++(⟨#[32]⟩:ByteArray))++b).size=3+a.size+op.size+b.size:=by rw [d2a,s4]
   have a1:=fun {t x y} => e4a (P:=Tryz.prog) (t:=t) (x:=x) (y:=y) (a:=(⟨#[40]⟩:ByteArray)) (b:=a) (show 1+a.size<4611686018427387904 by omega)
   have a2:=fun {t x y} => e4a (P:=Tryz.prog) (t:=t) (x:=x) (y:=y) (a:=(⟨#[40]⟩:ByteArray)++a) (b:=(⟨#[32]⟩:ByteArray)) (by rw [s1];show _+1<_;omega)
   have a3:=fun {t x y} => e4a (P:=Tryz.prog) (t:=t) (x:=x) (y:=y) (a:=((⟨#[40]⟩:ByteArray)++a)++(⟨#[32]⟩:ByteArray)) (b:=op) (by rw [s2];omega)
   have a4:=fun {t x y} => e4a (P:=Tryz.prog) (t:=t) (x:=x) (y:=y) (a:=(((⟨#[40]⟩:ByteArray)++a)++(⟨#[32]⟩:ByteArray))++op) (b:=(⟨#[32]⟩:ByteArray)) (by rw [s3];show _+1<_;omega)
   have a5:=fun {t x y} => e4a (P:=Tryz.prog) (t:=t) (x:=x) (y:=y) (a:=((((⟨#[40]⟩:ByteArray)++a)++(⟨#[32]⟩:ByteArray))++op)++(⟨#[32]⟩:ByteArray)) (b:=b) (by rw [s4];omega)
   have a6:=fun {t x y} => e4a (P:=Tryz.prog) (t:=t) (x:=x) (y:=y) (a:=(((((⟨#[40]⟩:ByteArray)++a)++(⟨#[32]⟩:ByteArray))++op)++(⟨#[32]⟩:ByteArray))++b) (b:=(⟨#[41]⟩:ByteArray)) (by rw [s5];show _+1<_;omega)
   obtain ⟨kop,knm,kn,kks⟩:=k
   obtain ⟨g5f,g4f,kn2,u9e⟩:=k2
   have e1:d3a [.mk kop knm kn kks,.mk g5f g4f kn2 u9e]=[.str kop,.str knm,.int .i64 kn,.sl none 4 kks.length (d3a kks),.str g5f,.str g4f,.int .i64 kn2,.sl none 4 u9e.length (d3a u9e)]:=by simp [d3a,Nd.k0a]
   rw [e1]
   rw [Nd.k0a] at ihk g0f
   refine a3a.e Tryz.func48 rfl Tryz.ntmps48 (by rfl) ?_
   repeat' (first|refine Go.a rfl ?_|refine Go.rg ?_|refine GoR.nil ?_|refine Go.ret ?_|refine Go.b rfl ?_|refine Go.rgS dmx (by decide) ?_|refine Go.rgD [8,12,14] (fun H=>b6a H S.length=some [.str op,.str nm,.int .i64 n,.sl none 4 2 [.str kop,.str knm,.int .i64 kn,.sl none 4 kks.length (d3a kks),.str g5f,.str g4f,.int .i64 kn2,.sl none 4 u9e.length (d3a u9e)]]) dmx (by decide) 19 (by decide) (by (first | rfl | simp only [a6a,a4a] | simp only [a6a,a4a,List.length_cons,List.length_nil])) ?_|refine GoW.nil rfl ?_|((first|refine GoR.o (by rfl) (by rfl) ?_|refine GoW.o (by rfl) (by rfl) ?_|refine GoW.rd (by rfl) (by rfl) ?_);(conv=>arg 1;simp only [G,Z,Y,Gx,vV,simprocAttr,fb2,fb9,h4a,g4a,n1,n2,n3,a1,a2,a3,a4,a5,a6,List.length_cons,List.length_nil,show ((0:Int)<((2:Nat):Int))=True by simp,show ((1:Int)<((2:Nat):Int))=True by simp]);first|show GoR ..|(show _∧GoW ..;refine ⟨by (first|exact fun h=>absurd h (by decide)|(intro _;(first | rfl | simp only [a6a,a4a] | simp only [a6a,a4a,List.length_cons,List.length_nil]))),?_⟩)|(show _∧_∧_∧GoW ..;refine ⟨rfl,by (first | rfl | simp only [a6a,a4a] | simp only [a6a,a4a,List.length_cons,List.length_nil]),(fun H hI=>by (try dsimp only at hI);simp only [G,Z,Y,Gx,vV,simprocAttr,fb2,fb9,h4a,g4a,n1,n2,n3,a1,a2,a3,a4,a5,a6,List.length_cons,List.length_nil,show ((0:Int)<((2:Nat):Int))=True by simp,show ((1:Int)<((2:Nat):Int))=True by simp,hI]),?_⟩))|(refine GoW.c c48 (by rfl) (by rfl) rfl ?_;(first | refine (ihk _).ret ?_ | refine (g0f _).ret ?_);refine ⟨by (first|exact fun h=>absurd h (by decide)|(intro _;(first | rfl | simp only [a6a,a4a] | simp only [a6a,a4a,List.length_cons,List.length_nil]))),?_⟩)|(refine GoR.c c48 (by rfl) (by rfl) rfl ?_;(first | refine (ihk _).ret ?_ | refine (g0f _).ret ?_))|refine Go.b0a rfl (fun hc => ?_) (fun hc => ?_))
   refine ⟨(by first | exact .inl rfl | exact .inr rfl),fin ?_⟩
   rw [a8a (fn:=Tryz.f48) rfl]
   simp only [a0a,a2a,a1a,G,Z,Y,Gx,vV,simprocAttr,fb2,fb9,h4a,g4a]
   exact ⟨_,_,rfl,.str,rfl⟩
end Go.Proofs.DgT
