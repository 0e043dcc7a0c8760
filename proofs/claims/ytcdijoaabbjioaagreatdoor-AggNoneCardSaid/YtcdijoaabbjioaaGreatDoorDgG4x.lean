/- Whether two numbers hold by a sign; a condition, by the program. -/
import Derived.Test.YtcdijoaabbjioaaGreatDoorDgG1x
set_option linter.unusedSimpArgs false
set_option linter.unusedVariables false
namespace Go.Proofs.DgT
open Go Go.DM
set_option maxRecDepth 100000
variable {orc:DOracle}
def holdsF (s:ByteArray) (a b:Int):Bool×Bool:=
 if s=(⟨#[61]⟩:ByteArray) then (a==b,true) else if s=(⟨#[33,61]⟩:ByteArray) then (a != b,true) else if s=(⟨#[60]⟩:ByteArray) then (decide (a<b),true) else if s=(⟨#[60,61]⟩:ByteArray) then (decide (a≤b),true) else if s=(⟨#[62]⟩:ByteArray) then (decide (b<a),true) else if s=(⟨#[62,61]⟩:ByteArray) then (decide (b≤a),true) else (false,false)
def opOk (s:ByteArray):Bool:=(holdsF s 0 0).2
theorem holds_ok {s:ByteArray} {a b:Int} : (holdsF s a b).2=opOk s:=by
 unfold opOk holdsF
 repeat' split
 all_goals rfl
theorem calcHolds (s:ByteArray) (a b:Int) (S:Mem):CallD Tryz.prog orc 47 [.str s,.int .i64 a,.int .i64 b] S fun d S'=>S'=S∧d = .tup [.bool (holdsF s a b).1,.bool (holdsF s a b).2]:=by
 refine CallD.e Tryz.func47 rfl Tryz.ntmps47 (by rfl) ?_
 repeat' (first|refine Go.a rfl ?_|refine Go.rg ?_|refine GoR.nil ?_|refine Go.ret ?_|refine Go.b rfl ?_|(refine GoR.o (by rfl) (by rfl) ?_;(conv=>arg 1;simp only [G,Z,Y,Gx,vV,simprocAttr,fb2,fb9]);show GoR ..)|refine Go.condB rfl (fun hc => ?_) (fun hc => ?_))
 all_goals
  refine ⟨(by first | exact .inl rfl | exact .inr rfl),fin ?_⟩
  rw [resD_two (fn:=Tryz.f47) rfl]
  simp only [optThen_some,resultD_tmp,resultD_cell,G,Z,Y,Gx,vV,simprocAttr,fb2,fb9]
  refine ⟨_,[],by simp,Wk.of_low (.tup' (.cons (.bool _) (.cons (.bool _) .nil))),?_⟩
  simp_all [holdsF]
theorem refHolds (s:ByteArray) (a b:Int) (S:Mem):CallD Tryz.prog orc 40 [.str s,.int .i64 a,.int .i64 b] S fun d S'=>S'=S∧d = .tup [.bool (holdsF s a b).1,.bool (holdsF s a b).2]:=by
 refine CallD.e Tryz.func40 rfl Tryz.ntmps40 (by rfl) ?_
 repeat' (first|refine Go.a rfl ?_|refine Go.rg ?_|refine GoR.nil ?_|refine Go.ret ?_|refine Go.b rfl ?_|(refine GoR.o (by rfl) (by rfl) ?_;(conv=>arg 1;simp only [G,Z,Y,Gx,vV,simprocAttr,fb2,fb9]);show GoR ..)|refine Go.condB rfl (fun hc => ?_) (fun hc => ?_))
 all_goals
  refine ⟨(by first | exact .inl rfl | exact .inr rfl),fin ?_⟩
  rw [resD_two (fn:=Tryz.f40) rfl]
  simp only [optThen_some,resultD_tmp,resultD_cell,G,Z,Y,Gx,vV,simprocAttr,fb2,fb9]
  refine ⟨_,[],by simp,Wk.of_low (.tup' (.cons (.bool _) (.cons (.bool _) .nil))),?_⟩
  simp_all [holdsF]
structure Cd where
 op:ByteArray
 a:Nd
 b:Nd
def Cd.c (x:Cd):List D:=.str x.op::(x.a.c++x.b.c)
theorem Cd.len (x:Cd):(Cd.c x).length=9:=by simp [Cd.c,Nd.len]
theorem cd_low {m:Nat} (x:Cd):LowL m (Cd.c x):=.cons (.str _) (.append (Nd.low _) (Nd.low _))
end Go.Proofs.DgT
namespace Go.Proofs.DgT
open Go Go.DM
set_option maxRecDepth 100000
end Go.Proofs.DgT
namespace Go.Proofs.DgT
open Go Go.DM
set_option maxRecDepth 100000
variable {orc:DOracle}
theorem resD_four {P:Program} {fn:Func} {ρ:DEnv} {S:Mem} {x y z u:ResultVar} (h:fn.results = #[x,y,z,u]):resultsD P fn ρ S=(resultD P ρ S x).bind fun a=>(resultD P ρ S y).bind fun b=>(resultD P ρ S z).bind fun c=>(resultD P ρ S u).bind fun d=>some (.tup [a,b,c,d]):=by
 simp only [resultsD,h,resultsL]
 cases resultD P ρ S x with
 | none=>rfl
 | some a=>
  cases resultD P ρ S y with
  | none=>rfl
  | some b=>
   cases resultD P ρ S z with
   | none=>rfl
   | some c=>cases resultD P ρ S u<;>rfl
def needsF (s:ByteArray):Bool×Bool×Bool×Bool:=
 if s=(⟨#[99,111,117,110,116]⟩:ByteArray) then (false,false,false,true) else if s=(⟨#[109,105,110]⟩:ByteArray)∨s=(⟨#[109,97,120]⟩:ByteArray)∨s=(⟨#[115,117,109]⟩:ByteArray) then (false,true,false,true) else if s=(⟨#[102,105,114,115,116]⟩:ByteArray) then (false,true,true,true) else if s=(⟨#[116,111,112]⟩:ByteArray) then (true,true,false,true) else (false,false,false,false)
theorem aggNeeds (s:ByteArray) (S:Mem):CallD Tryz.prog orc 44 [.str s] S fun d S'=>S'=S∧d = .tup [.bool (needsF s).1,.bool (needsF s).2.1,.bool (needsF s).2.2.1,.bool (needsF s).2.2.2]:=by
 refine CallD.e Tryz.func44 rfl Tryz.ntmps44 (by rfl) ?_
 repeat' (first|refine Go.a rfl ?_|refine Go.rg ?_|refine GoR.nil ?_|refine Go.ret ?_|refine Go.b rfl ?_|(refine GoR.o (by rfl) (by rfl) ?_;(conv=>arg 1;simp only [G,Z,Y,Gx,vV,simprocAttr,fb9]);show GoR ..)|refine Go.condB rfl (fun hc => ?_) (fun hc => ?_))
 all_goals
  refine ⟨(by first | exact .inl rfl | exact .inr rfl),fin ?_⟩
  rw [resD_four (fn:=Tryz.f44) rfl]
  simp only [optThen_some,resultD_tmp,resultD_cell,G,Z,Y,Gx,vV,simprocAttr,fb9]
  refine ⟨_,[],by simp,Wk.of_low (.tup' (.cons (.bool _) (.cons (.bool _) (.cons (.bool _) (.cons (.bool _) .nil))))),?_⟩
  simp_all [needsF]
def cdsC (l:List Cd):List D:=l.flatMap Cd.c
theorem cds_low {n:Nat} (l:List Cd):LowL n (cdsC l):=.of_mem (by
 intro x hx
 obtain ⟨c,_,hc⟩:=List.mem_flatMap.1 hx
 exact (cd_low c).mem x hc)
structure Ag where
 fn:ByteArray
 k:Int
 e:Nd
 by_:Nd
 w:List Cd
def Ag.c (a:Ag):List D:=.str a.fn :: .int .i64 a.k::(a.e.c++(a.by_.c++[.sl none 9 a.w.length (cdsC a.w)]))
theorem ag_low {m:Nat} (a:Ag):LowL m (Ag.c a):=.cons (.str _) (.cons (.int _ _) (.append (Nd.low _) (.append (Nd.low _) (.cons (.sl none _ _ _ (fun id e=>by cases e) fun j hj=>(cds_low a.w).get j hj) .nil))))
end Go.Proofs.DgT
