/- A machine over Go's operations in which slices are values: calls that write a slice in place. -/
import Derived.Test.YtmbgelijgmmpbaaGreatDoorDmLx
import Derived.Sort.Grow
import Derived.Laws.IdiomCopy
import Derived.Shelf.Spec.SlicesInsertGrow
set_option linter.unusedSimpArgs false
set_option linter.unusedVariables false
namespace Go.DM
open Go Go.AM Go.RowKit
structure RowOut (w w1:World) (blk off n:Nat) (vals:List Value):Prop where
 cells : ∀ c e fr,w.heap[blk]?=some (.cells c e fr) → ∃ c',w1.heap[blk]?=some (.cells c' e fr)∧c'.size=c.size∧(∀ k,k<off∨off+n≤k→c'[k]?=c[k]?) ∧ ∀ i v,vals[i]?=some v→off+i<c.size→c'[off+i]?=some v
 oth : ∀ k,k<w.heap.size→k≠blk→w1.heap[k]?=w.heap[k]?
 size:w.heap.size≤w1.heap.size
 os:w1.os=w.os
 tape:w1.tape=w.tape
 output:w1.output=w.output
def orOrcD (a b:DOracle):DOracle:=fun f args S d S'=>a f args S d S'∨b f args S d S'
theorem orOrcD_sound {P:Program} {A:Beside} {a b:DOracle} (ha:DOrcSound P A a) (hb:DOrcSound P A b):DOrcSound P A (orOrcD a b):=by
 rintro f args S d S' (h | h)
 ·exact ha f args S d S' h
 ·exact hb f args S d S' h
end Go.DM
namespace Go.DM
open Go Go.AM
def stepK:List K→AExit→Option (List K×AExit)
 | .code (.seq c d)::k,.normal=>some (.code c :: .code d::k,.normal)
 | .code .skip::k,.normal=>some (k,.normal)
 | .code (.block id c)::k,.normal=>some (.code c :: .blk id::k,.normal)
 | .code (.exit id)::k,.normal=>some (k,.exit id)
 | .blk _::k,.normal=>some (k,.normal)
 | .blk id::k,.exit id'=>if id'=id then some (k,.normal) else some (k,.exit id')
 | .code _::k,.exit id=>some (k,.exit id)
 | .lp _::k,.exit id=>some (k,.exit id)
 | _,_=>none
def condK (v:D) (x y:Code):Option Code:=match v with | .bool true=>some x | .bool false=>some y | _=>none
def okOp (sz:Nat) (dst:Option Tmp) (op:Op):Bool:=okDstB sz dst&&op.operands.toList.all okOperand
def okOpW (loose:List Nat) (i sz:Nat) (dst:Option Tmp) (op:Op):Bool:=okDstB sz dst&&op.operands.toList.all okOperand && !loose.contains i
def wantB (ops:Array Oper) (ρ:DEnv):Option (Nat×Bool)→Bool
 | none=>true
 | some g=>yieldedD ops ρ g.1==some g.2
def FnAt (P : Program) (f : FuncId) : Prop := ∃ fn, P.funcs[f]? = some fn ∧ (fn.name == "runtime.NumGoroutine") = false ∧ fn.body.isNone = false
section
variable {P:Program} {orc:DOracle} {fl sz:Nat} {k:List K} {ρ:DEnv} {H:Mem} {Q:AExit→DEnv→Mem→Prop} {ops:Array Oper} {loose:List Nat} {Inv:Mem→Prop} {F i:Nat}
 {os:List Oper} {dst:Option Tmp} {op:Op} {cl:Call} {ty:TypeId} {pos:String} {after:Array Edge} {g:Option (Nat×Bool)} {f:FuncId} {args:List D}
theorem Go.a {ks:List K} {e e':AExit} (h:stepK ks e=some (k,e')) (q:Go P orc fl sz k e' ρ H Q):Go P orc fl sz ks e ρ H Q:=by
 unfold stepK at h
 split at h
 ·cases h;exact Go.seq q
 ·cases h;exact Go.skip q
 ·cases h;exact Go.block q
 ·cases h;exact Go.exit q
 ·cases h;exact q
 ·split at h
  ·rename_i he
   cases h;cases he;exact Go.blkX q
  ·rename_i he
   cases h;exact Go.blkE he q
 ·cases h;exact q
 ·cases h;exact q
 ·cases h
theorem Go.b {t:Tmp} {x y z:Code} (h:condK (ρ t) x y=some z) (q:Go P orc fl sz (.code z::k) .normal ρ H Q):Go P orc fl sz (.code (.cond (.tmp t) x y)::k) .normal ρ H Q:=by
 unfold condK at h
 split at h
 ·rename_i hv;cases h;exact Go.condT hv q
 ·rename_i hv;cases h;exact Go.condF hv q
 ·cases h
theorem okOp_ok (h:okOp sz dst op=true):okDst sz dst∧op.operands.toList.all okOperand=true:=by
 unfold okOp at h
 rw [Bool.and_eq_true] at h
 exact ⟨okDstB_ok h.1,h.2⟩
theorem okOpW_ok (h:okOpW loose i sz dst op=true):okDst sz dst∧op.operands.toList.all okOperand=true∧loose.contains i=false:=by
 unfold okOpW at h
 rw [Bool.and_eq_true,Bool.and_eq_true] at h
 exact ⟨okDstB_ok h.1.1,h.1.2,by simpa using h.2⟩
theorem GoR.o (h1:okOp sz dst op=true) (h2:wantB ops ρ g=true) (h:opThen (opD P ρ op H) fun v H1=>GoR P orc fl sz ops os k (putD ρ dst v) H1 Q):GoR P orc fl sz ops (⟨dst,op,ty,pos,after,g⟩::os) k ρ H Q:=by
 obtain ⟨a,b⟩:=okOp_ok h1
 cases g with
 | none=>exact GoR.op a b h
 | some g=>exact GoR.opG a b h2 h
theorem GoR.oM (h1:okOp sz dst op=true) (h2:wantB ops ρ g=true) (h:opThenM (opD P ρ op H) H fun v H1=>GoR P orc fl sz ops os k (putD ρ dst v) H1 Q):GoR P orc fl sz ops (⟨dst,op,ty,pos,after,g⟩::os) k ρ H Q:=by
 obtain ⟨a,b⟩:=okOp_ok h1
 cases g with
 | none=>exact GoR.opM a b h
 | some g=>exact GoR.opMG a b h2 h
theorem GoR.c (hf:FnAt P f) (h1:okOp sz dst (.call cl)=true) (h2:wantB ops ρ g=true) (ht:targetD ρ (.call cl)=some (f,args)) (h:CallD P orc f args H fun v H1=>GoR P orc fl sz ops os k (putD ρ dst v) H1 Q) :
  GoR P orc fl sz ops (⟨dst,.call cl,ty,pos,after,g⟩::os) k ρ H Q:=by
 obtain ⟨a,b⟩:=okOp_ok h1
 obtain ⟨fn,e1,e2,e3⟩:=hf
 cases g with
 | none=>exact GoR.call a b ht e1 e2 e3 h
 | some g=>exact GoR.callG a b h2 ht e1 e2 e3 h
theorem GoR.s {x:Nat×Bool} {b:Option Bool} (h1:okOp sz dst op=true) (hy:yieldS ops ρ x.1=some b) (hw:(b==some x.2)=false) (h:GoR P orc fl sz ops os k (putD ρ dst dUndef) H Q):GoR P orc fl sz ops (⟨dst,op,ty,pos,after,some x⟩::os) k ρ H Q:=
 GoR.skipG (okOp_ok h1).1 hy hw h
theorem GoW.o (h1:okOpW loose i sz dst op=true) (h2:wantB ops ρ g=true) (h:opThen (opD P ρ op H) fun v H1=>(i<F→Inv H1)∧GoW P orc fl sz ops loose Inv F (i+1) os k (putD ρ dst v) H1 Q):GoW P orc fl sz ops loose Inv F i (⟨dst,op,ty,pos,after,g⟩::os) k ρ H Q:=by
 obtain ⟨a,b,d⟩:=okOpW_ok h1
 cases g with
 | none=>exact GoW.op a b d h
 | some g=>exact GoW.opG a b d h2 h
theorem GoW.rd (h1:okOp sz dst op=true) (h2:wantB ops ρ g=true) (h:opThen (opD P ρ op H) fun v H1=>H1=H∧Inv H∧(∀ H',Inv H'→opD P ρ op H'=some (v,H'))∧GoW P orc fl sz ops loose Inv F (i+1) os k (putD ρ dst v) H Q) :
  GoW P orc fl sz ops loose Inv F i (⟨dst,op,ty,pos,after,g⟩::os) k ρ H Q:=by
 obtain ⟨a,b⟩:=okOp_ok h1
 cases g with
 | none=>exact GoW.readT a b h
 | some g=>exact GoW.readTG a b h2 h
theorem GoW.c (hf:FnAt P f) (h1:okOpW loose i sz dst (.call cl)=true) (h2:wantB ops ρ g=true) (ht:targetD ρ (.call cl)=some (f,args))
  (h:CallD P orc f args H fun v H1=>(i<F→Inv H1)∧GoW P orc fl sz ops loose Inv F (i+1) os k (putD ρ dst v) H1 Q):GoW P orc fl sz ops loose Inv F i (⟨dst,.call cl,ty,pos,after,g⟩::os) k ρ H Q:=by
 obtain ⟨a,b,d⟩:=okOpW_ok h1
 obtain ⟨fn,e1,e2,e3⟩:=hf
 cases g with
 | none=>exact GoW.call a b ht e1 e2 e3 d h
 | some g=>exact GoW.callG a b h2 ht e1 e2 e3 d h
theorem GoW.s {x:Nat×Bool} {b:Option Bool} (h1:okOp sz dst op=true) (hy:yieldS ops ρ x.1=some b) (hw:(b==some x.2)=false) (hi:i<F→Inv H) (h:GoW P orc fl sz ops loose Inv F (i+1) os k (putD ρ dst dUndef) H Q) :
  GoW P orc fl sz ops loose Inv F i (⟨dst,op,ty,pos,after,some x⟩::os) k ρ H Q:=GoW.skipG (okOp_ok h1).1 hy hw hi h
theorem CallD.eb {fn:Func} {b:Code} {n:Nat} {R:D→Mem→Prop} (hf:P.funcs[f]?=some fn) (hb:fn.body=some b) (hn:fn.ntmps=n) (ha:decide (args.length≤n)=true)
  (h:Go P orc H.length n [.code b] .normal (initD args) H fun e ρ H'=>(e = .normal∨e = .ret) ∧ ∃ v,resultsD P fn ρ H'=some v∧R v H'):CallD P orc f args H R:=by
 subst hn
 exact CallD.body hf hb (of_decide_eq_true ha) h
theorem CallD.e {fn:Func} {b:Code} {n:Nat} {R:D→Prop} (hf:P.funcs[f]?=some fn) (hb:fn.body=some b) (hn:fn.ntmps=n) (ha:decide (args.length≤n)=true)
  (h:Go P orc H.length n [.code b] .normal (initD args) H fun e ρ H'=>(e = .normal∨e = .ret) ∧ ∃ v,resultsD P fn ρ H'=some v ∧ ∃ d' E,H'=H++E∧Wk H.length v d'∧R d'):CallD P orc f args H fun d S'=>S'=H∧R d:=
 CallD.drop (CallD.eb hf hb hn ha h)
end
theorem Gx.{u} :
  (∀ {α:Type u} {h:Decidable True} (a b:α),(@ite α True h a b)=a)∧(∀ {α:Type u} {h:Decidable False} (a b:α),(@ite α False h a b)=b)∧(∀ {α:Type u} [LT α] (a b:α),(a>b)=(b<a))∧(∀ {α:Type u} [BEq α] [ReflBEq α] (a:α),(a==a)=true):=
 ⟨fun a b=>if_pos trivial,fun a b=>if_neg id,fun a b=>rfl,fun a=>beq_self_eq_true a⟩
end Go.DM
namespace Go.DM
open Go Go.AM
section
variable (P:Program)
abbrev FbO (t:Nat) (z:D):Prop:=(∀ {x:D} {S:Mem},loadD P t x S=(cellsAt x S).bind fun p=>p.1[p.2]?) ∧
 (∀ {o off:Nat} {S:Mem} {v:D},cellsD v=some [v]→D.one v=true→storeD P t (.ptr o off) v S=(objAt S o).bind fun cells=>if off+1≤cells.length then some (S.set o (.obj (wr cells off [v]))) else none) ∧
 (∀ {ρ:DEnv} {S:Mem},opD P ρ (.alloc t) S=some (.ptr S.length 0,S++[.obj [z]]))
abbrev FbI (t:Nat) (k:IntKind):Prop:=P.underlying t=some (.int k)∧FbO P t (.int k 0)
abbrev FbC (s t:Nat) (k:IntKind):Prop := ∀ {S:Mem} {k1:IntKind} {n:Int},convD P s t (.int k1 n) S=some (.int k (IntKind.wrap k n),S)
abbrev FbB (t:Nat):Prop:=P.underlying t=some .bool∧FbO P t (.bool false)∧(∀ {x y:Operand} {a b:Bool},binD P .eql t x y (.bool a) (.bool b)=some (.bool (a==b))∧binD P .neq t x y (.bool a) (.bool b)=some (.bool !(a==b)))
abbrev FbT (t:Nat):Prop:=P.underlying t=some .string∧FbO P t (.str ⟨#[]⟩) ∧
 (∀ {s:ByteArray} {lo hi:Option D},sliceD P t (.str s) lo hi none=(optNatD lo).bind fun l=>(optNatD hi).bind fun h=>if l.getD 0≤h.getD s.size∧h.getD s.size≤s.size then some (.str (s.extract (l.getD 0) (h.getD s.size))) else none) ∧
 (∀ {x i:Operand} {ρ:DEnv} {S:Mem},opD P ρ (.index t x i) S=indexStr (evalD ρ x) (evalD ρ i) S)∧(∀ {s:ByteArray} {S:Mem},builtinD P .len #[t] [.str s] S=some (.int .i64 s.size,S))
abbrev FbCT (s t:Nat):Prop := ∀ {S:Mem} {a:ByteArray},convD P s t (.str a) S=some (.str a,S)
abbrev FbS (t e m:Nat):Prop:=P.underlying t=some (.slice e)∧FbO P t .nils ∧
 (∀ {own:Option Nat} {len:Nat} {cells:List D} {k:IntKind} {i:Int},indexAtD P t (.sl own m len cells) (.int k i)=if 0≤i∧i<len then some (.eptr cells (i.toNat*m)) else none) ∧
 (∀ {own:Option Nat} {len:Nat} {cells:List D} {lo hi mx:Option D},sliceD P t (.sl own m len cells) lo hi mx=(optNatD lo).bind fun l=>(optNatD hi).bind fun h=>(optNatD mx).bind fun m'=>if m'.isSome=true∧h.isNone=true then none else cutD own m len cells (l.getD 0) (h.getD len) m') ∧
 (∀ {own:Option Nat} {len:Nat} {cells:List D} {S:Mem},builtinD P .len #[t] [.sl own m len cells] S=some (.int .i64 len,S))∧(∀ {S:Mem},builtinD P .len #[t] [.nils] S=some (.int .i64 0,S)) ∧
 (∀ {x y:Operand},binD P .eql t x y .nils .nils=some (.bool true)∧binD P .eql t x y .slx .nils=some (.bool false)∧(∀ {own sz n cells},binD P .eql t x y (.sl own sz (n+1) cells) .nils=some (.bool false))∧binD P .neq t x y .nils .nils=some (.bool false)∧binD P .neq t x y .slx .nils=some (.bool true)∧(∀ {own sz n cells},binD P .neq t x y (.sl own sz (n+1) cells) .nils=some (.bool true))) ∧
 (∀ {S:Mem},builtinD P .len #[t] [.slx] S=some (.int .i64 0,S))∧(∀ {S:Mem},builtinD P .len #[t] [.sl0] S=some (.int .i64 0,S))
abbrev FbE (t m b:Nat) (zs:List D):Prop:=
 (∀ {n:Nat} {ps:List (Nat×D)} {S:Mem},buildSliceD P t n ps S=if n*m>2 ^ 24 then none else (fillD (fun i=>some (i*m,m)) (repD zs n) ps).bind fun cells=>if cells.all D.one=true then some (.sl (some S.length) m n cells,S++[.own]) else none) ∧
 (∀ {S:Mem},appendD P #[t,t] .nils .nils S=some (.nils,S)) ∧
 (∀ {S:Mem},appendD P #[t,t] .sl0 .nils S=some (.sl0,S)) ∧
 (∀ {own:Option Nat} {len:Nat} {cells:List D} {S:Mem},appendD P #[t,t] (.sl own m len cells) .nils S=some ((.sl own m len cells),S)) ∧
 (∀ {S:Mem},appendD P #[t,t] .nils .sl0 S=some (.nils,S)) ∧
 (∀ {S:Mem},appendD P #[t,t] .sl0 .sl0 S=some (.sl0,S)) ∧
 (∀ {own:Option Nat} {len:Nat} {cells:List D} {S:Mem},appendD P #[t,t] (.sl own m len cells) .sl0 S=some ((.sl own m len cells),S)) ∧
 (∀ {S:Mem},appendD P #[t,t] .nils .slx S=some (.nils,S)) ∧
 (∀ {S:Mem},appendD P #[t,t] .sl0 .slx S=some (.sl0,S)) ∧
 (∀ {own:Option Nat} {len:Nat} {cells:List D} {S:Mem},appendD P #[t,t] (.sl own m len cells) .slx S=some ((.sl own m len cells),S)) ∧
 (∀ {own:Option Nat} {n:Nat} {new:List D} {S:Mem},appendD P #[t,t] .nils (.sl own m n new) S=if n=0 then some (.nils,S) else if fitsD b n new then some (.sl (some S.length) m n new,S++[.own]) else none) ∧
 (∀ {own:Option Nat} {n:Nat} {new:List D} {S:Mem},appendD P #[t,t] .sl0 (.sl own m n new) S=if n=0 then some (.sl0,S) else if fitsD b n new then some (.sl (some S.length) m n new,S++[.own]) else none) ∧
 (∀ {own:Option Nat} {id n len:Nat} {cells new:List D} {S:Mem},appendD P #[t,t] (.sl (some id) m len cells) (.sl own m n new) S=if n=0 then some (.sl (some id) m len cells,S) else if fitsD b (len+n) new then (match S[id]? with | some .own=>some (.sl (some S.length) m (len+n) (cells++new),S.set id .dead++[.own]) | _=>none) else none)
abbrev FbL (t n:Nat):Prop := ∀ {x:D} {S:Mem},loadD P t x S=(cellsAt x S).bind fun p=>if p.2+n≤p.1.length then some (.agg ((p.1.drop p.2).take n)) else none
abbrev FbA (t:Nat) (zs:List D):Prop := ∀ {ρ:DEnv} {S:Mem},opD P ρ (.alloc t) S=some (.ptr S.length 0,S++[.obj zs])
abbrev FbF (t j k:Nat):Prop:=(∀ {o off:Nat},fieldAtD P t (.ptr o off) j=some (.ptr o (off+k)))∧(∀ {c:List D} {off:Nat},fieldAtD P t (.eptr c off) j=some (.eptr c (off+k)))
abbrev FbM (t:Nat) (pl:List (Nat×Nat)) (zs:List D):Prop := ∀ {ps:List (Nat×D)},buildD P t ps=(fillD (fun i=>pl[i]?) zs ps).map .agg
abbrev FbSt1 (t:Nat):Prop := ∀ {o off:Nat} {S:Mem} {x0:D},([x0]:List D).all D.one=true→storeD P t (.ptr o off) (.agg [x0]) S=(objAt S o).bind fun cells=>if off+1≤cells.length then some (S.set o (.obj (wr cells off [x0]))) else none
abbrev FbSt4 (t:Nat):Prop := ∀ {o off:Nat} {S:Mem} {x0 x1 x2 x3:D},([x0,x1,x2,x3]:List D).all D.one=true→storeD P t (.ptr o off) (.agg [x0,x1,x2,x3]) S=(objAt S o).bind fun cells=>if off+4≤cells.length then some (S.set o (.obj (wr cells off [x0,x1,x2,x3]))) else none
abbrev FbSt5 (t:Nat):Prop := ∀ {o off:Nat} {S:Mem} {x0 x1 x2 x3 x4:D},([x0,x1,x2,x3,x4]:List D).all D.one=true→storeD P t (.ptr o off) (.agg [x0,x1,x2,x3,x4]) S=(objAt S o).bind fun cells=>if off+5≤cells.length then some (S.set o (.obj (wr cells off [x0,x1,x2,x3,x4]))) else none
abbrev FbSt6 (t:Nat):Prop := ∀ {o off:Nat} {S:Mem} {x0 x1 x2 x3 x4 x5:D},([x0,x1,x2,x3,x4,x5]:List D).all D.one=true→storeD P t (.ptr o off) (.agg [x0,x1,x2,x3,x4,x5]) S=(objAt S o).bind fun cells=>if off+6≤cells.length then some (S.set o (.obj (wr cells off [x0,x1,x2,x3,x4,x5]))) else none
end
section
variable {P:Program} {t e m b s:Nat} {v:Value} {z:D} {zs:List D} {k k2:IntKind}
theorem fbO (ha:isAggA P t=some false) (hs:sizeA P t=some 1) (hz:zeroA P t=some v) (hv:v.cells.all scalarV=true) (hd:v.cells.toList.map ofS=[z]):FbO P t z:=
 ⟨ld_one ha,fun h1 h2=>st_cells hs h1 rfl (by simp [h2]),by intro ρ S;rw [al_cells hz hv,hd]⟩
theorem fbI (hu:P.underlying t=some (.int k)) (ha:isAggA P t=some false) (hs:sizeA P t=some 1) (hz:zeroA P t=some (.int k 0)):FbI P t k:=⟨hu,fbO ha hs hz (by simp [scalarV,Value.cells]) rfl⟩
theorem fbB (hu:P.underlying t=some .bool) (ha:isAggA P t=some false) (hs:sizeA P t=some 1) (hz:zeroA P t=some (.bool false)):FbB P t:=⟨hu,fbO ha hs hz (by simp [scalarV,Value.cells]) rfl,bin_bool hu⟩
theorem fbT (hu:P.underlying t=some .string) (ha:isAggA P t=some false) (hs:sizeA P t=some 1) (hz:zeroA P t=some (.string ⟨#[]⟩)):FbT P t:=⟨hu,fbO ha hs hz (by simp [scalarV,Value.cells]) rfl,cut_str hu,ix_str hu,len_str rfl hu⟩
theorem fbS (hu:P.underlying t=some (.slice e)) (ha:isAggA P t=some false) (hs:sizeA P t=some 1) (hz:zeroA P t=some (.slice none 0 0)) (hm:sizeA P e=some m):FbS P t e m:=
 ⟨hu,fbO ha hs hz (by simp [scalarV,Value.cells]) rfl,ix_sl hu hm,cut_sl hu hm,len_sl rfl hu,len_nil rfl hu,eq_nils hu,len_slx rfl hu,len_nil0 rfl hu⟩
theorem fbE (h:ElemT P t e m b) (hu:P.underlying t=some (.slice e)) (hm:sizeA P e=some m) (hz:zeroA P e=some v) (hv:v.cells.all scalarV=true) (hl:v.cells.size=m) (hd:v.cells.toList.map ofS=zs):FbE P t m b zs:=by
 exact ⟨by intro n ps S;rw [bs_slice hu hm hz hv hl,hd],by intros;exact ap_zero h rfl (by simp),by intros;exact ap_zero h rfl (by simp),by intros;exact ap_zero h rfl (by simp),by intros;exact ap_zero h rfl (by simp),by intros;exact ap_zero h rfl (by simp),by intros;exact ap_zero h rfl (by simp),by intros;exact ap_zero h rfl (by simp),by intros;exact ap_zero h rfl (by simp),by intros;exact ap_zero h rfl (by simp),ap_nils h,ap_sl0 h,ap_own h⟩
theorem fbA (hz:zeroA P t=some v) (hv:v.cells.all scalarV=true) (hd:v.cells.toList.map ofS=zs):FbA P t zs:=by
 intro ρ S
 rw [al_cells hz hv,hd]
theorem fbF {j:Nat} {fields:Array Field} {fd:Field} {n:Nat} (hu:P.underlying t=some (.struct fields)) (hf:fields[j]?=some fd) (hs:sizeA P fd.type=some (n+1)) (hk:fd.offset=s):FbF P t j s:=⟨fa_ptr hu hf hs hk,fa_eptr hu hf hs hk⟩
theorem fbM {fields:Array Field} {pl:List (Nat×Nat)} (hu:P.underlying t=some (.struct fields)) (hp:placesA P t=some pl) (hz:zeroA P t=some v) (hv:v.cells.all scalarV=true) (hd:v.cells.toList.map ofS=zs):FbM P t pl zs:=by
 intro ps
 rw [bd_struct hu hp hz hv,hd]
end
end Go.DM
namespace Go.DM
open Go Go.AM
section
variable {P:Program} {orc:DOracle} {fl sz:Nat} {ops:Array Oper} {loose:List Nat} {Inv:Mem→Prop} {F:Nat} {k:List AM.K} {ρ:DEnv} {H:Mem} {Q:AM.AExit→DEnv→Mem→Prop}
end
end Go.DM
namespace Go.DM
open Go Go.AM
section
variable {d d':Nat→List Nat} {n:Nat}
def Steps (d:Nat→List Nat) (n:Nat):(Nat→Prop)→List Nat→Prop
 | _,[]=>True
 | s,j::l=>j<n ∧ ¬ s j∧(∀ e∈d j,s e)∧Steps d n (fun i=>s i∨i=j) l
theorem Steps.congr : ∀ {l:List Nat} {s s':Nat→Prop},(∀ i,s i↔s' i)→Steps d n s l→Steps d n s' l
 | [],_,_,_,_=>trivial
 | j::l,s,s',h,⟨h1,h2,h3,h4⟩=>⟨h1,fun q=>h2 ((h j).2 q),fun e he=>(h e).1 (h3 e he),h4.congr fun i=>or_congr (h i) Iff.rfl⟩
theorem steps_append : ∀ {x y:List Nat} {s:Nat→Prop},Steps d n s (x++y)↔Steps d n s x∧Steps d n (fun i=>s i∨i∈x) y
 | [],y,s=>⟨fun h=>⟨trivial,h.congr fun i=>by simp⟩,fun h=>h.2.congr fun i=>by simp⟩
 | j::x,y,s=>by
  constructor
  ·rintro ⟨h1,h2,h3,h4⟩
   obtain ⟨h5,h6⟩:=steps_append.1 h4
   exact ⟨⟨h1,h2,h3,h5⟩,h6.congr fun i=>by simp [or_assoc]⟩
  ·rintro ⟨⟨h1,h2,h3,h5⟩,h6⟩
   exact ⟨h1,h2,h3,steps_append.2 ⟨h5,h6.congr fun i=>by simp [or_assoc]⟩⟩
theorem Steps.nin : ∀ {l:List Nat} {s:Nat→Prop},Steps d n s l → ∀ j∈l,¬ s j
 | j::l,s,⟨_,h2,_,h4⟩,i,hi=>by
  rcases List.mem_cons.1 hi with rfl | hi
  ·exact h2
  ·exact fun q=>h4.nin i hi (.inl q)
theorem Steps.closed : ∀ {l:List Nat} {s:Nat→Prop},(∀ i,s i → ∀ e∈d i,s e)→Steps d n s l → ∀ i,(s i∨i∈l) → ∀ e∈d i,s e∨e∈l
 | [],s,hs,_,i,hi,e,he=>by
  rcases hi with hi | hi
  ·exact .inl (hs i hi e he)
  ·cases hi
 | j::l,s,hs,⟨_,_,h3,h4⟩,i,hi,e,he=>by
  have hs' : ∀ i,(s i∨i=j) → ∀ e∈d i,s e∨e=j:=by
   rintro i (hi | rfl) e he
   ·exact .inl (hs i hi e he)
   ·exact .inl (h3 e he)
  have:=h4.closed hs' i (by
   rcases hi with hi | hi
   ·exact .inl (.inl hi)
   ·rcases List.mem_cons.1 hi with rfl | hi
    ·exact .inl (.inr rfl)
    ·exact .inr hi) e he
  rcases this with (h | rfl) | h
  ·exact .inl h
  ·exact .inr (by simp)
  ·exact .inr (List.mem_cons_of_mem _ h)
theorem Steps.dep : ∀ {l:List Nat} {s:Nat→Prop},(∀ j∈l,d' j=d j)→Steps d n s l→Steps d' n s l
 | [],_,_,_=>trivial
 | j::l,s,h,⟨h1,h2,h3,h4⟩=>⟨h1,h2,by rw [h j (by simp)];exact h3,h4.dep fun i hi=>h i (List.mem_cons_of_mem _ hi)⟩
theorem Steps.less {a:Nat} : ∀ {l:List Nat} {s:Nat→Prop},(∀ j∈l,a∉d j)→Steps d n (fun i=>s i∨i=a) l→Steps d n s l
 | [],_,_,_=>trivial
 | j::l,s,h,⟨h1,h2,h3,h4⟩=>⟨h1,fun q=>h2 (.inl q),fun e he=>by
   rcases h3 e he with q | rfl
   ·exact q
   ·exact absurd he (h j (by simp)),Steps.less (a:=a) (fun i hi=>h i (List.mem_cons_of_mem _ hi)) (h4.congr fun i=>by constructor<;>(rintro ((q | q) | q)<;>simp [q]))⟩
theorem split_last (p:Nat→Prop) : ∀ r:List Nat,∃ y v,r=y++v∧(∀ j∈v,¬ p j)∧(y=[] ∨ ∃ y0 m,y=y0++[m]∧p m)
 | []=>⟨[],[],rfl,by simp,.inl rfl⟩
 | j::r=>by
  obtain ⟨y,v,e,h1,h2⟩:=split_last p r
  rcases h2 with rfl | ⟨y0,m,rfl,hm⟩
  ·by_cases hj:p j
   ·exact ⟨[j],v,by simp [e],h1,.inr ⟨[],j,rfl,hj⟩⟩
   ·refine ⟨[],j::v,by simp [e],fun i hi => ?_,.inl rfl⟩
    rcases List.mem_cons.1 hi with rfl | hi
    ·exact hj
    ·exact h1 i hi
  ·exact ⟨j::(y0++[m]),v,by simp [e],h1,.inr ⟨j::y0,m,rfl,hm⟩⟩
end
theorem topo_steps {ops:Array Oper} : ∀ {l:List Nat} {listed:Array Bool},listed.size=ops.size→(Topo ops listed l↔Steps (direct ops) ops.size (fun i=>lst listed i=true) l ∧ ∀ i,i<ops.size→lst listed i=true∨i∈l)
 | [],listed,hsz=>⟨fun h=>by cases h with | nil h=>exact ⟨trivial,fun i hi=>.inl (h i hi)⟩,fun h=>.nil fun i hi=>by simpa using h.2 i hi⟩
 | j::l,listed,hsz=>by
  have hset : ∀ j,j<ops.size → ∀ i,lst (listed.setIfInBounds j true) i=true↔(lst listed i=true∨i=j):=by
   intro j hj i
   unfold lst
   by_cases hij:i=j
   ·subst hij
    simp [Array.getD,hsz,hj]
   ·simp [Array.getD_eq_getD_getElem?,Array.getElem?_setIfInBounds_ne (Ne.symm hij),hij]
  constructor
  ·intro h
   cases h with
   | cons hj hl hd t=>
    obtain ⟨h1,h2⟩:=(topo_steps (by simp [hsz])).1 t
    refine ⟨⟨hj,by simp [hl],hd,h1.congr (hset j hj)⟩,fun i hi => ?_⟩
    rcases h2 i hi with q | q
    ·rcases (hset j hj i).1 q with q | rfl
     ·exact .inl q
     ·exact .inr (by simp)
    ·exact .inr (List.mem_cons_of_mem _ q)
  ·rintro ⟨⟨hj,hl,hd,h1⟩,h2⟩
   refine .cons hj (by simpa using hl) hd ((topo_steps (by simp [hsz])).2 ⟨h1.congr fun i=>(hset j hj i).symm,fun i hi => ?_⟩)
   rcases h2 i hi with q | q
   ·exact .inl ((hset j hj i).2 (.inl q))
   ·rcases List.mem_cons.1 q with rfl | q
    ·exact .inl ((hset i hj i).2 (.inr rfl))
    ·exact .inr q
def plusO (o:Oper) (ms:List Nat):Oper := { o with after:=o.after++(ms.map fun m=>(⟨m,.data⟩:Edge)).toArray }
def plus (ops:Array Oper) (a:Nat) (ms:List Nat):Array Oper:=ops.modify a fun o=>plusO o ms
theorem plus_size {ops:Array Oper} {a:Nat} {ms:List Nat} : (plus ops a ms).size=ops.size:=by simp [plus]
theorem plus_get {ops:Array Oper} {a:Nat} {ms:List Nat} (i:Nat):(plus ops a ms)[i]?=if a=i then (ops[i]?).map fun o=>plusO o ms else ops[i]?:=by
 unfold plus
 rw [Array.getElem?_modify]
theorem plus_same {ops:Array Oper} {a:Nat} {ms:List Nat} {i:Nat} {o:Oper} (h:(plus ops a ms)[i]?=some o) : ∃ o',ops[i]?=some o'∧o.dst=o'.dst∧o.op=o'.op∧o.guard=o'.guard:=by
 rw [plus_get] at h
 split at h
 ·obtain ⟨o',ho,rfl⟩:=Option.map_eq_some_iff.1 h
  exact ⟨o',ho,rfl,rfl,rfl⟩
 ·exact ⟨o,h,rfl,rfl,rfl⟩
theorem plus_back {ops:Array Oper} {a:Nat} {ms:List Nat} {i:Nat} {o:Oper} (h:ops[i]?=some o) : ∃ o',(plus ops a ms)[i]?=some o'∧o'.dst=o.dst∧o'.op=o.op∧o'.guard=o.guard:=by
 rw [plus_get]
 split
 ·exact ⟨plusO o ms,by rw [h];rfl,rfl,rfl,rfl⟩
 ·exact ⟨o,h,rfl,rfl,rfl⟩
theorem plus_dst {ops:Array Oper} {a:Nat} {ms:List Nat} (i:Nat):dstOf (plus ops a ms) i=dstOf ops i:=by
 unfold dstOf
 rw [plus_get]
 split
 ·cases ops[i]?<;>rfl
 ·rfl
theorem plus_bind {ops:Array Oper} {a:Nat} {ms:List Nat} (i:Nat):((plus ops a ms)[i]?).bind (·.dst)=(ops[i]?).bind (·.dst):=by
 rw [plus_get]
 split
 ·cases ops[i]?<;>rfl
 ·rfl
theorem plus_yielded {ops:Array Oper} {a:Nat} {ms:List Nat} {ρ:DEnv} : yieldedD (plus ops a ms) ρ=yieldedD ops ρ:=by
 funext j
 unfold yieldedD
 rw [plus_bind]
theorem plus_yieldS {ops:Array Oper} {a:Nat} {ms:List Nat} {ρ:DEnv} : yieldS (plus ops a ms) ρ=yieldS ops ρ:=by
 funext j
 unfold yieldS
 rw [plus_bind]
theorem wanted_same {o o':Oper} (h:o.guard=o'.guard) (f:Nat→Option Bool):Region.wanted o f=Region.wanted o' f:=by
 unfold Region.wanted
 rw [h]
section
variable {P:Program} {orc:DOracle} {fl sz:Nat} {ops:Array Oper} {a:Nat} {ms:List Nat}
theorem OpStepD.plus {i:Nat} {ρ:DEnv} {H H':Mem} {v:D} (h:OpStepD P orc fl sz ops i ρ H v H'):OpStepD P orc fl sz (plus ops a ms) i ρ H v H':=by
 obtain ⟨o,ho,hd,h⟩:=h
 obtain ⟨o',ho',e1,e2,e3⟩:=plus_back (a:=a) (ms:=ms) ho
 refine ⟨o',ho',by rw [e1];exact hd,?_⟩
 rw [plus_yielded,plus_yieldS,e3,e2,wanted_same e3]
 exact h
theorem OpStepD.unplus {i:Nat} {ρ:DEnv} {H H':Mem} {v:D} (h:OpStepD P orc fl sz (DM.plus ops a ms) i ρ H v H'):OpStepD P orc fl sz ops i ρ H v H':=by
 obtain ⟨o,ho,hd,h⟩:=h
 obtain ⟨o',ho',e1,e2,e3⟩:=plus_same ho
 refine ⟨o',ho',by rw [← e1];exact hd,?_⟩
 rw [plus_yielded,plus_yieldS,e3,e2,wanted_same e3] at h
 exact h
theorem Run.unplus {l:List Nat} {ρ ρ':DEnv} {S S':Mem} (h:Run P orc fl sz (plus ops a ms) l ρ S ρ' S'):Run P orc fl sz ops l ρ S ρ' S':=by
 induction h with
 | nil=>exact .nil
 | @cons i l ρ S v S1 ρ' S' h _ ih=>
  rw [plus_dst] at ih
  exact .cons h.unplus ih
theorem Tr.plus {loose:List Nat} {Inv:Mem→Prop} {F i:Nat} {ρ ρ':DEnv} {H H':Mem} {l:List (D×Mem)} (h:Tr P orc fl sz ops loose Inv F i ρ H l ρ' H'):Tr P orc fl sz (plus ops a ms) loose Inv F i ρ H l ρ' H':=by
 induction h with
 | @nil ρ H=>
  have:=Tr.nil (P:=P) (orc:=orc) (fl:=fl) (sz:=sz) (ops:=DM.plus ops a ms) (loose:=loose) (Inv:=Inv) (F:=F) (ρ:=ρ) (H:=H)
  rw [plus_size] at this
  exact this
 | cons h hl hi _ ih=>
  refine .cons h.plus (fun hm => ?_) hi (by rw [plus_dst];exact ih)
  obtain ⟨h1,h2⟩:=hl hm
  exact ⟨h1,fun H' hH=>(h2 H' hH).plus⟩
theorem Run.append {x y:List Nat} {ρ ρ2:DEnv} {S S2:Mem} (h:Run P orc fl sz ops (x++y) ρ S ρ2 S2) : ∃ ρ1 S1,Run P orc fl sz ops x ρ S ρ1 S1∧Run P orc fl sz ops y ρ1 S1 ρ2 S2:=by
 induction x generalizing ρ S with
 | nil=>exact ⟨ρ,S,.nil,h⟩
 | cons i x ih=>
  cases h with
  | cons h t=>
   obtain ⟨ρ1,S1,h1,h2⟩:=ih t
   exact ⟨ρ1,S1,.cons h h1,h2⟩
def Apart (ops:Array Oper) (t:Tmp) (j:Nat):Prop := ∀ o,ops[j]?=some o→o.dst≠some t∧t∉o.looksAt ops
theorem Run.at {t:Tmp} {x:D} {l:List Nat} {ρ ρ':DEnv} {S S':Mem} (h:Run P orc fl sz ops l ρ S ρ' S') (ha : ∀ j∈l,Apart ops t j):Run P orc fl sz ops l (updD ρ t x) S (updD ρ' t x) S':=by
 induction h with
 | nil=>exact .nil
 | @cons i l ρ S v S1 ρ' S' h _ ih=>
  have h1:=ha i (by simp)
  refine .cons (v:=v) (S1:=S1) (h.congr fun o ho u hu => ?_) ?_
  ·have:=(h1 o ho).2
   have hne:u≠t:=fun e=>this (by rw [← e];exact hu)
   simp only [updD,if_neg hne]
  ·have e:putD (updD ρ t x) (dstOf ops i) v=updD (putD ρ (dstOf ops i) v) t x:=by
    obtain ⟨o,ho,_⟩:=h
    have h2:=(h1 o ho).1
    have h3:dstOf ops i=o.dst:=by simp [dstOf,ho]
    rw [h3]
    funext u
    cases hd:o.dst with
    | none=>rfl
    | some q=>
     rw [hd] at h2
     have h4:t≠q:=fun e=>h2 (by rw [e])
     simp only [putD,updD]
     by_cases h5:u=q
     ·have h6:u≠t:=fun e=>h4 (by rw [← e];exact h5)
      rw [if_pos h5,if_neg h6,if_pos h5]
     ·rw [if_neg h5,if_neg h5]
   rw [e]
   exact ih fun j hj=>ha j (List.mem_cons_of_mem _ hj)
theorem late_steps {p:Option (Tmp×Value)} {l r:List Nat} {ρ ρ1:DEnv} {S S1 S2:Mem} {out:DOut} (h:Run P orc fl sz ops l ρ S ρ1 S1) (hp : ∀ t z,p=some (t,z) → ∀ j∈l,Apart ops t j)
  (k:BigD P orc fl (.late sz ops r ρ1 p) S1 out S2):BigD P orc fl (.late sz ops (l++r) ρ p) S out S2:=by
 induction h with
 | nil=>exact k
 | @cons i l ρ S v S1 ρ' S' h _ ih=>
  have hk:=ih (fun t z e j hj=>hp t z e j (List.mem_cons_of_mem _ hj)) k
  obtain ⟨o,ho,hd,h⟩:=h
  have e:dstOf ops i=o.dst:=by simp [dstOf,ho]
  rw [e] at hk
  have hq : ∀ t z,p=some (t,z)→o.dst≠some t:=fun t z e=>(hp t z e i (by simp) o ho).1
  rcases h with ⟨g,b,hg,hy,hb,rfl,rfl⟩ | ⟨hw,hc,h | ⟨f,args,fn,ht,hf,hn,hb,hcall⟩⟩
  ·exact .lateSkip ho hq hg hy hb hd hk
  ·exact .lateOp ho hq hw hd hc h hk
  ·exact .lateCall ho hq hw hd hc ht hf hn hb hcall hk
theorem late_move {x y v:List Nat} {o:Oper} {ty t:Nat} {z:Value} {ρ ρ':DEnv} {S S':Mem} (ho:ops[a]?=some o) (hop:o.op = .alloc ty) (hdst:o.dst=some t) (hg:o.guard=none) (hz:zeroA P ty=some z) (hs:z.cells.all scalarV=true)
  (hy : ∀ j∈y,Apart ops t j) (h:Run P orc fl sz ops (x++(y++a::v)) ρ S ρ' S'):BigD P orc fl (.late sz ops (x++a::(y++v)) ρ none) S (.env ρ') S':=by
 obtain ⟨ρ1,S1,hx,h⟩:=h.append
 obtain ⟨ρ2,S2,hyy,h⟩:=h.append
 cases h with
 | cons ha hv=>
 have e:dstOf ops a=some t:=by simp [dstOf,ho,hdst]
 obtain ⟨o',ho',hd,hst⟩:=ha
 rw [ho] at ho'
 cases ho'
 refine late_steps hx (fun _ _ e=>by cases e) (.lateBegin ho hop hdst hg hd hz hs (late_steps (hyy.at (x:=.bot) hy) (fun t' z' e=>by cases e;exact hy) (.lateDone ?_)))
 have hv':=late_steps (r:=[]) (p:=none) hv (fun _ _ e=>by cases e) .lateNil
 rw [List.append_nil] at hv'
 rcases hst with ⟨g,b,hg',_⟩ | ⟨hw,hc,h | ⟨f,args,fn,ht,_⟩⟩
 ·rw [hg] at hg';cases hg'
 ·rw [hop] at h
  have hopd:opD P ρ2 (.alloc ty) S2=some (.ptr S2.length 0,S2++[.obj (z.cells.toList.map ofS)]):=by simp only [opD,hz,hs,if_true]
  have hval : ∀ w S3,opM P ρ2 (.alloc ty) S2 w S3→w = .ptr S2.length 0∧S3=S2++[.obj (z.cells.toList.map ofS)]:=by
   intro w S3 hm
   unfold opM at hm
   rw [hopd] at hm
   rcases hm with hm | hm | hm
   ·cases hm;exact ⟨rfl,rfl⟩
   ·obtain ⟨_,_,_,hm,_⟩:=hm;simp at hm
   ·obtain ⟨_,_,_,hm,_⟩:=hm;simp at hm
  obtain ⟨rfl,rfl⟩:=hval _ _ h
  have e2:updD (updD ρ2 t .bot) t (.ptr S2.length 0)=putD ρ2 (dstOf ops a) (.ptr S2.length 0):=by
   rw [e]
   funext u
   simp only [updD,putD]
   split<;>rfl
  rw [e2]
  exact hv'
 ·rw [hop] at ht
  simp [targetD] at ht
theorem direct_plus (j:Nat):direct (plus ops a ms) j=if a=j∧j<ops.size then direct ops j++ms else direct ops j:=by
 unfold direct
 rw [plus_get]
 by_cases h:a=j
 ·rw [if_pos h]
  cases ho:ops[j]? with
  | none=>
   have : ¬ j<ops.size:=by have:=Array.getElem?_eq_none_iff.1 ho;omega
   simp [this]
  | some o=>
   have hj:=(Array.getElem?_eq_some_iff.1 ho).1
   rw [if_pos ⟨h,hj⟩]
   have hb : ∀ ms:List Nat,((ms.map fun m=>(⟨m,.data⟩:Edge)).filter (Region.binds .any)).map (·.on)=ms:=by
    intro ms
    induction ms with
    | nil=>rfl
    | cons m ms ih=>simp only [List.map_cons,List.filter_cons,Region.binds,if_true,ih]
   simp [plusO,hb]
 ·rw [if_neg h,if_neg (fun q=>h q.1)]
def lateOk (ops:Array Oper) (a:Nat) (ms:List Nat):Bool:=
 decide (a<ops.size)&&(ms.all fun m=>decide (m<ops.size)&&m != a) &&
 (List.range ops.size).all fun j=>(!(direct ops j).contains a || ms.all fun m=>ordered ops ops.size m j)&&(j==a || !(clash ops a j || clash ops j a) || (ms.all fun m=>ordered ops ops.size m j) || ordered ops ops.size j a)
theorem apart_of {o:Oper} {t:Tmp} {j:Nat} (ho:ops[a]?=some o) (hdst:o.dst=some t) (h1:clash ops a j=false) (h2:clash ops j a=false):Apart ops t j:=by
 intro oj hj
 simp only [clash,ho,hj,hdst] at h1
 simp only [Bool.or_eq_false_iff] at h1
 obtain ⟨⟨h3,h4⟩,_⟩:=h1
 exact ⟨by simpa using h4,by simpa using h3⟩
variable {k:List K} {ρ:DEnv} {H:Mem} {Q:AExit→DEnv→Mem→Prop}
theorem Go.rgF {id:Nat} {l:List Oper} (a:Nat) (ms loose:List Nat) (Inv:Mem→Prop) (hm:P.follows .mixedOrders=true) (hf:drawnFineD (plus l.toArray a ms) loose=true) (F:Nat) (hfe:fenceOk (plus l.toArray a ms) loose F=true) (hlate:lateOk l.toArray a ms=true)
  {o:Oper} {ty t:Nat} {z:Value} (ho:l.toArray[a]?=some o) (hop:o.op = .alloc ty) (hdst:o.dst=some t) (hg:o.guard=none) (hz:zeroA P ty=some z) (hs:z.cells.all scalarV=true) (hi:Inv H) (h:GoW P orc fl sz l.toArray loose Inv F 0 l k ρ H Q) :
  Go P orc fl sz (.code (.region id l.toArray true)::k) .normal ρ H Q:=by
 obtain ⟨tr,ρ',H',ht,hgo⟩:=h (by simp)
 clear h
 generalize l.toArray=ops at *
 refine ⟨.normal,ρ',H',.regionF hm (fun n => ?_),hgo⟩
 have hok:=hf
 simp only [drawnFineD,drawnOk,Bool.and_eq_true,List.all_eq_true,List.mem_range,decide_eq_true_eq] at hok
 have hok1 : ∀ j,j<ops.size → ∀ e∈direct ops j,e<j:=fun j hj e he=>hok.1.1.1 j (by rw [plus_size];exact hj) e (by
  rw [direct_plus]
  split
  ·exact List.mem_append_left _ he
  ·exact he)
 simp only [lateOk,Bool.and_eq_true,decide_eq_true_eq,List.all_eq_true,List.mem_range,bne_iff_ne,Bool.or_eq_true,Bool.not_eq_true',beq_iff_eq] at hlate
 obtain ⟨⟨ha,hms⟩,hlate⟩:=hlate
 have htopo:Topo ops (Array.replicate ops.size false) (Region.linearise .any ops n):=linearise_topo hok1 ops.size n _ (by simp) (by
  have:=List.countP_le_length (p:=fun i => !lst (Array.replicate ops.size false) i) (l:=List.range ops.size)
  simpa using this)
 generalize Region.linearise .any ops n=ord at *
 obtain ⟨hsteps,hall⟩:=(topo_steps (by simp)).1 htopo
 have hsteps:Steps (direct ops) ops.size (fun _=>False) ord:=hsteps.congr fun i=>by simp [lst_none]
 have hall : ∀ i,i<ops.size→i∈ord:=fun i hi=>(hall i hi).resolve_left (by simp [lst_none])
 obtain ⟨x,r,rfl⟩:=List.append_of_mem (hall a ha)
 obtain ⟨y,v,rfl,hv,hy⟩:=split_last (· ∈ ms) r
 obtain ⟨sx,sa⟩:=steps_append.1 hsteps
 obtain ⟨_,ha2,ha3,syv⟩:=sa
 obtain ⟨sy,sv⟩:=steps_append.1 syv
 have sx0 : ∀ i∈x,∀ e∈direct ops i,e∈x:=fun i hi e he=>(sx.closed (fun _ h=>h.elim) i (.inr hi) e he).resolve_left not_false
 have hax:a∉x:=fun h=>ha2 (.inr h)
 have hbet : ∀ j∈y,j<ops.size∧j≠a∧j∉x ∧ ∀ m∈ms,y.getLast?=some m → ¬ ordered ops ops.size m j=true:=by
  intro j hj
  obtain ⟨y1,y2,e⟩:=List.append_of_mem hj
  rw [e] at sy
  obtain ⟨s1,s2⟩:=steps_append.1 sy
  obtain ⟨q1,q2,q3,q4⟩:=s2
  refine ⟨q1,fun h=>q2 (.inl (.inr h)),fun h=>q2 (.inl (.inl (.inr h))),fun m hm hl ho => ?_⟩
  have hcl : ∀ i,(((False∨i∈x)∨i=a)∨i∈y1) → ∀ e∈direct ops i,((False∨e∈x)∨e=a)∨e∈y1:=by
   refine s1.closed ?_
   rintro i ((h | h) | rfl) e he
   ·exact h.elim
   ·exact .inl (.inr (sx0 i h e he))
   ·exact .inl (ha3 e he)
  have hmem:=ordered_closed (L:=fun i=>((False∨i∈x)∨i=a)∨i∈y1) hcl ops.size m j ho q3
  have hml:m∈j::y2:=by
   rw [e,List.getLast?_append] at hl
   have:(j::y2).getLast?=some m:=by
    cases hq:(j::y2).getLast? with
    | none=>simp at hq
    | some b=>rw [hq] at hl;simpa using hl
   exact List.mem_of_getLast? this
  rcases List.mem_cons.1 hml with rfl | hml
  ·exact q2 hmem
  ·exact q4.nin m hml (.inl hmem)
 have hfar : ∀ j∈y,a∉direct ops j∧Apart ops t j:=by
  intro j hj
  obtain ⟨b1,b2,b3,b4⟩:=hbet j hj
  obtain ⟨m0,hm0,hl0⟩ : ∃ m,m∈ms∧y.getLast?=some m:=by
   rcases hy with rfl | ⟨y0,m,rfl,hm⟩
   ·cases hj
   ·exact ⟨m,hm,by simp⟩
  have hno:=b4 m0 hm0 hl0
  obtain ⟨c1,c2⟩:=hlate j b1
  refine ⟨fun he => ?_,?_⟩
  ·rcases c1 with c1 | c1
   ·have:(direct ops j).contains a=true:=by simpa using he
    rw [this] at c1
    cases c1
   ·exact hno (c1 m0 hm0)
  ·rcases c2 with ((c2 | c2) | c2) | c2
   ·exact absurd c2 b2
   ·rw [Bool.or_eq_false_iff] at c2
    exact apart_of ho hdst c2.1 c2.2
   ·exact absurd (c2 m0 hm0) hno
   ·exact absurd (ordered_closed (L:=fun i=>i∈x) sx0 ops.size j a c2 fun e he=>(ha3 e he).resolve_left not_false) b3
 have hdn : ∀ j,j≠a→direct (plus ops a ms) j=direct ops j:=fun j hj=>by rw [direct_plus,if_neg (fun q=>hj q.1.symm)]
 have hnew:Steps (direct (plus ops a ms)) ops.size (fun _=>False) (x++(y++a::v)):=by
  refine steps_append.2 ⟨sx.dep fun j hj=>hdn j fun e=>hax (e▸hj),steps_append.2 ⟨?_,ha,?_,?_,?_⟩⟩
  ·exact (Steps.less (a:=a) (fun j hj=>(hfar j hj).1) sy).dep fun j hj=>hdn j (hbet j hj).2.1
  ·rintro ((h | h) | h)
   ·exact h
   ·exact hax h
   ·exact (hbet a h).2.1 rfl
  ·intro e he
   rw [direct_plus,if_pos ⟨rfl,ha⟩,List.mem_append] at he
   rcases he with he | he
   ·exact .inl (ha3 e he)
   ·obtain ⟨h1,h2⟩:=hms e he
    have:=hall e h1
    simp only [List.mem_append,List.mem_cons] at this
    rcases this with h | h | h | h
    ·exact .inl (.inr h)
    ·exact absurd h h2
    ·exact .inr h
    ·exact absurd he (hv e h)
  ·refine Steps.dep (d:=direct ops) (fun j hj=>hdn j fun e => ?_) (sv.congr fun i=>by constructor<;>(rintro (((q | q) | q) | q)<;>simp [q]))
   exact sv.nin j hj (.inl (.inr e))
 have hnall : ∀ i,i<ops.size→i∈x++(y++a::v):=fun i hi=>by
  have:=hall i hi
  simp only [List.mem_append,List.mem_cons] at this ⊢
  rcases this with h | h | h | h
  ·exact .inl h
  ·exact .inr (.inr (.inl h))
  ·exact .inr (.inl h)
  ·exact .inr (.inr (.inr h))
 have htp:Topo (plus ops a ms) (Array.replicate (plus ops a ms).size false) (x++(y++a::v)):=(topo_steps (by simp)).2 ⟨by rw [plus_size];exact hnew.congr fun i=>by simp [lst_none],fun i hi=>.inr (hnall i (by rwa [plus_size] at hi))⟩
 exact late_move ho hop hdst hg hz hs (fun j hj=>(hfar j hj).2) ((ht.plus.allT hf hfe hi htp).unplus)
end
end Go.DM
namespace Go.DM
open Go Go.AM Go.RowKit
theorem setCells_os (b:Nat) : ∀ (vs:List Value) (o:Nat) (w:World),(w.setCells b o vs).heap.size=w.heap.size∧(w.setCells b o vs).os=w.os∧(w.setCells b o vs).tape=w.tape∧(w.setCells b o vs).output=w.output ∧
  ∀ k,k≠b→(w.setCells b o vs).heap[k]?=w.heap[k]?
 | [],o,w=>⟨rfl,rfl,rfl,rfl,fun _ _=>rfl⟩
 | v::vs,o,w=>by
  obtain ⟨h1,h2,h3,h4,h5⟩:=setCells_os b vs (o+1) (w.setCell ⟨b,o,none⟩ v)
  rw [World.setCells]
  refine ⟨by rw [h1];simp [World.setCell],h2,h3,h4,fun k hk => ?_⟩
  rw [h5 k hk]
  simp only [World.setCell,Array.getElem?_modify]
  rw [if_neg (Ne.symm hk)]
theorem setCells_at (b:Nat) : ∀ (vs:List Value) (o:Nat) (w:World) (c:Array Value) (e:TypeId) (fr:Nat×Nat),w.heap[b]?=some (.cells c e fr) →
  ∃ c',(w.setCells b o vs).heap[b]?=some (.cells c' e fr)∧c'.size=c.size∧(∀ k,k<o∨o+vs.length≤k→c'[k]?=c[k]?) ∧ ∀ i v,vs[i]?=some v→o+i<c.size→c'[o+i]?=some v
 | [],o,w,c,e,fr,h=>⟨c,h,rfl,fun _ _=>rfl,fun i v hv=>by simp at hv⟩
 | u::vs,o,w,c,e,fr,h=>by
  have h1:(w.setCell ⟨b,o,none⟩ u).heap[b]?=some (.cells (c.setIfInBounds o u) e fr):=by
   simp only [World.setCell,Array.getElem?_modify,if_true,h,Option.map_some]
   rfl
  obtain ⟨c',k1,k2,k3,k4⟩:=setCells_at b vs (o+1) _ _ e fr h1
  rw [World.setCells]
  refine ⟨c',k1,by rw [k2];simp,fun k hk => ?_,fun i v hv hi => ?_⟩
  ·rw [List.length_cons] at hk
   rw [k3 k (by omega),Array.getElem?_setIfInBounds_ne (by omega)]
  ·cases i with
   | zero=>
    have:v=u:=by simpa using hv.symm
    subst this
    rw [Nat.add_zero] at hi ⊢
    rw [k3 o (by omega),Array.getElem?_setIfInBounds_self_of_lt hi]
   | succ i=>
    have:=k4 i v (by simpa using hv) (by simp;omega)
    rwa [show o+1+i=o+(i+1) by omega] at this
theorem rowOut_two {w w0:World} {b off n o1 o2:Nat} {xs ys vals:List Value} (hh:w0.heap=w.heap) (h1:w0.os=w.os) (h2:w0.tape=w.tape) (h3:w0.output=w.output) (q1:off≤o1) (q2:o1+xs.length≤off+n) (q3:off≤o2) (q4:o2+ys.length≤off+n)
  (hv : ∀ c e fr,w.heap[b]?=some (.cells c e fr) → ∀ i v,vals[i]?=some v→off+i<c.size →
   (o2≤off+i∧ys[off+i - o2]?=some v)∨((off+i<o2∨o2+ys.length≤off+i)∧o1≤off+i∧xs[off+i - o1]?=some v)∨((off+i<o2∨o2+ys.length≤off+i)∧(off+i<o1∨o1+xs.length≤off+i)∧c[off+i]?=some v)) :
  RowOut w ((w0.setCells b o1 xs).setCells b o2 ys) b off n vals:=by
 obtain ⟨k1,k2,k3,k4,k5⟩:=setCells_os b xs o1 w0
 obtain ⟨j1,j2,j3,j4,j5⟩:=setCells_os b ys o2 (w0.setCells b o1 xs)
 refine ⟨fun c e fr hc => ?_,fun k _ hk=>by rw [j5 k hk,k5 k hk,hh],by rw [j1,k1,hh];exact Nat.le_refl _,(j2.trans k2).trans h1,(j3.trans k3).trans h2,(j4.trans k4).trans h3⟩
 obtain ⟨c1,a1,a2,a3,a4⟩:=setCells_at b xs o1 w0 c e fr (by rw [hh];exact hc)
 obtain ⟨c2,b1,b2,b3,b4⟩:=setCells_at b ys o2 _ c1 e fr a1
 refine ⟨c2,b1,b2.trans a2,fun k hk=>by rw [b3 k (by omega),a3 k (by omega)],fun i v hi hlt => ?_⟩
 rcases hv c e fr hc i v hi hlt with ⟨p1,p2⟩ | ⟨p1,p2,p3⟩ | ⟨p1,p2,p3⟩
 ·have:=b4 _ v p2 (by rw [a2];omega)
  rwa [show o2+(off+i - o2)=off+i by omega] at this
 ·rw [b3 _ p1]
  have:=a4 _ v p3 (by omega)
  rwa [show o1+(off+i - o1)=off+i by omega] at this
 ·rw [b3 _ p1,a3 _ p2]
  exact p3
theorem step_put {base φ H w w1} (hs:Sim φ H w) {h:Nat} {b:Blk} (hg:hget H h=some b) (hrw:b.rw=true) (hbase:base≤h) (hlo:b.lo=0) {new:List Value} {N:Nat} (hN:b.cells.length≤N) (hn:new.length≤N) (hfin:(φ h).base+N≤(φ h).fin) {c c':Array Value} {e:TypeId} {fr:Nat×Nat}
  (hB:w.heap[(φ h).B]?=some (.cells c e fr)) (hB':w1.heap[(φ h).B]?=some (.cells c' e fr)) (hsz:c'.size=c.size) (hout : ∀ k,k<(φ h).base∨(φ h).base+N≤k→c'[k]?=c[k]?)
  (hin : ∀ i v,new[i]?=some v → ∃ v',c'[(φ h).base+i]?=some v'∧VRel H.length φ v v') (hoth : ∀ k,k<w.heap.size→k≠(φ h).B→w1.heap[k]?=w.heap[k]?) (hsize:w.heap.size≤w1.heap.size)
  (hos:w1.os=w.os) (hta:w1.tape=w.tape) (hou:w1.output=w.output):Step base φ H w φ (hset H h (some { b with cells:=new })) w1:=by
 obtain ⟨c0,e0,fr0,hB0,g1,g2,g3,g4,g5,g6⟩:=hs.cov h b hg
 rw [hB] at hB0
 cases hB0
 have hlt:=hget_lt hg
 have back : ∀ h' b',hget (hset H h (some { b with cells:=new })) h'=some b' → ∃ b0,hget H h'=some b0∧b0.rw=b'.rw∧b0.lo=b'.lo∧b0.par=b'.par∧(b'.rw=true∨b0.cells.length=b'.cells.length):=by
  intro h' b' hg'
  by_cases he:h'=h
  ·subst he
   rw [hget_set_eq hlt] at hg'
   cases hg'
   exact ⟨b,hg,rfl,rfl,rfl,.inl hrw⟩
  ·rw [hget_set_ne (Ne.symm he)] at hg'
   exact ⟨b',hg',rfl,rfl,rfl,.inr rfl⟩
 refine ⟨by simp [length_hset],fun _ _=>rfl,hsize,hos,hta,hou,?_,?_,?_,no_fresh length_hset,?_,?_,?_,?_⟩
 ·intro k hk hn
  exact hoth k hk fun e=>hn h b hbase hg hrw e.symm
 ·intro h' b' hh' hg'
  obtain ⟨b0,k0,k1,_⟩:=back h' b' hg'
  exact ⟨b0,k0,fun hr=>k1.trans hr⟩
 ·intro h' b' hb' hg' hr'
  obtain ⟨b0,k0,k1,_⟩:=back h' b' hg'
  exact .inr ⟨h',b0,hb',k0,k1.trans hr',rfl⟩
 ·intro h' b' hg'
  rw [length_hset]
  by_cases he:h'=h
  ·subst he
   rw [hget_set_eq hlt] at hg'
   cases hg'
   refine ⟨_,e,fr,hB',?_,by rw [hsz];exact g2,g3,hin,g5,?_⟩
   ·show (φ h').base+new.length≤_
    omega
   ·show b.lo≤new.length
    omega
  ·rw [hget_set_ne (Ne.symm he)] at hg'
   obtain ⟨c',e',fr',hBk,k1,k2,k3,k4,k5,k6⟩:=hs.cov h' b' hg'
   by_cases hBB:(φ h').B=(φ h).B
   ·rw [hBB,hB] at hBk
    cases hBk
    refine ⟨_,e,fr,by rw [hBB];exact hB',k1,by rw [hsz];exact k2,k3,fun i u hu => ?_,k5,k6⟩
    obtain ⟨u',hu',hrel⟩:=k4 i u hu
    refine ⟨u',?_,hrel⟩
    have hi:=(List.getElem?_eq_some_iff.1 hu).1
    have:=hs.apart h h' b b' (Ne.symm he) hg hg' hrw
    have q1 := @wBeg_le (φ h) b h'
    have q2:=le_rEnd k1
    rw [hout _ (by omega)]
    exact hu'
   ·exact ⟨c',e',fr',by rw [hoth _ (Array.getElem?_eq_some_iff.1 hBk).1 hBB];exact hBk,k1,k2,k3,k4,k5,k6⟩
 ·intro h1 h2 b1 b2 hne k1 k2 kr
  obtain ⟨b1',k1',e1,e1l,e1p,e1c⟩:=back h1 b1 k1
  obtain ⟨b2',k2',e2,e2l,e2p,e2c⟩:=back h2 b2 k2
  have:=hs.apart h1 h2 b1' b2' hne k1' k2' (e1.trans kr)
  unfold rEnd wBeg at this ⊢
  rw [e2,e1l,e1p] at this
  rcases e2c with e2c | e2c
  ·rw [e2c] at this ⊢
   exact this
  ·rw [e2c] at this
   exact this
 ·intro h1 b1 p b' k1 hp k2
  obtain ⟨b1',k1',e1,e1l,e1p,e1c⟩:=back h1 b1 k1
  obtain ⟨b2',k2',e2,_⟩:=back p b' k2
  rw [← e2]
  exact hs.par h1 b1' p b2' k1' (e1p▸hp) k2'
 ·intro h1 b1 p k1 hp
  obtain ⟨b1',k1',e1,e1l,e1p,e1c⟩:=back h1 b1 k1
  rw [length_hset]
  exact hs.parlt h1 b1' p k1' (e1p▸hp)
theorem srel_dead {r:Rl} {S:Mem} (hS:SRel r S) (o:Nat):SRel r (S.set o .dead):=by
 have key : ∀ {i:Nat} {y:Ob},(S.set o .dead)[i]?=some y→y ≠ .dead→S[i]?=some y:=by
  intro i y hi hy
  by_cases e:i=o
  ·subst e
   rw [List.getElem?_set] at hi
   simp only [if_true] at hi
   split at hi
   ·cases hi;exact absurd rfl hy
   ·cases hi
  ·rwa [List.getElem?_set_ne (Ne.symm e)] at hi
 refine ⟨by simpa using hS.n,fun o' cells ho' => ?_,fun id hid=>hS.own id (key hid (by simp)),fun i j hij ⟨x,hx,hxd⟩ ⟨y,hy,hyd⟩=>hS.inj i j hij ⟨x,key hx hxd,hxd⟩ ⟨y,key hy hyd,hyd⟩⟩
 have:=key (objAt_some ho') (by simp)
 exact hS.obj o' cells (by simp [objAt,this])
theorem srel_move {r:Rl} {S:Mem} (hS:SRel r S) {o:Nat} {cells ncells:List D} (ho:objAt S o=some cells) {b:Blk} {new:List Value} (hg:hget r.H (r.ψ o)=some b) (hd:DL r ncells new) (sz len:Nat) (hz:b.sz=sz) :
  let H':=hset r.H (r.ψ o) (some { b with cells:=new })
  let r':Rl:=⟨S.length+1,fun i=>if i=S.length then r.ψ o else r.ψ i,r.k,H'⟩
  r.Le r'∧SRel r' (S.set o .dead++[.obj ncells])∧DRel r' (.msl S.length sz len) (.slice (some ⟨r.ψ o,0,none⟩) len len):=by
 intro H' r'
 obtain ⟨b0,g0,w,l,kk,dl⟩:=hS.obj o cells ho
 rw [hg] at g0
 cases g0
 have hlt:=hget_lt hg
 have holt:o<S.length:=(List.getElem?_eq_some_iff.1 (objAt_some ho)).1
 have hψ : ∀ i,i<S.length→r'.ψ i=r.ψ i:=fun i hi=>if_neg (by omega)
 have hψn:r'.ψ S.length=r.ψ o:=if_pos rfl
 have le:r.Le r':=by
  refine ⟨by rw [hS.n];exact Nat.le_succ _,fun i hi=>hψ i (by rw [← hS.n];exact hi),by simp [r',H',length_hset],fun h c hk hg'=>⟨hk,?_⟩,fun h c _ hg' => ?_⟩
  ·have hne:r.ψ o≠h:=by rintro rfl;rw [kk] at hk;cases hk
   exact ⟨c,by simp only [r',H'];rw [hget_set_ne hne];exact hg',rfl,rfl⟩
  ·simp only [r',H'] at hg'
   by_cases e:r.ψ o=h
   ·subst e
    rw [hget_set_eq hlt] at hg'
    cases hg'
    exact ⟨b,hg,rfl⟩
   ·rw [hget_set_ne e] at hg'
    exact ⟨c,hg',rfl⟩
 have old : ∀ {i:Nat} {y:Ob},(S.set o .dead++[.obj ncells])[i]?=some y→y ≠ .dead→(i=S.length∧y = .obj ncells)∨(i<S.length∧i≠o∧S[i]?=some y):=by
  intro i y hi hy
  rcases Nat.lt_trichotomy i S.length with h | h | h
  ·rw [List.getElem?_append_left (by simpa using h)] at hi
   by_cases e:i=o
   ·subst e
    rw [List.getElem?_set_self h] at hi
    cases hi;exact absurd rfl hy
   ·rw [List.getElem?_set_ne (Ne.symm e)] at hi
    exact .inr ⟨h,e,hi⟩
  ·subst h
   rw [List.getElem?_append_right (by simp)] at hi
   simp at hi
   exact .inl ⟨rfl,hi.symm⟩
  ·rw [List.getElem?_append_right (by simp;omega)] at hi
   rw [List.getElem?_eq_none (by simp;omega)] at hi
   cases hi
 refine ⟨le,⟨by simp [r'],?_,?_,?_⟩,?_⟩
 ·intro o' cells' ho'
  rcases old (objAt_some ho') (by simp) with ⟨rfl,h⟩ | ⟨h1,h2,h3⟩
  ·cases h
   rw [hψn]
   exact ⟨_,hget_set_eq hlt,w,l,kk,hd.mono le⟩
  ·obtain ⟨b',g',w',l',kk',dl'⟩:=hS.obj o' cells' (by simp [objAt,h3])
   have hne:=hS.inj o o' (Ne.symm h2) ⟨_,objAt_some ho,by simp⟩ ⟨_,h3,by simp⟩
   rw [hψ o' h1]
   exact ⟨b',by simp only [r',H'];rw [hget_set_ne hne];exact g',w',l',kk',dl'.mono le⟩
 ·intro id hid
  rcases old hid (by simp) with ⟨_,h⟩ | ⟨h1,h2,h3⟩
  ·cases h
  ·obtain ⟨b',g',w',kk'⟩:=hS.own id h3
   have hne':r.ψ o≠r.ψ id:=by intro e;rw [← e] at kk';rw [kk] at kk';cases kk'
   rw [hψ id h1]
   exact ⟨b',by simp only [r',H'];rw [hget_set_ne hne'];exact g',w',kk'⟩
 ·intro i j hij ⟨x,hx,hxd⟩ ⟨y,hy,hyd⟩
  rcases old hx hxd with ⟨rfl,_⟩ | ⟨i1,i2,i3⟩<;>rcases old hy hyd with ⟨rfl,_⟩ | ⟨j1,j2,j3⟩
  ·exact absurd rfl hij
  ·rw [hψn,hψ j j1]
   exact hS.inj o j (Ne.symm j2) ⟨_,objAt_some ho,by simp⟩ ⟨_,j3,hyd⟩
  ·rw [hψn,hψ i i1]
   exact hS.inj i o i2 ⟨_,i3,hxd⟩ ⟨_,objAt_some ho,by simp⟩
  ·rw [hψ i i1,hψ j j1]
   exact hS.inj i j hij ⟨_,i3,hxd⟩ ⟨_,j3,hyd⟩
 ·have:=DRel.msl (r:=r') S.length sz len (by simp [r']) (by rw [hψn];simp [r',H',length_hset];exact hlt) (fun b' hb'=>by
   rw [hψn] at hb'
   simp only [r',H'] at hb'
   rw [hget_set_eq hlt] at hb'
   cases hb'
   exact hz)
  rw [hψn] at this
  exact this
theorem cov_cells {φ:Nat→AM.Place} {H:Heap} {w:World} (hs:Sim φ H w) {h:Nat} {b:Blk} (hg:hget H h=some b) {c:Array Value} {e:TypeId} {fr:Nat×Nat} (hB:w.heap[(φ h).B]?=some (.cells c e fr)) :
  ∃ ws:List Value,LRel H.length φ b.cells ws ∧ ∀ j v,ws[j]?=some v→c[(φ h).base+j]?=some v:=by
 obtain ⟨c0,e0,fr0,hB0,g1,g2,g3,g4,g5,g6⟩:=hs.cov h b hg
 rw [hB] at hB0
 cases hB0
 have key : ∀ j v,((c.toList.drop (φ h).base).take b.cells.length)[j]?=some v→c[(φ h).base+j]?=some v:=fun j v hj=>by
  rw [List.getElem?_take] at hj
  split at hj
  ·rw [List.getElem?_drop] at hj
   rwa [← Array.getElem?_toList]
  ·cases hj
 refine ⟨(c.toList.drop (φ h).base).take b.cells.length,⟨by simp;omega,fun i v v' h1 h2 => ?_⟩,key⟩
 obtain ⟨u,hu,hr⟩:=g4 i v h1
 rw [key i v' h2] at hu
 cases hu
 exact hr
theorem LRel.take {n:Nat} {φ:Nat→AM.Place} {vs ws:List Value} (h:LRel n φ vs ws) (k:Nat):LRel n φ (vs.take k) (ws.take k):=by
 refine ⟨by simp [h.1],fun i v v' h1 h2 => ?_⟩
 rw [List.getElem?_take] at h1 h2
 split at h1
 ·rename_i hk
  rw [if_pos hk] at h2
  exact h.2 i v v' h1 h2
 ·cases h1
theorem LRel.drop {n:Nat} {φ:Nat→AM.Place} {vs ws:List Value} (h:LRel n φ vs ws) (k:Nat):LRel n φ (vs.drop k) (ws.drop k):=by
 refine ⟨by simp [h.1],fun i v v' h1 h2 => ?_⟩
 rw [List.getElem?_drop] at h1 h2
 exact h.2 _ v v' h1 h2
theorem LRel.one {n:Nat} {φ:Nat→AM.Place} {vs ws:List Value} (h:LRel n φ vs ws) (h1:vs.all Value.oneCell'=true) : ∀ v∈ws,v.oneCell'=true:=by
 intro v hv
 obtain ⟨i,hi,rfl⟩:=List.mem_iff_getElem.1 hv
 have hi':i<vs.length:=by rw [h.1];exact hi
 rw [(h.2 i vs[i] ws[i] (by simp) (by simp)).oneCell]
 exact List.all_eq_true.1 h1 _ (List.getElem_mem _)
def putL {α:Type} (cells:List α) (k:Nat) (new:List α):List α:=cells.take k++(new++cells.drop k)
theorem putL_length {α:Type} {cells new:List α} {k:Nat} (h:k≤cells.length):(putL cells k new).length=cells.length+new.length:=by
 simp only [putL,List.length_append,List.length_take,List.length_drop]
 omega
structure PutOk (P:Program) (f:FuncId) (K B:Nat):Prop where
 pos:0<K
 room : ∀ (w:World) (b off n c i vb voff vc:Nat) (cs vs:List Value),i≤n→n+1≤c→c≤9223372036854775807→cs.length=n*K→vs.length=K →
  (∀ j v,cs[j]?=some v→w.cell? ⟨b,off+j,none⟩=some v)→(∀ j,j<(n+1)*K→(w.cell? ⟨b,off+j,none⟩).isSome=true)→(∀ j,j<(n+1)*K→w.frozen? ⟨b,off+j,none⟩=false) →
  (∀ j v,vs[j]?=some v→w.cell? ⟨vb,voff+j,none⟩=some v)→(∀ v∈cs,v.oneCell'=true)→(∀ v∈vs,v.oneCell'=true)→(vb=b→voff+K≤off∨off+(n+1)*K≤voff) →
  (∀ c e fr,w.heap[b]?=some (.cells c e fr)→w.frozen? ⟨b,c.size,none⟩=false) →
  Calls P f #[.slice (some ⟨b,off,none⟩) n c,.int .i64 (i:Int),.slice (some ⟨vb,voff,none⟩) 1 vc] w fun e w'=>e = .returned (.slice (some ⟨b,off,none⟩) (n+1) c)∧RowOut w w' b off ((n+1)*K) (putL cs (i*K) vs)
 full : ∀ (w:World) (base:Option Addr) (n i vb voff vc:Nat) (cs vs:List Value),i≤n→(n+1)*B≤2 ^ 47→cs.length=n*K→vs.length=K→(base=none→n=0) →
  (∀ a,base=some a→n≠0→a.spot=none)→(∀ a,base=some a→n≠0 → ∀ j v,cs[j]?=some v→w.cell? ⟨a.block,a.off+j,none⟩=some v) →
  (∀ j v,vs[j]?=some v→w.cell? ⟨vb,voff+j,none⟩=some v)→(∀ v∈cs,v.oneCell'=true)→(∀ v∈vs,v.oneCell'=true) →
  Calls P f #[.slice base n n,.int .i64 (i:Int),.slice (some ⟨vb,voff,none⟩) 1 vc] w fun e w' => ∃ (G:Nat) (row:Array Value) (t:TypeId),e = .returned (.slice (some ⟨w.heap.size,0,none⟩) (n+1) G)∧n+1≤G∧G≤9223372036854775807∧row.size=G*K ∧
   (∀ (j:Nat) (v:Value),(putL cs (i*K) vs)[j]?=some v→row[j]?=some v)∧w'.heap=w.heap.push (.cells row t (0,0))∧w'.os=w.os∧w'.tape=w.tape∧w'.output=w.output
def putOrc (c:FuncId→Nat→Nat→Prop):DOracle:=fun f args S d S' => ∃ (K B o n i:Nat) (own:Option Nat) (a1:D) (cells new:List D),c f K B∧K≠1∧new.length=K∧i≤n∧(n+1)*B≤2 ^ 47∧cells.all D.one=true∧new.all D.one=true ∧
 args=[a1,.int .i64 (i:Int),.sl own K 1 new]∧(((a1 = .nils∨a1 = .sl0)∧n=0∧cells=[]∧S'=S++[.obj new])∨(a1 = .msl o K n∧objAt S o=some cells∧cells.length=n*K∧S'=S.set o .dead++[.obj (putL cells (i*K) new)]))∧d = .msl S.length K (n+1)
theorem putOrc_sound {P:Program} {A:Beside} {c:FuncId→Nat→Nat→Prop} (h : ∀ f K B,c f K B→PutOk P f K B):DOrcSound P A (putOrc c):=by
 rintro f args S d S' ⟨K,B,o,n,i,own,a1,cells,new,hc,hK1,hnl,hin,hlim,h1c,h1n,rfl,hcase,rfl⟩ r φ w hS hs vs args' dl hargs
 have ok:=h f K B hc
 have hKpos:=ok.pos
 obtain ⟨v1,v2,v3,rfl⟩ : ∃ v1 v2 v3,vs=[v1,v2,v3]:=by
  have:=dl.1
  match vs,this with | [v1,v2,v3],_=>exact ⟨v1,v2,v3,rfl⟩
 obtain ⟨u1,u2,u3,hu⟩ : ∃ u1 u2 u3,args'.toList=[u1,u2,u3]:=by
  have:=hargs.1
  match h:args'.toList,this with | [v1,v2,v3],_=>exact ⟨v1,v2,v3,rfl⟩
 rw [hu] at hargs
 have ea:args' = #[u1,u2,u3]:=by rw [← Array.toList_inj,hu]
 subst ea
 have e2:v2 = .int .i64 (i:Int):=by have:=dl.tail.head;cases this;rfl
 subst e2
 obtain rfl:u2 = .int .i64 (i:Int):=hargs.tail.head.scalar_eq rfl
 have d3:=dl.tail.tail.head
 have r3:=hargs.tail.tail.head
 cases d3 with
 | sl _ _ _ _ vsA h3 o3 m3 b3 hk3 hg3 hz3 hr3 hm3 hl3 hs3 ho3 hc3=>
 have hv3 : ∃ c3,u3 = .slice (some ⟨(φ h3).B,(φ h3).base+o3,none⟩) 1 c3:=by
  generalize hadr:(⟨h3,o3,none⟩:Addr)=adr at r3
  generalize hone:(1:Nat)=one at r3
  cases r3 with
  | sl _ _ _ _ c3 hh hll hmc hf=>cases hadr;exact ⟨c3,rfl⟩
  | slEmp _ _ bb hh=>cases hone
  | slFree bb=>cases hone
 obtain ⟨c3,rfl⟩:=hv3
 obtain ⟨b3',hg3',ho3l,hvs⟩:=readA_some hr3
 rw [hg3] at hg3'
 cases hg3'
 obtain ⟨cw,ew,frw,hBw,q1,q2,q3,q4,q5,q6⟩:=hs.1.cov h3 b3 hg3
 obtain ⟨ws3,lw3,cw3⟩:=cov_cells hs.1 hg3 hBw
 have hvlen:vsA.length=K:=by rw [← hl3,hnl]
 have lV:LRel r.H.length φ vsA ((ws3.drop o3).take vsA.length):=by
  have:=LRel.take (LRel.drop lw3 o3) vsA.length
  rwa [← hvs] at this
 generalize hVW:(ws3.drop o3).take vsA.length=VW at lV
 have hVWl:VW.length=K:=by rw [← lV.1,hvlen]
 have hVWc : ∀ j v,VW[j]?=some v→w.cell? ⟨(φ h3).B,(φ h3).base+o3+j,none⟩=some v:=fun j v hj=>by
  rw [← hVW,List.getElem?_take] at hj
  split at hj
  ·rw [List.getElem?_drop] at hj
   have:=cw3 _ v hj
   simp only [World.cell?,hBw]
   rw [Nat.add_assoc]
   simpa using this
  ·cases hj
 have dV:DL r new vsA:=⟨hl3,hc3⟩
 have h1V : ∀ v∈VW,v.oneCell'=true:=LRel.one lV (all_one dV h1n)
 rcases hcase with ⟨ha1,rfl,rfl,rfl⟩ | ⟨rfl,hob,hcl,rfl⟩
 ·have hi0:i=0:=by omega
  subst hi0
  have e1:EmpV v1:=by
   have hd:=dl.head
   rcases ha1 with rfl | rfl
   ·cases hd;exact .inl rfl
   ·cases hd with | sl0 _ h=>exact h
  obtain ⟨base,rfl⟩ : ∃ base,u1 = .slice base 0 0:=by
   have hv:=hargs.head
   rcases e1 with rfl | rfl
   ·exact ⟨none,hv.scalar_eq rfl⟩
   ·generalize hadr:freeA=adr at hv
    generalize hz:(0:Nat)=z at hv
    cases hv with
    | sl=>simp [freeA] at hadr
    | slEmp=>simp [freeA] at hadr
    | slFree b=>exact ⟨some b,rfl⟩
  refine (ok.full w base 0 0 _ _ c3 [] VW (Nat.le_refl _) hlim (by simp) hVWl (fun _=>rfl) (fun a _ hn=>absurd rfl hn) (fun a _ hn=>absurd rfl hn) hVWc (fun v hv=>by cases hv) h1V).mono fun e w' ⟨G,row,t,he,hG,hG63,hrs,hrow,hw1,hw2,hw3,hw4⟩ => ?_
  have hrow' : ∀ j v,VW[j]?=some v→row[j]?=some v:=fun j v hj=>hrow j v (by simpa [putL] using hj)
  have hle:vsA.length≤row.size:=by rw [hrs,hvlen];exact Nat.le_mul_of_pos_left K (by omega)
  have hst:Step 0 φ r.H w (extP φ r.H.length ⟨w.heap.size,0,row.size,K⟩) (newB r.H ⟨vsA,K,true,0,[]⟩) w' :=
   step_newB (nb:=⟨vsA,K,true,0,[]⟩) (cs:=row) (e:=t) (fr:=(0,0)) (fin:=row.size) hs.1 hw1 hw2 hw3 hw4 hle (Nat.le_refl _) (fun i _ h=>by simp at h) (fun _=>by rw [hrs];exact Nat.mul_le_mul_right _ hG63) (Nat.zero_le _) (fun p hp=>by cases hp)
    (fun j v hj=>by
     have hj':=(List.getElem?_eq_some_iff.1 hj).1
     have hw:VW[j]?=some (VW[j]'(by rw [← lV.1];exact hj')):=by simp
     exact ⟨_,hrow' j _ hw,lV.2 j v _ hj hw⟩)
  obtain ⟨le,sr,dr⟩:=new_msl (sz:=K) (len:=1) hS (cells:=new) (vs:=vsA) dV
  refine ⟨_,_,_,_,he,le,sr,hst,dr,?_⟩
  have hlen:(r.push false (newA r.H vsA K)).H.length=r.H.length+1:=by simp [Rl.push,newA,newB]
  rw [hlen]
  have:=VRel.sl (n:=r.H.length+1) (φ:=extP φ r.H.length ⟨w.heap.size,0,row.size,K⟩) r.H.length 0 1 1 G (Nat.lt_succ_self _) (Nat.le_refl _) (by omega) (by rw [extP_eq];simp [hrs])
  rw [extP_eq] at this
  exact this
 ·have hd1:=dl.head
  have hv:=hargs.head
  cases hd1 with
  | msl _ _ _ ho hlt hz=>
  obtain ⟨b,g,hrw,hl,hk,hd⟩:=hS.obj o _ hob
  obtain ⟨c0,e0,fr0,hB,g1,g2,g3,g4,g5,g6⟩:=hs.1.cov _ b g
  obtain ⟨ws,lw,cws⟩:=cov_cells hs.1 g hB
  have hbz:=hz b g
  have hbl:b.cells.length=n*K:=by rw [← hd.1,hcl]
  have hwl:ws.length=n*K:=by rw [← lw.1,hbl]
  have hne:r.ψ o≠h3:=by rintro e;rw [e,hk3] at hk;cases hk
  have dN:DL r (putL cells (i*K) new) (putL b.cells (i*K) vsA):=(hd.take _).append (dV.append (hd.drop _))
  have lN:LRel r.H.length φ (putL b.cells (i*K) vsA) (putL ws (i*K) VW):=(LRel.take lw _).append (lV.append (LRel.drop lw _))
  have hiK:i*K≤n*K:=Nat.mul_le_mul_right _ hin
  have hNl:(putL b.cells (i*K) vsA).length=(n+1)*K:=by rw [putL_length (by omega),hbl,hvlen,Nat.add_mul,Nat.one_mul]
  have hcell : ∀ j v,ws[j]?=some v→w.cell? ⟨(φ (r.ψ o)).B,(φ (r.ψ o)).base+j,none⟩=some v:=fun j v hj=>by
   have:=cws j v hj
   simp only [World.cell?,hB]
   simpa using this
  have h1W : ∀ v∈ws,v.oneCell'=true:=LRel.one lw (all_one hd h1c)
  have grow : ∀ base,u1 = .slice base n n→(base=none→n=0)→(∀ a,base=some a→n≠0→a=⟨(φ (r.ψ o)).B,(φ (r.ψ o)).base,none⟩) →
    Calls P f #[u1,.int .i64 (i:Int),.slice (some ⟨(φ h3).B,(φ h3).base+o3,none⟩) 1 c3] w fun e w' => ∃ r' u v' φ',e = .returned v'∧r.Le r'∧SRel r' (S.set o .dead++[.obj (putL cells (i*K) new)])∧Step 0 φ r.H w φ' r'.H w'∧DRel r' (.msl S.length K (n+1)) u∧VRel r'.H.length φ' u v':=by
   intro base hu1 hb0 hbs
   subst hu1
   refine (ok.full w base n i _ _ c3 ws VW hin hlim hwl hVWl hb0 (fun a ha hn=>by rw [hbs a ha hn]) (fun a ha hn j v hj=>by rw [hbs a ha hn];exact hcell j v hj) hVWc h1W h1V).mono fun e w' ⟨G,row,t,he,hG,hG63,hrs,hrow,hw1,hw2,hw3,hw4⟩ => ?_
   have hle:(putL b.cells (i*K) vsA).length≤row.size:=by rw [hrs,hNl];exact Nat.mul_le_mul_right _ hG
   have hst:Step 0 φ r.H w (extP φ r.H.length ⟨w.heap.size,0,row.size,K⟩) (newB r.H ⟨putL b.cells (i*K) vsA,K,true,0,[]⟩) w' :=
    step_newB (nb:=⟨putL b.cells (i*K) vsA,K,true,0,[]⟩) (cs:=row) (e:=t) (fr:=(0,0)) (fin:=row.size) hs.1 hw1 hw2 hw3 hw4 hle (Nat.le_refl _) (fun i _ h=>by simp at h) (fun _=>by rw [hrs];exact Nat.mul_le_mul_right _ hG63) (Nat.zero_le _) (fun p hp=>by cases hp)
     (fun j v hj=>by
      have hj':=(List.getElem?_eq_some_iff.1 hj).1
      have hw:(putL ws (i*K) VW)[j]?=some ((putL ws (i*K) VW)[j]'(by rw [← lN.1];exact hj')):=by simp
      exact ⟨_,hrow j _ hw,lN.2 j v _ hj hw⟩)
   obtain ⟨le,sr,dr⟩:=new_msl (sz:=K) (len:=n+1) hS (cells:=putL cells (i*K) new) (vs:=putL b.cells (i*K) vsA) dN
   have hol:o<S.length:=(List.getElem?_eq_some_iff.1 (objAt_some hob)).1
   have sr2:=srel_dead sr o
   rw [List.set_append_left _ _ hol] at sr2
   refine ⟨_,_,_,_,he,le,sr2,hst,dr,?_⟩
   have hlen:(r.push false (newA r.H (putL b.cells (i*K) vsA) K)).H.length=r.H.length+1:=by simp [Rl.push,newA,newB]
   rw [hlen]
   have:=VRel.sl (n:=r.H.length+1) (φ:=extP φ r.H.length ⟨w.heap.size,0,row.size,K⟩) r.H.length 0 (n+1) (n+1) G (Nat.lt_succ_self _) (Nat.le_refl _) hG (by rw [extP_eq];simp [hrs])
   rw [extP_eq] at this
   exact this
  have hv':(∃ cc,u1 = .slice (some ⟨(φ (r.ψ o)).B,(φ (r.ψ o)).base,none⟩) n cc∧n≤cc∧(φ (r.ψ o)).base+cc*(φ (r.ψ o)).sz≤(φ (r.ψ o)).fin)∨(n=0 ∧ ∃ bb,u1 = .slice (some bb) 0 0):=by
   generalize hadr:(⟨r.ψ o,0,none⟩:Addr)=adr at hv
   generalize hnn:n=nn at hv
   cases hv with
   | slEmp _ _ bb hh=>exact .inr ⟨rfl,bb,rfl⟩
   | slFree bb=>exact .inr ⟨rfl,bb,rfl⟩
   | sl _ _ _ _ cc hh hll hmc hf=>
    cases hadr
    subst hnn
    exact .inl ⟨cc,rfl,hmc,by simpa using hf⟩
  rcases hv' with ⟨cc,hu1,hcc,hf⟩ | ⟨hn0,bb,hu1⟩
  ·by_cases hroom:n+1≤cc
   ·subst hu1
    have hccK:cc*K≤(φ (r.ψ o)).fin - (φ (r.ψ o)).base:=by rw [g3,hbz] at hf;omega
    have hnK:(n+1)*K≤cc*K:=Nat.mul_le_mul_right _ hroom
    have hcc63:cc≤9223372036854775807:=by
     have:=(g5 hrw).2 (by rw [g3,hbz];exact hK1)
     rw [g3,hbz] at this
     refine Nat.le_of_mul_le_mul_right (c:=K) ?_ hKpos
     omega
    have hfz : ∀ k,(φ (r.ψ o)).base≤k→w.frozen? ⟨(φ (r.ψ o)).B,k,none⟩=false:=fun k hk=>by
     have:=(g5 hrw).1 k hk (.inr (by rw [g3,hbz];exact hK1))
     simp only [World.frozen?,hB]
     simp only [Bool.and_eq_false_imp,decide_eq_true_eq,decide_eq_false_iff_not]
     omega
    refine (ok.room w _ _ n cc i _ _ c3 ws VW hin hroom hcc63 hwl hVWl hcell (fun j hj => ?_) (fun j hj=>hfz _ (by omega)) hVWc h1W h1V (fun e => ?_) (fun c e fr hc => ?_)).mono fun e w' ⟨he,hro⟩ => ?_
    ·have:(φ (r.ψ o)).base+j<c0.size:=by omega
     simp [World.cell?,hB,this]
    ·have hap:=hs.1.apart (r.ψ o) h3 b b3 hne g hg3 hrw
     have q0:wBeg (φ (r.ψ o)) b h3≤(φ (r.ψ o)).base:=by
      unfold wBeg
      split
      ·rw [hl.1];omega
      ·exact Nat.le_refl _
     have q7:=le_rEnd q1
     rcases hap with p | p | p
     ·exact absurd e.symm p
     ·exact .inr (by omega)
     ·exact .inl (by omega)
    ·rw [hB] at hc
     cases hc
     exact hfz _ (by omega)
    ·obtain ⟨c',hB',hsz,hout,hinn⟩:=hro.cells c0 e0 fr0 hB
     have hst:Step 0 φ r.H w φ (hset r.H (r.ψ o) (some { b with cells:=putL b.cells (i*K) vsA })) w' :=
      step_put (N:=(n+1)*K) hs.1 g hrw (Nat.zero_le _) hl.1 (by rw [hbl];exact Nat.mul_le_mul_right _ (by omega)) (by rw [hNl];exact Nat.le_refl _) (by omega) hB hB' hsz hout
       (fun j v hj=>by
        have hj':=(List.getElem?_eq_some_iff.1 hj).1
        have hw:(putL ws (i*K) VW)[j]?=some ((putL ws (i*K) VW)[j]'(by rw [← lN.1];exact hj')):=by simp
        exact ⟨_,hinn j _ hw (by omega),lN.2 j v _ hj hw⟩) hro.oth hro.size hro.os hro.tape hro.output
     obtain ⟨le,sr,dr⟩:=srel_move hS hob g dN K (n+1) hbz
     refine ⟨_,_,_,φ,he,le,sr,hst,dr,?_⟩
     dsimp only
     rw [length_hset]
     have:=VRel.sl (n:=r.H.length) (φ:=φ) (r.ψ o) 0 (n+1) (n+1) cc hlt (Nat.le_refl _) hroom (by rw [g3,hbz];omega)
     simpa using this
   ·have hcn:cc=n:=by omega
    rw [hcn] at hu1
    exact grow _ hu1 (fun h=>by cases h) (fun a ha _=>by cases ha;rfl)
  ·subst hn0
   exact grow _ hu1 (fun h=>by cases h) (fun a ha hn=>absurd rfl hn)
theorem CallD.putOrc {P:Program} {orc:DOracle} {c:FuncId→Nat→Nat→Prop} (hi : ∀ f args S d S',DM.putOrc c f args S d S'→orc f args S d S') {f:FuncId} {K B o n i:Nat} {own:Option Nat} {cells new:List D} {S:Mem} (h:c f K B) (hK:K≠1) (hnl:new.length=K) (hin:i≤n) (hlim:(n+1)*B≤2 ^ 47)
  (h1c:cells.all D.one=true) (h1n:new.all D.one=true) (hob:objAt S o=some cells) (hcl:cells.length=n*K) :
  CallD P orc f [.msl o K n,.int .i64 (i:Int),.sl own K 1 new] S fun d S'=>S'=S.set o .dead++[.obj (putL cells (i*K) new)]∧d = .msl S.length K (n+1):=
 ⟨_,_,.orc (hi _ _ _ _ _ ⟨K,B,o,n,i,own,_,cells,new,h,hK,hnl,hin,hlim,h1c,h1n,rfl,.inr ⟨rfl,hob,hcl,rfl⟩,rfl⟩),rfl,rfl⟩
theorem CallD.putOrc0 {P:Program} {orc:DOracle} {c:FuncId→Nat→Nat→Prop} (hi : ∀ f args S d S',DM.putOrc c f args S d S'→orc f args S d S') {f:FuncId} {K B:Nat} {own:Option Nat} {new:List D} {S:Mem} (h:c f K B) (hK:K≠1) (hnl:new.length=K) (hlim:B≤2 ^ 47) (h1n:new.all D.one=true) :
  CallD P orc f [.sl0,.int .i64 ((0:Nat):Int),.sl own K 1 new] S fun d S'=>S'=S++[.obj new]∧d = .msl S.length K 1:=
 ⟨_,_,.orc (hi _ _ _ _ _ ⟨K,B,0,0,0,own,_,[],new,h,hK,hnl,Nat.le_refl _,by simpa using hlim,rfl,h1n,rfl,.inl ⟨.inr rfl,rfl,rfl,rfl⟩,rfl⟩),rfl,rfl⟩
def cutL {α:Type} (cells:List α) (k K:Nat):List α:=cells.take k++cells.drop (k+K)
end Go.DM
namespace Go.DM
open Go Go.AM
abbrev Hint:=FuncId×Nat×List Nat×Nat×Option (Nat×List Nat)
structure Hints where
 open_:List Hint
 own:List (FuncId×Nat×Nat)
 low:List (FuncId×Nat×Nat)
 pure:List FuncId
 lib:FuncId→List D→Mem→Option (D×Mem)
abbrev Seen:=DEnv×Op×D
inductive EJob where
 | ops (f r sz:Nat) (ops:Array Oper) (i:Nat) (os:List Oper) (loose:List Nat) (ρ:DEnv)
 | code (f sz:Nat) (c:Code) (ρ:DEnv)
 | call (f:FuncId) (args:List D)
inductive EOut where
 | env (ρ:DEnv) (Hs:List Mem) (qs:List Seen)
 | exit (e:AExit) (ρ:DEnv)
 | val (d:D)
def eqL (f:D→D→Bool):List D→List D→Bool
 | [],[]=>true
 | a::xs,b::ys=>f a b&&eqL f xs ys
 | _,_=>false
def eqD:Nat→D→D→Bool
 | 0,_,_=>false
 | n+1,a,b=>
  match a,b with
  | .bool a,.bool b=>a==b
  | .int k a,.int l b=>decide (k=l)&&decide (a=b)
  | .str a,.str b=>decide (a=b)
  | .nilp,.nilp=>true
  | .ptr a b,.ptr c d=>a==c&&b==d
  | .eptr a b,.eptr c d=>eqL (eqD n) a c&&b==d
  | .nils,.nils=>true
  | .sl0,.sl0=>true
  | .slx,.slx=>true
  | .sl a b c d,.sl x y z w=>decide (a=x)&&b==y&&c==z&&eqL (eqD n) d w
  | .msl a b c,.msl x y z=>a==x&&b==y&&c==z
  | .nilf,.nilf=>true
  | .nili,.nili=>true
  | .agg a,.agg b=>eqL (eqD n) a b
  | _,_=>false
theorem eqL_ok {f:D→D→Bool} (h : ∀ a b,f a b=true→a=b) : ∀ {xs ys:List D},eqL f xs ys=true→xs=ys
 | [],[],_=>rfl
 | [],_::_,q=>by simp [eqL] at q
 | _::_,[],q=>by simp [eqL] at q
 | a::xs,b::ys,q=>by
  simp only [eqL,Bool.and_eq_true] at q
  rw [h _ _ q.1,eqL_ok h q.2]
theorem eqD_ok : ∀ {n:Nat} {a b:D},eqD n a b=true→a=b
 | 0,_,_,h=>by simp [eqD] at h
 | n+1,a,b,h=>by
  have ih:=fun a b => @eqD_ok n a b
  cases a<;>cases b<;>simp only [eqD,Bool.and_eq_true,beq_iff_eq,decide_eq_true_eq,Bool.false_eq_true] at h<;>first | rfl | (subst h;rfl) | (obtain ⟨rfl,rfl⟩:=h;rfl) | (rw [eqL_ok ih h]) | (obtain ⟨h1,rfl⟩:=h;rw [eqL_ok ih h1]) | (obtain ⟨⟨rfl,rfl⟩,rfl⟩:=h;rfl) | (obtain ⟨⟨⟨rfl,rfl⟩,rfl⟩,h1⟩:=h;rw [eqL_ok ih h1])
def readsSo (P:Program) (q:Seen) (H:Mem):Bool:=
 match q.2.1 with
 | .load t x=>match loadD P t (evalD q.1 x) H with | some v=>eqD 1000 v q.2.2 | none=>false
 | _=>false
theorem readsSo_ok {P:Program} {q:Seen} {H:Mem} (h:readsSo P q H=true):opD P q.1 q.2.1 H=some (q.2.2,H):=by
 unfold readsSo at h
 split at h
 ·rename_i e
  rw [e]
  simp only [opD]
  split at h
  ·rename_i e2
   rw [e2,eqD_ok h]
   rfl
  ·cases h
 ·cases h
def hintOf (hs:List Hint) (f r:Nat):Option (List Nat×Nat×Option (Nat×List Nat)):=(hs.find? fun h=>h.1==f&&h.2.1==r).map (·.2.2)
def openOk (P:Program) (ops:Array Oper) (x:List Nat×Nat×Option (Nat×List Nat)):Bool:=
 (x.1.all fun a=>decide (a<x.2.1)) &&
 match x.2.2 with
 | none=>drawnFineD ops x.1&&fenceOk ops x.1 x.2.1
 | some (a,ms)=>drawnFineD (plus ops a ms) x.1&&fenceOk (plus ops a ms) x.1 x.2.1&&lateOk ops a ms &&
  match ops[a]? with
  | some ⟨some _,.alloc ty,_,_,_,none⟩=>match zeroA P ty with | some z=>z.cells.all scalarV | none=>false
  | _=>false
def lowN (n:Nat):Nat→D→Bool
 | 0,_=>false
 | k+1,d=>
  match d with
  | .bool _=>true
  | .int _ _=>true
  | .str _=>true
  | .nilp=>true
  | .ptr o _=>decide (o<n)
  | .eptr c _=>c.all (lowN n k)
  | .nils=>true
  | .sl0=>true
  | .slx=>true
  | .sl own _ _ c=>(match own with | some id=>decide (id<n) | none=>true)&&c.all (lowN n k)
  | .msl o _ _=>decide (o<n)
  | .fn _ xs cs=>xs.all (lowN n k)&&cs.all (lowN n k)
  | .nilf=>true
  | .iface _ d=>lowN n k d
  | .nili=>true
  | .agg c=>c.all (lowN n k)
  | .tup c=>c.all (lowN n k)
  | .bot=>true
theorem lowN_ok {n:Nat} : ∀ {k:Nat} {d:D},lowN n k d=true→DLow n d
 | 0,_,h=>by simp [lowN] at h
 | k+1,d,h=>by
  have ih:=fun d => @lowN_ok n k d
  cases d with
  | sl own sz len cells=>
   simp only [lowN,List.all_eq_true,Bool.and_eq_true] at h
   refine .sl own _ _ _ (fun id e => ?_) fun i hi=>ih _ (h.2 _ (List.getElem_mem hi))
   subst e
   simpa using h.1
  | agg xs=>
   simp only [lowN,List.all_eq_true] at h
   exact .agg _ fun i hi=>ih _ (h _ (List.getElem_mem hi))
  | tup xs=>
   simp only [lowN,List.all_eq_true] at h
   exact .tup _ fun i hi=>ih _ (h _ (List.getElem_mem hi))
  | eptr xs off=>
   simp only [lowN,List.all_eq_true] at h
   exact .eptr _ _ fun i hi=>ih _ (h _ (List.getElem_mem hi))
  | fn g xs cs=>
   simp only [lowN,List.all_eq_true,Bool.and_eq_true] at h
   exact .fn _ _ _ (fun i hi=>ih _ (h.1 _ (List.getElem_mem hi))) fun i hi=>ih _ (h.2 _ (List.getElem_mem hi))
  | iface t d=>exact .iface _ _ (ih _ (by simpa [lowN] using h))
  | ptr o off=>exact .ptr _ _ (by simpa [lowN] using h)
  | msl o z len=>exact .msl _ _ _ (by simpa [lowN] using h)
  | bool b=>exact .bool b
  | int k x=>exact .int k x
  | str s=>exact .str s
  | nilp=>exact .nilp
  | nils=>exact .nils
  | sl0=>exact .sl0
  | slx=>exact .slx
  | nilf=>exact .nilf
  | nili=>exact .nili
  | bot=>exact .bot
def stripD:Nat→D→D
 | 0,d=>d
 | n+1,d=>
  match d with
  | .sl _ sz len c=>.sl none sz len (c.map (stripD n))
  | .agg c=>.agg (c.map (stripD n))
  | .tup c=>.tup (c.map (stripD n))
  | d=>d
theorem WfL.map {f:D→D} (h : ∀ d,Wf d (f d)) : ∀ l:List D,WfL l (l.map f)
 | []=>.nil
 | d::l=>.cons (h d) (WfL.map h l)
theorem stripD_wf : ∀ (n:Nat) (d:D),Wf d (stripD n d)
 | 0,_=>.refl
 | n+1,d=>by
  have ih:=stripD_wf n
  cases d with
  | sl own sz len c=>exact .sl' (WfL.map ih c)
  | agg c=>exact .agg' (WfL.map ih c)
  | tup c=>exact .tup' (WfL.map ih c)
  | _=>exact .refl
def oldLow (n:Nat) (S1:Mem):Bool:=decide (n≤S1.length)&&(S1.take n).all fun x=>match x with | .obj cells=>cells.all (lowN n 100) | _=>true
theorem CallD.pureN {P:Program} {orc:DOracle} {f:FuncId} {args:List D} {S S1:Mem} {d:D} (h:CallD P orc f args S fun d' S'=>d'=d∧S'=S1) (h1:lowN S.length 100 (stripD 100 d)=true) (h2:oldLow S.length S1=true) :
  CallD P orc f args S fun d' S'=>d'=stripD 100 d∧S'=S1.take S.length:=by
 obtain ⟨_,_,hb,rfl,rfl⟩:=h
 simp only [oldLow,Bool.and_eq_true,decide_eq_true_eq,List.all_eq_true] at h2
 refine ⟨_,_,.drop hb h2.1 ((stripD_wf 100 _).to_Wk (lowN_ok h1)) fun o cells ho hc=>.inr fun c hcm => ?_,rfl,rfl⟩
 have hx:Ob.obj cells∈List.take S.length _:=List.mem_of_getElem? (i:=o) (by rw [List.getElem?_take,if_pos ho];exact objAt_some hc)
 have:=h2.2 _ hx
 simp only [List.all_eq_true] at this
 exact lowN_ok (this c hcm)
def madeNew (P:Program) (ρ:DEnv) (c:Call) (H:Mem):Option (Nat×Nat×List D):=
 match c.callee,c.args.toList.map (evalD ρ) with
 | .builtin .append,[s,x]=>
  match s with
  | .nils | .sl0=>match appendD P c.argTypes s x H with | some (.sl (some _) z len cells,_)=>some (z,len,cells) | _=>none
  | _=>none
 | _,_=>none
theorem appendD_new {P:Program} {at_:Array TypeId} {s x:D} {S S1:Mem} {id z len:Nat} {cells:List D} (hs:s = .nils∨s = .sl0) (h:appendD P at_ s x S=some (.sl (some id) z len cells,S1)):id=S.length∧S1=S++[.own]:=by
 unfold appendD at h
 cases h1:at_[0]? with
 | none=>simp [h1] at h
 | some st=>
 cases h2:P.underlying st with
 | none=>simp [h1,h2] at h
 | some d=>
 cases d<;>simp only [h1,h2,Option.bind_eq_bind,Option.bind_some,reduceCtorEq] at h
 rename_i e
 cases h3:at_[1]? with
 | none=>simp [h3] at h
 | some xt=>
 simp only [h3,Option.bind_some] at h
 split at h
 ·cases h
 cases h4:P.info? e with
 | none=>simp [h4] at h
 | some info=>
 cases h5:info.zero with
 | none=>simp [h4,h5] at h
 | some zz=>
 simp only [h4,h5,Option.bind_some] at h
 split at h
 ·cases h
 cases h6:elemsD info.size (srcD S info.size x) with
 | none=>simp [h6] at h
 | some r=>
 simp only [h6,Option.bind_some] at h
 rcases hs with rfl | rfl
 all_goals
  simp only at h
  split at h
  ·cases h
  ·split at h
   ·cases h;exact ⟨rfl,rfl⟩
   ·cases h
theorem madeNew_ok {P:Program} {ρ:DEnv} {c:Call} {H:Mem} {z len:Nat} {cells:List D} (h:madeNew P ρ c H=some (z,len,cells)):opD P ρ (.call c) H=some (.sl (some H.length) z len cells,H++[.own]):=by
 obtain ⟨callee,args,argTypes⟩:=c
 unfold madeNew at h
 split at h
 ·rename_i s x e1 e2
  simp only at e1 e2
  subst e1
  have hop:opD P ρ (.call ⟨.builtin .append,args,argTypes⟩) H=appendD P argTypes s x H:=by simp only [opD,e2,builtinD]
  rw [hop]
  split at h
  all_goals first | (cases h;done) | skip
  all_goals
   split at h
   ·rename_i id zz ll cc S1 e3
    cases h
    obtain ⟨rfl,rfl⟩:=appendD_new (by first | exact .inl rfl | exact .inr rfl) e3
    exact e3
   ·cases h
 ·cases h
def runD (P:Program) (hs:Hints):Nat→EJob→Mem→Option (EOut×Mem)
 | 0,_,_=>none
 | n+1,j,H=>
  match j with
  | .ops f r sz ops i os loose ρ=>
   match os with
   | []=>match i==ops.size with | true=>some (.env ρ [] [],H) | false=>none
   | ⟨dst,op,_,_,_,g⟩::os=>
    match okDstB sz dst&&op.operands.toList.all okOperand with
    | false=>none
    | true=>
     match wantB ops ρ g with
     | false=>
      match g with
      | none=>none
      | some x=>
       match yieldS ops ρ x.1 with
       | none=>none
       | some b=>
        match b==some x.2 with
        | true=>none
        | false=>
         match runD P hs n (.ops f r sz ops (i+1) os loose (putD ρ dst dUndef)) H with
         | some (.env ρ' Hs qs,H')=>some (.env ρ' (H::Hs) qs,H')
         | _=>none
     | true=>
      match op with
      | .call c=>
       match targetD ρ (.call c) with
       | some (h,args)=>
        match P.funcs[h]? with
        | none=>none
        | some fn=>
         match fn.name == "runtime.NumGoroutine" || fn.body.isNone || loose.contains i with
         | true=>none
         | false=>
          match runD P hs n (.call h args) H with
          | some (.val v,H1)=>
           match runD P hs n (.ops f r sz ops (i+1) os loose (putD ρ dst v)) H1 with
           | some (.env ρ' Hs qs,H')=>some (.env ρ' (H1::Hs) qs,H')
           | _=>none
          | _=>none
       | none=>
        match hs.own.any fun x=>x.1==f&&x.2.1==r&&x.2.2==i with
        | true=>
         match g,loose.contains i,madeNew P ρ c H with
         | none,false,some (z,len,cells)=>
          match runD P hs n (.ops f r sz ops (i+1) os loose (putD ρ dst (.msl H.length z len))) (H++[.obj cells]) with
          | some (.env ρ' Hs qs,H')=>some (.env ρ' ((H++[.obj cells])::Hs) qs,H')
          | _=>none
         | _,_,_=>none
        | false=>
        match opD P ρ (.call c) H,loose.contains i with
        | some (v,H1),false=>
         match runD P hs n (.ops f r sz ops (i+1) os loose (putD ρ dst v)) H1 with
         | some (.env ρ' Hs qs,H')=>some (.env ρ' (H1::Hs) qs,H')
         | _=>none
        | _,_=>none
      | op=>
       match hs.own.any fun x=>x.1==f&&x.2.1==r&&x.2.2==i with
       | true=>
        match op,g,loose.contains i with
        | .buildSlice t m parts,none,false=>
         match buildSliceD P t m (parts.toList.map fun (i,x)=>(i,evalD ρ x)) H with
         | some (.sl (some _) z len cells,_)=>
          match runD P hs n (.ops f r sz ops (i+1) os loose (putD ρ dst (.msl H.length z len))) (H++[.obj cells]) with
          | some (.env ρ' Hs qs,H')=>some (.env ρ' ((H++[.obj cells])::Hs) qs,H')
          | _=>none
         | _=>none
        | _,_,_=>none
       | false=>
       match hs.low.any fun x=>x.1==f&&x.2.1==r&&x.2.2==i with
       | true=>
        match op,g with
        | .buildSlice t m parts,none=>
         match buildSliceD P t m (parts.toList.map fun (i,x)=>(i,evalD ρ x)) H with
         | some (.sl (some _) z len cells,_)=>
          match cells.all (lowN 0 100) with
          | true=>
           match runD P hs n (.ops f r sz ops (i+1) os loose (putD ρ dst (.sl none z len cells))) H with
           | some (.env ρ' Hs qs,H')=>some (.env ρ' (H::Hs) qs,H')
           | _=>none
          | false=>none
         | _=>none
        | _,_=>none
       | false=>
        match opD P ρ op H with
        | none=>none
        | some (v,H1)=>
         match runD P hs n (.ops f r sz ops (i+1) os loose (putD ρ dst v)) H1 with
         | some (.env ρ' Hs qs,H')=>some (.env ρ' (H1::Hs) (match loose.contains i with | true=>(ρ,op,v)::qs | false=>qs),H')
         | _=>none
  | .code f sz c ρ=>
   match c with
   | .skip=>some (.exit .normal ρ,H)
   | .exit id=>some (.exit (.exit id) ρ,H)
   | .ret=>some (.exit .ret ρ,H)
   | .seq c d=>
    match runD P hs n (.code f sz c ρ) H with
    | some (.exit .normal ρ1,H1)=>runD P hs n (.code f sz d ρ1) H1
    | some (.exit (.exit id) ρ1,H1)=>some (.exit (.exit id) ρ1,H1)
    | some (.exit .ret ρ1,H1)=>some (.exit .ret ρ1,H1)
    | _=>none
   | .cond (.tmp t) x y=>
    match ρ t with
    | .bool true=>runD P hs n (.code f sz x ρ) H
    | .bool false=>runD P hs n (.code f sz y ρ) H
    | _=>none
   | .block id c=>
    match runD P hs n (.code f sz c ρ) H with
    | some (.exit .normal ρ1,H1)=>some (.exit .normal ρ1,H1)
    | some (.exit (.exit id') ρ1,H1)=>match id'==id with | true=>some (.exit .normal ρ1,H1) | false=>some (.exit (.exit id') ρ1,H1)
    | some (.exit .ret ρ1,H1)=>some (.exit .ret ρ1,H1)
    | _=>none
   | .loop c=>
    match runD P hs n (.code f sz c ρ) H with
    | some (.exit .normal ρ1,H1)=>runD P hs n (.code f sz (.loop c) ρ1) H1
    | some (.exit (.exit id) ρ1,H1)=>some (.exit (.exit id) ρ1,H1)
    | some (.exit .ret ρ1,H1)=>some (.exit .ret ρ1,H1)
    | _=>none
   | .region id ops d=>
    match d with
    | false=>
     match runD P hs n (.ops f id sz ops 0 ops.toList [] ρ) H with
     | some (.env ρ1 _ _,H1)=>some (.exit .normal ρ1,H1)
     | _=>none
    | true=>
     match hintOf hs.open_ f id with
     | none=>
      match drawnFineD ops [] with
      | false=>none
      | true=>
       match runD P hs n (.ops f id sz ops 0 ops.toList [] ρ) H with
       | some (.env ρ1 _ _,H1)=>some (.exit .normal ρ1,H1)
       | _=>none
     | some x=>
      match openOk P ops x with
      | false=>none
      | true=>
       match runD P hs n (.ops f id sz ops 0 ops.toList x.1 ρ) H with
       | some (.env ρ1 Hs qs,H1)=>
        match qs.all fun q=>readsSo P q H&&(Hs.take x.2.1).all (readsSo P q) with
        | true=>some (.exit .normal ρ1,H1)
        | false=>none
       | _=>none
   | _=>none
  | .call f args=>
   match hs.lib f args H with
   | some (v,H1)=>some (.val v,H1)
   | none=>
   match P.funcs[f]? with
   | none=>none
   | some fn=>
    match fn.body with
    | none=>none
    | some c=>
     match decide (args.length≤fn.ntmps) with
     | false=>none
     | true=>
      match runD P hs n (.code f fn.ntmps c (initD args)) H with
      | some (.exit (.exit _) _,_)=>none
      | some (.exit _ ρ,H')=>
       match resultsD P fn ρ H' with
       | some v=>
        match hs.pure.contains f with
        | false=>some (.val v,H')
        | true=>match lowN H.length 100 (stripD 100 v)&&oldLow H.length H' with | true=>some (.val (stripD 100 v),H'.take H.length) | false=>none
       | none=>none
      | _=>none
section
variable {P:Program} {orc:DOracle} {hs:Hints}
def RunMeans (P:Program) (orc:DOracle) (j:EJob) (H:Mem) (out:EOut) (H':Mem):Prop:=
 match j,out with
 | .ops _ _ sz ops i os loose ρ,.env ρ' Hs qs => ∀ (fl:Nat) (k:List K) (Q:AExit→DEnv→Mem→Prop),Go P orc fl sz k .normal ρ' H' Q →
   GoR P orc fl sz ops os k ρ H Q ∧ ∀ (Inv:Mem→Prop) (F:Nat),(i≤F→Inv H)→(∀ q∈qs,∀ M,Inv M→opD P q.1 q.2.1 M=some (q.2.2,M))→(∀ M∈Hs.take (F - i),Inv M)→(∀ a∈loose,a<F)→GoW P orc fl sz ops loose Inv F i os k ρ H Q
 | .code _ sz c ρ,.exit e ρ' => ∀ (fl:Nat) (k:List K) (Q:AExit→DEnv→Mem→Prop),Go P orc fl sz k e ρ' H' Q→Go P orc fl sz (.code c::k) .normal ρ H Q
 | .call f args,.val d=>CallD P orc f args H fun d' S'=>d'=d∧S'=H'
 | _,_=>True
theorem take_next {α:Type} {p:α→Prop} {x:α} {l:List α} {F i:Nat} (h : ∀ m∈(x::l).take (F - i),p m):(i<F→p x) ∧ ∀ m∈l.take (F - (i+1)),p m:=by
 rcases Nat.lt_or_ge i F with hi | hi
 ·rw [show F - i=(F - (i+1))+1 by omega,List.take_succ_cons] at h
  exact ⟨fun _=>h x (List.mem_cons_self ..),fun m hm=>h m (List.mem_cons_of_mem _ hm)⟩
 ·refine ⟨fun h=>by omega,fun m hm => ?_⟩
  rw [show F - (i+1)=0 by omega] at hm
  simp at hm
theorem buildSliceD_own {t n:Nat} {ps:List (Nat×D)} {S S1:Mem} {id sz len:Nat} {cells:List D} (h:buildSliceD P t n ps S=some (.sl (some id) sz len cells,S1)):id=S.length∧S1=S++[.own]:=by
 unfold buildSliceD at h
 cases hu:P.underlying t with
 | none=>simp [hu] at h
 | some d=>
 cases d<;>simp only [hu,Option.bind_eq_bind,Option.bind_some,reduceCtorEq] at h
 rename_i e
 cases hs:sizeA P e with
 | none=>simp [hs] at h
 | some size=>
 cases hz:zeroA P e with
 | none=>simp [hs,hz] at h
 | some z=>
 simp only [hs,hz,Option.bind_some] at h
 split at h
 ·cases h
 ·cases hf:fillD (fun i=>some (i*size,size)) (repD (z.cells.toList.map ofS) n) ps with
  | none=>simp [hf] at h
  | some c=>
   simp only [hf,Option.bind_some] at h
   split at h
   ·cases h;exact ⟨rfl,rfl⟩
   ·cases h
theorem GoW.oN {fl sz:Nat} {ops:Array Oper} {loose:List Nat} {Inv:Mem→Prop} {F:Nat} {k:List AM.K} {ρ:DEnv} {H:Mem} {Q:AM.AExit→DEnv→Mem→Prop} {i:Nat} {os:List Oper} {dst:Option Tmp} {op:Op} {ty:TypeId} {pos:String} {after:Array Edge} (h0:okOpW loose i sz dst op=true)
  (h:opThenM (opD P ρ op H) H fun v H1=>(i<F→Inv H1)∧GoW P orc fl sz ops loose Inv F (i+1) os k (putD ρ dst v) H1 Q):GoW P orc fl sz ops loose Inv F i (⟨dst,op,ty,pos,after,none⟩::os) k ρ H Q:=fun hi=>by
 obtain ⟨hd,hc,hl⟩:=okOpW_ok h0
 obtain ⟨h1,h2⟩:=get_of_drop hi
 obtain ⟨v,H1,hop,h⟩:=opThenM_elim h
 obtain ⟨l,ρ',H',t,q⟩:=h.2 h2
 have e:dstOf ops i=dst:=by simp [dstOf,h1]
 rw [← e] at t
 exact ⟨_,ρ',H',.cons ⟨_,h1,hd,.inr ⟨rfl,hc,.inl hop⟩⟩ (fun hm=>by simp [hm] at hl) h.1 t,q⟩
theorem GoW.oX {fl sz:Nat} {ops:Array Oper} {loose:List Nat} {Inv:Mem→Prop} {F:Nat} {k:List AM.K} {ρ:DEnv} {H H1:Mem} {v:D} {Q:AM.AExit→DEnv→Mem→Prop} {i:Nat} {os:List Oper} {dst:Option Tmp} {op:Op} {ty:TypeId} {pos:String} {after:Array Edge} (h0:okOpW loose i sz dst op=true)
  (hop:DM.opM P ρ op H v H1) (h:(i<F→Inv H1)∧GoW P orc fl sz ops loose Inv F (i+1) os k (putD ρ dst v) H1 Q):GoW P orc fl sz ops loose Inv F i (⟨dst,op,ty,pos,after,none⟩::os) k ρ H Q:=fun hi=>by
 obtain ⟨hd,hc,hl⟩:=okOpW_ok h0
 obtain ⟨h1,h2⟩:=get_of_drop hi
 obtain ⟨l,ρ',H',t,q⟩:=h.2 h2
 have e:dstOf ops i=dst:=by simp [dstOf,h1]
 rw [← e] at t
 exact ⟨_,ρ',H',.cons ⟨_,h1,hd,.inr ⟨rfl,hc,.inl hop⟩⟩ (fun hm=>by simp [hm] at hl) h.1 t,q⟩
theorem GoR.oX {fl sz:Nat} {ops:Array Oper} {k:List AM.K} {ρ:DEnv} {H H1:Mem} {v:D} {Q:AM.AExit→DEnv→Mem→Prop} {os:List Oper} {dst:Option Tmp} {op:Op} {ty:TypeId} {pos:String} {after:Array Edge} (h0:okOp sz dst op=true)
  (hop:DM.opM P ρ op H v H1) (h:GoR P orc fl sz ops os k (putD ρ dst v) H1 Q):GoR P orc fl sz ops (⟨dst,op,ty,pos,after,none⟩::os) k ρ H Q:=fun i hi=>by
 obtain ⟨hd,hc⟩:=okOp_ok h0
 obtain ⟨h1,h2⟩:=get_of_drop hi
 unfold GoI
 rw [range_cons (lt_of_get h1)]
 obtain ⟨ρ',H',hb,h⟩:=h (i+1) h2
 exact ⟨ρ',H',.opsOp h1 rfl hd hc hop hb,h⟩
theorem runD_sound (hm:P.follows .mixedOrders=true) (hlib : ∀ f args H v H1,hs.lib f args H=some (v,H1)→CallD P orc f args H fun d' S'=>d'=v∧S'=H1) : ∀ (n:Nat) {j:EJob} {H:Mem} {out:EOut} {H':Mem},runD P hs n j H=some (out,H')→RunMeans P orc j H out H':=by
 intro n
 induction n with
 | zero=>intro j H out H' h;simp [runD] at h
 | succ n ih=>
  intro j H out H' h
  cases j with
  | ops f r sz ops i os loose ρ=>
   cases os with
   | nil=>
    simp only [runD] at h
    cases hi:i==ops.size with
    | false=>rw [hi] at h;cases h
    | true=>
     rw [hi] at h
     cases h
     exact fun fl k Q hk=>⟨.nil hk,fun Inv F _ _ _ _=>.nil hi hk⟩
   | cons o os=>
    obtain ⟨dst,op,ty,pos,after,g⟩:=o
    simp only [runD] at h
    cases hok:okDstB sz dst&&op.operands.toList.all okOperand with
    | false=>rw [hok] at h;cases h
    | true=>
    rw [hok] at h
    simp only at h
    have ho:okOp sz dst op=true:=hok
    have hoW:loose.contains i=false→okOpW loose i sz dst op=true:=fun hl=>by simp only [okOpW,hl,Bool.not_false,Bool.and_true];exact hok
    cases hg:wantB ops ρ g with
    | false=>
     rw [hg] at h
     simp only at h
     cases g with
     | none=>cases h
     | some x=>
     simp only at h
     cases hy:yieldS ops ρ x.1 with
     | none=>rw [hy] at h;cases h
     | some b=>
     rw [hy] at h
     simp only at h
     cases hb:b==some x.2 with
     | true=>rw [hb] at h;cases h
     | false=>
     rw [hb] at h
     simp only at h
     cases hr:runD P hs n (.ops f r sz ops (i+1) os loose (putD ρ dst dUndef)) H with
     | none=>rw [hr] at h;cases h
     | some r=>
     obtain ⟨o1,H1⟩:=r
     rw [hr] at h
     cases o1 with
     | env ρ1 Hs qs=>
      cases h
      intro fl k Q hk
      obtain ⟨a,b⟩:=ih hr fl k Q hk
      refine ⟨GoR.s ho hy hb a,fun Inv F h0 hq hM hF => ?_⟩
      obtain ⟨m1,m2⟩:=take_next hM
      exact GoW.s ho hy hb m1 (b Inv F (fun h=>m1 h) hq m2 hF)
     | _=>cases h
    | true=>
    rw [hg] at h
    simp only at h
    have step : ∀ {v:D} {H1:Mem} {ρ1:DEnv} {Hs:List Mem} {qs:List Seen} {H2:Mem},opD P ρ op H=some (v,H1)→runD P hs n (.ops f r sz ops (i+1) os loose (putD ρ dst v)) H1=some (.env ρ1 Hs qs,H2) → ∀ (fl:Nat) (k:List K) (Q:AExit→DEnv→Mem→Prop),Go P orc fl sz k .normal ρ1 H2 Q →
      GoR P orc fl sz ops (⟨dst,op,ty,pos,after,g⟩::os) k ρ H Q ∧ ∀ (Inv:Mem→Prop) (F:Nat),(i≤F→Inv H)→(∀ q∈(match loose.contains i with | true=>(ρ,op,v)::qs | false=>qs),∀ M,Inv M→opD P q.1 q.2.1 M=some (q.2.2,M))→(∀ M∈(H1::Hs).take (F - i),Inv M)→(∀ a∈loose,a<F) →
       GoW P orc fl sz ops loose Inv F i (⟨dst,op,ty,pos,after,g⟩::os) k ρ H Q:=by
     intro v H1 ρ1 Hs qs H2 hop hr fl k Q hk
     obtain ⟨a,b⟩:=ih hr fl k Q hk
     refine ⟨GoR.o ho hg (by rw [hop];exact a),fun Inv F h0 hq hM hF => ?_⟩
     obtain ⟨m1,m2⟩:=take_next hM
     cases hl:loose.contains i with
     | false=>
      rw [hl] at hq
      exact GoW.o (hoW hl) hg (by rw [hop];exact ⟨m1,b Inv F (fun h=>m1 h) hq m2 hF⟩)
     | true=>
      rw [hl] at hq
      have hiF:i<F:=hF i (by simpa using hl)
      have hrd:=hq (ρ,op,v) (List.mem_cons_self ..)
      have hH:=hrd H (h0 (Nat.le_of_lt hiF))
      rw [hop] at hH
      cases hH
      exact GoW.rd ho hg (by rw [hop];exact ⟨rfl,h0 (Nat.le_of_lt hiF),hrd,b Inv F (fun h=>m1 h) (fun q hq2=>hq q (List.mem_cons_of_mem _ hq2)) m2 hF⟩)
    cases hc:op with
    | call c=>
     rw [hc] at h
     simp only at h
     cases ht:targetD ρ (.call c) with
     | none=>
      rw [ht] at h
      simp only at h
      cases hown:hs.own.any fun x=>x.1==f&&x.2.1==r&&x.2.2==i with
      | true=>
       rw [hown] at h
       simp only at h
       cases g with
       | some g=>cases h
       | none=>
       cases hl:loose.contains i with
       | true=>rw [hl] at h;cases h
       | false=>
       rw [hl] at h
       cases hbs:madeNew P ρ c H with
       | none=>rw [hbs] at h;cases h
       | some r1=>
       obtain ⟨z,len,cells⟩:=r1
       rw [hbs] at h
       simp only at h
       cases hr:runD P hs n (.ops f r sz ops (i+1) os loose (putD ρ dst (.msl H.length z len))) (H++[.obj cells]) with
       | none=>rw [hr] at h;cases h
       | some r2=>
       obtain ⟨o1,H2⟩:=r2
       rw [hr] at h
       cases o1 with
       | env ρ1 Hs qs=>
        cases h
        intro fl k Q hk
        obtain ⟨a,b⟩:=ih hr fl k Q hk
        rw [hc] at ho hoW
        have hop:=madeNew_ok hbs
        refine ⟨GoR.oM ho hg (by rw [hop];exact ⟨rfl,rfl,a⟩),fun Inv F h0 hq hM hF => ?_⟩
        obtain ⟨m1,m2⟩:=take_next hM
        exact GoW.oN (hoW hl) (by rw [hop];exact ⟨rfl,rfl,m1,b Inv F (fun h=>m1 h) hq m2 hF⟩)
       | _=>cases h
      | false=>
      rw [hown] at h
      simp only at h
      cases hop:opD P ρ (.call c) H with
      | none=>rw [hop] at h;cases h
      | some r=>
      obtain ⟨v,H1⟩:=r
      rw [hop] at h
      cases hl:loose.contains i with
      | true=>rw [hl] at h;cases h
      | false=>
      rw [hl] at h
      simp only at h
      cases hr:runD P hs n (.ops f r sz ops (i+1) os loose (putD ρ dst v)) H1 with
      | none=>rw [hr] at h;cases h
      | some r=>
      obtain ⟨o1,H2⟩:=r
      rw [hr] at h
      cases o1 with
      | env ρ1 Hs qs=>
       cases h
       intro fl k Q hk
       subst hc
       have:=step hop hr fl k Q hk
       rw [hl] at this
       exact this
      | _=>cases h
     | some fa=>
      obtain ⟨fi,args⟩:=fa
      rw [ht] at h
      simp only at h
      cases hf:P.funcs[fi]? with
      | none=>rw [hf] at h;cases h
      | some fn=>
      rw [hf] at h
      simp only at h
      cases hb : (fn.name == "runtime.NumGoroutine" || fn.body.isNone || loose.contains i) with
      | true=>rw [hb] at h;cases h
      | false=>
      rw [hb] at h
      simp only at h
      simp only [Bool.or_eq_false_iff] at hb
      cases hr:runD P hs n (.call fi args) H with
      | none=>rw [hr] at h;cases h
      | some r=>
      obtain ⟨o1,H1⟩:=r
      rw [hr] at h
      cases o1 with
      | val v=>
       simp only at h
       cases hr2:runD P hs n (.ops f r sz ops (i+1) os loose (putD ρ dst v)) H1 with
       | none=>rw [hr2] at h;cases h
       | some r=>
       obtain ⟨o2,H2⟩:=r
       rw [hr2] at h
       cases o2 with
       | env ρ1 Hs qs=>
        cases h
        intro fl k Q hk
        subst hc
        have hcall:CallD P orc fi args H fun d' S'=>d'=v∧S'=H1:=ih hr
        obtain ⟨a,b⟩:=ih hr2 fl k Q hk
        have hfn:FnAt P fi:=⟨fn,hf,hb.1.1,hb.1.2⟩
        refine ⟨GoR.c hfn ho hg ht (hcall.mono fun v' S' ⟨h1,h2⟩=>by subst h1;subst h2;exact a),fun Inv F h0 hq hM hF => ?_⟩
        obtain ⟨m1,m2⟩:=take_next hM
        exact GoW.c hfn (hoW hb.2) hg ht (hcall.mono fun v' S' ⟨h1,h2⟩=>by subst h1;subst h2;exact ⟨m1,b Inv F (fun h=>m1 h) hq m2 hF⟩)
       | _=>cases h
      | _=>cases h
    | buildSlice t m parts=>
     rw [hc] at h
     simp only at h
     rw [← hc] at h
     cases hown:hs.own.any fun x=>x.1==f&&x.2.1==r&&x.2.2==i with
     | true=>
      rw [hown,hc] at h
      simp only at h
      cases g with
      | some g=>cases h
      | none=>
      cases hl:loose.contains i with
      | true=>rw [hl] at h;cases h
      | false=>
      rw [hl] at h
      simp only at h
      cases hbs:buildSliceD P t m (parts.toList.map fun (i,x)=>(i,evalD ρ x)) H with
      | none=>rw [hbs] at h;cases h
      | some r1=>
      rw [hbs] at h
      split at h
      ·rename_i id z len cells S1 e2
       cases e2
       obtain ⟨rfl,rfl⟩:=buildSliceD_own hbs
       cases hr:runD P hs n (.ops f r sz ops (i+1) os loose (putD ρ dst (.msl H.length z len))) (H++[.obj cells]) with
       | none=>rw [hr] at h;cases h
       | some r2=>
       obtain ⟨o1,H2⟩:=r2
       rw [hr] at h
       cases o1 with
       | env ρ1 Hs qs=>
        cases h
        intro fl k Q hk
        obtain ⟨a,b⟩:=ih hr fl k Q hk
        rw [hc] at ho hoW
        have hop:opD P ρ (.buildSlice t m parts) H=some (.sl (some H.length) z len cells,H++[.own]):=hbs
        refine ⟨GoR.oM ho hg (by rw [hop];exact ⟨rfl,rfl,a⟩),fun Inv F h0 hq hM hF => ?_⟩
        obtain ⟨m1,m2⟩:=take_next hM
        exact GoW.oN (hoW hl) (by rw [hop];exact ⟨rfl,rfl,m1,b Inv F (fun h=>m1 h) hq m2 hF⟩)
       | _=>cases h
      ·cases h
     | false=>
     rw [hown] at h
     simp only at h
     cases hlow:hs.low.any fun x=>x.1==f&&x.2.1==r&&x.2.2==i with
     | true=>
      rw [hlow,hc] at h
      simp only at h
      cases g with
      | some g=>cases h
      | none=>
      simp only at h
      cases hbs:buildSliceD P t m (parts.toList.map fun (i,x)=>(i,evalD ρ x)) H with
      | none=>rw [hbs] at h;cases h
      | some r1=>
      rw [hbs] at h
      split at h
      ·rename_i id z len cells S1 e2
       cases e2
       obtain ⟨rfl,rfl⟩:=buildSliceD_own hbs
       cases hlb:cells.all (lowN 0 100) with
       | false=>rw [hlb] at h;cases h
       | true=>
       rw [hlb] at h
       simp only at h
       simp only [List.all_eq_true] at hlb
       cases hr:runD P hs n (.ops f r sz ops (i+1) os loose (putD ρ dst (.sl none z len cells))) H with
       | none=>rw [hr] at h;cases h
       | some r2=>
       obtain ⟨o1,H2⟩:=r2
       rw [hr] at h
       cases o1 with
       | env ρ1 Hs qs=>
        cases h
        intro fl k Q hk
        obtain ⟨a,b⟩:=ih hr fl k Q hk
        rw [hc] at ho hoW
        have hop:opD P ρ (.buildSlice t m parts) H=some (.sl (some H.length) z len cells,H++[.own]):=hbs
        have hopM:opM P ρ (.buildSlice t m parts) H (.sl none z len cells) H:=.inr (.inr ⟨z,len,cells,hop,fun j hj=>lowN_ok (hlb _ (List.getElem_mem hj)),rfl,rfl⟩)
        refine ⟨GoR.oX ho hopM a,fun Inv F h0 hq hM hF => ?_⟩
        obtain ⟨m1,m2⟩:=take_next hM
        have hw:=b Inv F (fun h=>m1 h) hq m2 hF
        cases hl:loose.contains i with
        | false=>exact GoW.oX (hoW hl) hopM ⟨m1,hw⟩
        | true=>
         have hiF:i<F:=hF i (by simpa using hl)
         obtain ⟨q1,q2⟩:=okOp_ok ho
         exact GoW.newL q1 q2 hl (h0 (Nat.le_of_lt hiF)) (by rw [hop];exact ⟨rfl,rfl,fun c hc=>lowN_ok (hlb c hc),hw⟩)
       | _=>cases h
      ·cases h
     | false=>
     rw [hlow] at h
     simp only at h
     cases hop:opD P ρ op H with
     | none=>rw [hop] at h;cases h
     | some r=>
     obtain ⟨v,H1⟩:=r
     rw [hop] at h
     simp only at h
     cases hr:runD P hs n (.ops f r sz ops (i+1) os loose (putD ρ dst v)) H1 with
     | none=>rw [hr] at h;cases h
     | some r=>
     obtain ⟨o1,H2⟩:=r
     rw [hr] at h
     cases o1 with
     | env ρ1 Hs qs=>
      cases h
      intro fl k Q hk
      rw [← hc]
      exact step hop hr fl k Q hk
     | _=>cases h
    | _=>
     rw [hc] at h
     simp only at h
     rw [← hc] at h
     cases hown:hs.own.any fun x=>x.1==f&&x.2.1==r&&x.2.2==i with
     | true=>
      rw [hown,hc] at h
      simp only at h
      cases h
     | false=>
     rw [hown] at h
     simp only at h
     cases hlow:hs.low.any fun x=>x.1==f&&x.2.1==r&&x.2.2==i with
     | true=>
      rw [hlow,hc] at h
      simp only at h
      cases h
     | false=>
     rw [hlow] at h
     simp only at h
     cases hop:opD P ρ op H with
     | none=>rw [hop] at h;cases h
     | some r=>
     obtain ⟨v,H1⟩:=r
     rw [hop] at h
     simp only at h
     cases hr:runD P hs n (.ops f r sz ops (i+1) os loose (putD ρ dst v)) H1 with
     | none=>rw [hr] at h;cases h
     | some r=>
     obtain ⟨o1,H2⟩:=r
     rw [hr] at h
     cases o1 with
     | env ρ1 Hs qs=>
      cases h
      intro fl k Q hk
      rw [← hc]
      exact step hop hr fl k Q hk
     | _=>cases h
  | code f sz c ρ=>
   cases c with
   | skip=>simp only [runD] at h;cases h;exact fun fl k Q hk=>Go.skip hk
   | exit id=>simp only [runD] at h;cases h;exact fun fl k Q hk=>Go.exit hk
   | ret=>simp only [runD] at h;cases h;exact fun fl k Q hk=>⟨_,_,_,.ret,hk⟩
   | seq c d=>
    simp only [runD] at h
    cases hr:runD P hs n (.code f sz c ρ) H with
    | none=>rw [hr] at h;cases h
    | some r=>
     obtain ⟨o1,H1⟩:=r
     rw [hr] at h
     cases o1 with
     | exit e ρ1=>
      have h1:RunMeans P orc (.code f sz c ρ) H (.exit e ρ1) H1:=ih hr
      cases e with
      | normal=>
       simp only at h
       have h2:=ih h
       cases out with
       | exit e2 ρ2=>exact fun fl k Q hk=>Go.seq (h1 fl _ Q (h2 fl k Q hk))
       | env _ _ _=>trivial
       | val _=>trivial
      | exit id=>cases h;exact fun fl k Q hk=>Go.seq (h1 fl _ Q hk)
      | ret=>cases h;exact fun fl k Q hk=>Go.seq (h1 fl _ Q hk)
     | _=>cases h
   | cond c x y=>
    cases c with
    | tmp t=>
     simp only [runD] at h
     split at h
     ·rename_i hv
      have h1:=ih h
      cases out with
      | exit e ρ1=>exact fun fl k Q hk=>Go.condT hv (h1 fl k Q hk)
      | env _ _ _=>trivial
      | val _=>trivial
     ·rename_i hv
      have h1:=ih h
      cases out with
      | exit e ρ1=>exact fun fl k Q hk=>Go.condF hv (h1 fl k Q hk)
      | env _ _ _=>trivial
      | val _=>trivial
     ·cases h
    | _=>simp [runD] at h
   | block id c=>
    simp only [runD] at h
    cases hr:runD P hs n (.code f sz c ρ) H with
    | none=>rw [hr] at h;cases h
    | some r=>
     obtain ⟨o1,H1⟩:=r
     rw [hr] at h
     cases o1 with
     | exit e ρ1=>
      have h1:RunMeans P orc (.code f sz c ρ) H (.exit e ρ1) H1:=ih hr
      cases e with
      | normal=>cases h;exact fun fl k Q hk=>Go.block (h1 fl _ Q hk)
      | ret=>cases h;exact fun fl k Q hk=>Go.block (h1 fl _ Q hk)
      | exit id' =>
       simp only at h
       cases hi:id'==id with
       | true=>
        rw [hi] at h
        cases h
        obtain rfl:id'=id:=by simpa using hi
        exact fun fl k Q hk=>Go.block (h1 fl _ Q (Go.blkX hk))
       | false=>
        rw [hi] at h
        cases h
        exact fun fl k Q hk=>Go.block (h1 fl _ Q (Go.blkE (by simpa using hi) hk))
     | _=>cases h
   | loop c=>
    simp only [runD] at h
    cases hr:runD P hs n (.code f sz c ρ) H with
    | none=>rw [hr] at h;cases h
    | some r=>
     obtain ⟨o1,H1⟩:=r
     rw [hr] at h
     cases o1 with
     | exit e ρ1=>
      have h1:RunMeans P orc (.code f sz c ρ) H (.exit e ρ1) H1:=ih hr
      cases e with
      | normal=>
       simp only at h
       have h2:=ih h
       cases out with
       | exit e2 ρ2=>exact fun fl k Q hk=>Go.loop (h1 fl _ Q (Go.lp (h2 fl k Q hk)))
       | env _ _ _=>trivial
       | val _=>trivial
      | exit id=>cases h;exact fun fl k Q hk=>Go.loop (h1 fl _ Q hk)
      | ret=>cases h;exact fun fl k Q hk=>Go.loop (h1 fl _ Q hk)
     | _=>cases h
   | region id ops d=>
    have he:ops.toList.toArray=ops:=rfl
    cases d with
    | false=>
     simp only [runD] at h
     cases hr:runD P hs n (.ops f id sz ops 0 ops.toList [] ρ) H with
     | none=>rw [hr] at h;cases h
     | some r=>
      obtain ⟨o1,H1⟩:=r
      rw [hr] at h
      cases o1 with
      | env ρ1 Hs qs=>cases h;exact fun fl k Q hk=>Go.rg (l:=ops.toList) ((ih hr fl k Q hk).1)
      | _=>cases h
    | true=>
     simp only [runD] at h
     cases hx:hintOf hs.open_ f id with
     | none=>
      rw [hx] at h
      simp only at h
      cases hd:drawnFineD ops [] with
      | false=>rw [hd] at h;cases h
      | true=>
      rw [hd] at h
      simp only at h
      cases hr:runD P hs n (.ops f id sz ops 0 ops.toList [] ρ) H with
      | none=>rw [hr] at h;cases h
      | some r=>
       obtain ⟨o1,H1⟩:=r
       rw [hr] at h
       cases o1 with
       | env ρ1 Hs qs=>cases h;exact fun fl k Q hk=>Go.rgS (l:=ops.toList) hm hd ((ih hr fl k Q hk).1)
       | _=>cases h
     | some x=>
      rw [hx] at h
      simp only at h
      cases hd:openOk P ops x with
      | false=>rw [hd] at h;cases h
      | true=>
      rw [hd] at h
      simp only at h
      cases hr:runD P hs n (.ops f id sz ops 0 ops.toList x.1 ρ) H with
      | none=>rw [hr] at h;cases h
      | some r=>
       obtain ⟨o1,H1⟩:=r
       rw [hr] at h
       cases o1 with
       | env ρ1 Hs qs=>
        simp only at h
        cases hq:qs.all fun q=>readsSo P q H&&(Hs.take x.2.1).all (readsSo P q) with
        | false=>rw [hq] at h;cases h
        | true=>
        rw [hq] at h
        cases h
        simp only [List.all_eq_true,Bool.and_eq_true] at hq
        intro fl k Q hk
        obtain ⟨loose,F,fl2⟩:=x
        simp only [openOk,Bool.and_eq_true,List.all_eq_true,decide_eq_true_eq] at hd
        have hI : ∀ q∈qs,opD P q.1 q.2.1 H=some (q.2.2,H):=fun q hq2=>readsSo_ok (hq q hq2).1
        have hw:=(ih hr fl k Q hk).2 (fun M => ∀ q∈qs,opD P q.1 q.2.1 M=some (q.2.2,M)) F (fun _=>hI) (fun q hq2 M hM=>hM q hq2) (fun M hM q hq2=>readsSo_ok ((hq q hq2).2 M hM)) hd.1
        obtain ⟨_,hd⟩:=hd
        cases fl2 with
        | none=>
         simp only [Bool.and_eq_true] at hd
         exact Go.rgD (l:=ops.toList) loose _ hm hd.1 F hd.2 hI hw
        | some am=>
         obtain ⟨a,ms⟩:=am
         simp only [Bool.and_eq_true] at hd
         obtain ⟨⟨⟨h1,h2⟩,h3⟩,h4⟩:=hd
         split at h4
         ·rename_i hoa
          split at h4
          ·rename_i hz
           exact Go.rgF (l:=ops.toList) a ms loose _ hm h1 F h2 h3 hoa rfl rfl rfl hz h4 hI hw
          ·cases h4
         ·cases h4
       | _=>cases h
   | _=>simp [runD] at h
  | call f args=>
   simp only [runD] at h
   cases hlb:hs.lib f args H with
   | some r1=>
    obtain ⟨v,H1⟩:=r1
    rw [hlb] at h
    cases h
    exact hlib _ _ _ _ _ hlb
   | none=>
   rw [hlb] at h
   simp only at h
   cases hf:P.funcs[f]? with
   | none=>rw [hf] at h;cases h
   | some fn=>
    rw [hf] at h
    simp only at h
    cases hb:fn.body with
    | none=>rw [hb] at h;cases h
    | some c=>
     rw [hb] at h
     simp only at h
     cases ha:decide (args.length≤fn.ntmps) with
     | false=>rw [ha] at h;cases h
     | true=>
      rw [ha] at h
      simp only at h
      cases hr:runD P hs n (.code f fn.ntmps c (initD args)) H with
      | none=>rw [hr] at h;cases h
      | some r=>
       obtain ⟨o1,H1⟩:=r
       rw [hr] at h
       have fin2 : ∀ {v:D} {H1:Mem},(match hs.pure.contains f with | false=>some (EOut.val v,H1) | true=>match lowN H.length 100 (stripD 100 v)&&oldLow H.length H1 with | true=>some (.val (stripD 100 v),H1.take H.length) | false=>none)=some (out,H')→(CallD P orc f args H fun d' S'=>d'=v∧S'=H1)→RunMeans P orc (.call f args) H out H':=by
        intro v H1 h hcall
        cases hp:hs.pure.contains f with
        | false=>rw [hp] at h;cases h;exact hcall
        | true=>
         rw [hp] at h
         simp only at h
         cases hl:lowN H.length 100 (stripD 100 v)&&oldLow H.length H1 with
         | false=>rw [hl] at h;cases h
         | true=>
          rw [hl] at h
          cases h
          simp only [Bool.and_eq_true] at hl
          exact hcall.pureN hl.1 hl.2
       cases o1 with
       | exit e ρ1=>
        have h1:RunMeans P orc (.code f fn.ntmps c (initD args)) H (.exit e ρ1) H1:=ih hr
        cases e with
        | exit id=>cases h
        | normal=>
         simp only at h
         cases hv:resultsD P fn ρ1 H1 with
         | none=>rw [hv] at h;cases h
         | some v=>rw [hv] at h;exact fin2 h (CallD.body hf hb (by simpa using ha) (h1 _ _ _ (Go.done ⟨.inl rfl,_,hv,rfl,rfl⟩)))
        | ret=>
         simp only at h
         cases hv:resultsD P fn ρ1 H1 with
         | none=>rw [hv] at h;cases h
         | some v=>rw [hv] at h;exact fin2 h (CallD.body hf hb (by simpa using ha) (h1 _ [] _ ⟨.inr rfl,_,hv,rfl,rfl⟩))
       | _=>cases h
theorem CallD.runs (hm:P.follows .mixedOrders=true) (hlib : ∀ f args H v H1,hs.lib f args H=some (v,H1)→CallD P orc f args H fun d' S'=>d'=v∧S'=H1) (n:Nat) {f:FuncId} {args:List D} {H H':Mem} {d:D} (h:runD P hs n (.call f args) H=some (.val d,H')):CallD P orc f args H fun d' S'=>d'=d∧S'=H':=runD_sound hm hlib n h
theorem CallD.runTrue (hm:P.follows .mixedOrders=true) (hlib : ∀ f args H v H1,hs.lib f args H=some (v,H1)→CallD P orc f args H fun d' S'=>d'=v∧S'=H1) (n:Nat) {f:FuncId} {args:List D} (h:(match runD P hs n (.call f args) [] with | some (.val (.bool true),_)=>true | _=>false)=true) :
  CallD P orc f args [] fun d S'=>S'=[]∧d = .bool true:=by
 split at h
 ·rename_i H1 hr
  exact CallD.drop ((CallD.runs hm hlib n hr).mono fun d' S' ⟨h1,h2⟩=>⟨.bool true,S',by simp,by subst h1;exact .of_low (.bool _),rfl⟩)
 ·cases h
end
end Go.DM
namespace Go.Lib
open Go Go.RowKit
variable {P:Program}
theorem run_copy_wide (w:World) (dT sT ty elem:TypeId) (K:Nat) (b o dLen dCap:Nat) (a:Addr) (sLen sCap n:Nat) (cs:List Value)
  (hu:P.underlying dT=some (.slice elem)) (hs:(P.info? elem).map (·.size)=some K) (hn:n=Nat.min sLen dLen) (hl:cs.length=n*K)
  (hsrc : ∀ j v,cs[j]?=some v→w.cell? (a.add j)=some v) (hc : ∀ j,j<cs.length→(w.cell? ⟨b,o+j,none⟩).isSome=true) (hf : ∀ j,j<cs.length→w.frozen? ⟨b,o+j,none⟩=false) (h1 : ∀ v∈cs,v.oneCell'=true) :
  (Builtin.copy_ #[dT,sT] ty #[.slice (some ⟨b,o,none⟩) dLen dCap,.slice (some a) sLen sCap]).run P w = .ok (goInt n) (w.setCells b o cs):=by
 have hfc:=run_firstCells_some (P:=P) w K n a sLen sCap cs hl hsrc
 have hst:=run_storeCells_cells (P:=P) b o cs 0 w (by simpa using hc) (by simpa using hf) h1
 cases hq:P.info? elem with
 | none=>simp [hq] at hs
 | some i=>
  have hi:i.size=K:=by simpa [hq] using hs
  simp [Builtin.copy_,run_underlying hu,Builtin.lenOf,sizeOf,typeInfo,hq,hi,← hn,hfc,hst]
end Go.Lib
namespace Go.DM
open Go Go.AM
theorem bl_irrefl : ∀ (x:List UInt8),Op.bytesLess x x=false
 | []=>rfl
 | a::x=>by
  simp only [Op.bytesLess,Bool.or_eq_false_iff,decide_eq_false_iff_not,beq_self_eq_true,Bool.true_and]
  exact ⟨by simp [UInt8.lt_iff_toNat_lt],bl_irrefl x⟩
theorem bl_trans : ∀ {x y z:List UInt8},Op.bytesLess x y=true→Op.bytesLess y z=true→Op.bytesLess x z=true
 | _,[],_,h,_=>by simp [Op.bytesLess] at h
 | _,_::_,[],_,h=>by simp [Op.bytesLess] at h
 | [],b::y,c::z,_,_=>rfl
 | a::x,b::y,c::z,h1,h2=>by
  simp only [Op.bytesLess,Bool.or_eq_true,Bool.and_eq_true,decide_eq_true_eq,beq_iff_eq,UInt8.lt_iff_toNat_lt] at h1 h2 ⊢
  rcases h1 with h1 | ⟨rfl,h1⟩<;>rcases h2 with h2 | ⟨rfl,h2⟩
  ·exact .inl (by omega)
  ·exact .inl h1
  ·exact .inl h2
  ·exact .inr ⟨rfl,bl_trans h1 h2⟩
def ltB (a b:ByteArray):Bool:=Op.bytesLess a.toList b.toList
theorem ltB_irrefl (a:ByteArray):ltB a a=false:=bl_irrefl _
theorem ltB_trans {a b c:ByteArray} (h:ltB a b=true) (k:ltB b c=true):ltB a c=true:=bl_trans h k
def cmpB (a b:ByteArray):Int:=if ltB a b then -1 else if a=b then 0 else 1
theorem cmpB_neg {a b:ByteArray} : cmpB a b<0↔ltB a b=true:=by
 unfold cmpB
 split
 ·simp_all
 ·split<;>simp_all
theorem cmpB_zero {a b:ByteArray} : cmpB a b=0↔a=b:=by
 unfold cmpB
 split
 ·rename_i h
  constructor
  ·intro h;cases h
  ·rintro rfl;rw [ltB_irrefl] at h;cases h
 ·split<;>simp_all
def RiseB {α:Type} (f:α→ByteArray) (l:List α):Prop := ∀ i (h:i+1<l.length),ltB (f l[i]) (f l[i+1])=true
theorem RiseB.lt {α:Type} {f:α→ByteArray} {l:List α} (h:RiseB f l) : ∀ {i j:Nat} (hj:j<l.length) (hij:i<j),ltB (f (l[i]'(by omega))) (f l[j])=true
 | i,j+1,hj,hij=>by
  rcases Nat.lt_or_ge i j with h1 | h1
  ·exact ltB_trans (h.lt (by omega) h1) (h j hj)
  ·obtain rfl:i=j:=by omega
   exact h i hj
theorem RiseB.inj {α:Type} {f:α→ByteArray} {l:List α} (h:RiseB f l) {i j:Nat} (hi:i<l.length) (hj:j<l.length) (e:f l[i]=f l[j]):i=j:=by
 rcases Nat.lt_trichotomy i j with h1 | h1 | h1
 ·have:=h.lt hj h1;rw [e,ltB_irrefl] at this;cases this
 ·exact h1
 ·have:=h.lt hi h1;rw [e,ltB_irrefl] at this;cases this
end Go.DM
namespace Go.DM
section
variable {α:Type} {f:α→ByteArray}
end
end Go.DM
