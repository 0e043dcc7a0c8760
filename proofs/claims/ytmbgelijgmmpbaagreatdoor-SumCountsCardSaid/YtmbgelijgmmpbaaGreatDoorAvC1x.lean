/- Facts on the types of the program, for the abstract machine. -/
import Derived.Test.YtmbgelijgmmpbaaGreatDoorProg
import Derived.Test.YtmbgelijgmmpbaaGreatDoorAmIx
import Derived.KernelRfl
import Derived.Test.YtmbgelijgmmpbaaGreatDoorDvFacts
set_option linter.unusedSimpArgs false
set_option linter.unusedVariables false
namespace Go.Proofs.AvT
open Go Go.AM
theorem sz9:sizeA Tryz.prog 9=some 1:=by kernel_rfl
theorem sz3:sizeA Tryz.prog 3=some 1:=by kernel_rfl
theorem ag3:isAggA Tryz.prog 3=some false:=by kernel_rfl
theorem sz5:sizeA Tryz.prog 5=some 1:=by kernel_rfl
theorem ag5:isAggA Tryz.prog 5=some false:=by kernel_rfl
theorem ag9:isAggA Tryz.prog 9=some false:=by kernel_rfl
theorem sz70:sizeA Tryz.prog 70=some 1:=by kernel_rfl
theorem ag70:isAggA Tryz.prog 70=some false:=by kernel_rfl
theorem F :
  (zeroA Tryz.prog 9=some (.string ⟨#[]⟩)) ∧
  (∀ {H:Heap} {x0:Value} (h0:x0.cells = #[x0]),buildSliceA Tryz.prog 70 1 [(0,x0)] H=some (.slice (some (atNew H)) 1 1,newA H [x0] 1)) ∧
  (Tryz.prog.underlying 3=some (.int .i64)) ∧
  (∀ {h o:Nat} {H:Heap},loadA Tryz.prog 3 (.pointer (some ⟨h,o,none⟩)) H=(hget H h).bind fun b=>b.cells[o]?) ∧
  (∀ {base h o:Nat} {H:Heap} {k:IntKind} {x:Int},storeA Tryz.prog base 3 (.pointer (some ⟨h,o,none⟩)) (.int k x) H=writeA base ⟨h,o,none⟩ [(.int k x)] H) ∧
  (zeroA Tryz.prog 3=some (.int .i64 0)) ∧
  (Tryz.prog.underlying 5=some (.int .u8)) ∧
  (∀ {h o:Nat} {H:Heap},loadA Tryz.prog 5 (.pointer (some ⟨h,o,none⟩)) H=(hget H h).bind fun b=>b.cells[o]?) ∧
  (∀ {base h o:Nat} {H:Heap} {k:IntKind} {x:Int},storeA Tryz.prog base 5 (.pointer (some ⟨h,o,none⟩)) (.int k x) H=writeA base ⟨h,o,none⟩ [(.int k x)] H) ∧
  (zeroA Tryz.prog 5=some (.int .u8 0)) ∧
  (Tryz.prog.underlying 9=some (.string)) ∧
  (∀ {h o:Nat} {H:Heap},loadA Tryz.prog 9 (.pointer (some ⟨h,o,none⟩)) H=(hget H h).bind fun b=>b.cells[o]?) ∧
  (∀ {base h o:Nat} {H:Heap} {x:ByteArray},storeA Tryz.prog base 9 (.pointer (some ⟨h,o,none⟩)) (.string x) H=writeA base ⟨h,o,none⟩ [(.string x)] H) ∧
  (Tryz.prog.underlying 70=some (.slice 9)) ∧
  (∀ {h o:Nat} {H:Heap},loadA Tryz.prog 70 (.pointer (some ⟨h,o,none⟩)) H=(hget H h).bind fun b=>b.cells[o]?) ∧
  (∀ {base h o:Nat} {H:Heap} {x:Option Addr} {l c:Nat},storeA Tryz.prog base 70 (.pointer (some ⟨h,o,none⟩)) (.slice x l c) H=writeA base ⟨h,o,none⟩ [(.slice x l c)] H) ∧
  (zeroA Tryz.prog 70=some (.slice none 0 0)) ∧
  (∀ {h o l c:Nat} {k:IntKind} {i:Int},indexAtA Tryz.prog 70 (.slice (some ⟨h,o,none⟩) l c) (.int k i)=if 0≤i∧i<l then some (.pointer (some ⟨h,o+i.toNat*1,none⟩)) else none):=
 ⟨by kernel_rfl,
  by intro H x0 h0;simp [buildSliceA,show Tryz.prog.underlying 70=some (.slice 9) from by kernel_rfl,sz9,show zeroA Tryz.prog 9=some (.string ⟨#[]⟩) from by kernel_rfl,scalarV,Instr.fill,h0,show (.string ⟨#[]⟩:Value).cells = #[.string ⟨#[]⟩] from rfl],
  by kernel_rfl,
  by intro h o H;simp only [loadA,ag3,Option.bind_eq_bind,Option.bind_some,Bool.false_eq_true,if_false,Option.isSome_none],
  by intro base h o H k x;simp [storeA,sz3,Value.cells],
  by kernel_rfl,
  by kernel_rfl,
  by intro h o H;simp only [loadA,ag5,Option.bind_eq_bind,Option.bind_some,Bool.false_eq_true,if_false,Option.isSome_none],
  by intro base h o H k x;simp [storeA,sz5,Value.cells],
  by kernel_rfl,
  by kernel_rfl,
  by intro h o H;simp only [loadA,ag9,Option.bind_eq_bind,Option.bind_some,Bool.false_eq_true,if_false,Option.isSome_none],
  by intro base h o H x;simp [storeA,sz9,Value.cells],
  by kernel_rfl,
  by intro h o H;simp only [loadA,ag70,Option.bind_eq_bind,Option.bind_some,Bool.false_eq_true,if_false,Option.isSome_none],
  by intro base h o H x l c;simp [storeA,sz70,Value.cells],
  by kernel_rfl,
  by intro h o l c k i;simp [indexAtA,Tryz.underlying70,sz9]⟩
end Go.Proofs.AvT
namespace Go.AM
open Go
section
variable {P:Program} {orc:Oracle} {base sz:Nat} {k:List K} {Q:AExit→Env→Heap→Prop}
theorem Go.whileA {c:Code} {α:Type} (m:α→Nat) (Inv:α→Env→Heap→Prop)
  (h : ∀ a ρ H,Inv a ρ H→(∀ a' ρ' H',m a'<m a→Inv a' ρ' H'→Go P orc base sz (.code (.loop c)::k) .normal ρ' H' Q)→Go P orc base sz (.code c :: .lp c::k) .normal ρ H Q) :
  ∀ a ρ H,Inv a ρ H→Go P orc base sz (.code (.loop c)::k) .normal ρ H Q:=by
 intro a
 generalize hn:m a=n
 induction n using Nat.strongRecOn generalizing a with
 | ind n ih=>exact fun ρ H ha=>Go.loop (h a ρ H ha fun a' ρ' H' hlt ha'=>ih (m a') (hn▸hlt) a' rfl ρ' H' ha')
end
def ixStrA (x i:Value) (H:Heap):Option (Value×Heap):=match x,i with | .string s,.int _ i=>if 0≤i then (s.data[i.toNat]?).map fun b=>(.int .u8 b.toNat,H) else none | _,_=>none
theorem ixStrA_cast {s:ByteArray} {n:Nat} {k:IntKind} {H:Heap} (h:n<s.size):ixStrA (.string s) (.int k (n:Int)) H=some (.int .u8 (s.data[n]'h).toNat,H):=by
 have:n<s.data.size:=h
 simp only [ixStrA,Int.natCast_nonneg,if_true,Int.toNat_natCast,Array.getElem?_eq_getElem this,Option.map_some]
theorem slStr {P:Program} {t:TypeId} (hu:P.underlying t=some .string) {s:ByteArray} {i:Nat} (h:i<s.size) {H:Heap} : sliceA P t (.string s) (some (.int .i64 (i:Int))) (some (.int .i64 ((i+1:Nat):Int))) none H=some (.string (s.extract i (i+1))):=by
 have h1:i≤i+1∧i+1≤s.size:=⟨by omega,by omega⟩
 have n1:natA (.int .i64 (i:Int))=some i:=by simp [natA]
 have n2:natA (.int .i64 ((i+1:Nat):Int))=some (i+1):=by simp only [natA];rw [if_pos (Int.natCast_nonneg _),Int.toNat_natCast]
 simp only [sliceA,optNat,n1,n2,hu]
 simp
 omega
theorem wrA {H:Heap} {h o:Nat} {b:Blk} {v:Value} (hg:hget H h=some b) (hr:b.rw=true) (hl:b.lo≤o) (ho:o<b.cells.length) (hv:v.oneCell'=true):writeA 0 ⟨h,o,none⟩ [v] H=some (hset H h (some { b with cells:=b.cells.set o v })):=by
 simp [writeA,hg,hr,hl,hv,writeL]
 omega
end Go.AM
namespace Go.Proofs.AvT
open Go Go.AM
set_option maxRecDepth 10000
variable {orc:Oracle}
theorem extract_one {s:ByteArray} {i:Nat} (h:i<s.size):s.extract i (i+1)=⟨#[s.data[i]'h]⟩:=by
 refine bytes_ext ?_
 have h':i<s.data.toList.length:=by simpa using h
 rw [show (s.extract i (i+1)).data.toList=(s.data.toList.drop i).take 1 by simp]
 rw [List.drop_eq_getElem_cons h']
 simp
def stepC (p:List ByteArray×ByteArray) (b:UInt8):List ByteArray×ByteArray:=if b=47 then (p.1++[p.2],⟨#[]⟩) else (p.1,p.2++⟨#[b]⟩)
def cutL (l:List UInt8):List ByteArray×ByteArray:=l.foldl stepC ([],⟨#[]⟩)
def cutP (l:List UInt8):List ByteArray:=(cutL l).1++[(cutL l).2]
theorem cutL_size : ∀ (l:List UInt8),(cutL l).2.size≤l.length:=by
 have key : ∀ (l:List UInt8) (p:List ByteArray×ByteArray),(l.foldl stepC p).2.size≤p.2.size+l.length:=by
  intro l
  induction l with
  | nil=>intro p;simp
  | cons b l ih=>
   intro p
   have:=ih (stepC p b)
   simp only [List.foldl_cons,List.length_cons]
   have h2:(stepC p b).2.size≤p.2.size+1:=by
    unfold stepC
    split
    ·exact Nat.zero_le _
    ·simp [ByteArray.size_append]
     exact Nat.le_refl _
   omega
 intro l
 have:=key l ([],⟨#[]⟩)
 have h0:(⟨#[]⟩:ByteArray).size=0:=rfl
 simp only [h0,Nat.zero_add] at this
 exact this
theorem cutL_count : ∀ (l:List UInt8),(cutL l).1.length≤l.length:=by
 have key : ∀ (l:List UInt8) (p:List ByteArray×ByteArray),(l.foldl stepC p).1.length≤p.1.length+l.length:=by
  intro l
  induction l with
  | nil=>intro p;simp
  | cons b l ih=>
   intro p
   have:=ih (stepC p b)
   simp only [List.foldl_cons,List.length_cons]
   have h2:(stepC p b).1.length≤p.1.length+1:=by
    unfold stepC
    split<;>simp
   omega
 intro l
 have:=key l ([],⟨#[]⟩)
 simp only [List.length_nil,Nat.zero_add] at this
 exact this
theorem appT:AppT Tryz.prog 70 70 1 16:=by
 obtain ⟨hu,i,z,hi,h1,h2,h3,h4⟩:=DvF.del70
 exact ⟨⟨9,i,_,z,hu,hu,rfl,hi,h3,h4,h1,h2⟩,by decide⟩
theorem cutA (s:ByteArray) (hs:s.size<1000000) (h47:s.data[0]?=some 47) (h1:1<s.size):CallA Tryz.prog orc 0 180 [.string s] [] fun v H' =>
  ∃ h b,v = .tuple #[.slice (some ⟨h,0,none⟩) (cutP (s.data.toList.drop 1)).length (cutP (s.data.toList.drop 1)).length,.bool true]∧hget H' h=some b∧b.rw=true∧b.sz=1∧b.cells=(cutP (s.data.toList.drop 1)).map .string:=by
 have h0:0<s.size:=by omega
 have e0:s.data[0]'h0=47:=by
  rw [Array.getElem?_eq_getElem h0] at h47
  exact Option.some.inj h47
 have ne1:decide (s=(⟨#[]⟩:ByteArray))=false:=by
  rw [decide_eq_false_iff_not]
  rintro rfl
  exact absurd h0 (by decide)
 have ne2:decide (s=(⟨#[47]⟩:ByteArray))=false:=by
  rw [decide_eq_false_iff_not]
  rintro rfl
  exact absurd h1 (by decide)
 have i0:ixStrA (.string s) (.int .i64 0) ([]:Heap)=some (.int .u8 47,[]):=by
  have:=ixStrA_cast (k:=.i64) (H:=[]) h0
  rw [e0] at this
  exact this
 refine CallA.body Tryz.func180 rfl (by simp [Tryz.ntmps180]) ?_
 rw [Tryz.ntmps180]
 have bs : ∀ {x:ByteArray} {H:Heap},buildSliceA Tryz.prog 70 1 [(0,.string x)] H=some (.slice (some (atNew H)) 1 1,newA H [.string x] 1):=fun {x H} => F.2.1 rfl
 repeat' (first
  | refine Go.seq ?_
  | refine Go.rg ?_
  | refine GoR.nil ?_
  | refine Go.skip ?_
  | refine Go.ret ?_
  | refine Go.block ?_
  | refine Go.exit ?_
  | refine Go.blkX ?_
  | refine Go.blkN ?_
  | refine Go.passX ?_
  | refine Go.lpX ?_
  | (refine Go.blkE (by decide) ?_)
  | (
    refine GoR.op ?_ ?_ ?_
    ·decide
    ·rfl
    conv=>arg 1;simp only [G,F,opA,put_ne,Nat.reduceBEq,binA,intBin,strBin,str_eq,Option.map_some,if_true,if_false,Bool.false_eq_true,Bool.not_true,Bool.not_false,beq_self_eq_true,ne1,ne2,h47,Int.reduceToNat,Int.le_refl,show ((47:UInt8).toNat)=47 from rfl,show (((47:Nat):Int) != 47)=false from rfl,List.map_cons,List.map_nil,bs]
    show GoR _ _ _ _ _ _ _ _ _ _)
  | (
    refine Go.condT ?_ ?_
    ·rfl)
  | (
    refine Go.condF ?_ ?_
    ·rfl)
  | (
    refine GoR.opG ?_ ?_ ?_ ?_
    ·decide
    ·rfl
    ·rfl
    conv=>arg 1;simp only [G,F,opA,put_ne,Nat.reduceBEq,binA,intBin,strBin,str_eq,Option.map_some,if_true,if_false,Bool.false_eq_true,Bool.not_true,Bool.not_false,beq_self_eq_true,ne1,ne2,h47,Int.reduceToNat,Int.le_refl,show ((47:UInt8).toNat)=47 from rfl,show (((47:Nat):Int) != 47)=false from rfl,List.map_cons,List.map_nil,bs]
    show GoR _ _ _ _ _ _ _ _ _ _)
  | (
    refine GoR.skipG ?_ ?_ ?_
    ·decide
    ·rfl))
 refine Go.whileA (α:=Nat) (fun i=>s.size - i) (fun i ρ H => ∃ h lo par,1≤i∧i≤s.size∧ρ 0 = .string s∧ρ 5 = .int .i64 (i:Int)∧ρ 4 = .slice (some ⟨h,0,none⟩) ((cutL ((s.data.toList.drop 1).take (i - 1))).1.length+1) ((cutL ((s.data.toList.drop 1).take (i - 1))).1.length+1) ∧
  hget H h=some ⟨(cutL ((s.data.toList.drop 1).take (i - 1))).1.map .string++[.string (cutL ((s.data.toList.drop 1).take (i - 1))).2],1,true,lo,par⟩∧lo≤(cutL ((s.data.toList.drop 1).take (i - 1))).1.length) ?_ 1 _ _ ⟨0,0,[],Nat.le_refl _,by omega,rfl,rfl,rfl,rfl,Nat.zero_le _⟩
 rintro i ρ H ⟨h,lo,par,hi1,hi2,r0,r5,r4,hg,hlo⟩ next
 have hpz:=cutL_size ((s.data.toList.drop 1).take (i - 1))
 have hpl:((s.data.toList.drop 1).take (i - 1)).length≤s.size:=by
  rw [List.length_take,List.length_drop]
  show min _ (s.size - 1)≤_
  omega
 have hql:(cutL ((s.data.toList.drop 1).take (i - 1))).1.length≤s.size:=Nat.le_trans (cutL_count _) hpl
 generalize hl:cutL ((s.data.toList.drop 1).take (i - 1))=p at *
 obtain ⟨l,q⟩:=p
 dsimp only at *
 have hlt:=hget_lt hg
 by_cases hi:i<s.size
 ·have wi:IntKind.i64.wrap ((i:Int)+1)=((i+1:Nat):Int):=by rw [wrap_i64' (by omega) (by omega)];rfl
  have di:decide ((i:Int)<(s.size:Int))=true:=by rw [decide_eq_true_iff];omega
  have gi:s.data[i]?=some (s.data[i]'hi):=Array.getElem?_eq_getElem hi
  have hnx:(s.data.toList.drop 1).take (i+1 - 1)=(s.data.toList.drop 1).take (i - 1)++[s.data[i]'hi]:=by
   have:i - 1<(s.data.toList.drop 1).length:=by simp;show i - 1<s.size - 1;omega
   rw [show i+1 - 1=i - 1+1 by omega,List.take_succ_eq_append_getElem this]
   congr 2
   rw [List.getElem_drop]
   simp [show 1+(i - 1)=i by omega]
  have hst:cutL ((s.data.toList.drop 1).take (i+1 - 1))=stepC (l,q) (s.data[i]'hi):=by
   rw [hnx,← hl]
   simp [cutL]
  by_cases hb:s.data[i]'hi=47
  ·have b47:(((s.data[i]'hi).toNat:Int)==47)=true:=by rw [hb];rfl
   have hg2:hget (newA H [.string ⟨#[]⟩] 1) h=some ⟨l.map .string++[.string q],1,true,lo,par⟩:=by rw [hget_newA_lt hlt];exact hg
   have hap:=((appT.eq (base:=0) (s:=.slice (some ⟨h,0,none⟩) (l.length+1) (l.length+1)) (x:=.slice (some (atNew H)) 1 1) (H:=newA H [.string ⟨#[]⟩] 1) (n:=1) (new:=[.string ⟨#[]⟩]) rfl (lit_first rfl) rfl rfl (l:=l.length+1) (m:=l.length+1)).2.2 (by omega) (by omega)).1 rfl (by omega) rfl hg2 rfl (Nat.zero_le _) rfl (by simp)
   repeat' (first
    | refine Go.seq ?_
    | refine Go.rg ?_
    | refine GoR.nil ?_
    | refine Go.skip ?_
    | refine Go.ret ?_
    | refine Go.block ?_
    | refine Go.exit ?_
    | refine Go.blkX ?_
    | refine Go.blkN ?_
    | refine Go.passX ?_
    | refine Go.lpX ?_
    | (refine Go.blkE (by decide) ?_)
    | (
      refine GoR.op ?_ ?_ ?_
      ·decide
      ·rfl
      conv=>arg 1;simp only [G,F,opA,put_ne,Nat.reduceBEq,binA,intBin,strBin,str_eq,Option.map_some,if_true,if_false,Bool.false_eq_true,Bool.not_true,Bool.not_false,beq_self_eq_true,r0,r5,r4,di,gi,b47,Int.natCast_nonneg,Int.toNat_natCast,builtinA,List.map_cons,List.map_nil,bs,hap,wi]
      show GoR _ _ _ _ _ _ _ _ _ _)
    | (
      refine Go.condT ?_ ?_
      ·rfl)
    | (
      refine Go.condF ?_ ?_
      ·rfl)
    | (
      refine GoR.opG ?_ ?_ ?_ ?_
      ·decide
      ·rfl
      ·rfl
      conv=>arg 1;simp only [G,F,opA,put_ne,Nat.reduceBEq,binA,intBin,strBin,str_eq,Option.map_some,if_true,if_false,Bool.false_eq_true,Bool.not_true,Bool.not_false,beq_self_eq_true,r0,r5,r4,di,gi,b47,Int.natCast_nonneg,Int.toNat_natCast,builtinA,List.map_cons,List.map_nil,bs,hap,wi]
      show GoR _ _ _ _ _ _ _ _ _ _)
    | (
      refine GoR.skipG ?_ ?_ ?_
      ·decide
      ·rfl))
   refine Go.lp ?_
   refine next (i+1) _ _ (by omega) ?_
   rw [hst]
   simp only [stepC,hb,if_true]
   refine ⟨(newA H [.string ⟨#[]⟩] 1).length,l.length+1,h::par,by omega,by omega,?_,?_,?_,?_,?_⟩
   ·simp only [put_ne,Nat.reduceBEq,r0]
   ·simp only [put_eq]
   ·simp only [put_ne,put_eq,Nat.reduceBEq,atNew,List.length_append,List.length_cons,List.length_nil]
   ·have:=hget_new_at (H:=hset (newA H [.string ⟨#[]⟩] 1) h (some ⟨l.map .string++[.string q],1,false,lo,par⟩)) (b:=some ⟨l.map .string++[.string q]++[.string ⟨#[]⟩],1,true,l.length+1,h::par⟩)
    rw [length_hset] at this
    simp only [List.drop_zero,Nat.mul_one,List.map_append,List.map_cons,List.map_nil]
    exact this
   ·simp
  ·have b47:(((s.data[i]'hi).toNat:Int)==47)=false:=by
    rw [beq_eq_false_iff_ne]
    intro h
    refine hb (UInt8.toNat_inj.1 ?_)
    show _=47
    omega
   have wl:IntKind.i64.wrap (((l.length+1:Nat):Int) - 1)=(l.length:Int):=by rw [wrap_i64' (by omega) (by omega)];omega
   have cl:((l.length:Int)<((l.length+1:Nat):Int))=True:=by simp;omega
   have hget2:(l.map Value.string++[Value.string q])[l.length]?=some (.string q):=by simp
   have hadd:(((q.size+(s.extract i (i+1)).size:Nat):Int)>IntKind.i64.max)=False:=by
    have:(s.extract i (i+1)).size≤1:=by rw [ByteArray.size_extract];omega
    rw [eq_iff_iff,iff_false]
    show ¬ ((q.size+(s.extract i (i+1)).size:Nat):Int)>9223372036854775807
    omega
   have hw:=wrA (v:=.string (q++s.extract i (i+1))) hg rfl hlo (o:=l.length) (by simp) rfl
   repeat' (first
    | refine Go.seq ?_
    | refine Go.rg ?_
    | refine GoR.nil ?_
    | refine Go.skip ?_
    | refine Go.ret ?_
    | refine Go.block ?_
    | refine Go.exit ?_
    | refine Go.blkX ?_
    | refine Go.blkN ?_
    | refine Go.passX ?_
    | refine Go.lpX ?_
    | (refine Go.blkE (by decide) ?_)
    | (
      refine GoR.op ?_ ?_ ?_
      ·decide
      ·rfl
      conv=>arg 1;simp only [G,F,opA,put_ne,Nat.reduceBEq,binA,intBin,strBin,str_eq,Option.map_some,if_true,if_false,Bool.false_eq_true,Bool.not_true,Bool.not_false,beq_self_eq_true,r0,r5,r4,di,gi,b47,Int.natCast_nonneg,Int.toNat_natCast,builtinA,List.map_cons,List.map_nil,wl,cl,true_and,hg,Option.bind_some,Nat.mul_one,Nat.zero_add,hget2,slStr Tryz.underlying9 hi,wi,hw,Option.map_none,hadd,put_none]
      show GoR _ _ _ _ _ _ _ _ _ _)
    | (refine Go.rgS (by kernel_rfl) (by decide) ?_)
    | (
      refine Go.condT ?_ ?_
      ·rfl)
    | (
      refine Go.condF ?_ ?_
      ·rfl)
    | (
      refine GoR.opG ?_ ?_ ?_ ?_
      ·decide
      ·rfl
      ·rfl
      conv=>arg 1;simp only [G,F,opA,put_ne,Nat.reduceBEq,binA,intBin,strBin,str_eq,Option.map_some,if_true,if_false,Bool.false_eq_true,Bool.not_true,Bool.not_false,beq_self_eq_true,r0,r5,r4,di,gi,b47,Int.natCast_nonneg,Int.toNat_natCast,builtinA,List.map_cons,List.map_nil,wl,cl,true_and,hg,Option.bind_some,Nat.mul_one,Nat.zero_add,hget2,slStr Tryz.underlying9 hi,wi,hw,Option.map_none,hadd,put_none]
      show GoR _ _ _ _ _ _ _ _ _ _)
    | (
      refine GoR.skipG ?_ ?_ ?_
      ·decide
      ·rfl))
   refine Go.lp ?_
   refine next (i+1) _ _ (by omega) ?_
   rw [hst]
   simp only [stepC,hb,if_false]
   refine ⟨h,lo,par,by omega,by omega,?_,?_,?_,?_,?_⟩
   ·simp only [put_none,put_ne,Nat.reduceBEq,r0]
   ·simp only [put_eq]
   ·simp only [put_none,put_ne,put_eq,Nat.reduceBEq,r4]
   ·rw [hget_set_eq hlt]
    have e:s.extract i (i+1)=⟨#[s.data[i]'hi]⟩:=extract_one hi
    rw [e]
    simp
   ·exact hlo
 ·have:i=s.size:=by omega
  subst this
  have hfull:(s.data.toList.drop 1).take (s.size - 1)=s.data.toList.drop 1:=List.take_of_length_le (by simp)
  rw [hfull] at hl
  repeat' (first
   | refine Go.seq ?_
   | refine Go.rg ?_
   | refine GoR.nil ?_
   | refine Go.skip ?_
   | refine Go.ret ?_
   | refine Go.block ?_
   | refine Go.exit ?_
   | refine Go.blkX ?_
   | refine Go.blkN ?_
   | refine Go.passX ?_
   | refine Go.lpX ?_
   | (refine Go.blkE (by decide) ?_)
   | (
     refine GoR.op ?_ ?_ ?_
     ·decide
     ·rfl
     conv=>arg 1;simp only [G,F,opA,put_ne,Nat.reduceBEq,binA,intBin,strBin,str_eq,Option.map_some,if_true,if_false,Bool.false_eq_true,Bool.not_true,Bool.not_false,beq_self_eq_true,r0,r5,r4,show decide ((s.size:Int)<(s.size:Int))=false by simp,builtinA,List.map_cons,List.map_nil]
     show GoR _ _ _ _ _ _ _ _ _ _)
   | (
     refine Go.condT ?_ ?_
     ·rfl)
   | (
     refine Go.condF ?_ ?_
     ·rfl)
   | (
     refine GoR.opG ?_ ?_ ?_ ?_
     ·decide
     ·rfl
     ·rfl
     conv=>arg 1;simp only [G,F,opA,put_ne,Nat.reduceBEq,binA,intBin,strBin,str_eq,Option.map_some,if_true,if_false,Bool.false_eq_true,Bool.not_true,Bool.not_false,beq_self_eq_true,r0,r5,r4,show decide ((s.size:Int)<(s.size:Int))=false by simp,builtinA,List.map_cons,List.map_nil]
     show GoR _ _ _ _ _ _ _ _ _ _)
   | (
     refine GoR.skipG ?_ ?_ ?_
     ·decide
     ·rfl))
  have hP:cutP (s.data.toList.drop 1)=l++[q]:=by rw [cutP,hl]
  refine ⟨.inr rfl,_,rfl,h,⟨l.map .string++[.string q],1,true,lo,par⟩,?_,hg,rfl,rfl,?_⟩
  ·rw [hP,List.length_append]
   rfl
  ·rw [hP]
   simp
end Go.Proofs.AvT
