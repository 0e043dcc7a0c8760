/- slices.Insert of one element of several cells: the library's own text. -/
import Derived.Test.YtmbgelijgmmpbaaGreatDoorDvFacts
import Derived.Test.YtmbgelijgmmpbaaGreatDoorDmOx
set_option linter.unusedSimpArgs false
set_option linter.unusedVariables false
set_option linter.unusedVariables false
set_option linter.unusedSimpArgs false
namespace Go.Proofs.DvT
open Go Go.Lib Go.RowKit Go.Shelf Go.Proofs.DvF
theorem insInfo : ∃ i z,Tryz.prog.info? 158=some i∧i.zero=some z∧z.cells.size=5∧i.size=5∧i.bytes=72:=by
 have h:((Tryz.prog.info? 158).map fun i=>(i.zero.map (·.cells.size),i.size,i.bytes))=some (some 5,5,72):=by kernel_rfl
 cases hi:Tryz.prog.info? 158 with
 | none=>rw [hi] at h;cases h
 | some i=>
  rw [hi] at h
  simp only [Option.map_some,Option.some.injEq,Prod.mk.injEq] at h
  obtain ⟨h1,h2,h3⟩:=h
  cases hz:i.zero with
  | none=>rw [hz] at h1;cases h1
  | some z=>rw [hz] at h1;exact ⟨i,z,rfl,hz,by simpa using h1,h2,h3⟩
set_option maxHeartbeats 4000000 in
set_option maxRecDepth 100000 in
theorem ins_end_room (b off n c vb voff vc:Nat) (vs:List Value) (w:World) (hroom:n+1≤c) (hc63:c≤9223372036854775807)
  (hvl:vs.length=5) (hsp : ∀ j,j<5→(w.cell? ⟨b,off+n*5+j,none⟩).isSome=true) (hfz : ∀ j,j<5→w.frozen? ⟨b,off+n*5+j,none⟩=false)
  (hvs : ∀ j v,vs[j]?=some v→w.cell? ⟨vb,voff+j,none⟩=some v) (h1v : ∀ v∈vs,v.oneCell'=true) :
  Calls Tryz.prog 82 #[.slice (some ⟨b,off,none⟩) n c,.int .i64 n,.slice (some ⟨vb,voff,none⟩) 1 vc] w fun e w' =>
   e = .returned (.slice (some ⟨b,off,none⟩) (n+1) c)∧w'=w.setCells b (off+n*5) vs:=by
 obtain ⟨i0,z,hi0,hz0,hzc,hzs,hzb⟩:=insInfo
 have ht:=Tryz.underlying159
 have u24:=run_underlying ht
 have hsrc:Src Tryz.prog i0.size 159 (.slice (some ⟨vb,voff,none⟩) 1 vc) 1 vs w:=Src.ofSlice w ht ⟨vb,voff,none⟩ 1 vc vs (by rw [hzs,hvl]) (fun j u hj=>by rw [Addr.add_lit];exact hvs j u hj) h1v
 go_enter Tryz.func82,Tryz.ntmps82
 go_wp2_with (at_builtin;refine wpList_append_room_src _ rfl _ _ 159 159 rfl 158 i0 ht hi0 b off n c rfl _ rfl 1 vs hsrc hroom (by rw [hvl,hzs];exact hsp) (by rw [hvl,hzs];exact hfz) ?_)
 go_ret
 exact ⟨rfl,rfl⟩
set_option maxHeartbeats 4000000 in
set_option maxRecDepth 100000 in
theorem ins_end_grow (base:Option Addr) (n c vb voff vc:Nat) (cs vs:List Value) (w:World) (hnc:n≤c) (hroom:c<n+1) (hbig:(n+1)*72≤140737488355328)
  (hcl:cs.length=n*5) (hvl:vs.length=5) (hnil:base=none→n=0)
  (hcs : ∀ a,base=some a → ∀ j v,cs[j]?=some v→w.cell? (a.add j)=some v)
  (hvs : ∀ j v,vs[j]?=some v→w.cell? ⟨vb,voff+j,none⟩=some v) (h1v : ∀ v∈vs,v.oneCell'=true) :
  Calls Tryz.prog 82 #[.slice base n c,.int .i64 n,.slice (some ⟨vb,voff,none⟩) 1 vc] w fun e w' =>
   ∃ z:Value,z.cells.size=5∧e = .returned (.slice (some ⟨w.heap.size,0,none⟩) (n+1) (grownCap w (n+1) c 158)) ∧
   w'=w.drew.alloc (.cells ((cs++vs).toArray++Builtin.zeroCells z.cells (grownCap w (n+1) c 158 - (n+1))) 158):=by
 obtain ⟨i0,z,hi0,hz0,hzc,hzs,hzb⟩:=insInfo
 have ht:=Tryz.underlying159
 have u24:=run_underlying ht
 have hsrc:Src Tryz.prog i0.size 159 (.slice (some ⟨vb,voff,none⟩) 1 vc) 1 vs w:=Src.ofSlice w ht ⟨vb,voff,none⟩ 1 vc vs (by rw [hzs,hvl]) (fun j u hj=>by rw [Addr.add_lit];exact hvs j u hj) h1v
 have hold:(Builtin.firstCells i0.size n (.slice base n c)).run Tryz.prog w.drew = .ok cs.toArray w.drew:=by
  rw [hzs]
  cases base with
  | none=>
   have h0:=hnil rfl
   subst h0
   rw [show cs=[] from List.length_eq_zero_iff.1 (by simpa using hcl)]
   exact run_firstCells_none w.drew 5 0 0 c
  | some a=>exact run_firstCells_some w.drew 5 n a n c cs hcl (fun j v hj=>hcs a rfl j v hj)
 have hrun : ∀ ty,(Builtin.append_ #[159,159] ty #[.slice base n c,.slice (some ⟨vb,voff,none⟩) 1 vc]).run Tryz.prog w=_:=fun ty=>
  run_append_grow_src w 159 159 ty 158 i0 z ht hi0 hz0 base n c cs hold _ 1 vs hsrc hroom (by omega) (by rw [hzb];exact growslice_fits hroom hbig)
 have hex : ∃ z:Value,z.cells=z.cells:=⟨z,rfl⟩
 have hzX : ∃ z':Value,z'.cells=z.cells:=⟨z,rfl⟩
 clear hex hz0
 generalize z.cells=Z at hrun hzX hzc
 obtain ⟨z',hz'⟩:=hzX
 refine Calls.mono (R:=fun e w'=>e = .returned (.slice (some ⟨w.heap.size,0,none⟩) (n+1) (grownCap w (n+1) c 158))∧w'=w.drew.alloc (.cells ((cs++vs).toArray++Builtin.zeroCells Z (grownCap w (n+1) c 158 - (n+1))) 158)) ?_ fun e w' ⟨h1,h2⟩=>⟨z',by rw [hz'];exact hzc,h1,by rw [hz'];exact h2⟩
 clear hz' z'
 go_enter Tryz.func82,Tryz.ntmps82
 cases base with
 | none=>
  have h0:=hnil rfl
  subst h0
  go_wp2_with (at_builtin;refine Lib.wpList_append_run _ rfl _ _ _ _ rfl _ _ rfl rfl _ _ (hrun _) ?_)
  go_ret
  exact ⟨rfl,rfl⟩
 | some a=>
  obtain ⟨ab,ao,asp⟩:=a
  go_wp2_with (at_builtin;refine Lib.wpList_append_run _ rfl _ _ _ _ rfl _ _ rfl rfl _ _ (hrun _) ?_)
  all_goals (go_ret;exact ⟨rfl,rfl⟩)
set_option maxHeartbeats 4000000 in
set_option maxRecDepth 100000 in
theorem ins_shift (b off n c i vb voff vc:Nat) (cs vs:List Value) (w:World) (hi:i<n) (hroom:n+1≤c) (hc63:c≤9223372036854775807) (hvb:vb=b→voff+5≤off∨off+(n+1)*5≤voff)
  (hcl:cs.length=n*5) (hvl:vs.length=5)
  (hcs : ∀ j v,cs[j]?=some v→w.cell? ⟨b,off+j,none⟩=some v) (hsp : ∀ j,j<(n+1)*5→(w.cell? ⟨b,off+j,none⟩).isSome=true) (hfz : ∀ j,j<(n+1)*5→w.frozen? ⟨b,off+j,none⟩=false)
  (hvs : ∀ j v,vs[j]?=some v→w.cell? ⟨vb,voff+j,none⟩=some v) (h1c : ∀ v∈cs,v.oneCell'=true) (h1v : ∀ v∈vs,v.oneCell'=true)
  (hov : ∀ cb,(callFunc 124 #[.slice (some ⟨vb,voff,none⟩) 1 vc,.slice (some ⟨b,off+(i+1)*5,none⟩) (n - i) cb]).run Tryz.prog w = .ok (.value (.bool false)) w) :
  Calls Tryz.prog 82 #[.slice (some ⟨b,off,none⟩) n c,.int .i64 i,.slice (some ⟨vb,voff,none⟩) 1 vc] w fun e w' =>
   e = .returned (.slice (some ⟨b,off,none⟩) (n+1) c)∧w'=(w.drew.setCells b (off+(i+1)*5) (cs.drop (i*5))).setCells b (off+i*5) vs:=by
 obtain ⟨i0,z,hi0,hz0,hzc,hzs,hzb⟩:=insInfo
 have ht:=Tryz.underlying159
 have u24:=run_underlying ht
 have mixed:=dmx
 have hz2 : ¬ ((i:Int)=(n:Int)):=by omega
 have hsz:(Tryz.prog.info? 158).map (·.size)=some 5:=by rw [hi0];simp [hzs]
 have hdl:(cs.drop (i*5)).length=(n - i)*5:=by rw [List.length_drop,hcl];omega
 have hw1:IntKind.i64.wrap ((i:Int)+1)=(i:Int)+1:=by rw [IntKind.wrap_i64];omega
 have hb1:(0:Int)≤(i:Int)+1:=by omega
 have hin:i≤n:=by omega
 have htn:((i:Int)+1).toNat=i+1:=by omega
 have hb2 : ¬ (c=i+1):=by omega
 have hb3:(i:Int)≤(n:Int)+1:=by omega
 have hb4 : ¬ (c=i):=by omega
 have hcp1 : ∀ ty dc sc,(Builtin.copy_ #[159,159] ty #[.slice (some ⟨b,off+(i+1)*5,none⟩) (n - i) dc,.slice (some ⟨b,off+i*5,none⟩) (n+1 - i) sc]).run Tryz.prog w.drew = .ok (goInt ((n - i:Nat):Int)) (w.drew.setCells b (off+(i+1)*5) (cs.drop (i*5))):=fun ty dc sc=>
  run_copy_wide w.drew _ _ ty 158 5 b (off+(i+1)*5) (n - i) dc ⟨b,off+i*5,none⟩ (n+1 - i) sc (n - i) (cs.drop (i*5)) ht hsz (by simp only [Nat.min_def];split<;>omega) hdl
   (fun j v hj=>by rw [Addr.add_lit,Nat.add_assoc];exact hcs (i*5+j) v (by rwa [List.getElem?_drop] at hj))
   (fun j hj=>by rw [Nat.add_assoc];exact hsp _ (by omega)) (fun j hj=>by rw [Nat.add_assoc];exact hfz _ (by omega)) (fun v hv=>h1c v (List.mem_of_mem_drop hv))
 obtain ⟨W1,hW1⟩ : ∃ W1,W1=w.drew.setCells b (off+(i+1)*5) (cs.drop (i*5)):=⟨_,rfl⟩
 have hsp1 : ∀ k,k<(n+1)*5→(W1.cell? ⟨b,off+k,none⟩).isSome=true:=fun k hk=>by
  rw [hW1]
  exact isSome_setCells b _ _ _ (fun j hj=>by rw [Nat.add_assoc];exact hsp _ (by omega)) _ (hsp k hk)
 have hcp2 : ∀ (W:World),(∀ x,W.cell? x=W1.cell? x)→(∀ x,W.frozen? x=W1.frozen? x) → ∀ ty dc,(Builtin.copy_ #[159,159] ty #[.slice (some ⟨b,off+i*5,none⟩) (n+1 - i) dc,.slice (some ⟨vb,voff,none⟩) 1 vc]).run Tryz.prog W = .ok (goInt 1) (W.setCells b (off+i*5) vs):=fun W hWc hWf ty dc=>
  run_copy_wide W _ _ ty 158 5 b (off+i*5) (n+1 - i) dc ⟨vb,voff,none⟩ 1 vc 1 vs ht hsz (by simp only [Nat.min_def];split<;>omega) (by omega)
   (fun j v hj=>by
    have hj5:j<5:=by have:=(List.getElem?_eq_some_iff.1 hj).1;omega
    rw [Addr.add_lit,hWc,hW1,World.cell?_setCells_out b _ _ _ _ (fun h _=>by have:=hvb h;rw [hdl];dsimp only;omega)]
    exact hvs j v hj)
   (fun j hj=>by rw [hWc,Nat.add_assoc];exact hsp1 _ (by omega)) (fun j hj=>by rw [hWf,hW1,World.frozen?_setCells,Nat.add_assoc];exact hfz _ (by omega)) h1v
 rw [← hW1] at hcp1
 go_enter Tryz.func82,Tryz.ntmps82
 go_wp2_with (simp only [hov])
 go_region_law_o (refine step_copy_runI rfl _ _ 159 159 rfl _ _ (by simp [Act.eval,Act.put]) (by simp [Act.eval,Act.put]) (hcp1 _ _ _) ?_)
 go_wp2_with (at_builtin;refine wpList_copy_runI _ rfl _ _ 159 159 rfl _ _ rfl rfl (hcp2 _ (fun _=>rfl) (fun _=>rfl) _ _) ?_)
 go_ret
 first | exact ⟨rfl,rfl⟩ | exact ⟨rfl,by rw [hW1]⟩
set_option maxHeartbeats 4000000 in
set_option maxRecDepth 100000 in
theorem ins_grow (b off n c i vb voff vc:Nat) (cs vs:List Value) (w:World) (hi:i<n) (hnc:n≤c) (hroom:c<n+1) (hbig:(n+1)*72≤140737488355328)
  (hcl:cs.length=n*5) (hvl:vs.length=5)
  (hcs : ∀ j v,cs[j]?=some v→w.cell? ⟨b,off+j,none⟩=some v)
  (hvs : ∀ j v,vs[j]?=some v→w.cell? ⟨vb,voff+j,none⟩=some v) (h1c : ∀ v∈cs,v.oneCell'=true) (h1v : ∀ v∈vs,v.oneCell'=true) :
  Calls Tryz.prog 82 #[.slice (some ⟨b,off,none⟩) n c,.int .i64 i,.slice (some ⟨vb,voff,none⟩) 1 vc] w fun e w' =>
   ∃ ROW:Array Value,(∀ j,j<i*5→ROW[j]?=cs[j]?)∧ROW.size=grownCap w (n+1) c 158*5∧e = .returned (.slice (some ⟨w.heap.size,0,none⟩) (n+1) (grownCap w (n+1) c 158)) ∧
   w'=(((w.alloc (.cells ROW 158)).drew.setCells w.heap.size (i*5) vs).drew).setCells w.heap.size ((i+1)*5) (cs.drop (i*5)):=by
 obtain ⟨i0,z,hi0,hz0,hzc,hzs,hzb⟩:=insInfo
 have ht:=Tryz.underlying159
 have ht3:=Tryz.underlying3
 have u24:=run_underlying ht
 have mixed:=dmx
 have hz2 : ¬ ((i:Int)=(n:Int)):=by omega
 have hz3:(c:Int)<(n:Int)+1:=by omega
 have hsz:(Tryz.prog.info? 158).map (·.size)=some 5:=by rw [hi0];simp [hzs]
 have hbw:b<w.heap.size:=block_lt_of_cell (hcs 0 _ (List.getElem?_eq_getElem (by omega)))
 have hvw:vb<w.heap.size:=block_lt_of_cell (hvs 0 _ (List.getElem?_eq_getElem (by omega)))
 have hkk:(n:Int)+1 - (i:Int)=((n+1 - i:Nat):Int):=by omega
 have hik:i+(n+1 - i)=n+1:=by omega
 have htl:(cs.take (i*5)).length=i*5:=by rw [List.length_take];omega
 have hold:(Builtin.firstCells i0.size i (.slice (some ⟨b,off,none⟩) i c)).run Tryz.prog w.drew = .ok (cs.take (i*5)).toArray w.drew:=by
  rw [hzs]
  exact run_firstCells_some w.drew 5 i ⟨b,off,none⟩ i c (cs.take (i*5)) htl (fun j v hj=>by
   rw [Addr.add_lit]
   rw [List.getElem?_take] at hj
   split at hj
   ·exact hcs j v hj
   ·cases hj)
 have hrz : ∀ ty,(Builtin.append_ #[159,3] ty #[.slice (some ⟨b,off,none⟩) i c,.int .i64 ((n:Int)+1 - (i:Int))]).run Tryz.prog w =
   .ok (.slice (some ⟨w.heap.size,0,none⟩) (n+1) (grownCap w (n+1) c 158)) (w.drew.alloc (.cells ((cs.take (i*5)).toArray++Builtin.zeroCells z.cells (n+1 - i)++Builtin.zeroCells z.cells (grownCap w (n+1) c 158 - (n+1))) 158)):=fun ty=>by
  have h:=Lib.run_append_grow_zeros w 159 3 ty 158 i0 z .i64 .i64 ht ht3 hi0 hz0 (some ⟨b,off,none⟩) i c (cs.take (i*5)) hold (n+1 - i) (by omega) (by omega) (by omega) (by omega) (by rw [hzb];omega) (by rw [hzb,hik];exact growslice_fits hroom hbig)
  rw [hik] at h
  rw [hkk]
  exact h
 have hGn:n+1≤grownCap w (n+1) c 158:=grownCap_ge w _ _ _
 have hG63:grownCap w (n+1) c 158≤9223372036854775807:=by
  have:=grownCap_le_maxLen w (n+1) c 158 (by unfold maxLen;omega)
  unfold maxLen at this
  omega
 generalize grownCap w (n+1) c 158=G at *
 obtain ⟨ROW,hROW⟩ : ∃ ROW:Array Value,ROW=(cs.take (i*5)).toArray++Builtin.zeroCells z.cells (n+1 - i)++Builtin.zeroCells z.cells (G - (n+1)):=⟨_,rfl⟩
 rw [← hROW] at hrz
 have hRs:ROW.size=G*5:=by
  rw [hROW]
  simp only [Array.size_append,List.size_toArray,htl,Builtin.zeroCells,Array.size_map,Array.size_range,hzc]
  omega
 have hRl:(n+1)*5≤ROW.size:=by omega
 have hRi : ∀ j,j<i*5→ROW[j]?=cs[j]?:=fun j hj=>by
  rw [hROW,Array.append_assoc,Array.getElem?_append_left (by simpa [htl] using hj)]
  simp [hj]
 obtain ⟨W1,hW1⟩ : ∃ W1,W1=w.drew.alloc (.cells ROW 158):=⟨_,rfl⟩
 rw [← hW1] at hrz
 have hN : ∀ j,j<(n+1)*5→(W1.cell? ⟨w.heap.size,j,none⟩).isSome=true:=fun j hj=>by
  rw [hW1,World.cell?_alloc_at (w:=w.drew) ROW _ w.heap.size j rfl,Array.getElem?_eq_getElem (by omega)];rfl
 have hNf : ∀ j,W1.frozen? ⟨w.heap.size,j,none⟩=false:=fun j=>by rw [hW1];exact World.frozen?_alloc_at (w:=w.drew) ROW _ w.heap.size j rfl
 have hOb : ∀ j v,w.cell? ⟨b,j,none⟩=some v→W1.cell? ⟨b,j,none⟩=some v:=fun j v h=>by rw [hW1,World.cell?_alloc_past (w:=w.drew) _ b j hbw];exact h
 have hOv : ∀ j v,w.cell? ⟨vb,j,none⟩=some v→W1.cell? ⟨vb,j,none⟩=some v:=fun j v h=>by rw [hW1,World.cell?_alloc_past (w:=w.drew) _ vb j hvw];exact h
 have hcpA : ∀ (W:World),(∀ x,W.cell? x=W1.cell? x)→(∀ x,W.frozen? x=W1.frozen? x) → ∀ ty dc,(Builtin.copy_ #[159,159] ty #[.slice (some ⟨w.heap.size,i*5,none⟩) (n+1 - i) dc,.slice (some ⟨vb,voff,none⟩) 1 vc]).run Tryz.prog W = .ok (goInt 1) (W.setCells w.heap.size (i*5) vs):=fun W hWc hWf ty dc=>
  run_copy_wide W _ _ ty 158 5 w.heap.size (i*5) (n+1 - i) dc ⟨vb,voff,none⟩ 1 vc 1 vs ht hsz (by simp only [Nat.min_def];split<;>omega) (by omega)
   (fun j v hj=>by rw [Addr.add_lit,hWc];exact hOv _ v (hvs j v hj))
   (fun j hj=>by rw [hWc];exact hN _ (by omega)) (fun j hj=>by rw [hWf];exact hNf _) h1v
 have hGi : ¬ (G=i):=by omega
 have hGim : ¬ (G=i+1):=by omega
 have hci : ¬ (c=i):=by omega
 have hbN:b≠w.heap.size:=by omega
 have hdl:(cs.drop (i*5)).length=(n - i)*5:=by rw [List.length_drop,hcl];omega
 have hcpB : ∀ (W:World),(∀ x,W.cell? x=(W1.setCells w.heap.size (i*5) vs).cell? x)→(∀ x,W.frozen? x=(W1.setCells w.heap.size (i*5) vs).frozen? x) → ∀ ty dc sc,(Builtin.copy_ #[159,159] ty #[.slice (some ⟨w.heap.size,(i+1)*5,none⟩) (n - i) dc,.slice (some ⟨b,off+i*5,none⟩) (n - i) sc]).run Tryz.prog W = .ok (goInt ((n - i:Nat):Int)) (W.setCells w.heap.size ((i+1)*5) (cs.drop (i*5))):=fun W hWc hWf ty dc sc=>
  run_copy_wide W _ _ ty 158 5 w.heap.size ((i+1)*5) (n - i) dc ⟨b,off+i*5,none⟩ (n - i) sc (n - i) (cs.drop (i*5)) ht hsz (by simp only [Nat.min_def];split<;>omega) hdl
   (fun j v hj=>by
    rw [Addr.add_lit,hWc,World.cell?_setCells_out _ _ _ _ _ (fun h _=>absurd h hbN),Nat.add_assoc]
    exact hOb _ v (hcs (i*5+j) v (by rwa [List.getElem?_drop] at hj)))
   (fun j hj=>by rw [hWc];exact isSome_setCells _ _ _ _ (fun t ht=>hN _ (by omega)) _ (hN _ (by omega)))
   (fun j hj=>by rw [hWf,World.frozen?_setCells];exact hNf _) (fun v hv=>h1c v (List.mem_of_mem_drop hv))
 subst hW1
 have hE1 : ∀ x,((w.alloc (.cells ROW 158)).drew).cell? x=(w.drew.alloc (.cells ROW 158)).cell? x:=fun x=>rfl
 have hE2 : ∀ x,((w.alloc (.cells ROW 158)).drew).frozen? x=(w.drew.alloc (.cells ROW 158)).frozen? x:=fun x=>rfl
 have hF1 : ∀ x,(((w.alloc (.cells ROW 158)).drew.setCells w.heap.size (i*5) vs).drew).cell? x=((w.drew.alloc (.cells ROW 158)).setCells w.heap.size (i*5) vs).cell? x:=fun x=>rfl
 have hF2 : ∀ x,(((w.alloc (.cells ROW 158)).drew.setCells w.heap.size (i*5) vs).drew).frozen? x=((w.drew.alloc (.cells ROW 158)).setCells w.heap.size (i*5) vs).frozen? x:=fun x=>rfl
 have hw1:IntKind.i64.wrap ((i:Int)+1)=(i:Int)+1:=by rw [IntKind.wrap_i64];omega
 have hb1:(0:Int)≤(i:Int)+1:=by omega
 have hin:i≤n:=by omega
 have htn:((i:Int)+1).toNat=i+1:=by omega
 have hb3:(i:Int)≤(n:Int):=by omega
 refine Calls.mono (R:=fun e w'=>e = .returned (.slice (some ⟨w.heap.size,0,none⟩) (n+1) G)∧w'=(((w.alloc (.cells ROW 158)).drew.setCells w.heap.size (i*5) vs).drew).setCells w.heap.size ((i+1)*5) (cs.drop (i*5))) ?_ fun e w' ⟨h1,h2⟩=>⟨ROW,hRi,hRs,h1,h2⟩
 clear hkk hik hold hROW hRl hRi hRs
 go_enter Tryz.func82,Tryz.ntmps82
 go_wp2_with (first
  | (at_builtin;refine Lib.wpList_append_run _ rfl _ _ _ _ rfl _ _ rfl rfl _ _ (hrz _) ?_)
  | (at_builtin;refine wpList_copy_runI _ rfl _ _ 159 159 rfl _ _ rfl rfl (hcpA _ hE1 hE2 _ _) ?_)
  | (at_builtin;refine wpList_copy_runI _ rfl _ _ 159 159 rfl _ _ rfl rfl (hcpB _ (fun _=>rfl) (fun _=>rfl) _ _ _) ?_))
 go_region_law_o (refine step_copy_runI rfl _ _ 159 159 rfl (.slice (some ⟨w.heap.size,(i+1)*5,none⟩) (n - i) (G - (i+1))) (.slice (some ⟨b,off+i*5,none⟩) (n - i) (c - i)) (by simp [Act.eval,Act.put]) (by simp [Act.eval,Act.put]) (hcpB _ hF1 hF2 3 (G - (i+1)) (c - i)) ?_)
 go_wp2
 go_ret
 exact ⟨rfl,rfl⟩
end Go.Proofs.DvT
namespace Go.Proofs.DvT
open Go Go.Lib Go.RowKit Go.Shelf Go.AM Go.DM Go.Proofs.DvF
theorem run_overlaps_gen {P:Program} (w:World) (tS tR e:TypeId) (ht:P.underlying tS=some (.slice e)) (size:Nat) (hz : ∀ w,(Go.sizeOf e).run P w = .ok size w) (a b:Addr) (la ca lb cb:Nat) (tA tB:TypeId) (kA kB:Nat)
  (hsa:w.shape? a.block=some (tA,kA)) (hsb:w.shape? b.block=some (tB,kB)) (hkA:kA≠0) (hkB:kB≠0) (hfb:w.frozen? b=false) (hfe:w.frozen? { block:=b.block,off:=kB } = false)
  (hdis:a.block=b.block→a.off+la*size≤b.off∨b.off+lb*size≤a.off) :
  (Extern.SlicesOverlaps.overlaps #[tS,tS] #[tR] #[.slice (some a) la ca,.slice (some b) lb cb]).run P w = .ok (.bool false) w:=by
 change Sem.run P (α:=Value) (do
  let some t := (#[tS, tS] : Array TypeId)[0]? | stuck "slices.overlaps: no parameter types"
  let .slice elem ← underlying t | stuck "slices.overlaps: slice type expected"
  let size ← sizeOf elem
  match (some a:Option Addr),(some b:Option Addr) with
  | some a,some b=>
   if la=0∨lb=0∨size=0 then pure (Value.bool false)
   else if a.block != b.block&&(← frozen a)&&(← frozen b) then unsupported .addressObserved
   else do
    if a.block != b.block then do
     noView a;noView b
     if ← mayBeOne a b then return Value.bool ((← choose (.extern "sameAddr.stringBytes" 2)) == 1)
    pure (Value.bool (a.block==b.block&&a.off<b.off+lb*size&&b.off<a.off+la*size))
  | _,_=>pure (Value.bool false)) w=_
 by_cases h0:la=0∨lb=0∨size=0
 ·simp [run_underlying ht,hz,h0]
 ·by_cases hne:a.block=b.block
  ·have h1:(a.block != b.block)=false:=by simpa using hne
   have h2:=hdis hne
   have h3:(decide (a.off<b.off+lb*size)&&decide (b.off<a.off+la*size))=false:=by
    rw [Bool.and_eq_false_iff,decide_eq_false_iff_not,decide_eq_false_iff_not]
    omega
   simp [run_underlying ht,hz,h0,h1,hne,h3]
  ·have hnb:(a.block != b.block)=true:=by simpa using hne
   have hnb':(a.block==b.block)=false:=by simpa using hne
   cases kB with
   | zero=>exact absurd rfl hkB
   | succ kB=>
   cases kA with
   | zero=>exact absurd rfl hkA
   | succ kA=>
    cases hfa:w.frozen? a<;>cases hfae:w.frozen? { block:=a.block,off:=kA+1 } <;> simp [run_underlying ht,hz,h0,hnb,hnb',frozen,noView,viewAt,mayBeOne,stringish,shape,Sem.run,hsa,hsb,hfb,hfe,hfa,hfae]
theorem cell_heap {w:World} {b k:Nat} {v:Value} {c:Array Value} {e:TypeId} {fr:Nat×Nat} (h:w.cell? ⟨b,k,none⟩=some v) (hB:w.heap[b]?=some (.cells c e fr)):c[k]?=some v:=by
 simp only [World.cell?,hB] at h
 simpa using h
theorem heap_cell {w:World} {b k:Nat} {v:Value} (h:w.cell? ⟨b,k,none⟩=some v) : ∃ c e fr,w.heap[b]?=some (.cells c e fr):=by
 unfold World.cell? at h
 split at h
 ·rename_i c e fr hh
  exact ⟨c,e,fr,hh⟩
 ·cases h
theorem putL_get {α:Type} {cs vs:List α} {k:Nat} (hk:k≤cs.length) {j:Nat} {v:α} (h:(putL cs k vs)[j]?=some v) :
  (j<k∧cs[j]?=some v)∨(k≤j∧j<k+vs.length∧vs[j - k]?=some v)∨(k+vs.length≤j∧(cs.drop k)[j - (k+vs.length)]?=some v):=by
 unfold putL at h
 have hl:(cs.take k).length=k:=by rw [List.length_take];omega
 rcases Nat.lt_or_ge j k with h1 | h1
 ·rw [List.getElem?_append_left (by omega),List.getElem?_take,if_pos h1] at h
  exact .inl ⟨h1,h⟩
 ·rw [List.getElem?_append_right (by omega),hl] at h
  rcases Nat.lt_or_ge (j - k) vs.length with h2 | h2
  ·rw [List.getElem?_append_left h2] at h
   exact .inr (.inl ⟨h1,by omega,h⟩)
  ·rw [List.getElem?_append_right h2] at h
   refine .inr (.inr ⟨by omega,?_⟩)
   rwa [show j - (k+vs.length)=j - k - vs.length by omega]
theorem putPair:PutOk Tryz.prog 82 5 72:=by
 obtain ⟨i0,z,hi0,hz0,hzc,hzs,hzb⟩:=insInfo
 have hsz : ∀ w,(Go.sizeOf 158).run Tryz.prog w = .ok 5 w:=fun w=>by simp [sizeOf,typeInfo,hi0,hzs]
 refine ⟨by omega,?_,?_⟩
 ·intro w b off n c i vb voff vc cs vs hin hroom hc63 hcl hvl hcs hsp hfz hvs h1c h1v hdis hend
  obtain ⟨cw,ew,frw,hB⟩ : ∃ c e fr,w.heap[b]?=some (.cells c e fr):=by
   obtain ⟨v,hv⟩:=Option.isSome_iff_exists.1 (hsp 0 (by omega))
   exact heap_cell hv
  obtain ⟨ca,ea,fra,hA⟩ : ∃ c e fr,w.heap[vb]?=some (.cells c e fr):=heap_cell (hvs 0 vs[0] (by simp))
  by_cases hi:i=n
  ·subst hi
   refine (ins_end_room b off i c vb voff vc vs w hroom hc63 hvl (fun j hj=>by rw [Nat.add_assoc];exact hsp _ (by omega)) (fun j hj=>by rw [Nat.add_assoc];exact hfz _ (by omega)) hvs h1v).mono fun e w' ⟨he,hw⟩=>⟨he,?_⟩
   subst hw
   refine rowOut_two (w0:=w) (o1:=off) (xs:=[]) (o2:=off+i*5) (ys:=vs) rfl rfl rfl rfl (Nat.le_refl _) (by simp) (by omega) (by omega) fun c e fr hc j v hj hlt => ?_
   rcases putL_get (by omega) hj with ⟨h1,h2⟩ | ⟨h1,h2,h3⟩ | ⟨h1,h2⟩
   ·exact .inr (.inr ⟨.inl (by omega),.inr (by simp),cell_heap (hcs j v h2) hc⟩)
   ·exact .inl ⟨by omega,by rw [show off+j - (off+i*5)=j - i*5 by omega];exact h3⟩
   ·rw [List.drop_of_length_le (by omega)] at h2
    simp at h2
  ·have hi':i<n:=by omega
   refine (ins_shift b off n c i vb voff vc cs vs w hi' hroom hc63 hdis hcl hvl hcs hsp hfz hvs h1c h1v (fun cb => ?_)).mono fun e w' ⟨he,hw⟩=>⟨he,?_⟩
   ·have hca0:ca.size≠0:=by
     intro h0
     have:=cell_heap (hvs 0 vs[0] (by simp)) hA
     rw [Array.getElem?_eq_none (by omega)] at this
     cases this
    have hcs0:cw.size≠0:=by
     intro h0
     have:=hsp 0 (by omega)
     simp [World.cell?,hB,h0] at this
    rw [run_callFunc_extern Tryz.func124 (by kernel_rfl) (by kernel_rfl) (by kernel_rfl) (e:=Extern.SlicesOverlaps.overlaps #[159,159] #[4]) (by kernel_rfl),
     run_overlaps_gen w 159 4 158 Tryz.underlying159 5 hsz ⟨vb,voff,none⟩ ⟨b,off+(i+1)*5,none⟩ 1 vc (n - i) cb ea ew ca.size cw.size (by simp [World.shape?,hA]) (by simp [World.shape?,hB]) hca0 hcs0 (hfz _ (by omega)) (hend cw ew frw hB) (fun e => ?_)]
    ·rfl
    ·rcases hdis e with h | h
     ·exact .inl (by dsimp only;omega)
     ·exact .inr (by dsimp only;omega)
   ·subst hw
    have hdl:(cs.drop (i*5)).length=(n - i)*5:=by rw [List.length_drop,hcl];omega
    refine rowOut_two (w0:=w.drew) (o1:=off+(i+1)*5) (xs:=cs.drop (i*5)) (o2:=off+i*5) (ys:=vs) rfl rfl rfl rfl (by omega) (by omega) (by omega) (by omega) fun c e fr hc j v hj hlt => ?_
    rcases putL_get (by omega) hj with ⟨h1,h2⟩ | ⟨h1,h2,h3⟩ | ⟨h1,h2⟩
    ·exact .inr (.inr ⟨.inl (by omega),.inl (by omega),cell_heap (hcs j v h2) hc⟩)
    ·exact .inl ⟨by omega,by rw [show off+j - (off+i*5)=j - i*5 by omega];exact h3⟩
    ·exact .inr (.inl ⟨.inr (by omega),by omega,by rw [show off+j - (off+(i+1)*5)=j - (i*5+vs.length) by omega];exact h2⟩)
 ·intro w base n i vb voff vc cs vs hin hlim hcl hvl hb0 hspot hcs hvs h1c h1v
  have hGe:=grownCap_ge w (n+1) n 158
  have hG63:grownCap w (n+1) n 158≤9223372036854775807:=by
   have:=grownCap_le_maxLen w (n+1) n 158 (by unfold maxLen;omega)
   unfold maxLen at this
   omega
  by_cases hi:i=n
  ·subst hi
   refine (ins_end_grow base i i vb voff vc cs vs w (Nat.le_refl _) (by omega) (by omega) hcl hvl hb0 (fun a ha j v hj => ?_) hvs h1v).mono fun e w' ⟨z',hz',he,hw⟩ => ?_
   ·have hn0:i≠0:=by
     rintro rfl
     have:cs=[]:=List.eq_nil_of_length_eq_zero (by omega)
     rw [this] at hj
     cases hj
    have h1:=hcs a ha hn0 j v hj
    have h2:=hspot a ha hn0
    obtain ⟨ab,ao,asp⟩:=a
    dsimp only at h1 h2
    subst h2
    rw [Addr.add_lit]
    exact h1
   ·refine ⟨_,_,_,he,hGe,hG63,?_,fun j v hj => ?_,by rw [hw];rfl,by rw [hw];rfl,by rw [hw];rfl,by rw [hw];rfl⟩
    ·simp only [Array.size_append,List.size_toArray,List.length_append,Builtin.zeroCells,Array.size_map,Array.size_range,hz']
     omega
    ·rcases putL_get (by omega) hj with ⟨h1,h2⟩ | ⟨h1,h2,h3⟩ | ⟨h1,h2⟩
     ·rw [Array.getElem?_append_left (by simp;omega),List.getElem?_toArray,List.getElem?_append_left (by omega)]
      exact h2
     ·rw [Array.getElem?_append_left (by simp;omega),List.getElem?_toArray,List.getElem?_append_right (by omega),hcl]
      exact h3
     ·rw [List.drop_of_length_le (by omega)] at h2
      simp at h2
  ·have hi':i<n:=by omega
   cases base with
   | none=>exact absurd (hb0 rfl) (by omega)
   | some a=>
    obtain ⟨ab,ao,asp⟩:=a
    have h2:=hspot _ rfl (by omega)
    dsimp only at h2
    subst h2
    have hcs':=fun j v hj=>hcs _ rfl (by omega) j v hj
    dsimp only at hcs'
    refine (ins_grow ab ao n n i vb voff vc cs vs w hi' (Nat.le_refl _) (by omega) (by omega) hcl hvl hcs' hvs h1c h1v).mono fun e w' ⟨ROW,hR1,hR2,he,hw⟩ => ?_
    have hN:((w.alloc (.cells ROW 158)).drew).heap[w.heap.size]?=some (.cells ROW 158 (0,0)):=by
     show (w.heap.push _)[w.heap.size]?=_
     simp
    obtain ⟨c1,p1,p2,p3,p4⟩:=setCells_at w.heap.size vs (i*5) _ ROW _ _ hN
    obtain ⟨k1,k2,k3,k4,k5⟩:=setCells_os w.heap.size vs (i*5) (w.alloc (.cells ROW 158)).drew
    have hN2:(((w.alloc (.cells ROW 158)).drew.setCells w.heap.size (i*5) vs).drew).heap[w.heap.size]?=some (.cells c1 158 (0,0)):=p1
    obtain ⟨c2,r1,r2,r3,r4⟩:=setCells_at w.heap.size (cs.drop (i*5)) ((i+1)*5) _ c1 _ _ hN2
    obtain ⟨j1,j2,j3,j4,j5⟩:=setCells_os w.heap.size (cs.drop (i*5)) ((i+1)*5) (((w.alloc (.cells ROW 158)).drew.setCells w.heap.size (i*5) vs).drew)
    have hdl:(cs.drop (i*5)).length=(n - i)*5:=by rw [List.length_drop,hcl];omega
    refine ⟨_,c2,158,he,hGe,hG63,by rw [r2,p2,hR2],fun j v hj => ?_,?_,by rw [hw,j2];exact k2,by rw [hw,j3];exact k3,by rw [hw,j4];exact k4⟩
    ·rcases putL_get (by omega) hj with ⟨h1,h2⟩ | ⟨h1,h2,h3⟩ | ⟨h1,h2⟩
     ·rw [r3 j (by omega),p3 j (by omega),hR1 j h1]
      exact h2
     ·rw [r3 j (by omega)]
      have:=p4 (j - i*5) v h3 (by omega)
      rwa [show i*5+(j - i*5)=j by omega] at this
     ·have hj2:=(List.getElem?_eq_some_iff.1 h2).1
      have:=r4 (j - (i*5+vs.length)) v h2 (by rw [p2];omega)
      rwa [show (i+1)*5+(j - (i*5+vs.length))=j by omega] at this
    ·rw [hw]
     apply Array.ext_getElem?
     intro k
     rcases Nat.lt_trichotomy k w.heap.size with hk | hk | hk
     ·rw [j5 k (by omega)]
      show ((w.alloc (.cells ROW 158)).drew.setCells w.heap.size (i*5) vs).heap[k]?=_
      rw [k5 k (by omega)]
      show (w.heap.push _)[k]?=_
      rw [Array.getElem?_push_lt hk,Array.getElem?_push_lt hk]
     ·subst hk
      rw [r1]
      simp
     ·rw [Array.getElem?_eq_none (by rw [j1];show ((w.alloc (.cells ROW 158)).drew.setCells w.heap.size (i*5) vs).heap.size≤k;rw [k1];show (w.heap.push _).size≤k;simp;omega),Array.getElem?_eq_none (by simp;omega)]
end Go.Proofs.DvT
