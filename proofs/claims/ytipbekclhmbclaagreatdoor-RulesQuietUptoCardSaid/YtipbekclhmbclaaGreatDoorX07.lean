/- YtipbekclhmbclaaGreatDoorX07: walks and contracts. -/
import Derived.Test.YtipbekclhmbclaaGreatDoorX06
import Derived.Shelf.Sort.Plain
import Derived.Ground.NamesProg
import Derived.Test.YtipbekclhmbclaaGreatDoorProg
import Derived.Shelf.Slices.In.SortNone

set_option linter.unusedVariables false
set_option linter.unusedSimpArgs false
set_option linter.unusedSectionVars false

namespace Go.Abs
open Go.Proofs Go.RowKit Go.Lib
set_option linter.unusedVariables false
set_option maxHeartbeats 4000000 in
set_option maxRecDepth 100000 in
theorem Z0hk (b n c i vb vc:Nat) (cur nv:Array Value) (tb tv:TypeId) (w:World) (hi:i < n) (hroom:n+1≤c) (hc63:c≤9223372036854775807) (hvb:vb≠b)
  (hb:w.heap[b]? = some (.cells cur tb (0,0))) (hcs:cur.size=c * 3) (hc1:∀ v ∈ cur.toList,v.oneCell'=true)
  (hv:w.heap[vb]? = some (.cells nv tv (0,0))) (hvs:nv.size=vc * 3) (hv1:∀ v ∈ nv.toList,v.oneCell'=true) (hvc:1≤vc) :
  Calls Tryz.prog 142 #[.slice (some ⟨b,0,none⟩) n c,.int .i64 i,.slice (some ⟨vb,0,none⟩) 1 vc] w fun e w'=>
   e = .returned (.slice (some ⟨b,0,none⟩) (n+1) c)∧w'=(w.drew.setRow b (putC cur ((i+1) * 3) ((cur.toList.drop (i * 3)).take ((n - i) * 3)))).setRow b (putC (putC cur ((i+1) * 3) ((cur.toList.drop (i * 3)).take ((n - i) * 3))) (i * 3) (nv.toList.take 3)):=by
 have t3:=Tryz.underlying3;have a3:=Tryz.isAgg3;have z3:=Tryz.sizeOf3;have v3:=Tryz.zeroValue3
 have t4:=Tryz.underlying4;have a4:=Tryz.isAgg4;have z4:=Tryz.sizeOf4;have v4:=Tryz.zeroValue4
 have t9:=Tryz.underlying109;have a9:=Tryz.isAgg109;have z9:=Tryz.sizeOf109;have v9:=Tryz.zeroValue109
 have t24:=Tryz.underlying36;have a24:=Tryz.isAgg36;have z24:=Tryz.sizeOf36;have v24:=Tryz.zeroValue36
 have u3:=run_underlying t3;have u4:=run_underlying t4;have u9:=run_underlying t9;have u24:=run_underlying t24
 have hz2:¬ ((i:Int)=(n:Int)):=by omega
 have hsv:w.shape? vb=some (tv,nv.size):=by simp [World.shape?,hv]
 have hsb:w.shape? b=some (tb,cur.size):=by simp [World.shape?,hb]
 have hov:∀ lb cb,(callFunc 202 #[.slice (some ⟨vb,0,none⟩) 1 vc,.slice (some ⟨b,(i+1) * 3,none⟩) lb cb]).run Tryz.prog w = .ok (.value (.bool false)) w:=fun lb cb=>by
  rw [run_callFunc_extern Tryz.func202 (by kernel_rfl) (by kernel_rfl) (by kernel_rfl) (e:=Extern.SlicesOverlaps.overlaps #[36,36] #[4]) (by kernel_rfl),
   Lib.run_overlaps_apart w 36 4 109 t24 3 z9 ⟨vb,0,none⟩ ⟨b,(i+1) * 3,none⟩ 1 vc lb cb hvb tv tb nv.size cur.size hsv hsb (by omega) (by simp [World.frozen?,hv]) (by simp [World.frozen?,hv])]
  rfl
 have hw1:IntKind.i64.wrap ((i:Int)+1)=(i:Int)+1:=by rw [IntKind.wrap_i64];omega
 have hw2:IntKind.i64.wrap ((n:Int)+1)=(n:Int)+1:=by rw [IntKind.wrap_i64];omega
 have hb1:(0:Int)≤(i:Int)+1:=by omega
 have hin:i≤n:=by omega
 have htn:((i:Int)+1).toNat=i+1:=by omega
 have htn2:((n:Int)+1).toNat=n+1:=by omega
 have hb2:¬ (c=i+1):=by omega
 have hb3:(i:Int)≤(n:Int)+1:=by omega
 have hb4:¬ (c=i):=by omega
 have hnc:¬ ((c:Int) < (n:Int)+1):=by omega
 obtain⟨cs,hcs1⟩:∃ cs,cs=(cur.toList.drop (i * 3)).take ((n - i) * 3):=⟨_,rfl⟩
 have hcl:cs.length=(n - i) * 3:=by rw [hcs1];simp;omega
 have hcg:∀ j v,cs[j]? = some v→cur[i * 3+j]? = some v:=fun j v hj=>by
  rw [hcs1,List.getElem?_take] at hj
  split at hj
  ·rw [List.getElem?_drop] at hj;simpa using hj
  ·cases hj
 have hcm:∀ v ∈ cs,v.oneCell'=true:=fun v hv=>by rw [hcs1] at hv;exact hc1 v (List.mem_of_mem_drop (List.mem_of_mem_take hv))
 have hcp1:∀ ty dc sc,(Builtin.copy_ #[36,36] ty #[.slice (some ⟨b,(i+1) * 3,none⟩) (n - i) dc,.slice (some ⟨b,i * 3,none⟩) (n+1 - i) sc]).run Tryz.prog w.drew = .ok (goInt ((n - i:Nat):Int)) (w.drew.setRow b (putC cur ((i+1) * 3) cs)):=fun ty dc sc=>by
  have h0:=Z0ro (P:=Tryz.prog) 3 w.drew 36 36 ty 109 b ((i+1) * 3) (n - i) dc ⟨b,i * 3,none⟩ (n+1 - i) sc cur tb cs (n - i) t24 z9 hb (by simp only [Nat.min_def];split<;>omega) hcl
   (fun j v hj=>by
    have h:=hcg j v hj
    rw [Addr.add_lit]
    show w.cell? _=_
    simp only [World.cell?,hb]
    simpa using h) (by rw [hcl];omega) hcm
  exact h0
 obtain⟨A1,hA1⟩:∃ A1,A1=putC cur ((i+1) * 3) cs:=⟨_,rfl⟩
 have hA1s:A1.size=cur.size:=by rw [hA1,Z0on (by rw [hcl];omega)]
 have hg1:(w.drew.setRow b A1).heap[b]? = some (.cells A1 tb (0,0)):=setRow_heap w.drew b cur _ tb _ hb
 have hv2:(w.drew.setRow b A1).heap[vb]? = some (.cells nv tv (0,0)):=by
  show(w.drew.heap.modify b _)[vb]? = _
  rw [Array.getElem?_modify,if_neg (Ne.symm hvb)];exact hv
 have hvl:(nv.toList.take 3).length=1 * 3:=by simp;omega
 have hcp2:∀ (W:World),W.heap=(w.drew.setRow b A1).heap→∀ ty dc,(Builtin.copy_ #[36,36] ty #[.slice (some ⟨b,i * 3,none⟩) (n+1 - i) dc,.slice (some ⟨vb,0,none⟩) 1 vc]).run Tryz.prog W = .ok (goInt ((1:Nat):Int)) (W.setRow b (putC A1 (i * 3) (nv.toList.take 3))):=fun W hW ty dc=>by
  have h0:=Z0ro (P:=Tryz.prog) 3 W 36 36 ty 109 b (i * 3) (n+1 - i) dc ⟨vb,0,none⟩ 1 vc A1 tb (nv.toList.take 3) 1 t24 z9 (by rw [hW];exact hg1) (by simp only [Nat.min_def];split<;>omega) hvl
   (fun j v hj=>by
    rw [Addr.add_lit,Nat.zero_add]
    simp only [World.cell?,hW,hv2]
    rw [List.getElem?_take] at hj
    split at hj
    ·simpa using hj
    ·cases hj) (by rw [hvl];omega) (fun v hv=>hv1 v (List.mem_of_mem_take hv))
  exact h0
 rw [←hA1] at hcp1
 rw [←hcs1,←hA1]
 have mixed:=hm
 go_enter Tryz.func142,Tryz.ntmps142
 go_wp2_with (simp only [hov])
 go_region_law_o (refine step_copy_runI rfl _ _ 36 36 rfl _ _ (by simp [Act.eval,Act.put]) (by simp [Act.eval,Act.put]) (hcp1 _ _ _) ?_)
 go_wp2_with (at_builtin;refine wpList_copy_runI _ rfl _ _ 36 36 rfl _ _ rfl rfl (hcp2 _ rfl _ _) ?_)
 go_ret
 exact⟨rfl,by rw [hA1,hcs1]⟩
theorem Z0uh {w:World} {vb vc:Nat} {nv:Array Value} {tv:TypeId} (hv:w.heap[vb]? = some (.cells nv tv (0,0))) (hvs:nv.size=vc * 3) (hv1:∀ v ∈ nv.toList,v.oneCell'=true) (hvc:1≤vc) :
  Go.Src Tryz.prog 3 36 (.slice (some ⟨vb,0,none⟩) 1 vc) 1 (nv.toList.take 3) w:=
 Go.Src.ofSlice (w:=w) Tryz.underlying36 ⟨vb,0,none⟩ 1 vc (nv.toList.take 3) (by simp;omega) (fun j u hj=>by
  rw [Addr.add_lit,Nat.zero_add]
  simp only [World.cell?,hv]
  rw [List.getElem?_take] at hj
  split at hj
  ·simpa using hj
  ·cases hj) (fun v hv=>hv1 v (List.mem_of_mem_take hv))
set_option maxHeartbeats 4000000 in
set_option maxRecDepth 100000 in
theorem Z0hi (b n c vb vc:Nat) (cur nv:Array Value) (tb tv:TypeId) (w:World) (hroom:n+1≤c) (hc63:c≤9223372036854775807)
  (hb:w.heap[b]? = some (.cells cur tb (0,0))) (hcs:cur.size=c * 3)
  (hv:w.heap[vb]? = some (.cells nv tv (0,0))) (hvs:nv.size=vc * 3) (hv1:∀ v ∈ nv.toList,v.oneCell'=true) (hvc:1≤vc) :
  Calls Tryz.prog 142 #[.slice (some ⟨b,0,none⟩) n c,.int .i64 n,.slice (some ⟨vb,0,none⟩) 1 vc] w fun e w'=>
   e = .returned (.slice (some ⟨b,0,none⟩) (n+1) c)∧w'=w.setCells b (n * 3) (nv.toList.take 3):=by
 have t3:=Tryz.underlying3;have a3:=Tryz.isAgg3;have z3:=Tryz.sizeOf3;have v3:=Tryz.zeroValue3
 have t4:=Tryz.underlying4;have a4:=Tryz.isAgg4;have z4:=Tryz.sizeOf4;have v4:=Tryz.zeroValue4
 have t9:=Tryz.underlying109;have a9:=Tryz.isAgg109;have z9:=Tryz.sizeOf109;have v9:=Tryz.zeroValue109
 have t24:=Tryz.underlying36;have a24:=Tryz.isAgg36;have z24:=Tryz.sizeOf36;have v24:=Tryz.zeroValue36
 have u3:=run_underlying t3;have u4:=run_underlying t4;have u9:=run_underlying t9;have u24:=run_underlying t24
 have mixed:=hm
 obtain⟨i0,hi0,hz0,hzs,hzb⟩:=info_parts (show(Tryz.prog.info? 109).map (fun i=>(i.zero,i.size,i.bytes))=some (some (.agg #[.int .i64 0,.string ⟨#[]⟩,.string ⟨#[]⟩]),3,40) from by kernel_rfl)
 have hvl:(nv.toList.take 3).length=3:=by simp;omega
 have hsrc:=Z0uh hv hvs hv1 hvc
 have hrun:∀ ty,(Builtin.append_ #[36,36] ty #[.slice (some ⟨b,0,none⟩) n c,.slice (some ⟨vb,0,none⟩) 1 vc]).run Tryz.prog w = .ok (.slice (some ⟨b,0,none⟩) (n+1) c) (w.setCells b (n * 3) (nv.toList.take 3)):=fun ty=>by
  have h0:=run_append_room_src (P:=Tryz.prog) (w:=w) 36 36 ty 109 i0 t24 hi0 b 0 n c (.slice (some ⟨vb,0,none⟩) 1 vc) 1 (nv.toList.take 3) (by rw [hzs];exact hsrc) hroom
   (fun j hj=>by
    rw [hzs]
    have h1:n * 3+j < cur.size:=by omega
    simp only [World.cell?,hb,Nat.zero_add]
    simp [h1]) (fun j hj=>by simp [World.frozen?,hb])
  rw [hzs,Nat.zero_add] at h0
  exact h0
 go_enter Tryz.func142,Tryz.ntmps142
 go_wp2_with (at_builtin;refine Lib.wpList_append_run _ rfl _ _ _ _ rfl _ _ rfl rfl _ _ (hrun _) ?_)
 go_ret
 exact⟨rfl,rfl⟩
set_option maxHeartbeats 4000000 in
set_option maxRecDepth 100000 in
theorem Z0hh (base:Option Addr) (n c vb vc:Nat) (olds:List Value) (nv:Array Value) (tv:TypeId) (w:World) (hnc:n≤c) (hroom:c < n+1) (hbig:(n+1) * 40≤140737488355328)
  (hold:(Builtin.firstCells 3 n (.slice base n c)).run Tryz.prog w.drew = .ok olds.toArray w.drew) (hnil:base=none→n=0)
  (hv:w.heap[vb]? = some (.cells nv tv (0,0))) (hvs:nv.size=vc * 3) (hv1:∀ v ∈ nv.toList,v.oneCell'=true) (hvc:1≤vc) :
  Calls Tryz.prog 142 #[.slice base n c,.int .i64 n,.slice (some ⟨vb,0,none⟩) 1 vc] w fun e w'=>
   e = .returned (.slice (some ⟨w.heap.size,0,none⟩) (n+1) (grownCap w (n+1) c 109))∧
   w'=w.drew.alloc (.cells ((olds ++ nv.toList.take 3).toArray ++ Builtin.zeroCells (Value.agg #[.int .i64 0,.string ⟨#[]⟩,.string ⟨#[]⟩]).cells (grownCap w (n+1) c 109 - (n+1))) 109):=by
 have t3:=Tryz.underlying3;have a3:=Tryz.isAgg3;have z3:=Tryz.sizeOf3;have v3:=Tryz.zeroValue3
 have t4:=Tryz.underlying4;have a4:=Tryz.isAgg4;have z4:=Tryz.sizeOf4;have v4:=Tryz.zeroValue4
 have t9:=Tryz.underlying109;have a9:=Tryz.isAgg109;have z9:=Tryz.sizeOf109;have v9:=Tryz.zeroValue109
 have t24:=Tryz.underlying36;have a24:=Tryz.isAgg36;have z24:=Tryz.sizeOf36;have v24:=Tryz.zeroValue36
 have u3:=run_underlying t3;have u4:=run_underlying t4;have u9:=run_underlying t9;have u24:=run_underlying t24
 have mixed:=hm
 obtain⟨i0,hi0,hz0,hzs,hzb⟩:=info_parts (show(Tryz.prog.info? 109).map (fun i=>(i.zero,i.size,i.bytes))=some (some (.agg #[.int .i64 0,.string ⟨#[]⟩,.string ⟨#[]⟩]),3,40) from by kernel_rfl)
 have hsrc:=Z0uh hv hvs hv1 hvc
 have hrun:∀ ty,(Builtin.append_ #[36,36] ty #[.slice base n c,.slice (some ⟨vb,0,none⟩) 1 vc]).run Tryz.prog w=_:=fun ty=>
  run_append_grow_src (P:=Tryz.prog) (w:=w) 36 36 ty 109 i0 _ t24 hi0 hz0 base n c olds (by rw [hzs];exact hold) (.slice (some ⟨vb,0,none⟩) 1 vc) 1 (nv.toList.take 3) (by rw [hzs];exact hsrc) hroom (by omega) (by rw [hzb];exact growslice_fits hroom hbig)
 go_enter Tryz.func142,Tryz.ntmps142
 cases base with
 |none=>
  have h0:=hnil rfl
  subst h0
  go_wp2_with (at_builtin;refine Lib.wpList_append_run _ rfl _ _ _ _ rfl _ _ rfl rfl _ _ (hrun _) ?_)
  go_ret
  exact⟨rfl,rfl⟩
 |some a=>
  obtain⟨ab,ao,asp⟩:=a
  go_wp2_with (at_builtin;refine Lib.wpList_append_run _ rfl _ _ _ _ rfl _ _ rfl rfl _ _ (hrun _) ?_)
  all_goals (go_ret;exact⟨rfl,rfl⟩)
set_option maxHeartbeats 4000000 in
set_option maxRecDepth 100000 in
theorem Z0hj (b n c i vb vc:Nat) (cur nv:Array Value) (tb tv:TypeId) (w:World) (hi:i < n) (hnc:n≤c) (hroom:c < n+1) (hbig:(n+1) * 40≤140737488355328)
  (hb:w.heap[b]? = some (.cells cur tb (0,0))) (hcs:cur.size=c * 3) (hc1:∀ v ∈ cur.toList,v.oneCell'=true)
  (hv:w.heap[vb]? = some (.cells nv tv (0,0))) (hvs:nv.size=vc * 3) (hv1:∀ v ∈ nv.toList,v.oneCell'=true) (hvc:1≤vc) :
  ∃ G ROW W1,n+1≤G∧G≤maxLen∧ROW=(cur.toList.take (i * 3)).toArray ++ Builtin.zeroCells (Value.agg #[.int .i64 0,.string ⟨#[]⟩,.string ⟨#[]⟩]).cells (n+1 - i) ++ Builtin.zeroCells (Value.agg #[.int .i64 0,.string ⟨#[]⟩,.string ⟨#[]⟩]).cells (G - (n+1))∧W1=w.drew.alloc (.cells ROW 109)∧
  Calls Tryz.prog 142 #[.slice (some ⟨b,0,none⟩) n c,.int .i64 i,.slice (some ⟨vb,0,none⟩) 1 vc] w fun e w'=>
   e = .returned (.slice (some ⟨w.heap.size,0,none⟩) (n+1) G)∧w'=(((W1.setRow w.heap.size (putC ROW (i * 3) (nv.toList.take 3)))).drew).setRow w.heap.size (putC (putC ROW (i * 3) (nv.toList.take 3)) ((i+1) * 3) ((cur.toList.drop (i * 3)).take ((n - i) * 3))):=by
 have t3:=Tryz.underlying3;have a3:=Tryz.isAgg3;have z3:=Tryz.sizeOf3;have v3:=Tryz.zeroValue3
 have t4:=Tryz.underlying4;have a4:=Tryz.isAgg4;have z4:=Tryz.sizeOf4;have v4:=Tryz.zeroValue4
 have t9:=Tryz.underlying109;have a9:=Tryz.isAgg109;have z9:=Tryz.sizeOf109;have v9:=Tryz.zeroValue109
 have t24:=Tryz.underlying36;have a24:=Tryz.isAgg36;have z24:=Tryz.sizeOf36;have v24:=Tryz.zeroValue36
 have u3:=run_underlying t3;have u4:=run_underlying t4;have u9:=run_underlying t9;have u24:=run_underlying t24
 have mixed:=hm
 obtain⟨i0,hi0,hz0,hzs,hzb⟩:=info_parts (show(Tryz.prog.info? 109).map (fun i=>(i.zero,i.size,i.bytes))=some (some (.agg #[.int .i64 0,.string ⟨#[]⟩,.string ⟨#[]⟩]),3,40) from by kernel_rfl)
 have hbw:b < w.heap.size:=Z0kt hb
 have hvw:vb < w.heap.size:=Z0kt hv
 have hz2:¬ ((i:Int)=(n:Int)):=by omega
 have hz3:(c:Int) < (n:Int)+1:=by omega
 have hkk:(n:Int)+1 - (i:Int)=((n+1 - i:Nat):Int):=by omega
 have hik:i+(n+1 - i)=n+1:=by omega
 have hcell:∀ (o j:Nat) (v:Value),cur[o+j]? = some v→w.cell? ⟨b,o+j,none⟩=some v:=fun o j v h=>by
  simp only [World.cell?,hb]
  simpa using h
 have hold:(Builtin.firstCells i0.size i (.slice (some ⟨b,0,none⟩) i c)).run Tryz.prog w.drew = .ok (cur.toList.take (i * 3)).toArray w.drew:=by
  rw [hzs]
  exact run_firstCells_some w.drew 3 i ⟨b,0,none⟩ i c (cur.toList.take (i * 3)) (by rw [List.length_take];simp;omega) (fun j v hj=>by
   rw [Addr.add_lit]
   rw [List.getElem?_take] at hj
   split at hj
   ·exact hcell 0 j v (by simpa using hj)
   ·cases hj)
 obtain⟨G,hG⟩:∃ G,G=grownCap w (n+1) c 109:=⟨_,rfl⟩
 obtain⟨ROW,hROW⟩:∃ ROW:Array Value,ROW=(cur.toList.take (i * 3)).toArray ++ Builtin.zeroCells (Value.agg #[.int .i64 0,.string ⟨#[]⟩,.string ⟨#[]⟩]).cells (n+1 - i) ++ Builtin.zeroCells (Value.agg #[.int .i64 0,.string ⟨#[]⟩,.string ⟨#[]⟩]).cells (G - (n+1)):=⟨_,rfl⟩
 have hrz:∀ ty,(Builtin.append_ #[36,3] ty #[.slice (some ⟨b,0,none⟩) i c,.int .i64 ((n:Int)+1 - (i:Int))]).run Tryz.prog w =
   .ok (.slice (some ⟨w.heap.size,0,none⟩) (n+1) G) (w.drew.alloc (.cells ROW 109)):=fun ty=>by
  have h:=Lib.run_append_grow_zeros (P:=Tryz.prog) w 36 3 ty 109 i0 _ .i64 .i64 t24 t3 hi0 hz0 (some ⟨b,0,none⟩) i c (cur.toList.take (i * 3)) hold (n+1 - i) (by omega) (by omega) (by omega) (by omega) (by rw [hzb];omega) (by rw [hzb,hik];exact growslice_fits hroom hbig)
  rw [hik] at h
  rw [hkk,hROW,hG]
  exact h
 have hGn:n+1≤G:=by rw [hG];exact grownCap_ge w _ _ _
 have hGm:G≤maxLen:=by rw [hG];exact grownCap_le_maxLen w (n+1) c 109 (by unfold maxLen;omega)
 have hG63:G≤9223372036854775807:=by unfold maxLen at hGm;omega
 have hRl:ROW.size=G * 3:=by
  rw [hROW]
  simp [Builtin.zeroCells,Value.cells]
  omega
 obtain⟨W1,hW1⟩:∃ W1,W1=w.drew.alloc (.cells ROW 109):=⟨_,rfl⟩
 refine⟨G,ROW,W1,hGn,hGm,hROW,hW1,?_⟩
 rw [←hW1] at hrz
 have hN1:W1.heap[w.heap.size]? = some (.cells ROW 109 (0,0)):=by rw [hW1];exact Z086 w.drew _
 have hB1:W1.heap[b]? = some (.cells cur tb (0,0)):=by rw [hW1];exact(Z087 w.drew _ b hbw).trans hb
 have hV1:W1.heap[vb]? = some (.cells nv tv (0,0)):=by rw [hW1];exact(Z087 w.drew _ vb hvw).trans hv
 have hvl:(nv.toList.take 3).length=1 * 3:=by simp;omega
 have hcpA:∀ (W:World),W.heap=W1.heap→∀ ty dc,(Builtin.copy_ #[36,36] ty #[.slice (some ⟨w.heap.size,i * 3,none⟩) (n+1 - i) dc,.slice (some ⟨vb,0,none⟩) 1 vc]).run Tryz.prog W = .ok (goInt ((1:Nat):Int)) (W.setRow w.heap.size (putC ROW (i * 3) (nv.toList.take 3))):=fun W hW ty dc=>by
  have h0:=Z0ro (P:=Tryz.prog) 3 W 36 36 ty 109 w.heap.size (i * 3) (n+1 - i) dc ⟨vb,0,none⟩ 1 vc ROW 109 (nv.toList.take 3) 1 t24 z9 (by rw [hW];exact hN1) (by simp only [Nat.min_def];split<;>omega) hvl
   (fun j v hj=>by
    rw [Addr.add_lit,Nat.zero_add]
    simp only [World.cell?,hW,hV1]
    rw [List.getElem?_take] at hj
    split at hj
    ·simpa using hj
    ·cases hj) (by rw [hvl];omega) (fun v hv=>hv1 v (List.mem_of_mem_take hv))
  exact h0
 obtain⟨A1,hA1⟩:∃ A1,A1=putC ROW (i * 3) (nv.toList.take 3):=⟨_,rfl⟩
 have hA1s:A1.size=ROW.size:=by rw [hA1,Z0on (by rw [hvl];omega)]
 obtain⟨cs,hcs1⟩:∃ cs,cs=(cur.toList.drop (i * 3)).take ((n - i) * 3):=⟨_,rfl⟩
 have hcl:cs.length=(n - i) * 3:=by rw [hcs1];simp;omega
 have hcg:∀ j v,cs[j]? = some v→cur[i * 3+j]? = some v:=fun j v hj=>by
  rw [hcs1,List.getElem?_take] at hj
  split at hj
  ·rw [List.getElem?_drop] at hj;simpa using hj
  ·cases hj
 have hcm:∀ v ∈ cs,v.oneCell'=true:=fun v hv=>by rw [hcs1] at hv;exact hc1 v (List.mem_of_mem_drop (List.mem_of_mem_take hv))
 have hN2:(W1.setRow w.heap.size A1).heap[w.heap.size]? = some (.cells A1 109 (0,0)):=setRow_heap W1 w.heap.size ROW _ 109 _ hN1
 have hB2:(W1.setRow w.heap.size A1).heap[b]? = some (.cells cur tb (0,0)):=by
  show(W1.heap.modify w.heap.size _)[b]? = _
  rw [Array.getElem?_modify,if_neg (by omega)];exact hB1
 have hcpB:∀ (W:World),W.heap=(W1.setRow w.heap.size A1).heap→∀ ty dc sc,(Builtin.copy_ #[36,36] ty #[.slice (some ⟨w.heap.size,(i+1) * 3,none⟩) (n - i) dc,.slice (some ⟨b,i * 3,none⟩) (n - i) sc]).run Tryz.prog W = .ok (goInt ((n - i:Nat):Int)) (W.setRow w.heap.size (putC A1 ((i+1) * 3) cs)):=fun W hW ty dc sc=>by
  have h0:=Z0ro (P:=Tryz.prog) 3 W 36 36 ty 109 w.heap.size ((i+1) * 3) (n - i) dc ⟨b,i * 3,none⟩ (n - i) sc A1 109 cs (n - i) t24 z9 (by rw [hW];exact hN2) (by simp only [Nat.min_def];split<;>omega) hcl
   (fun j v hj=>by
    have h:=hcg j v hj
    rw [Addr.add_lit]
    simp only [World.cell?,hW,hB2]
    simpa using h) (by rw [hcl];omega) hcm
  exact h0
 have hw1:IntKind.i64.wrap ((i:Int)+1)=(i:Int)+1:=by rw [IntKind.wrap_i64];omega
 have hw2:IntKind.i64.wrap ((n:Int)+1)=(n:Int)+1:=by rw [IntKind.wrap_i64];omega
 have hw3:IntKind.i64.wrap ((n:Int)+1 - (i:Int))=(n:Int)+1 - (i:Int):=by rw [IntKind.wrap_i64];omega
 have hb1:(0:Int)≤(i:Int)+1:=by omega
 have hin:i≤n:=by omega
 have htn:((i:Int)+1).toNat=i+1:=by omega
 have hb3:(i:Int)≤(n:Int):=by omega
 have hGi:¬ (G=i):=by omega
 have hGim:¬ (G=i+1):=by omega
 have hci:¬ (c=i):=by omega
 rw [←hA1] at hcpA
 rw [←hA1,←hcs1]
 clear hkk hik hold hROW hG hW1 hcs1 hA1
 go_enter Tryz.func142,Tryz.ntmps142
 go_wp2_with (first
  |(at_builtin;refine Lib.wpList_append_run _ rfl _ _ _ _ rfl _ _ rfl rfl _ _ (hrz _) ?_)
  |(at_builtin;refine wpList_copy_runI _ rfl _ _ 36 36 rfl _ _ rfl rfl (hcpA _ rfl _ _) ?_))
 go_region_law_o (refine step_copy_runI rfl _ _ 36 36 rfl (.slice (some ⟨w.heap.size,(i+1) * 3,none⟩) (n - i) (G - (i+1))) (.slice (some ⟨b,i * 3,none⟩) (n - i) (c - i)) (by simp [Act.eval,Act.put]) (by simp [Act.eval,Act.put]) (hcpB (W1.setRow w.heap.size A1).drew rfl 3 (G - (i+1)) (c - i)) ?_)
 go_wp2
 go_ret
 exact⟨rfl,rfl⟩
theorem Z0zo (m:Nat):∀ v ∈ (Builtin.zeroCells (Value.agg #[.int .i64 0,.string ⟨#[]⟩,.string ⟨#[]⟩]).cells m).toList,v.oneCell'=true:=by
 intro v hv
 obtain⟨j,hj,rfl⟩:=List.getElem_of_mem hv
 have h3:j % 3=0∨j % 3=1∨j % 3=2:=by omega
 simp only [Builtin.zeroCells,Value.cells,Array.toList_map,List.getElem_map,Array.toList_range,List.getElem_range]
 show(#[Value.int .i64 0,.string ⟨#[]⟩,.string ⟨#[]⟩][j % 3]!).oneCell'=true
 rcases h3 with h|h|h<;>rw [h]<;>rfl
theorem Z0zp (m:Nat):(Builtin.zeroCells (Value.agg #[.int .i64 0,.string ⟨#[]⟩,.string ⟨#[]⟩]).cells m).size=m * 3:=by simp [Builtin.zeroCells,Value.cells]
theorem Z0xu {nv:Array Value} {m y:Nat} (h:y < m):(nv.toList.take m).getD y undef=nv.getD y undef:=by
 simp only [List.getD,Array.getD_eq_getD_getElem?]
 rw [List.getElem?_take_of_lt h,Array.getElem?_toList]
theorem Z0ld {cur:Array Value} {a m y:Nat} (h:y < m):((cur.toList.drop a).take m).getD y undef=cur.getD (a+y) undef:=by
 simp only [List.getD,Array.getD_eq_getD_getElem?]
 rw [List.getElem?_take_of_lt h,List.getElem?_drop,Array.getElem?_toList]
set_option maxHeartbeats 1000000 in
theorem Z068 {l:List Key} {i:Nat} {x:Key} {g:Nat→List PV} (hil:i≤l.length) (hln:l.length≤1048576) (hgx:PSubs (g 0) (cKey x)) :
  AC Tryz.prog 142 [.own 0,.pv (vint i),.own 2] [(0,rowL 3 cKey l),(2,.row 3 1 g)] (.own 1) [(1,rowL 3 cKey (insL l i x)),(0,.gone)]:=by
 refine⟨Tryz.call142,fun St M0 σ w vals hi hσ hos hsz hA=>?_⟩
 obtain⟨loc0,hl0,hor⟩:=hos 0 _ (by simp [getO];rfl)
 obtain⟨loc2,hl2,hor2⟩:=hos 2 (.row 3 1 g) (by simp [getO])
 have h1:σ 1=none:=hσ 1 (by simp [getO])
 have hv0:=Z08t (hA 0 (.own 0) rfl) hl0
 have hv1:=pr_val (arg_pv (hA 1 (.pv (vint i)) rfl))
 have hv2:=Z08t (hA 2 (.own 2) rfl) hl2
 have hvals:vals=#[vals.getD 0 undef,vals.getD 1 undef,vals.getD 2 undef]:=by
  have hs2:vals.size=3:=hsz
  apply Array.ext
  ·simpa using hs2
  ·intro i h2 h3
   have:i=0∨i=1∨i=2:=by omega
   rcases this with rfl|rfl|rfl<;>simp [Array.getD,hs2]
 rw [hvals,hv0,hv1,hv2]
 generalize hk1:(1:Nat)=n1 at hor2
 cases hor2 with
 |row0 _ _ a=>cases hk1
 |row _ _ _ b2 cap2 nv tv hb2 hn2 hmax2 hsz2 hs2 hh2 hone2=>
 subst hk1
 have hnv1:∀ v ∈ nv.toList,v.oneCell'=true:=fun v hv=>by
  obtain⟨j,hj,rfl⟩:=List.getElem_of_mem hv
  have:=hone2 j (by simpa using hj)
  simpa [Array.getD,show j < nv.size from by simpa using hj] using this
 have hnew:∀ q p,(g 0)[q]? = some p→PR w (Mof M0 σ) p (nv.getD q undef):=fun q p e=>by
  have:=hh2 0 (by omega) q p e
  rwa [Nat.zero_mul,Nat.zero_add] at this
 have hnl:(nv.toList.take 3).length=3:=by simp;omega
 have hnm:∀ v ∈ nv.toList.take 3,v.oneCell'=true:=fun v hv=>hnv1 v (List.mem_of_mem_take hv)
 change OR _ _ _ _ _ (.row 3 l.length fun j=>cKey (l.getD j default)) loc0 at hor
 generalize hn0:l.length=n0 at hor
 have hml:n0+1≤maxLen:=by unfold maxLen;omega
 cases hor with
 |row0 _ _ a=>
  have hi0:i=0:=by omega
  subst hi0
  refine(Z0hh a 0 0 b2 cap2 [] nv tv w (by omega) (by omega) (by omega) (by
   cases a with
   |none=>exact run_firstCells_none w.drew 3 0 0 0
   |some ad=>exact run_firstCells_some w.drew 3 0 ad 0 0 [] rfl (fun j v hj=>by simp at hj)) (fun _=>rfl) hb2 hsz2 hnv1 hn2).mono (fun e w' h=>?_)
  obtain⟨rfl,rfl⟩:=h
  have hge:=grownCap_ge w (0+1) 0 109
  have hp:=Z0i7 (P:=Tryz.prog) (x:=x) (g:=g) (enc:=cKey) (k:=3) (cur:=#[]) (nv:=nv) (A:=(([] ++ nv.toList.take 3).toArray ++ Builtin.zeroCells (Value.agg #[.int .i64 0,.string ⟨#[]⟩,.string ⟨#[]⟩]).cells (grownCap w (0+1) 0 109 - (0+1)))) (t':=109) (c':=grownCap w (0+1) 0 109) hi h1 hl0 hil (.inr (Nat.le_refl _)) (drew_ext.trans (Z0dg _ _)) (Z086 w.drew _) (by rw [hn0];exact hge) (grownCap_le_maxLen w _ _ _ hml) (by rw [Array.size_append,List.size_toArray,List.nil_append,hnl,Z0zp];omega) (fun v hv=>?_) (fun _=>rfl) hgx (fun j hj=>by omega) hnew (fun y hy=>?_)
  ·rw [hn0] at hp
   exact⟨_,_,rfl,hp⟩
  ·simp only [Array.toList_append,List.mem_append,List.nil_append] at hv
   rcases hv with hv|hv
   ·exact hnm v hv
   ·exact Z0zo _ v hv
  ·rw [hn0] at hy
   rw [if_neg (by omega),if_pos (by omega),Z0g0 (by rw [List.size_toArray,List.nil_append,hnl];omega),Nat.zero_mul,Nat.sub_zero,Z0y4,List.nil_append,Z0xu (m:=3) (by omega)]
 |row _ _ _ b cap vs tb hb hn hmax hsz' hs hh hone=>
  have hc1:∀ v ∈ vs.toList,v.oneCell'=true:=fun v hv=>by
   obtain⟨j,hj,rfl⟩:=List.getElem_of_mem hv
   have:=hone j (by simpa using hj)
   simpa [Array.getD,show j < vs.size from by simpa using hj] using this
  have hne:b2≠b:=fun e=>by
   subst e
   have:=hi.sep 0 2 _ _ b2 hl0 hl2 rfl rfl
   cases this
  subst hn0
  have hc63:cap≤9223372036854775807:=by unfold maxLen at hmax;omega
  have fin:=fun(w':World) (b' c':Nat) (A:Array Value) (t':TypeId) (hb') (hx) (hA) (hn') (hm') (hz) (ho) (hg)=>Z0i7 (P:=Tryz.prog) (w':=w') (b':=b') (c':=c') (A:=A) (t':=t') (x:=x) (g:=g) (enc:=cKey) (k:=3) (cur:=vs) (nv:=nv) hi h1 hl0 hil hb' hx hA hn' hm' hz ho (fun _=>rfl) hgx (fun j hj q p e=>hh j hj q p e) hnew hg
  by_cases hin:i=l.length
  ·subst hin
   by_cases hroom:l.length+1≤cap
   ·refine(Z0hi b l.length cap b2 cap2 vs nv tb tv w hroom hc63 hb hsz' hb2 hsz2 hnv1 hn2).mono (fun e w' h=>?_)
    obtain⟨rfl,rfl⟩:=h
    rw [Z0sv (P:=Tryz.prog) hb (by rw [hnl];omega) hnm]
    refine⟨_,_,rfl,fin _ b cap (putC vs (l.length * 3) (nv.toList.take 3)) tb (.inl rfl) (setRow_ext.mono fun c _ h=>by rw [h]) (setRow_heap w b vs _ tb _ hb) hroom hmax (by rw [Z0on (by rw [hnl];omega)];exact hsz') (Z0om hc1 hnm) (fun y hy=>?_)⟩
    rw [Z0ol (by rw [hnl];omega),hnl]
    by_cases hy1:y < l.length * 3
    ·rw [if_neg (by omega),if_pos hy1]
    ·rw [if_pos (by omega),if_neg hy1,if_pos (by omega),Z0xu (by omega)]
   ·refine(Z0hh (some ⟨b,0,none⟩) l.length cap b2 cap2 (vs.toList.take (l.length * 3)) nv tv w hn (by omega) (by omega) (run_firstCells_some w.drew 3 l.length ⟨b,0,none⟩ l.length cap _ (by simp;omega) (fun j v hj=>?_)) (fun h=>by cases h) hb2 hsz2 hnv1 hn2).mono (fun e w' h=>?_)
    ·rw [Addr.add_lit,Nat.zero_add]
     rw [List.getElem?_take] at hj
     split at hj
     ·show w.cell? _=_
      simp only [World.cell?,hb]
      simpa using hj
     ·cases hj
    obtain⟨rfl,rfl⟩:=h
    have htl:(vs.toList.take (l.length * 3)).length=l.length * 3:=by simp;omega
    have hge:=grownCap_ge w (l.length+1) cap 109
    refine⟨_,_,rfl,fin _ w.heap.size (grownCap w (l.length+1) cap 109) _ 109 (.inr (Nat.le_refl _)) (drew_ext.trans (Z0dg _ _)) (Z086 w.drew _) hge (grownCap_le_maxLen w _ _ _ hml) (by rw [Array.size_append,List.size_toArray,List.length_append,hnl,htl,Z0zp];omega) (fun v hv=>?_) (fun y hy=>?_)⟩
    ·simp only [Array.toList_append,List.mem_append] at hv
     rcases hv with (hv|hv)|hv
     ·exact hc1 v (List.mem_of_mem_take hv)
     ·exact hnm v hv
     ·exact Z0zo _ v hv
    ·rw [Z0g0 (by rw [List.size_toArray,List.length_append,hnl,htl];omega),Z0y4]
     by_cases hy1:y < l.length * 3
     ·rw [if_pos hy1,Z0ks (by rw [htl];exact hy1),Z0xu hy1]
     ·rw [if_neg hy1,if_pos (by omega),Z0fy (by rw [htl];omega),htl,Z0xu (by omega)]
  ·have hcl:((vs.toList.drop (i * 3)).take ((l.length - i) * 3)).length=(l.length - i) * 3:=by simp;omega
   have hcm:∀ v ∈ (vs.toList.drop (i * 3)).take ((l.length - i) * 3),v.oneCell'=true:=fun v hv=>hc1 v (List.mem_of_mem_drop (List.mem_of_mem_take hv))
   by_cases hroom:l.length+1≤cap
   ·refine(Z0hk b l.length cap i b2 cap2 vs nv tb tv w (by omega) hroom hc63 hne hb hsz' hc1 hb2 hsz2 hnv1 hn2).mono (fun e w' h=>?_)
    obtain⟨rfl,rfl⟩:=h
    have hs1:(putC vs ((i+1) * 3) ((vs.toList.drop (i * 3)).take ((l.length - i) * 3))).size=vs.size:=Z0on (by rw [hcl];omega)
    refine⟨_,_,rfl,fin _ b cap _ tb (.inl rfl) ((drew_ext.trans setRow_ext).trans setRow_ext |>.mono fun c _ h=>by rw [h]) (setRow_heap _ b _ _ tb _ (setRow_heap w.drew b vs _ tb _ hb)) hroom hmax (by rw [Z0on (by rw [hs1,hnl];omega),hs1];exact hsz') (Z0om (Z0om hc1 hcm) hnm) (fun y hy=>?_)⟩
    rw [Z0ol (by rw [hs1,hnl];omega),hnl,Z0ol (by rw [hcl];omega),hcl]
    by_cases hy1:y < i * 3
    ·rw [if_neg (by omega),if_neg (by omega),if_pos hy1]
    ·rw [if_neg hy1]
     by_cases hy2:y < (i+1) * 3
     ·rw [if_pos (by omega),if_pos hy2,Z0xu (by omega)]
     ·rw [if_neg (by omega),if_pos (by omega),if_neg hy2,Z0ld (by omega)]
      congr 1
      omega
   ·obtain⟨G,ROW,W1,hG1,hG2,hROW,hW1,hcalls⟩:=Z0hj b l.length cap i b2 cap2 vs nv tb tv w (by omega) hn (by omega) (by omega) hb hsz' hc1 hb2 hsz2 hnv1 hn2
    refine hcalls.mono (fun e w' h=>?_)
    obtain⟨rfl,rfl⟩:=h
    have hRs:ROW.size=G * 3:=by rw [hROW];simp [Builtin.zeroCells,Value.cells];omega
    have hRo:∀ v ∈ ROW.toList,v.oneCell'=true:=fun v hv=>by
     rw [hROW] at hv
     simp only [Array.toList_append,List.mem_append] at hv
     rcases hv with (hv|hv)|hv
     ·exact hc1 v (List.mem_of_mem_take hv)
     ·exact Z0zo _ v hv
     ·exact Z0zo _ v hv
    have hRg:∀ y,y < i * 3→ROW.getD y undef=vs.getD y undef:=fun y hy=>by
     rw [hROW,Array.append_assoc,Z0g0 (by simp;omega),Z0y4,Z0xu hy]
    have hN1:W1.heap[w.heap.size]? = some (.cells ROW 109 (0,0)):=by rw [hW1];exact Z086 w.drew _
    have hs1:(putC ROW (i * 3) (nv.toList.take 3)).size=ROW.size:=Z0on (by rw [hnl];omega)
    have hN2:=setRow_heap W1 w.heap.size ROW (putC ROW (i * 3) (nv.toList.take 3)) 109 _ hN1
    refine⟨_,_,rfl,fin _ w.heap.size G _ 109 (.inr (Nat.le_refl _)) ?_ (setRow_heap _ w.heap.size _ _ 109 _ hN2) hG1 hG2 (by rw [Z0on (by rw [hs1,hcl];omega),hs1];exact hRs) (Z0om (Z0om hRo hnm) hcm) (fun y hy=>?_)⟩
    ·have e1:FExt (fun b=>b=w.heap.size) w W1:=by rw [hW1];exact drew_ext.trans (Z0dg _ _)
     have e2:=((e1.trans (setRow_ext (A:=putC ROW (i * 3) (nv.toList.take 3)))).trans drew_ext).trans (setRow_ext (A:=putC (putC ROW (i * 3) (nv.toList.take 3)) ((i+1) * 3) ((vs.toList.drop (i * 3)).take ((l.length - i) * 3))))
     exact e2.mono fun c hc h=>absurd h (by omega)
    ·rw [Z0ol (by rw [hs1,hcl];omega),hcl,Z0ol (by rw [hnl];omega),hnl]
     by_cases hy1:y < i * 3
     ·rw [if_neg (by omega),if_neg (by omega),if_pos hy1,hRg y hy1]
     ·rw [if_neg hy1]
      by_cases hy2:y < (i+1) * 3
      ·rw [if_neg (by omega),if_pos (by omega),if_pos hy2,Z0xu (by omega)]
      ·rw [if_pos (by omega),if_neg hy2,Z0ld (by omega)]
       congr 1
       omega
end Go.Abs
namespace Go.Abs
open Go.Proofs Go.RowKit Go.Lib
set_option linter.unusedVariables false
set_option maxHeartbeats 4000000 in
set_option maxRecDepth 100000 in
theorem Z0i5 (b n c i vb vc:Nat) (cur nv:Array Value) (tb tv:TypeId) (w:World) (hi:i < n) (hroom:n+1≤c) (hc63:c≤9223372036854775807) (hvb:vb≠b)
  (hb:w.heap[b]? = some (.cells cur tb (0,0))) (hcs:cur.size=c * 1) (hc1:∀ v ∈ cur.toList,v.oneCell'=true)
  (hv:w.heap[vb]? = some (.cells nv tv (0,0))) (hvs:nv.size=vc * 1) (hv1:∀ v ∈ nv.toList,v.oneCell'=true) (hvc:1≤vc) :
  Calls Tryz.prog 143 #[.slice (some ⟨b,0,none⟩) n c,.int .i64 i,.slice (some ⟨vb,0,none⟩) 1 vc] w fun e w'=>
   e = .returned (.slice (some ⟨b,0,none⟩) (n+1) c)∧w'=(w.drew.setRow b (putC cur ((i+1) * 1) ((cur.toList.drop (i * 1)).take ((n - i) * 1)))).setRow b (putC (putC cur ((i+1) * 1) ((cur.toList.drop (i * 1)).take ((n - i) * 1))) (i * 1) (nv.toList.take 1)):=by
 have t3:=Tryz.underlying3;have a3:=Tryz.isAgg3;have z3:=Tryz.sizeOf3;have v3:=Tryz.zeroValue3
 have t4:=Tryz.underlying4;have a4:=Tryz.isAgg4;have z4:=Tryz.sizeOf4;have v4:=Tryz.zeroValue4
 have t9:=Tryz.underlying9;have a9:=Tryz.isAgg9;have z9:=Tryz.sizeOf9;have v9:=Tryz.zeroValue9
 have t24:=Tryz.underlying26;have a24:=Tryz.isAgg26;have z24:=Tryz.sizeOf26;have v24:=Tryz.zeroValue26
 have u3:=run_underlying t3;have u4:=run_underlying t4;have u9:=run_underlying t9;have u24:=run_underlying t24
 have hz2:¬ ((i:Int)=(n:Int)):=by omega
 have hsv:w.shape? vb=some (tv,nv.size):=by simp [World.shape?,hv]
 have hsb:w.shape? b=some (tb,cur.size):=by simp [World.shape?,hb]
 have hov:∀ lb cb,(callFunc 204 #[.slice (some ⟨vb,0,none⟩) 1 vc,.slice (some ⟨b,(i+1) * 1,none⟩) lb cb]).run Tryz.prog w = .ok (.value (.bool false)) w:=fun lb cb=>by
  rw [run_callFunc_extern Tryz.func204 (by kernel_rfl) (by kernel_rfl) (by kernel_rfl) (e:=Extern.SlicesOverlaps.overlaps #[26,26] #[4]) (by kernel_rfl),
   Lib.run_overlaps_apart w 26 4 9 t24 1 z9 ⟨vb,0,none⟩ ⟨b,(i+1) * 1,none⟩ 1 vc lb cb hvb tv tb nv.size cur.size hsv hsb (by omega) (by simp [World.frozen?,hv]) (by simp [World.frozen?,hv])]
  rfl
 have hw1:IntKind.i64.wrap ((i:Int)+1)=(i:Int)+1:=by rw [IntKind.wrap_i64];omega
 have hw2:IntKind.i64.wrap ((n:Int)+1)=(n:Int)+1:=by rw [IntKind.wrap_i64];omega
 have hb1:(0:Int)≤(i:Int)+1:=by omega
 have hin:i≤n:=by omega
 have htn:((i:Int)+1).toNat=i+1:=by omega
 have htn2:((n:Int)+1).toNat=n+1:=by omega
 have hb2:¬ (c=i+1):=by omega
 have hb3:(i:Int)≤(n:Int)+1:=by omega
 have hb4:¬ (c=i):=by omega
 have hnc:¬ ((c:Int) < (n:Int)+1):=by omega
 obtain⟨cs,hcs1⟩:∃ cs,cs=(cur.toList.drop (i * 1)).take ((n - i) * 1):=⟨_,rfl⟩
 have hcl:cs.length=(n - i) * 1:=by rw [hcs1];simp;omega
 have hcg:∀ j v,cs[j]? = some v→cur[i * 1+j]? = some v:=fun j v hj=>by
  rw [hcs1,List.getElem?_take] at hj
  split at hj
  ·rw [List.getElem?_drop] at hj;simpa using hj
  ·cases hj
 have hcm:∀ v ∈ cs,v.oneCell'=true:=fun v hv=>by rw [hcs1] at hv;exact hc1 v (List.mem_of_mem_drop (List.mem_of_mem_take hv))
 have hcp1:∀ ty dc sc,(Builtin.copy_ #[26,26] ty #[.slice (some ⟨b,(i+1) * 1,none⟩) (n - i) dc,.slice (some ⟨b,i * 1,none⟩) (n+1 - i) sc]).run Tryz.prog w.drew = .ok (goInt ((n - i:Nat):Int)) (w.drew.setRow b (putC cur ((i+1) * 1) cs)):=fun ty dc sc=>by
  have h0:=Z0ro (P:=Tryz.prog) 1 w.drew 26 26 ty 9 b ((i+1) * 1) (n - i) dc ⟨b,i * 1,none⟩ (n+1 - i) sc cur tb cs (n - i) t24 z9 hb (by simp only [Nat.min_def];split<;>omega) hcl
   (fun j v hj=>by
    have h:=hcg j v hj
    rw [Addr.add_lit]
    show w.cell? _=_
    simp only [World.cell?,hb]
    simpa using h) (by rw [hcl];omega) hcm
  exact h0
 obtain⟨A1,hA1⟩:∃ A1,A1=putC cur ((i+1) * 1) cs:=⟨_,rfl⟩
 have hA1s:A1.size=cur.size:=by rw [hA1,Z0on (by rw [hcl];omega)]
 have hg1:(w.drew.setRow b A1).heap[b]? = some (.cells A1 tb (0,0)):=setRow_heap w.drew b cur _ tb _ hb
 have hv2:(w.drew.setRow b A1).heap[vb]? = some (.cells nv tv (0,0)):=by
  show(w.drew.heap.modify b _)[vb]? = _
  rw [Array.getElem?_modify,if_neg (Ne.symm hvb)];exact hv
 have hvl:(nv.toList.take 1).length=1 * 1:=by simp;omega
 have hcp2:∀ (W:World),W.heap=(w.drew.setRow b A1).heap→∀ ty dc,(Builtin.copy_ #[26,26] ty #[.slice (some ⟨b,i * 1,none⟩) (n+1 - i) dc,.slice (some ⟨vb,0,none⟩) 1 vc]).run Tryz.prog W = .ok (goInt ((1:Nat):Int)) (W.setRow b (putC A1 (i * 1) (nv.toList.take 1))):=fun W hW ty dc=>by
  have h0:=Z0ro (P:=Tryz.prog) 1 W 26 26 ty 9 b (i * 1) (n+1 - i) dc ⟨vb,0,none⟩ 1 vc A1 tb (nv.toList.take 1) 1 t24 z9 (by rw [hW];exact hg1) (by simp only [Nat.min_def];split<;>omega) hvl
   (fun j v hj=>by
    rw [Addr.add_lit,Nat.zero_add]
    simp only [World.cell?,hW,hv2]
    rw [List.getElem?_take] at hj
    split at hj
    ·simpa using hj
    ·cases hj) (by rw [hvl];omega) (fun v hv=>hv1 v (List.mem_of_mem_take hv))
  exact h0
 rw [←hA1] at hcp1
 rw [←hcs1,←hA1]
 have mixed:=hm
 simp only [Nat.mul_one] at *
 go_enter Tryz.func143,Tryz.ntmps143
 go_wp2_with (simp only [hov])
 go_region_law_o (refine step_copy_runI rfl _ _ 26 26 rfl _ _ (by simp [Act.eval,Act.put]) (by simp [Act.eval,Act.put]) (hcp1 _ _ _) ?_)
 go_wp2_with (at_builtin;refine wpList_copy_runI _ rfl _ _ 26 26 rfl _ _ rfl rfl (hcp2 _ rfl _ _) ?_)
 go_ret
 exact⟨rfl,by rw [hA1,hcs1]⟩
theorem Z0uj {w:World} {vb vc:Nat} {nv:Array Value} {tv:TypeId} (hv:w.heap[vb]? = some (.cells nv tv (0,0))) (hvs:nv.size=vc * 1) (hv1:∀ v ∈ nv.toList,v.oneCell'=true) (hvc:1≤vc) :
  Go.Src Tryz.prog 1 26 (.slice (some ⟨vb,0,none⟩) 1 vc) 1 (nv.toList.take 1) w:=
 Go.Src.ofSlice (w:=w) Tryz.underlying26 ⟨vb,0,none⟩ 1 vc (nv.toList.take 1) (by simp;omega) (fun j u hj=>by
  rw [Addr.add_lit,Nat.zero_add]
  simp only [World.cell?,hv]
  rw [List.getElem?_take] at hj
  split at hj
  ·simpa using hj
  ·cases hj) (fun v hv=>hv1 v (List.mem_of_mem_take hv))
set_option maxHeartbeats 4000000 in
set_option maxRecDepth 100000 in
theorem Z0i3 (b n c vb vc:Nat) (cur nv:Array Value) (tb tv:TypeId) (w:World) (hroom:n+1≤c) (hc63:c≤9223372036854775807)
  (hb:w.heap[b]? = some (.cells cur tb (0,0))) (hcs:cur.size=c * 1)
  (hv:w.heap[vb]? = some (.cells nv tv (0,0))) (hvs:nv.size=vc * 1) (hv1:∀ v ∈ nv.toList,v.oneCell'=true) (hvc:1≤vc) :
  Calls Tryz.prog 143 #[.slice (some ⟨b,0,none⟩) n c,.int .i64 n,.slice (some ⟨vb,0,none⟩) 1 vc] w fun e w'=>
   e = .returned (.slice (some ⟨b,0,none⟩) (n+1) c)∧w'=w.setCells b (n * 1) (nv.toList.take 1):=by
 have t3:=Tryz.underlying3;have a3:=Tryz.isAgg3;have z3:=Tryz.sizeOf3;have v3:=Tryz.zeroValue3
 have t4:=Tryz.underlying4;have a4:=Tryz.isAgg4;have z4:=Tryz.sizeOf4;have v4:=Tryz.zeroValue4
 have t9:=Tryz.underlying9;have a9:=Tryz.isAgg9;have z9:=Tryz.sizeOf9;have v9:=Tryz.zeroValue9
 have t24:=Tryz.underlying26;have a24:=Tryz.isAgg26;have z24:=Tryz.sizeOf26;have v24:=Tryz.zeroValue26
 have u3:=run_underlying t3;have u4:=run_underlying t4;have u9:=run_underlying t9;have u24:=run_underlying t24
 have mixed:=hm
 obtain⟨i0,hi0,hz0,hzs,hzb⟩:=info_parts (show(Tryz.prog.info? 9).map (fun i=>(i.zero,i.size,i.bytes))=some (some (.string ⟨#[]⟩),1,16) from by kernel_rfl)
 have hvl:(nv.toList.take 1).length=1:=by simp;omega
 have hsrc:=Z0uj hv hvs hv1 hvc
 have hrun:∀ ty,(Builtin.append_ #[26,26] ty #[.slice (some ⟨b,0,none⟩) n c,.slice (some ⟨vb,0,none⟩) 1 vc]).run Tryz.prog w = .ok (.slice (some ⟨b,0,none⟩) (n+1) c) (w.setCells b (n * 1) (nv.toList.take 1)):=fun ty=>by
  have h0:=run_append_room_src (P:=Tryz.prog) (w:=w) 26 26 ty 9 i0 t24 hi0 b 0 n c (.slice (some ⟨vb,0,none⟩) 1 vc) 1 (nv.toList.take 1) (by rw [hzs];exact hsrc) hroom
   (fun j hj=>by
    rw [hzs]
    have h1:n * 1+j < cur.size:=by omega
    simp only [World.cell?,hb,Nat.zero_add]
    simp;omega) (fun j hj=>by simp [World.frozen?,hb])
  rw [hzs,Nat.zero_add] at h0
  exact h0
 simp only [Nat.mul_one] at *
 go_enter Tryz.func143,Tryz.ntmps143
 go_wp2_with (at_builtin;refine Lib.wpList_append_run _ rfl _ _ _ _ rfl _ _ rfl rfl _ _ (hrun _) ?_)
 go_ret
 exact⟨rfl,rfl⟩
set_option maxHeartbeats 4000000 in
set_option maxRecDepth 100000 in
theorem Z0i2 (base:Option Addr) (n c vb vc:Nat) (olds:List Value) (nv:Array Value) (tv:TypeId) (w:World) (hnc:n≤c) (hroom:c < n+1) (hbig:(n+1) * 16≤140737488355328)
  (hold:(Builtin.firstCells 1 n (.slice base n c)).run Tryz.prog w.drew = .ok olds.toArray w.drew) (hnil:base=none→n=0)
  (hv:w.heap[vb]? = some (.cells nv tv (0,0))) (hvs:nv.size=vc * 1) (hv1:∀ v ∈ nv.toList,v.oneCell'=true) (hvc:1≤vc) :
  Calls Tryz.prog 143 #[.slice base n c,.int .i64 n,.slice (some ⟨vb,0,none⟩) 1 vc] w fun e w'=>
   e = .returned (.slice (some ⟨w.heap.size,0,none⟩) (n+1) (grownCap w (n+1) c 9))∧
   w'=w.drew.alloc (.cells ((olds ++ nv.toList.take 1).toArray ++ Builtin.zeroCells (Value.string ⟨#[]⟩).cells (grownCap w (n+1) c 9 - (n+1))) 9):=by
 have t3:=Tryz.underlying3;have a3:=Tryz.isAgg3;have z3:=Tryz.sizeOf3;have v3:=Tryz.zeroValue3
 have t4:=Tryz.underlying4;have a4:=Tryz.isAgg4;have z4:=Tryz.sizeOf4;have v4:=Tryz.zeroValue4
 have t9:=Tryz.underlying9;have a9:=Tryz.isAgg9;have z9:=Tryz.sizeOf9;have v9:=Tryz.zeroValue9
 have t24:=Tryz.underlying26;have a24:=Tryz.isAgg26;have z24:=Tryz.sizeOf26;have v24:=Tryz.zeroValue26
 have u3:=run_underlying t3;have u4:=run_underlying t4;have u9:=run_underlying t9;have u24:=run_underlying t24
 have mixed:=hm
 obtain⟨i0,hi0,hz0,hzs,hzb⟩:=info_parts (show(Tryz.prog.info? 9).map (fun i=>(i.zero,i.size,i.bytes))=some (some (.string ⟨#[]⟩),1,16) from by kernel_rfl)
 have hsrc:=Z0uj hv hvs hv1 hvc
 have hrun:∀ ty,(Builtin.append_ #[26,26] ty #[.slice base n c,.slice (some ⟨vb,0,none⟩) 1 vc]).run Tryz.prog w=_:=fun ty=>
  run_append_grow_src (P:=Tryz.prog) (w:=w) 26 26 ty 9 i0 _ t24 hi0 hz0 base n c olds (by rw [hzs];exact hold) (.slice (some ⟨vb,0,none⟩) 1 vc) 1 (nv.toList.take 1) (by rw [hzs];exact hsrc) hroom (by omega) (by rw [hzb];exact growslice_fits hroom hbig)
 simp only [Nat.mul_one] at *
 go_enter Tryz.func143,Tryz.ntmps143
 cases base with
 |none=>
  have h0:=hnil rfl
  subst h0
  go_wp2_with (at_builtin;refine Lib.wpList_append_run _ rfl _ _ _ _ rfl _ _ rfl rfl _ _ (hrun _) ?_)
  go_ret
  exact⟨rfl,rfl⟩
 |some a=>
  obtain⟨ab,ao,asp⟩:=a
  go_wp2_with (at_builtin;refine Lib.wpList_append_run _ rfl _ _ _ _ rfl _ _ rfl rfl _ _ (hrun _) ?_)
  all_goals (go_ret;exact⟨rfl,rfl⟩)
set_option maxHeartbeats 4000000 in
set_option maxRecDepth 100000 in
theorem Z0i4 (b n c i vb vc:Nat) (cur nv:Array Value) (tb tv:TypeId) (w:World) (hi:i < n) (hnc:n≤c) (hroom:c < n+1) (hbig:(n+1) * 16≤140737488355328)
  (hb:w.heap[b]? = some (.cells cur tb (0,0))) (hcs:cur.size=c * 1) (hc1:∀ v ∈ cur.toList,v.oneCell'=true)
  (hv:w.heap[vb]? = some (.cells nv tv (0,0))) (hvs:nv.size=vc * 1) (hv1:∀ v ∈ nv.toList,v.oneCell'=true) (hvc:1≤vc) :
  ∃ G ROW W1,n+1≤G∧G≤maxLen∧ROW=(cur.toList.take (i * 1)).toArray ++ Builtin.zeroCells (Value.string ⟨#[]⟩).cells (n+1 - i) ++ Builtin.zeroCells (Value.string ⟨#[]⟩).cells (G - (n+1))∧W1=w.drew.alloc (.cells ROW 9)∧
  Calls Tryz.prog 143 #[.slice (some ⟨b,0,none⟩) n c,.int .i64 i,.slice (some ⟨vb,0,none⟩) 1 vc] w fun e w'=>
   e = .returned (.slice (some ⟨w.heap.size,0,none⟩) (n+1) G)∧w'=(((W1.setRow w.heap.size (putC ROW (i * 1) (nv.toList.take 1)))).drew).setRow w.heap.size (putC (putC ROW (i * 1) (nv.toList.take 1)) ((i+1) * 1) ((cur.toList.drop (i * 1)).take ((n - i) * 1))):=by
 have t3:=Tryz.underlying3;have a3:=Tryz.isAgg3;have z3:=Tryz.sizeOf3;have v3:=Tryz.zeroValue3
 have t4:=Tryz.underlying4;have a4:=Tryz.isAgg4;have z4:=Tryz.sizeOf4;have v4:=Tryz.zeroValue4
 have t9:=Tryz.underlying9;have a9:=Tryz.isAgg9;have z9:=Tryz.sizeOf9;have v9:=Tryz.zeroValue9
 have t24:=Tryz.underlying26;have a24:=Tryz.isAgg26;have z24:=Tryz.sizeOf26;have v24:=Tryz.zeroValue26
 have u3:=run_underlying t3;have u4:=run_underlying t4;have u9:=run_underlying t9;have u24:=run_underlying t24
 have mixed:=hm
 obtain⟨i0,hi0,hz0,hzs,hzb⟩:=info_parts (show(Tryz.prog.info? 9).map (fun i=>(i.zero,i.size,i.bytes))=some (some (.string ⟨#[]⟩),1,16) from by kernel_rfl)
 have hbw:b < w.heap.size:=Z0kt hb
 have hvw:vb < w.heap.size:=Z0kt hv
 have hz2:¬ ((i:Int)=(n:Int)):=by omega
 have hz3:(c:Int) < (n:Int)+1:=by omega
 have hkk:(n:Int)+1 - (i:Int)=((n+1 - i:Nat):Int):=by omega
 have hik:i+(n+1 - i)=n+1:=by omega
 have hcell:∀ (o j:Nat) (v:Value),cur[o+j]? = some v→w.cell? ⟨b,o+j,none⟩=some v:=fun o j v h=>by
  simp only [World.cell?,hb]
  simpa using h
 have hold:(Builtin.firstCells i0.size i (.slice (some ⟨b,0,none⟩) i c)).run Tryz.prog w.drew = .ok (cur.toList.take (i * 1)).toArray w.drew:=by
  rw [hzs]
  exact run_firstCells_some w.drew 1 i ⟨b,0,none⟩ i c (cur.toList.take (i * 1)) (by rw [List.length_take];simp;omega) (fun j v hj=>by
   rw [Addr.add_lit]
   rw [List.getElem?_take] at hj
   split at hj
   ·exact hcell 0 j v (by simpa using hj)
   ·cases hj)
 obtain⟨G,hG⟩:∃ G,G=grownCap w (n+1) c 9:=⟨_,rfl⟩
 obtain⟨ROW,hROW⟩:∃ ROW:Array Value,ROW=(cur.toList.take (i * 1)).toArray ++ Builtin.zeroCells (Value.string ⟨#[]⟩).cells (n+1 - i) ++ Builtin.zeroCells (Value.string ⟨#[]⟩).cells (G - (n+1)):=⟨_,rfl⟩
 have hrz:∀ ty,(Builtin.append_ #[26,3] ty #[.slice (some ⟨b,0,none⟩) i c,.int .i64 ((n:Int)+1 - (i:Int))]).run Tryz.prog w =
   .ok (.slice (some ⟨w.heap.size,0,none⟩) (n+1) G) (w.drew.alloc (.cells ROW 9)):=fun ty=>by
  have h:=Lib.run_append_grow_zeros (P:=Tryz.prog) w 26 3 ty 9 i0 _ .i64 .i64 t24 t3 hi0 hz0 (some ⟨b,0,none⟩) i c (cur.toList.take (i * 1)) hold (n+1 - i) (by omega) (by omega) (by omega) (by omega) (by rw [hzb];omega) (by rw [hzb,hik];exact growslice_fits hroom hbig)
  rw [hik] at h
  rw [hkk,hROW,hG]
  exact h
 have hGn:n+1≤G:=by rw [hG];exact grownCap_ge w _ _ _
 have hGm:G≤maxLen:=by rw [hG];exact grownCap_le_maxLen w (n+1) c 9 (by unfold maxLen;omega)
 have hG63:G≤9223372036854775807:=by unfold maxLen at hGm;omega
 have hRl:ROW.size=G * 1:=by
  rw [hROW]
  simp [Builtin.zeroCells,Value.cells]
  omega
 obtain⟨W1,hW1⟩:∃ W1,W1=w.drew.alloc (.cells ROW 9):=⟨_,rfl⟩
 refine⟨G,ROW,W1,hGn,hGm,hROW,hW1,?_⟩
 rw [←hW1] at hrz
 have hN1:W1.heap[w.heap.size]? = some (.cells ROW 9 (0,0)):=by rw [hW1];exact Z086 w.drew _
 have hB1:W1.heap[b]? = some (.cells cur tb (0,0)):=by rw [hW1];exact(Z087 w.drew _ b hbw).trans hb
 have hV1:W1.heap[vb]? = some (.cells nv tv (0,0)):=by rw [hW1];exact(Z087 w.drew _ vb hvw).trans hv
 have hvl:(nv.toList.take 1).length=1 * 1:=by simp;omega
 have hcpA:∀ (W:World),W.heap=W1.heap→∀ ty dc,(Builtin.copy_ #[26,26] ty #[.slice (some ⟨w.heap.size,i * 1,none⟩) (n+1 - i) dc,.slice (some ⟨vb,0,none⟩) 1 vc]).run Tryz.prog W = .ok (goInt ((1:Nat):Int)) (W.setRow w.heap.size (putC ROW (i * 1) (nv.toList.take 1))):=fun W hW ty dc=>by
  have h0:=Z0ro (P:=Tryz.prog) 1 W 26 26 ty 9 w.heap.size (i * 1) (n+1 - i) dc ⟨vb,0,none⟩ 1 vc ROW 9 (nv.toList.take 1) 1 t24 z9 (by rw [hW];exact hN1) (by simp only [Nat.min_def];split<;>omega) hvl
   (fun j v hj=>by
    rw [Addr.add_lit,Nat.zero_add]
    simp only [World.cell?,hW,hV1]
    rw [List.getElem?_take] at hj
    split at hj
    ·simpa using hj
    ·cases hj) (by rw [hvl];omega) (fun v hv=>hv1 v (List.mem_of_mem_take hv))
  exact h0
 obtain⟨A1,hA1⟩:∃ A1,A1=putC ROW (i * 1) (nv.toList.take 1):=⟨_,rfl⟩
 have hA1s:A1.size=ROW.size:=by rw [hA1,Z0on (by rw [hvl];omega)]
 obtain⟨cs,hcs1⟩:∃ cs,cs=(cur.toList.drop (i * 1)).take ((n - i) * 1):=⟨_,rfl⟩
 have hcl:cs.length=(n - i) * 1:=by rw [hcs1];simp;omega
 have hcg:∀ j v,cs[j]? = some v→cur[i * 1+j]? = some v:=fun j v hj=>by
  rw [hcs1,List.getElem?_take] at hj
  split at hj
  ·rw [List.getElem?_drop] at hj;simpa using hj
  ·cases hj
 have hcm:∀ v ∈ cs,v.oneCell'=true:=fun v hv=>by rw [hcs1] at hv;exact hc1 v (List.mem_of_mem_drop (List.mem_of_mem_take hv))
 have hN2:(W1.setRow w.heap.size A1).heap[w.heap.size]? = some (.cells A1 9 (0,0)):=setRow_heap W1 w.heap.size ROW _ 9 _ hN1
 have hB2:(W1.setRow w.heap.size A1).heap[b]? = some (.cells cur tb (0,0)):=by
  show(W1.heap.modify w.heap.size _)[b]? = _
  rw [Array.getElem?_modify,if_neg (by omega)];exact hB1
 have hcpB:∀ (W:World),W.heap=(W1.setRow w.heap.size A1).heap→∀ ty dc sc,(Builtin.copy_ #[26,26] ty #[.slice (some ⟨w.heap.size,(i+1) * 1,none⟩) (n - i) dc,.slice (some ⟨b,i * 1,none⟩) (n - i) sc]).run Tryz.prog W = .ok (goInt ((n - i:Nat):Int)) (W.setRow w.heap.size (putC A1 ((i+1) * 1) cs)):=fun W hW ty dc sc=>by
  have h0:=Z0ro (P:=Tryz.prog) 1 W 26 26 ty 9 w.heap.size ((i+1) * 1) (n - i) dc ⟨b,i * 1,none⟩ (n - i) sc A1 9 cs (n - i) t24 z9 (by rw [hW];exact hN2) (by simp only [Nat.min_def];split<;>omega) hcl
   (fun j v hj=>by
    have h:=hcg j v hj
    rw [Addr.add_lit]
    simp only [World.cell?,hW,hB2]
    simpa using h) (by rw [hcl];omega) hcm
  exact h0
 have hw1:IntKind.i64.wrap ((i:Int)+1)=(i:Int)+1:=by rw [IntKind.wrap_i64];omega
 have hw2:IntKind.i64.wrap ((n:Int)+1)=(n:Int)+1:=by rw [IntKind.wrap_i64];omega
 have hw3:IntKind.i64.wrap ((n:Int)+1 - (i:Int))=(n:Int)+1 - (i:Int):=by rw [IntKind.wrap_i64];omega
 have hb1:(0:Int)≤(i:Int)+1:=by omega
 have hin:i≤n:=by omega
 have htn:((i:Int)+1).toNat=i+1:=by omega
 have hb3:(i:Int)≤(n:Int):=by omega
 have hGi:¬ (G=i):=by omega
 have hGim:¬ (G=i+1):=by omega
 have hci:¬ (c=i):=by omega
 rw [←hA1] at hcpA
 rw [←hA1,←hcs1]
 clear hkk hik hold hROW hG hW1 hcs1 hA1
 simp only [Nat.mul_one] at *
 go_enter Tryz.func143,Tryz.ntmps143
 go_wp2_with (first
  |(at_builtin;refine Lib.wpList_append_run _ rfl _ _ _ _ rfl _ _ rfl rfl _ _ (hrz _) ?_)
  |(at_builtin;refine wpList_copy_runI _ rfl _ _ 26 26 rfl _ _ rfl rfl (hcpA _ rfl _ _) ?_))
 go_region_law_o (refine step_copy_runI rfl _ _ 26 26 rfl (.slice (some ⟨w.heap.size,i+1,none⟩) (n - i) (G - (i+1))) (.slice (some ⟨b,i,none⟩) (n - i) (c - i)) (by simp [Act.eval,Act.put]) (by simp [Act.eval,Act.put]) (hcpB (W1.setRow w.heap.size A1).drew rfl 3 (G - (i+1)) (c - i)) ?_)
 go_wp2
 go_ret
 exact⟨rfl,rfl⟩
theorem Z0zu (m:Nat):∀ v ∈ (Builtin.zeroCells (Value.string ⟨#[]⟩).cells m).toList,v.oneCell'=true:=by
 intro v hv
 obtain⟨j,hj,rfl⟩:=List.getElem_of_mem hv
 have h3:j % 1=0:=by omega
 simp only [Builtin.zeroCells,Value.cells,Array.toList_map,List.getElem_map,Array.toList_range,List.getElem_range]
 show(#[Value.string ⟨#[]⟩][j % 1]!).oneCell'=true
 rw [h3];rfl
theorem Z0zv (m:Nat):(Builtin.zeroCells (Value.string ⟨#[]⟩).cells m).size=m * 1:=by simp [Builtin.zeroCells,Value.cells]
theorem Z0xv {nv:Array Value} {m y:Nat} (h:y < m):(nv.toList.take m).getD y undef=nv.getD y undef:=by
 simp only [List.getD,Array.getD_eq_getD_getElem?]
 rw [List.getElem?_take_of_lt h,Array.getElem?_toList]
theorem Z0le {cur:Array Value} {a m y:Nat} (h:y < m):((cur.toList.drop a).take m).getD y undef=cur.getD (a+y) undef:=by
 simp only [List.getD,Array.getD_eq_getD_getElem?]
 rw [List.getElem?_take_of_lt h,List.getElem?_drop,Array.getElem?_toList]
set_option maxHeartbeats 1000000 in
theorem Z06a {l:List ByteArray} {i:Nat} {x:ByteArray} {g:Nat→List PV} (hil:i≤l.length) (hln:l.length≤1048576) (hgx:PSubs (g 0) (cstr x)) :
  AC Tryz.prog 143 [.own 0,.pv (vint i),.own 2] [(0,rowL 1 cstr l),(2,.row 1 1 g)] (.own 1) [(1,rowL 1 cstr (insL l i x)),(0,.gone)]:=by
 refine⟨Tryz.call143,fun St M0 σ w vals hi hσ hos hsz hA=>?_⟩
 obtain⟨loc0,hl0,hor⟩:=hos 0 _ (by simp [getO];rfl)
 obtain⟨loc2,hl2,hor2⟩:=hos 2 (.row 1 1 g) (by simp [getO])
 have h1:σ 1=none:=hσ 1 (by simp [getO])
 have hv0:=Z08t (hA 0 (.own 0) rfl) hl0
 have hv1:=pr_val (arg_pv (hA 1 (.pv (vint i)) rfl))
 have hv2:=Z08t (hA 2 (.own 2) rfl) hl2
 have hvals:vals=#[vals.getD 0 undef,vals.getD 1 undef,vals.getD 2 undef]:=by
  have hs2:vals.size=3:=hsz
  apply Array.ext
  ·simpa using hs2
  ·intro i h2 h3
   have:i=0∨i=1∨i=2:=by omega
   rcases this with rfl|rfl|rfl<;>simp [Array.getD,hs2]
 rw [hvals,hv0,hv1,hv2]
 generalize hk1:(1:Nat)=n1 at hor2
 cases hor2 with
 |row0 _ _ a=>cases hk1
 |row _ _ _ b2 cap2 nv tv hb2 hn2 hmax2 hsz2 hs2 hh2 hone2=>
 subst hk1
 have hnv1:∀ v ∈ nv.toList,v.oneCell'=true:=fun v hv=>by
  obtain⟨j,hj,rfl⟩:=List.getElem_of_mem hv
  have:=hone2 j (by simpa using hj)
  simpa [Array.getD,show j < nv.size from by simpa using hj] using this
 have hnew:∀ q p,(g 0)[q]? = some p→PR w (Mof M0 σ) p (nv.getD q undef):=fun q p e=>by
  have:=hh2 0 (by omega) q p e
  rwa [Nat.zero_mul,Nat.zero_add] at this
 have hnl:(nv.toList.take 1).length=1:=by simp;omega
 have hnm:∀ v ∈ nv.toList.take 1,v.oneCell'=true:=fun v hv=>hnv1 v (List.mem_of_mem_take hv)
 change OR _ _ _ _ _ (.row 1 l.length fun j=>cstr (l.getD j default)) loc0 at hor
 generalize hn0:l.length=n0 at hor
 have hml:n0+1≤maxLen:=by unfold maxLen;omega
 cases hor with
 |row0 _ _ a=>
  have hi0:i=0:=by omega
  subst hi0
  refine(Z0i2 a 0 0 b2 cap2 [] nv tv w (by omega) (by omega) (by omega) (by
   cases a with
   |none=>exact run_firstCells_none w.drew 1 0 0 0
   |some ad=>exact run_firstCells_some w.drew 1 0 ad 0 0 [] rfl (fun j v hj=>by simp at hj)) (fun _=>rfl) hb2 hsz2 hnv1 hn2).mono (fun e w' h=>?_)
  obtain⟨rfl,rfl⟩:=h
  have hge:=grownCap_ge w (0+1) 0 9
  have hp:=Z0i7 (P:=Tryz.prog) (x:=x) (g:=g) (enc:=cstr) (k:=1) (cur:=#[]) (nv:=nv) (A:=(([] ++ nv.toList.take 1).toArray ++ Builtin.zeroCells (Value.string ⟨#[]⟩).cells (grownCap w (0+1) 0 9 - (0+1)))) (t':=9) (c':=grownCap w (0+1) 0 9) hi h1 hl0 hil (.inr (Nat.le_refl _)) (drew_ext.trans (Z0dg _ _)) (Z086 w.drew _) (by rw [hn0];exact hge) (grownCap_le_maxLen w _ _ _ hml) (by rw [Array.size_append,List.size_toArray,List.nil_append,hnl,Z0zv];omega) (fun v hv=>?_) (fun _=>rfl) hgx (fun j hj=>by omega) hnew (fun y hy=>?_)
  ·rw [hn0] at hp
   exact⟨_,_,rfl,hp⟩
  ·simp only [Array.toList_append,List.mem_append,List.nil_append] at hv
   rcases hv with hv|hv
   ·exact hnm v hv
   ·exact Z0zu _ v hv
  ·rw [hn0] at hy
   rw [if_neg (by omega),if_pos (by omega),Z0g0 (by rw [List.size_toArray,List.nil_append,hnl];omega),Nat.zero_mul,Nat.sub_zero,Z0y4,List.nil_append,Z0xv (m:=1) (by omega)]
 |row _ _ _ b cap vs tb hb hn hmax hsz' hs hh hone=>
  have hc1:∀ v ∈ vs.toList,v.oneCell'=true:=fun v hv=>by
   obtain⟨j,hj,rfl⟩:=List.getElem_of_mem hv
   have:=hone j (by simpa using hj)
   simpa [Array.getD,show j < vs.size from by simpa using hj] using this
  have hne:b2≠b:=fun e=>by
   subst e
   have:=hi.sep 0 2 _ _ b2 hl0 hl2 rfl rfl
   cases this
  subst hn0
  have hc63:cap≤9223372036854775807:=by unfold maxLen at hmax;omega
  have fin:=fun(w':World) (b' c':Nat) (A:Array Value) (t':TypeId) (hb') (hx) (hA) (hn') (hm') (hz) (ho) (hg)=>Z0i7 (P:=Tryz.prog) (w':=w') (b':=b') (c':=c') (A:=A) (t':=t') (x:=x) (g:=g) (enc:=cstr) (k:=1) (cur:=vs) (nv:=nv) hi h1 hl0 hil hb' hx hA hn' hm' hz ho (fun _=>rfl) hgx (fun j hj q p e=>hh j hj q p e) hnew hg
  by_cases hin:i=l.length
  ·subst hin
   by_cases hroom:l.length+1≤cap
   ·refine(Z0i3 b l.length cap b2 cap2 vs nv tb tv w hroom hc63 hb hsz' hb2 hsz2 hnv1 hn2).mono (fun e w' h=>?_)
    obtain⟨rfl,rfl⟩:=h
    rw [Z0sv (P:=Tryz.prog) hb (by rw [hnl];omega) hnm]
    refine⟨_,_,rfl,fin _ b cap (putC vs (l.length * 1) (nv.toList.take 1)) tb (.inl rfl) (setRow_ext.mono fun c _ h=>by rw [h]) (setRow_heap w b vs _ tb _ hb) hroom hmax (by rw [Z0on (by rw [hnl];omega)];exact hsz') (Z0om hc1 hnm) (fun y hy=>?_)⟩
    rw [Z0ol (by rw [hnl];omega),hnl]
    by_cases hy1:y < l.length * 1
    ·rw [if_neg (by omega),if_pos hy1]
    ·rw [if_pos (by omega),if_neg hy1,if_pos (by omega),Z0xv (by omega)]
   ·refine(Z0i2 (some ⟨b,0,none⟩) l.length cap b2 cap2 (vs.toList.take (l.length * 1)) nv tv w hn (by omega) (by omega) (run_firstCells_some w.drew 1 l.length ⟨b,0,none⟩ l.length cap _ (by simp;omega) (fun j v hj=>?_)) (fun h=>by cases h) hb2 hsz2 hnv1 hn2).mono (fun e w' h=>?_)
    ·rw [Addr.add_lit,Nat.zero_add]
     rw [List.getElem?_take] at hj
     split at hj
     ·show w.cell? _=_
      simp only [World.cell?,hb]
      simpa using hj
     ·cases hj
    obtain⟨rfl,rfl⟩:=h
    have htl:(vs.toList.take (l.length * 1)).length=l.length * 1:=by simp;omega
    have hge:=grownCap_ge w (l.length+1) cap 9
    refine⟨_,_,rfl,fin _ w.heap.size (grownCap w (l.length+1) cap 9) _ 9 (.inr (Nat.le_refl _)) (drew_ext.trans (Z0dg _ _)) (Z086 w.drew _) hge (grownCap_le_maxLen w _ _ _ hml) (by rw [Array.size_append,List.size_toArray,List.length_append,hnl,htl,Z0zv];omega) (fun v hv=>?_) (fun y hy=>?_)⟩
    ·simp only [Array.toList_append,List.mem_append] at hv
     rcases hv with (hv|hv)|hv
     ·exact hc1 v (List.mem_of_mem_take hv)
     ·exact hnm v hv
     ·exact Z0zu _ v hv
    ·rw [Z0g0 (by rw [List.size_toArray,List.length_append,hnl,htl];omega),Z0y4]
     by_cases hy1:y < l.length * 1
     ·rw [if_pos hy1,Z0ks (by rw [htl];exact hy1),Z0xv hy1]
     ·rw [if_neg hy1,if_pos (by omega),Z0fy (by rw [htl];omega),htl,Z0xv (by omega)]
  ·have hcl:((vs.toList.drop (i * 1)).take ((l.length - i) * 1)).length=(l.length - i) * 1:=by simp;omega
   have hcm:∀ v ∈ (vs.toList.drop (i * 1)).take ((l.length - i) * 1),v.oneCell'=true:=fun v hv=>hc1 v (List.mem_of_mem_drop (List.mem_of_mem_take hv))
   by_cases hroom:l.length+1≤cap
   ·refine(Z0i5 b l.length cap i b2 cap2 vs nv tb tv w (by omega) hroom hc63 hne hb hsz' hc1 hb2 hsz2 hnv1 hn2).mono (fun e w' h=>?_)
    obtain⟨rfl,rfl⟩:=h
    have hs1:(putC vs ((i+1) * 1) ((vs.toList.drop (i * 1)).take ((l.length - i) * 1))).size=vs.size:=Z0on (by rw [hcl];omega)
    refine⟨_,_,rfl,fin _ b cap _ tb (.inl rfl) ((drew_ext.trans setRow_ext).trans setRow_ext |>.mono fun c _ h=>by rw [h]) (setRow_heap _ b _ _ tb _ (setRow_heap w.drew b vs _ tb _ hb)) hroom hmax (by rw [Z0on (by rw [hs1,hnl];omega),hs1];exact hsz') (Z0om (Z0om hc1 hcm) hnm) (fun y hy=>?_)⟩
    rw [Z0ol (by rw [hs1,hnl];omega),hnl,Z0ol (by rw [hcl];omega),hcl]
    by_cases hy1:y < i * 1
    ·rw [if_neg (by omega),if_neg (by omega),if_pos hy1]
    ·rw [if_neg hy1]
     by_cases hy2:y < (i+1) * 1
     ·rw [if_pos (by omega),if_pos hy2,Z0xv (by omega)]
     ·rw [if_neg (by omega),if_pos (by omega),if_neg hy2,Z0le (by omega)]
      congr 1
      omega
   ·obtain⟨G,ROW,W1,hG1,hG2,hROW,hW1,hcalls⟩:=Z0i4 b l.length cap i b2 cap2 vs nv tb tv w (by omega) hn (by omega) (by omega) hb hsz' hc1 hb2 hsz2 hnv1 hn2
    refine hcalls.mono (fun e w' h=>?_)
    obtain⟨rfl,rfl⟩:=h
    have hRs:ROW.size=G * 1:=by rw [hROW];simp [Builtin.zeroCells,Value.cells];omega
    have hRo:∀ v ∈ ROW.toList,v.oneCell'=true:=fun v hv=>by
     rw [hROW] at hv
     simp only [Array.toList_append,List.mem_append] at hv
     rcases hv with (hv|hv)|hv
     ·exact hc1 v (List.mem_of_mem_take hv)
     ·exact Z0zu _ v hv
     ·exact Z0zu _ v hv
    have hRg:∀ y,y < i * 1→ROW.getD y undef=vs.getD y undef:=fun y hy=>by
     rw [hROW,Array.append_assoc,Z0g0 (by simp;omega),Z0y4,Z0xv hy]
    have hN1:W1.heap[w.heap.size]? = some (.cells ROW 9 (0,0)):=by rw [hW1];exact Z086 w.drew _
    have hs1:(putC ROW (i * 1) (nv.toList.take 1)).size=ROW.size:=Z0on (by rw [hnl];omega)
    have hN2:=setRow_heap W1 w.heap.size ROW (putC ROW (i * 1) (nv.toList.take 1)) 9 _ hN1
    refine⟨_,_,rfl,fin _ w.heap.size G _ 9 (.inr (Nat.le_refl _)) ?_ (setRow_heap _ w.heap.size _ _ 9 _ hN2) hG1 hG2 (by rw [Z0on (by rw [hs1,hcl];omega),hs1];exact hRs) (Z0om (Z0om hRo hnm) hcm) (fun y hy=>?_)⟩
    ·have e1:FExt (fun b=>b=w.heap.size) w W1:=by rw [hW1];exact drew_ext.trans (Z0dg _ _)
     have e2:=((e1.trans (setRow_ext (A:=putC ROW (i * 1) (nv.toList.take 1)))).trans drew_ext).trans (setRow_ext (A:=putC (putC ROW (i * 1) (nv.toList.take 1)) ((i+1) * 1) ((vs.toList.drop (i * 1)).take ((l.length - i) * 1))))
     exact e2.mono fun c hc h=>absurd h (by omega)
    ·rw [Z0ol (by rw [hs1,hcl];omega),hcl,Z0ol (by rw [hnl];omega),hnl]
     by_cases hy1:y < i * 1
     ·rw [if_neg (by omega),if_neg (by omega),if_pos hy1,hRg y hy1]
     ·rw [if_neg hy1]
      by_cases hy2:y < (i+1) * 1
      ·rw [if_neg (by omega),if_pos (by omega),if_pos hy2,Z0xv (by omega)]
      ·rw [if_pos (by omega),if_neg hy2,Z0le (by omega)]
       congr 1
       omega
end Go.Abs
namespace Go.Abs
open Go.Proofs
set_option maxRecDepth 10000
theorem wrapU {n:Int} (h:0≤n∧n≤18446744073709551615):IntKind.wrap .u64 n=n:=IntWalk.u64_in n h
def smallV (n:Int):Prop:=-1099511627776≤n∧n≤1099511627776
theorem Z020 (b:Bool):AC Tryz.prog 249 [.pv (vbool b)] [] (.pv (vint (if b=true then -1099511627776 else 1099511627776))) []:=by
 refine AC.of_awp (T:=T) T_ok hm Tryz.call249 Tryz.func249 rfl rfl rfl ?_
 conv=>whnf
 repeat (any_goals (first
  |(refine⟨fun(h:(_:Bool)=true)=>?_,fun(h:(_:Bool)=false)=>?_⟩<;>(try simp only [Q0,Q1,Q2,Q3,Q4,Q5,Q6,Q7,Q8,reduceCtorEq] at h)<;>(conv=>whnf))))
 ·subst h;exact PSub.rfl
 ·subst h;exact PSub.rfl
theorem Z01z (a b:Int) (ha:smallN a) (hb:smallN b):AC Tryz.prog 214 [.pv (vint a),.pv (vint b)] [] (.pv (vint (satI (a - b)))) []:=by
 obtain⟨h1,h2⟩:=ha
 obtain⟨h3,h4⟩:=hb
 refine AC.of_awp (T:=T) T_ok hm Tryz.call214 Tryz.func214 rfl rfl rfl ?_
 conv=>whnf
 refine .inl ⟨wrap64 (by omega),?_⟩
 conv=>whnf
 repeat (any_goals (first
  |(refine⟨fun(h:(_:Bool)=true)=>?_,fun(h:(_:Bool)=false)=>?_⟩<;>(try simp only [Q0,Q1,Q2,Q3,Q4,Q5,Q6,Q7,Q8,reduceCtorEq] at h)<;>(conv=>whnf))
  |(refine .inl ⟨_,Z01y (a - b),?_⟩;conv=>whnf)
  |(refine .inl ⟨_,Z020 (decide (a < 0)),?_⟩;conv=>whnf)))
 all_goals (try simp only [Q0,Q1,Q2,Q3,Q4,Q5,Q6,Q7,Q8,reduceCtorEq] at *)
 all_goals first
  |contradiction
  |(exfalso;omega)
  |exact PSub.rfl
  |(refine PSub.int ?_;simp only [satI];(repeat' split)<;>first|rfl|omega|(simp_all [-List.getD_eq_getElem?_getD];done)|(simp_all [-List.getD_eq_getElem?_getD];omega))
  |(refine PSub.sb ?_;simp_all [satI,-List.getD_eq_getElem?_getD];done)
  |(refine PSub.lit_sb ?_;simp_all [satI,-List.getD_eq_getElem?_getD];done)
  |(refine PSub.sb_lit ?_;simp_all [satI,-List.getD_eq_getElem?_getD];done)
  |(refine PSub.sb ?_;rw [Bool.eq_iff_iff];simp_all [satI,-List.getD_eq_getElem?_getD];done)
  |(refine PSub.lit_sb ?_;rw [Bool.eq_iff_iff];simp_all [satI,-List.getD_eq_getElem?_getD];done)
  |(refine PSub.sb_lit ?_;rw [Bool.eq_iff_iff];simp_all [satI,-List.getD_eq_getElem?_getD];done)
  |skip
theorem Z022 (n:Int) (h:smallV n):AC Tryz.prog 253 [.pv (vint n)] [] (.pv (.val (.int .u64 (sizeU n)))) []:=by
 obtain⟨h1,h2⟩:=h
 have e0 (x:Int) (h:0≤x∧x≤9223372036854775807):IntKind.i64.wrap x=x:=wrap64 (by omega)
 refine AC.of_awp (T:=T) T_ok hm Tryz.call253 Tryz.func253 rfl rfl rfl ?_
 conv=>whnf
 repeat (any_goals (first
  |(refine⟨fun(h:(_:Bool)=true)=>?_,fun(h:(_:Bool)=false)=>?_⟩<;>(try simp only [Q0,Q1,Q2,Q3,Q4,Q5,Q6,Q7,Q8,reduceCtorEq] at h)<;>(conv=>whnf))
  |(refine .inl ⟨wrap64 (by omega),?_⟩;conv=>whnf)))
 ·rw [e0 (0 - (n+1)) (by omega),wrapU (n:=0 - (n+1)) (by omega)]
  refine .inl ⟨wrapU (by omega),?_⟩
  conv=>whnf
  refine PSub.int ?_
  unfold sizeU
  rw [if_pos (by omega)]
  omega
 ·rw [wrapU (by omega)]
  refine PSub.int ?_
  unfold sizeU
  rw [if_neg (by omega)]
theorem Z023 (a b:Int) (ha:0≤a∧a≤1099511627776) (hb:0≤b∧b≤1099511627776):AC Tryz.prog 252 [.pv (.val (.int .u64 a)),.pv (.val (.int .u64 b))] [] (.pv (.val (.int .u64 (timesU a b)))) []:=by
 have hq:0≤(1099511627776:Int).tdiv b∧(1099511627776:Int).tdiv b≤1099511627776:=by
  rw [Int.tdiv_eq_ediv_of_nonneg (by omega)]
  exact⟨Int.ediv_nonneg (by omega) hb.1,Int.ediv_le_self _ (by omega)⟩
 have hmm:¬ (b≠0∧(1099511627776:Int).tdiv b < a)→0≤a * b∧a * b≤18446744073709551615:=fun h=>by
  refine⟨Int.mul_nonneg ha.1 hb.1,?_⟩
  by_cases hb0:b=0
  ·subst hb0;omega
  ·have h1:a≤(1099511627776:Int).tdiv b:=by
    rcases Int.lt_or_le ((1099511627776:Int).tdiv b) a with h2|h2
    ·exact absurd ⟨hb0,h2⟩ h
    ·exact h2
   rw [Int.tdiv_eq_ediv_of_nonneg (by omega)] at h1
   have h2:=(Int.le_ediv_iff_mul_le (by omega)).1 h1
   omega
 refine AC.of_awp (T:=T) T_ok hm Tryz.call252 Tryz.func252 rfl rfl rfl ?_
 conv=>whnf
 repeat (any_goals (first
  |(refine⟨fun(h:(_:Bool)=true)=>?_,fun(h:(_:Bool)=false)=>?_⟩<;>(try simp only [Q0,Q1,Q2,Q3,Q4,Q5,Q6,Q7,Q8,reduceCtorEq] at h)<;>(conv=>whnf))
  |(refine And.intro (by(try simp only [Int.toNat_natCast]);omega) ?_;conv=>whnf)))
 all_goals first
  |(refine .inl ⟨wrapU (by omega),?_⟩;conv=>whnf)
  |(subst h;refine .inl ⟨wrapU (hmm (by simp)),?_⟩;conv=>whnf)
 repeat (any_goals (first
  |(refine⟨fun(h:(_:Bool)=true)=>?_,fun(h:(_:Bool)=false)=>?_⟩<;>(try simp only [Q0,Q1,Q2,Q3,Q4,Q5,Q6,Q7,Q8,reduceCtorEq] at h)<;>(conv=>whnf))))
 ·refine PSub.int ?_
  unfold timesU
  rw [if_pos (by omega)]
 ·rename_i h1
  refine .inl ⟨wrapU (hmm (by omega)),?_⟩
  conv=>whnf
  refine PSub.int ?_
  unfold timesU
  rw [if_neg (by omega)]
 ·refine PSub.int ?_
  unfold timesU
  rw [if_neg (by omega)]
theorem Z021 (n:Int) (b:Bool) (h:0≤n∧n≤1099511627777):AC Tryz.prog 251 [.pv (.val (.int .u64 n)),.pv (vbool b)] [] (.pv (vint (signI n b))) []:=by
 have e0 (x:Int) (h:-9223372036854775807≤x∧x≤9223372036854775807):IntKind.i64.wrap x=x:=wrap64 (by omega)
 refine AC.of_awp (T:=T) T_ok hm Tryz.call251 Tryz.func251 rfl rfl rfl ?_
 conv=>whnf
 repeat (any_goals (first
  |(refine⟨fun(h:(_:Bool)=true)=>?_,fun(h:(_:Bool)=false)=>?_⟩<;>(try simp only [Q0,Q1,Q2,Q3,Q4,Q5,Q6,Q7,Q8,reduceCtorEq] at h)<;>(conv=>whnf))
  |(refine .inl ⟨_,Z020 b,?_⟩;conv=>whnf)))
 ·rw [show signI n b=if b=true then -1099511627776 else 1099511627776 from by unfold signI;exact if_pos h]
  exact PSub.rfl
 ·rename_i h1 h2
  subst h
  rw [e0 n (by omega),e0 (0 - n) (by omega)]
  refine PSub.int ?_
  unfold signI
  rw [if_neg (by omega),if_pos rfl]
  omega
 ·subst h
  rw [e0 n (by omega)]
  refine PSub.int ?_
  unfold signI
  rw [if_neg (by omega),if_neg (by simp)]
theorem Z0t8 {n:Int} (h:smallV n):0≤sizeU n∧sizeU n≤1099511627776:=by
 obtain⟨h1,h2⟩:=h
 unfold sizeU
 split<;>omega
theorem Z0y2 {a b:Int} (ha:0≤a∧a≤1099511627776) (hb:0≤b∧b≤1099511627776):0≤timesU a b∧timesU a b≤1099511627777:=by
 unfold timesU
 split
 ·omega
 ·rename_i h
  refine⟨Int.mul_nonneg ha.1 hb.1,?_⟩
  by_cases hb0:b=0
  ·subst hb0;omega
  ·have h1:a≤(1099511627776:Int).tdiv b:=by
    rcases Int.lt_or_le ((1099511627776:Int).tdiv b) a with h2|h2
    ·exact absurd ⟨hb0,h2⟩ h
    ·exact h2
   rw [Int.tdiv_eq_ediv_of_nonneg (by omega)] at h1
   have h2:=(Int.le_ediv_iff_mul_le (by omega)).1 h1
   omega
theorem Z01x (a b:Int) (ha:smallV a) (hb:smallV b):AC Tryz.prog 215 [.pv (vint a),.pv (vint b)] [] (.pv (vint (mulI a b))) []:=by
 have h1:=Z0t8 ha
 have h2:=Z0t8 hb
 have h3:=Z0y2 h1 h2
 refine AC.of_awp (T:=T) T_ok hm Tryz.call215 Tryz.func215 rfl rfl rfl ?_
 conv=>whnf
 repeat (any_goals (first
  |(refine .inl ⟨_,Z022 a ha,?_⟩;conv=>whnf)
  |(refine .inl ⟨_,Z022 b hb,?_⟩;conv=>whnf)
  |(refine .inl ⟨_,Z023 (sizeU a) (sizeU b) h1 h2,?_⟩;conv=>whnf)
  |(refine .inl ⟨_,Z021 (timesU (sizeU a) (sizeU b)) (!(decide (a < 0) == decide (b < 0))) h3,?_⟩;conv=>whnf)))
 all_goals exact PSub.rfl
theorem smallV.N {n:Int} (h:smallV n):smallN n:=⟨by have:=h.1;omega,by have:=h.2;omega⟩
end Go.Abs
namespace Go.Abs
open Go.Proofs
set_option maxRecDepth 10000
theorem Z0b6 (m:Int):0≤clampI m 0 1073741824∧clampI m 0 1073741824≤1073741824:=by
 unfold clampI
 (repeat' split)<;>omega
theorem Z0y1 {a:Int} (h:0≤a∧a≤1073741824):0≤a.tdiv 1440∧a.tdiv 1440≤1073741824:=by
 rw [Int.tdiv_eq_ediv_of_nonneg h.1]
 exact⟨Int.ediv_nonneg h.1 (by omega),Int.le_trans (Int.ediv_le_self _ h.1) h.2⟩
theorem Z0z1 (m:Int):0≤weekday m∧weekday m≤6:=by
 unfold weekday
 have h:=Z0y1 (Z0b6 m)
 rw [Int.tmod_eq_emod_of_nonneg (by omega)]
 omega
theorem Z002 (m:Int):AC Tryz.prog 211 [.pv (vint m)] [] (.pv (vint (clampI m 0 1073741824))) []:=by
 refine AC.of_awp (T:=T) T_ok hm Tryz.call211 Tryz.func211 rfl rfl rfl ?_
 conv=>whnf
 repeat (any_goals (first
  |(refine .inl ⟨_,Z01w m 0 1073741824,?_⟩;conv=>whnf)))
 all_goals exact PSub.rfl
theorem Z000 (m:Int):AC Tryz.prog 150 [.pv (vint m)] [] (.pv (vint (ofDay m))) []:=by
 refine AC.of_awp (T:=T) T_ok hm Tryz.call150 Tryz.func150 rfl rfl rfl ?_
 conv=>whnf
 repeat (any_goals (first
  |(refine .inl ⟨_,Z002 m,?_⟩;conv=>whnf)
  |(refine And.intro (by(try simp only [Int.toNat_natCast]);omega) ?_;conv=>whnf)))
 all_goals exact PSub.rfl
theorem Z001 (m:Int):AC Tryz.prog 151 [.pv (vint m)] [] (.pv (vint (weekday m))) []:=by
 have hc:=Z0b6 m
 have hd:=Z0y1 hc
 refine AC.of_awp (T:=T) T_ok hm Tryz.call151 Tryz.func151 rfl rfl rfl ?_
 conv=>whnf
 repeat (any_goals (first
  |(refine .inl ⟨_,Z002 m,?_⟩;conv=>whnf)
  |(refine And.intro (by(try simp only [Int.toNat_natCast]);omega) ?_;conv=>whnf)
  |(refine .inl ⟨wrap64 (by omega),?_⟩;conv=>whnf)))
 all_goals exact PSub.rfl
theorem Z014 (b:Bool):AC Tryz.prog 148 [.pv (vbool b)] [] (.pv (.tup [.agg (cVal (truV b)),vbool true])) []:=by
 refine AC.of_awp (T:=T) T_ok hm Tryz.call148 Tryz.func148 rfl rfl rfl ?_
 conv=>whnf
 repeat (any_goals (first
  |(refine⟨fun(h:(_:Bool)=true)=>?_,fun(h:(_:Bool)=false)=>?_⟩<;>(try simp only [Q0,Q1,Q2,Q3,Q4,Q5,Q6,Q7,Q8,reduceCtorEq] at h)<;>(conv=>whnf))))
 ·subst h
  refine⟨?_,?_⟩<;>(conv=>whnf)
  ·repeat' (first|exact PSub.rfl|exact PSub.nil_ro _ _|exact PSub.lit_sb rfl|exact trivial|exact Z085|refine PSub.agg ?_|refine PSub.ro rfl ?_|refine Z084 ?_ ?_|refine And.intro ?_ ?_)
  ·repeat' (first|exact PSub.rfl|exact PSub.nil_ro _ _|exact PSub.lit_sb rfl|exact trivial|exact Z085|refine PSub.agg ?_|refine PSub.ro rfl ?_|refine Z084 ?_ ?_|refine And.intro ?_ ?_)
 ·subst h
  refine⟨?_,?_⟩<;>(conv=>whnf)
  ·repeat' (first|exact PSub.rfl|exact PSub.nil_ro _ _|exact PSub.lit_sb rfl|exact trivial|exact Z085|refine PSub.agg ?_|refine PSub.ro rfl ?_|refine Z084 ?_ ?_|refine And.intro ?_ ?_)
  ·repeat' (first|exact PSub.rfl|exact PSub.nil_ro _ _|exact PSub.lit_sb rfl|exact trivial|exact Z085|refine PSub.agg ?_|refine PSub.ro rfl ?_|refine Z084 ?_ ?_|refine And.intro ?_ ?_)
theorem Z015:AC Tryz.prog 97 [] [] (.pv (.tup [.agg (cVal noVal),vbool false])) []:=by
 refine AC.of_awp (T:=T) T_ok hm Tryz.call97 Tryz.func97 rfl rfl rfl ?_
 conv=>whnf
 skip
 refine⟨?_,?_⟩<;>(conv=>whnf)
 ·repeat' (first|exact PSub.rfl|exact PSub.nil_ro _ _|exact PSub.lit_sb rfl|exact trivial|exact Z085|refine PSub.agg ?_|refine PSub.ro rfl ?_|refine Z084 ?_ ?_|refine And.intro ?_ ?_)
 ·repeat' (first|exact PSub.rfl|exact PSub.nil_ro _ _|exact PSub.lit_sb rfl|exact trivial|exact Z085|refine PSub.agg ?_|refine PSub.ro rfl ?_|refine Z084 ?_ ?_|refine And.intro ?_ ?_)
theorem Z00y (t a b:Int):AC Tryz.prog 149 [.pv (vint t),.pv (vint a),.pv (vint b)] [] (.pv (vbool (within t a b))) []:=by
 refine AC.of_awp (T:=T) T_ok hm Tryz.call149 Tryz.func149 rfl rfl rfl ?_
 conv=>whnf
 repeat (any_goals (first
  |(refine⟨fun(h:(_:Bool)=true)=>?_,fun(h:(_:Bool)=false)=>?_⟩<;>(try simp only [Q0,Q1,Q2,Q3,Q4,Q5,Q6,Q7,Q8,reduceCtorEq] at h)<;>(conv=>whnf))))
 all_goals first
  |contradiction
  |(exfalso;omega)
  |exact PSub.rfl
  |(refine PSub.lit_sb ?_;(first|(simp [within, *];done)|(simp_all [within];done)|((try simp only [within]);(repeat' split)<;>(try simp only [Bool.false_eq,Bool.true_eq,Bool.and_eq_false_iff,decide_eq_false_iff_not,Bool.and_eq_true,decide_eq_true_eq,decide_eq_decide])<;>first|rfl|omega|(simp_all;done)|(simp_all;omega))))
  |(refine PSub.sb ?_;(first|(simp [within, *];done)|(simp_all [within];done)|((try simp only [within]);(repeat' split)<;>(try simp only [Bool.false_eq,Bool.true_eq,Bool.and_eq_false_iff,decide_eq_false_iff_not,Bool.and_eq_true,decide_eq_true_eq,decide_eq_decide])<;>first|rfl|omega|(simp_all;done)|(simp_all;omega))))
  |(refine PSub.sb_lit ?_;(first|(simp [within, *];done)|(simp_all [within];done)|((try simp only [within]);(repeat' split)<;>(try simp only [Bool.false_eq,Bool.true_eq,Bool.and_eq_false_iff,decide_eq_false_iff_not,Bool.and_eq_true,decide_eq_true_eq,decide_eq_decide])<;>first|rfl|omega|(simp_all;done)|(simp_all;omega))))
  |(refine PSub.int ?_;(first|(simp [within, *];done)|(simp_all [within];done)|((try simp only [within]);(repeat' split)<;>(try simp only [Bool.false_eq,Bool.true_eq,Bool.and_eq_false_iff,decide_eq_false_iff_not,Bool.and_eq_true,decide_eq_true_eq,decide_eq_decide])<;>first|rfl|omega|(simp_all;done)|(simp_all;omega))))
  |skip
end Go.Abs
namespace Go.Proofs
open Go.Shelf
def Tryz.sortStr_ren:Go.Shelf.Ren:=⟨fun|190=>58|125=>102|258=>101|128=>166|129=>167|302=>157|303=>158|304=>159|305=>160|306=>161|307=>162|308=>163|309=>164|310=>165|333=>217|329=>218|330=>219|334=>220|335=>221|336=>222|344=>254|n=>n,fun|31=>26|9=>9|3=>3|46=>185|0=>0|51=>235|53=>124|4=>4|183=>228|182=>227|131=>232|5=>5|218=>267|222=>271|228=>285|229=>177|n=>n,fun|n=>n⟩
theorem Tryz.sortStr:Go.Proofs.Lays.n190 Tryz.prog Tryz.sortStr_ren:={
 mixed:=by kernel_rfl
 f125:=Tryz.func102.trans (congrArg some (by kernel_rfl))
 f128:=Tryz.func166.trans (congrArg some (by kernel_rfl))
 f129:=Tryz.func167.trans (congrArg some (by kernel_rfl))
 f190:=Tryz.func58.trans (congrArg some (by kernel_rfl))
 f258:=Tryz.func101.trans (congrArg some (by kernel_rfl))
 f302:=Tryz.func157.trans (congrArg some (by kernel_rfl))
 f303:=Tryz.func158.trans (congrArg some (by kernel_rfl))
 f304:=Tryz.func159.trans (congrArg some (by kernel_rfl))
 f305:=Tryz.func160.trans (congrArg some (by kernel_rfl))
 f306:=Tryz.func161.trans (congrArg some (by kernel_rfl))
 f307:=Tryz.func162.trans (congrArg some (by kernel_rfl))
 f308:=Tryz.func163.trans (congrArg some (by kernel_rfl))
 f309:=Tryz.func164.trans (congrArg some (by kernel_rfl))
 f310:=Tryz.func165.trans (congrArg some (by kernel_rfl))
 f329:=Tryz.func218.trans (congrArg some (by kernel_rfl))
 f330:=Tryz.func219.trans (congrArg some (by kernel_rfl))
 f333:=Tryz.func217.trans (congrArg some (by kernel_rfl))
 f334:=Tryz.func220.trans (congrArg some (by kernel_rfl))
 f335:=Tryz.func221.trans (congrArg some (by kernel_rfl))
 f336:=Tryz.func222.trans (congrArg some (by kernel_rfl))
 f344:=Tryz.func254.trans (congrArg some (by kernel_rfl))
 t0:=Tryz.underlying0
 a0:=Tryz.isAgg0
 z0:=Tryz.sizeOf0
 v0:=Tryz.zeroValue0
 t3:=Tryz.underlying3
 a3:=Tryz.isAgg3
 z3:=Tryz.sizeOf3
 v3:=Tryz.zeroValue3
 t4:=Tryz.underlying4
 a4:=Tryz.isAgg4
 z4:=Tryz.sizeOf4
 v4:=Tryz.zeroValue4
 t5:=Tryz.underlying5
 a5:=Tryz.isAgg5
 z5:=Tryz.sizeOf5
 v5:=Tryz.zeroValue5
 t9:=Tryz.underlying9
 a9:=Tryz.isAgg9
 z9:=Tryz.sizeOf9
 v9:=Tryz.zeroValue9
 t31:=Tryz.underlying26
 a31:=Tryz.isAgg26
 z31:=Tryz.sizeOf26
 v31:=Tryz.zeroValue26
 t46:=Tryz.underlying185
 a46:=Tryz.isAgg185
 z46:=Tryz.sizeOf185
 v46:=Tryz.zeroValue185
 t51:=Tryz.underlying235
 a51:=Tryz.isAgg235
 z51:=Tryz.sizeOf235
 v51:=Tryz.zeroValue235
 t53:=Tryz.underlying124
 a53:=Tryz.isAgg124
 z53:=Tryz.sizeOf124
 v53:=Tryz.zeroValue124
 t131:=Tryz.underlying232
 a131:=Tryz.isAgg232
 z131:=Tryz.sizeOf232
 v131:=Tryz.zeroValue232
 t182:=Tryz.underlying227
 a182:=Tryz.isAgg227
 z182:=Tryz.sizeOf227
 v182:=Tryz.zeroValue227
 t183:=Tryz.underlying228
 a183:=Tryz.isAgg228
 z183:=Tryz.sizeOf228
 v183:=Tryz.zeroValue228
 t218:=Tryz.underlying267
 a218:=Tryz.isAgg267
 z218:=Tryz.sizeOf267
 v218:=Tryz.zeroValue267
 t222:=Tryz.underlying271
 a222:=Tryz.isAgg271
 z222:=Tryz.sizeOf271
 v222:=Tryz.zeroValue271
 t228:=Tryz.underlying285
 a228:=Tryz.isAgg285
 z228:=Tryz.sizeOf285
 v228:=Tryz.zeroValue285
 t229:=Tryz.underlying177
 a229:=Tryz.isAgg177
 z229:=Tryz.sizeOf177
 v229:=Tryz.zeroValue177 }
end Go.Proofs
namespace Go.Abs
open Go.RowKit Go.Shelf Go.Sort
variable [Globals]
section
variable {P:Program} {ρ:Ren} {α:Type} [Inhabited α]
theorem AC.inPlace {f : FuncId} (k : Nat) (encV : α → List Value) (hk : ∀ x, (encV x).length = k) (h1 : ∀ x, ∀ v ∈ encV x, v.oneCell' = true)
    (hcall : ∀ (vals : Array Value) (w : World), (callFunc f vals).run P w = .ok (.enter f vals) w) (l l' : List α) (hl' : l'.length = l.length)
    (hnone : ∀ (a : Option Addr) (cap : Nat) (w : World), Calls P f #[.slice a 0 cap] w fun e w' => e = .returned (.tuple #[]) ∧ w' = w)
    (hsome : ∀ (b cap : Nat) (w : World), HoldsK encV k w b 0 l.toArray → b < w.heap.size → Calls P f #[.slice (some ⟨b, 0, none⟩) l.length cap] w fun e w' => e = .returned (.tuple #[]) ∧ ∃ n os, w' = Proofs.sortWorldK encV k w b 0 n l'.toArray os) :
    AC P f [.own 0] [(0, .row k l.length fun i => (encV (l.getD i default)).map .val)] (.pv (.tup [])) [(0, .row k l.length fun i => (encV (l'.getD i default)).map .val)] := by
  refine ⟨hcall, fun St M0 σ w vals hi hσ hos hsz hA => ?_⟩
  obtain ⟨loc, hloc, hor⟩ := hos 0 _ (by simp [getO]; rfl)
  have hv0 := Z08t (hA 0 (.own 0) rfl) hloc
  have hvals : vals = #[vals.getD 0 undef] := by
    have hs2 : vals.size = 1 := hsz
    apply Array.ext
    · simpa using hs2
    · intro i h2 h3
      have : i = 0 := by omega
      subst this; simp [Array.getD, hs2]
  rw [hvals, hv0]
  have done : ∀ w' : World, w' = w → l.length = 0 → ∃ v σ', Ending.returned (.tuple #[]) = .returned v ∧ Post P St M0 σ w [(0, .row k l.length fun i => (encV (l'.getD i default)).map .val)] (.pv (.tup [])) σ' v w' := by
    rintro w' rfl hl0
    refine ⟨_, σ, rfl, Post.redo hi ⟨loc, hloc, ?_⟩ (.pv _ _ (.tup _ _ rfl fun i p e => by simp at e))⟩
    have h0 : l = [] := List.length_eq_zero_iff.1 hl0
    subst h0
    have h1 : l' = [] := List.length_eq_zero_iff.1 (by simpa using hl')
    subst h1
    simpa using hor
  generalize hn0 : l.length = n0 at hor
  cases hor with
  | row0 _ _ a =>
    refine (hnone a 0 w).mono (fun e w' h => ?_)
    obtain ⟨rfl, hw⟩ := h
    have h5 := done w' hw hn0
    rw [hn0] at h5
    exact h5
  | row _ _ _ b cap vs t hb hn hmax hsz' hs hh hone =>
    subst hn0
    by_cases h0 : l.length = 0
    · have none' : ∀ n, n = 0 → Calls P f #[.slice (some ⟨b, 0, none⟩) n cap] w fun e w' => e = .returned (.tuple #[]) ∧ w' = w := by
        intro n hn
        rw [hn]
        exact hnone (some ⟨b, 0, none⟩) cap w
      have := none' l.length h0
      refine this.mono (fun e w' h => ?_)
      obtain ⟨rfl, hw⟩ := h
      exact done w' hw h0
    · have hblk := Z0kt hb
      have hget : ∀ j, j < l.length * k → vs.getD j undef = (flatK encV k l.toArray)[j]! := by
        intro j hj
        have k0 : 0 < k := by rcases Nat.eq_zero_or_pos k with h | h; · subst h; simp at hj
                              · exact h
        have hd : j / k < l.length := (Nat.div_lt_iff_lt_mul k0).2 hj
        have hm : j % k < (encV (l.getD (j / k) default)).length := by rw [hk]; exact Nat.mod_lt _ k0
        have hp := hh (j / k) hd (j % k) (.val ((encV (l.getD (j / k) default))[j % k]'hm)) (by simp [hm])
        have hp := pr_val hp
        rw [show j / k * k + j % k = j from by rw [Nat.mul_comm]; exact Nat.div_add_mod j k] at hp
        rw [hp, get_flatK _ _ _ _ (by simpa using hj)]
        have e1 : l.toArray[j / k]! = l.getD (j / k) default := by simp [List.getD, hd]
        rw [e1, getElem!_pos (encV (l.getD (j / k) default)) (j % k) hm]
      have hH : HoldsK encV k w b 0 l.toArray := by
        intro j hj
        have hj' : j < l.length * k := by simpa using hj
        have hlt : j < vs.size := by rw [hsz']; exact Nat.lt_of_lt_of_le hj' (Nat.mul_le_mul_right _ hn)
        refine ⟨?_, ?_⟩
        · rw [Nat.zero_add, id, ← hget j hj']
          simp [World.cell?, hb, Array.getD, hlt]
        · simp [World.frozen?, hb]
      have := hsome b cap w hH hblk
      refine this.mono ?_
      rintro e w' ⟨rfl, n, os, rfl⟩
      have hx := Z0u4 (encV := encV) (k := k) (w := w) (b := b) (n := n) (d := l'.toArray) (os := os)
      have hrow := Z0u5 (encV := encV) (k := k) (w := w) (b := b) (n := n) (d := l'.toArray) (os := os) hb
      have hlm : l'.length = l.length := hl'
      refine ⟨_, σ, rfl, Post.upd hi hloc rfl hx (by simp) (.row _ _ _ b cap _ t hrow hn hmax (by simp [Sort.putCells, hsz']) (fun i hi' => by simp [hk]) (fun i hi' j p e => ?_) (fun i hi' => ?_)) (.pv _ _ (.tup _ _ rfl fun i p e => by simp at e))⟩
      · rw [List.getElem?_map] at e
        cases hq : (encV (l'.getD i default))[j]? with
        | none => rw [hq] at e; cases e
        | some q =>
          rw [hq] at e; cases e
          have hj : j < k := by have := (List.getElem?_eq_some_iff.1 hq).1; rwa [hk] at this
          have hlt : i * k + j < l.length * k := idx_lt hi' hj
          have hltv : i * k + j < vs.size := by rw [hsz']; exact Nat.lt_of_lt_of_le hlt (Nat.mul_le_mul_right _ hn)
          have : (Sort.putCells id 0 (flatK encV k l'.toArray) vs).getD (i * k + j) undef = q := by
            simp only [Sort.putCells, Array.getD, Array.size_mapIdx, hltv, dif_pos, Array.getInternal_eq_getElem, Array.getElem_mapIdx]
            rw [if_pos (by simp [hlm]; exact hlt)]
            rw [Nat.sub_zero, id, get_flatK _ _ _ _ (by simp [hlm]; exact hlt)]
            have e1 : (i * k + j) / k = i := by rw [Nat.add_comm, Nat.add_mul_div_right _ _ (by omega), Nat.div_eq_of_lt hj, Nat.zero_add]
            have e2 : (i * k + j) % k = j := by rw [Nat.add_comm, Nat.add_mul_mod_self_right, Nat.mod_eq_of_lt hj]
            rw [e1, e2]
            have e3 : l'.toArray[i]! = l'.getD i default := by
              have : i < l'.length := by omega
              simp [List.getD, this]
            rw [e3]
            have hj2 := (List.getElem?_eq_some_iff.1 hq)
            obtain ⟨h3, h4⟩ := hj2
            rw [getElem!_pos (encV (l'.getD i default)) j h3, h4]
          rw [this]; exact .val q
      · have hltv : i < vs.size := by simpa [Sort.putCells] using hi'
        simp only [Sort.putCells, Array.getD, Array.size_mapIdx, hltv, dif_pos, Array.getInternal_eq_getElem, Array.getElem_mapIdx]
        split
        · rename_i hc
          have hf : i - 0 < (flatK encV k l'.toArray).size := by
            have := hc.2
            simp only [Nat.zero_add, Nat.sub_zero] at this ⊢
            exact this
          have k0 : 0 < k := by rcases Nat.eq_zero_or_pos k with h | h; · subst h; simp at hf
                                · exact h
          rw [id, get_flatK _ _ _ _ (by simpa using hf)]
          have hm : (i - 0) % k < (encV l'.toArray[(i - 0) / k]!).length := by rw [hk]; exact Nat.mod_lt _ k0
          rw [getElem!_pos (encV l'.toArray[(i - 0) / k]!) ((i - 0) % k) hm]
          exact h1 _ _ (List.getElem_mem hm)
        · have := hone i hltv
          simpa [Array.getD, hltv] using this
end
theorem Z0ky {α β:Type} [Inhabited α] [Inhabited β] (f:α→β) (d:Array α) {i:Nat} (hi:i < d.size):(d.map f)[i]! = f d[i]!:=by
 rw [getElem!_pos (d.map f) i (by simpa using hi),getElem!_pos d i hi,Array.getElem_map]
theorem Z0eo {d:Array (List UInt8)}:flatK (fun s=>[Proofs.encStr s]) 1 d=d.map Proofs.encStr:=by
 apply Array.ext
 ·simp [flatK]
 ·intro i h1 h2
  have hi:i < d.size:=by simpa using h2
  simp [flatK,Nat.div_one,Nat.mod_one,hi]
theorem Z0ov {w:World} {b:Nat} {d:Array (List UInt8)}:putRow Proofs.encStr w b 0 d=putRowK (fun s=>[Proofs.encStr s]) 1 w b 0 d:=by
 unfold putRowK putRow
 rw [Z0eo]
 congr 1
 funext c
 unfold Sort.putCells
 congr 1
 funext i x
 simp only [Array.size_map]
 split
 ·rename_i h
  have hi:i - 0 < d.size:=by omega
  exact(Z0ky Proofs.encStr d hi).symm
 ·rfl
section
variable {P:Program} {ρ:Ren}
theorem AC.sortStr (L:Proofs.Lays.n190 P ρ) (hcall:∀ (vals:Array Value) (w:World),(callFunc (ρ.f 190) vals).run P w = .ok (.enter (ρ.f 190) vals) w) (l:List ByteArray) (hl:l.length < 4611686018427387904) :
  AC P (ρ.f 190) [.own 0] [(0,.row 1 l.length fun i=>[.val (.string (l.getD i default))])] (.pv (.tup [])) [(0,.row 1 l.length fun i=>[.val (.string ((l.mergeSort fun x y=>!sLt y x).getD i default))])]:=by
 have hmap:((l.mergeSort fun x y=>!sLt y x).map fun s=>s.data.toList)=(l.map fun s:ByteArray=>s.data.toList).mergeSort fun x y=>decide (x≤y):=by
  refine List.map_mergeSort fun a _ b _=>?_
  rw [Bool.eq_iff_iff]
  simp only [Bool.not_eq_true',decide_eq_true_eq]
  rw [←Bool.not_eq_true,Z0s5]
  exact List.not_lt
 have key:=AC.inPlace (P:=P) (f:=ρ.f 190) (α:=List UInt8) 1 (fun s=>[Proofs.encStr s]) (fun _=>rfl) (fun x v hv=>by simp only [List.mem_singleton] at hv;subst hv;rfl) hcall
  (l.map fun s:ByteArray=>s.data.toList) ((l.mergeSort fun x y=>!sLt y x).map fun s=>s.data.toList) (by simp)
  (fun a cap w=>Proofs.Any.slices_Sort_string_none L a cap w)
  (fun b cap w hH hb=>by
   have hH':Holds Proofs.encStr w b 0 (l.map fun s:ByteArray=>s.data.toList).toArray:=by
    intro j hj
    have:=hH j (by rw [Z0eo];simpa using hj)
    rw [Z0eo] at this
    rw [Z0ky Proofs.encStr _ hj] at this
    exact this
   refine(Proofs.Any.slices_Sort_string L b 0 cap _ w hH' hb (by simpa using hl)).mono ?_
   rintro e w' ⟨rfl,n,os,rfl⟩
   refine⟨rfl,n,os,?_⟩
   rw [hmap,Z0ov]
   rfl)
 have e1:∀ m:List ByteArray,(fun i=>((fun s=>[Proofs.encStr s]) ((m.map fun s:ByteArray=>s.data.toList).getD i default)).map PV.val)=fun i=>[PV.val (.string (m.getD i default))]:=by
  intro m
  funext i
  by_cases hi:i < m.length
  ·simp [List.getD,hi,Proofs.encStr]
  ·simp [List.getD,hi,Proofs.encStr]
   rfl
 rw [e1,e1,List.length_map] at key
 exact key
end
end Go.Abs
namespace Go.Abs
open Go.Proofs
set_option maxRecDepth 10000
theorem Z06d (l:List ByteArray) (hl:l.length≤8388608):AC Tryz.prog 58 [.own 0] [(0,rowL 1 cstr l)] (.pv (.tup [])) [(0,rowL 1 cstr (sortedS l))]:=by
 have:=AC.sortStr Tryz.sortStr Tryz.call58 l (by omega)
 unfold rowL
 rw [Z0uc]
 exact this
end Go.Abs
namespace Go.Abs
section
variable {α:Type} [Inhabited α] {lt:α→α→Bool}
theorem Z0k8 {l k:List α} (h:l.length=k.length) (hg:∀ i,i < l.length→l.getD i default=k.getD i default):l=k:=by
 apply List.ext_getElem h
 intro i h1 h2
 have:=hg i h1
 simpa [List.getD,h1,h2] using this
def swp (l:List α) (i j:Nat):List α:=(l.set i (l.getD j default)).set j (l.getD i default)
theorem Z0xk (l:List α) (i j:Nat):(swp l i j).length=l.length:=by unfold swp;simp
theorem Z0xj {l:List α} {i j:Nat} (hi:i < l.length) (hj:j < l.length) (q:Nat):(swp l i j).getD q default=if q=j then l.getD i default else if q=i then l.getD j default else l.getD q default:=by
 unfold swp
 by_cases e:q=j
 ·subst e
  rw [if_pos rfl]
  simp only [List.getD,List.getElem?_set,List.length_set,hj,if_true,Option.getD_some]
 ·rw [if_neg e]
  by_cases e2:q=i
  ·subst e2
   rw [if_pos rfl]
   simp only [List.getD,List.getElem?_set,List.length_set,hi,if_true,Option.getD_some,if_neg (Ne.symm e)]
  ·rw [if_neg e2]
   simp only [List.getD,List.getElem?_set,if_neg (Ne.symm e),if_neg (Ne.symm e2)]
def swpTo (l:List α) (a b k:Nat):List α:=(List.range l.length).map fun q=>if a≤q∧q < a+k then l.getD (b+(q - a)) default else if b≤q∧q < b+k then l.getD (a+(q - b)) default else l.getD q default
theorem Z0xg (l:List α) (a b k:Nat):(swpTo l a b k).length=l.length:=by simp [swpTo]
theorem Z0xf {l:List α} {a b k q:Nat} (h:q < l.length):(swpTo l a b k).getD q default=if a≤q∧q < a+k then l.getD (b+(q - a)) default else if b≤q∧q < b+k then l.getD (a+(q - b)) default else l.getD q default:=by
 unfold swpTo
 simp only [List.getD,List.getElem?_map,List.getElem?_range h,Option.map_some,Option.getD_some]
theorem Z0xi (l:List α) (a b:Nat):swpTo l a b 0=l:=Z0k8 (Z0xg _ _ _ _) fun q hq=>by
 rw [Z0xg] at hq
 rw [Z0xf hq,if_neg (by omega),if_neg (by omega)]
theorem Z0xh {l:List α} {a b k:Nat} (hab:a+k < b) (hb:b+k < l.length):swp (swpTo l a b k) (a+k) (b+k)=swpTo l a b (k+1):=by
 have hl:=Z0xg l a b k
 refine Z0k8 (by rw [Z0xk,Z0xg,Z0xg]) fun q hq=>?_
 rw [Z0xk,hl] at hq
 rw [Z0xj (by omega) (by omega),Z0xf (q:=q) hq,Z0xf (q:=a+k) (by omega),Z0xf (q:=b+k) hb,Z0xf hq]
 by_cases e1:q=b+k
 ·subst e1
  rw [if_pos rfl,if_neg (by omega),if_neg (by omega),if_neg (by omega),if_pos (by omega)]
  congr 1;omega
 ·rw [if_neg e1]
  by_cases e2:q=a+k
  ·subst e2
   rw [if_pos rfl,if_neg (by omega),if_neg (by omega),if_pos (by omega)]
   congr 1;omega
  ·rw [if_neg e2]
   by_cases h1:a≤q∧q < a+k
   ·rw [if_pos h1,if_pos (by omega)]
   ·rw [if_neg h1]
    by_cases h2:b≤q∧q < b+k
    ·rw [if_pos h2,if_neg (by omega),if_pos (by omega)]
    ·rw [if_neg h2,if_neg (by omega),if_neg (by omega)]
def rot (l:List α) (a m b:Nat):List α:=(List.range l.length).map fun q=>if a≤q∧q < a+(b - m) then l.getD (m+(q - a)) default else if a+(b - m)≤q∧q < b then l.getD (a+(q - (a+(b - m)))) default else l.getD q default
theorem Z0qj (l:List α) (a m b:Nat):(rot l a m b).length=l.length:=by simp [rot]
theorem Z0qg {l:List α} {a m b q:Nat} (h:q < l.length):(rot l a m b).getD q default=if a≤q∧q < a+(b - m) then l.getD (m+(q - a)) default else if a+(b - m)≤q∧q < b then l.getD (a+(q - (a+(b - m)))) default else l.getD q default:=by
 unfold rot
 simp only [List.getD,List.getElem?_map,List.getElem?_range h,Option.map_some,Option.getD_some]
theorem Z0qi {l:List α} {m i j:Nat} (hi:i≤m) (hj:m+j≤l.length) (h:j < i):rot (swpTo l (m - i) m j) (m - (i - j)) m (m+j)=rot l (m - i) m (m+j):=by
 have hl:=Z0xg l (m - i) m j
 refine Z0k8 (by rw [Z0qj,Z0qj,hl]) fun q hq=>?_
 rw [Z0qj,hl] at hq
 rw [Z0qg (by omega),Z0qg hq]
 by_cases h1:m - (i - j)≤q∧q < m - (i - j)+(m+j - m)
 ·rw [if_pos h1,Z0xf (by omega),if_neg (by omega),if_pos (by omega),if_neg (by omega),if_pos (by omega)]
  congr 1;omega
 ·rw [if_neg h1]
  by_cases h2:m - (i - j)+(m+j - m)≤q∧q < m+j
  ·rw [if_pos h2,Z0xf (by omega),if_neg (by omega),if_neg (by omega),if_neg (by omega),if_pos (by omega)]
   congr 1;omega
  ·rw [if_neg h2,Z0xf hq]
   by_cases h3:m - i≤q∧q < m - i+j
   ·rw [if_pos h3,if_pos (by omega)]
   ·rw [if_neg h3,if_neg (by omega),if_neg (by omega),if_neg (by omega)]
theorem Z0qn {l:List α} {m i j:Nat} (hi:i≤m) (hj:m+j≤l.length) (h:i < j):rot (swpTo l (m - i) (m+j - i) i) (m - i) m (m+(j - i))=rot l (m - i) m (m+j):=by
 have hl:=Z0xg l (m - i) (m+j - i) i
 refine Z0k8 (by rw [Z0qj,Z0qj,hl]) fun q hq=>?_
 rw [Z0qj,hl] at hq
 rw [Z0qg (by omega),Z0qg hq]
 by_cases h1:m - i≤q∧q < m - i+(m+(j - i) - m)
 ·rw [if_pos h1,Z0xf (by omega),if_neg (by omega),if_neg (by omega),if_pos (by omega)]
 ·rw [if_neg h1]
  by_cases h2:m - i+(m+(j - i) - m)≤q∧q < m+(j - i)
  ·rw [if_pos h2,Z0xf (by omega),if_pos (by omega),if_pos (by omega)]
   congr 1;omega
  ·rw [if_neg h2,Z0xf hq]
   by_cases h3:m+j - i≤q∧q < m+j - i+i
   ·rw [if_neg (by omega),if_pos h3,if_neg (by omega),if_pos (by omega)]
    congr 1;omega
   ·rw [if_neg (by omega),if_neg h3,if_neg (by omega),if_neg (by omega)]
theorem Z0qh {l:List α} {m i:Nat} (hi:i≤m) (hj:m+i≤l.length):swpTo l (m - i) m i=rot l (m - i) m (m+i):=by
 refine Z0k8 (by rw [Z0qj,Z0xg]) fun q hq=>?_
 rw [Z0xg] at hq
 rw [Z0qg hq,Z0xf hq]
 by_cases h1:m - i≤q∧q < m - i+i
 ·rw [if_pos h1,if_pos (by omega)]
 ·rw [if_neg h1]
  by_cases h2:m≤q∧q < m+i
  ·rw [if_pos h2,if_neg (by omega),if_pos (by omega)]
   congr 1;omega
  ·rw [if_neg h2,if_neg (by omega),if_neg (by omega)]
end
end Go.Abs
namespace Go.Abs
section
variable {α:Type} [Inhabited α] {lt:α→α→Bool}
def seg (l:List α) (i j:Nat):List α:=(l.take j).drop i
theorem Z0st {l:List α} {i j:Nat} (hj:j≤l.length):(seg l i j).length=j - i:=by unfold seg;rw [List.length_drop,List.length_take];omega
theorem Z0ss {l:List α} {i j q:Nat} (hj:j≤l.length) (hq:i+q < j):(seg l i j).getD q default=l.getD (i+q) default:=by
 unfold seg
 simp only [List.getD,List.getElem?_drop]
 rw [List.getElem?_take_of_lt hq]
theorem Z0sq {l:List α} {i j k:Nat} (hij:i≤j) (hjk:j≤k) (hk:k≤l.length):seg l i j ++ seg l j k=seg l i k:=by
 refine Z0k8 (by rw [List.length_append,Z0st (by omega),Z0st hk,Z0st hk];omega) fun q hq=>?_
 rw [List.length_append,Z0st (by omega),Z0st hk] at hq
 rw [Z0ss hk (by omega)]
 by_cases h:q < j - i
 ·have:(seg l i j ++ seg l j k).getD q default=(seg l i j).getD q default:=by
   simp only [List.getD];rw [List.getElem?_append_left (by rw [Z0st (by omega)];exact h)]
  rw [this,Z0ss (by omega) (by omega)]
 ·have:(seg l i j ++ seg l j k).getD q default=(seg l j k).getD (q - (j - i)) default:=by
   simp only [List.getD];rw [List.getElem?_append_right (by rw [Z0st (by omega)];omega),Z0st (by omega)]
  rw [this,Z0ss hk (by omega)]
  congr 1;omega
theorem Z0su {l:List α} {i j:Nat} (hj:j≤l.length) {x:α} (h:x ∈ seg l i j):∃ q,i≤q∧q < j∧l.getD q default=x:=by
 obtain⟨q,hq,rfl⟩:=List.getElem_of_mem h
 have hq2:=hq
 rw [Z0st hj] at hq2
 refine⟨i+q,by omega,by omega,?_⟩
 rw [←Z0ss hj (by omega)]
 simp [List.getD,hq]
theorem Z0sr {l k:List α} {i j i' j':Nat} (hj:j≤l.length) (hj':j'≤k.length) (hn:j - i=j' - i') (h:∀ q,q < j - i→l.getD (i+q) default=k.getD (i'+q) default):seg l i j=seg k i' j':=by
 refine Z0k8 (by rw [Z0st hj,Z0st hj',hn]) fun q hq=>?_
 rw [Z0st hj] at hq
 rw [Z0ss hj (by omega),Z0ss hj' (by omega)]
 exact h q hq
def srtO (lt:α→α→Bool) (l:List α) (i j:Nat):Prop:=∀ p q,i≤p→p < q→q < j→lt (l.getD q default) (l.getD p default)=false
theorem Z0um {l:List α} {i j:Nat} (hj:j≤l.length) (h:srtO lt l i j):SrtO lt (seg l i j):=by
 unfold SrtO
 rw [List.pairwise_iff_getElem]
 intro p q hp hq hpq
 rw [Z0st hj] at hp hq
 have e1:=Z0ss hj (i:=i) (q:=p) (by omega)
 have e2:=Z0ss hj (i:=i) (q:=q) (by omega)
 have g1:(seg l i j)[p]=(seg l i j).getD p default:=by simp [List.getD,Z0st hj,hp]
 have g2:(seg l i j)[q]=(seg l i j).getD q default:=by simp [List.getD,Z0st hj,hq]
 rw [g1,g2,e1,e2]
 exact h _ _ (by omega) (by omega) (by omega)
def srtSeg (lt:α→α→Bool) (l:List α) (a b:Nat):List α:=l.take a ++ isortR lt (seg l a b) ++ l.drop b
theorem Z0uq {l:List α} {a b:Nat} (hab:a≤b) (hb:b≤l.length):(srtSeg lt l a b).length=l.length:=by
 unfold srtSeg
 rw [List.length_append,List.length_append,Z0ih,Z0st hb,List.length_take,List.length_drop]
 omega
theorem Z0up {l:List α} {a b:Nat} (hab:a≤b) (hb:b≤l.length) (q:Nat):(srtSeg lt l a b).getD q default=if q < a then l.getD q default else if q < b then (isortR lt (seg l a b)).getD (q - a) default else l.getD q default:=by
 have h1:(l.take a).length=a:=by rw [List.length_take];omega
 have h2:(isortR lt (seg l a b)).length=b - a:=by rw [Z0ih,Z0st hb]
 unfold srtSeg
 simp only [List.getD]
 by_cases e1:q < a
 ·rw [if_pos e1,List.append_assoc,List.getElem?_append_left (by omega),List.getElem?_take_of_lt e1]
 ·rw [if_neg e1]
  by_cases e2:q < b
  ·rw [if_pos e2,List.getElem?_append_left (by rw [List.length_append];omega),List.getElem?_append_right (by omega),h1]
  ·rw [if_neg e2,List.getElem?_append_right (by rw [List.length_append];omega),List.length_append,List.getElem?_drop]
   congr 2;omega
theorem Z0us {l:List α} {a b:Nat} (hab:a≤b) (hb:b≤l.length):seg (srtSeg lt l a b) a b=isortR lt (seg l a b):=by
 have hl:=Z0uq (lt:=lt) hab hb
 refine Z0k8 (by rw [Z0st (by omega),Z0ih,Z0st hb]) fun q hq=>?_
 rw [Z0st (by omega)] at hq
 rw [Z0ss (by omega) (by omega),Z0up hab hb,if_neg (by omega),if_pos (by omega)]
 congr 1;omega
theorem Z0uu (hw:SWO lt) {l:List α} {a b:Nat} (hab:a≤b) (hb:b≤l.length) (h:srtO lt l a b):srtSeg lt l a b=l:=by
 unfold srtSeg
 rw [Z0il hw (Z0um hb h)]
 refine Z0k8 (by rw [List.length_append,List.length_append,Z0st hb,List.length_take,List.length_drop];omega) fun q hq=>?_
 have:=Z0up (lt:=lt) hab hb q
 unfold srtSeg at this
 rw [Z0il hw (Z0um hb h)] at this
 rw [this]
 by_cases e1:q < a
 ·rw [if_pos e1]
 ·rw [if_neg e1]
  by_cases e2:q < b
  ·rw [if_pos e2,Z0ss hb (by omega)]
   congr 1;omega
  ·rw [if_neg e2]
theorem Z0xt (hw:SWO lt) {l:List α} {a m b s e mid:Nat} (has:a≤s) (hsm:s≤m) (hme:m≤e) (heb:e≤b) (hb:b≤l.length) (hmid:mid=s+(e - m)) (hL:srtO lt l a m) (hR:srtO lt l m b)
  (h1:∀ i j,a≤i→i < s→e≤j→j < b→lt (l.getD j default) (l.getD i default)=false) (h2:∀ i j,s≤i→i < m→m≤j→j < e→lt (l.getD j default) (l.getD i default)=true) :
  srtSeg lt (srtSeg lt (rot l s m e) a mid) mid b=srtSeg lt l a b:=by
 have hrl:=Z0qj l s m e
 have e1:seg (rot l s m e) a mid=seg l a s ++ seg l m e:=by
  rw [←Z0sq (l:=rot l s m e) (i:=a) (j:=s) (k:=mid) has (by omega) (by omega)]
  congr 1
  ·refine Z0sr (by omega) (by omega) rfl fun q hq=>?_
   rw [Z0qg (by omega),if_neg (by omega),if_neg (by omega)]
  ·refine Z0sr (by omega) (by omega) (by omega) fun q hq=>?_
   rw [Z0qg (by omega),if_pos (by omega)]
   congr 1;omega
 have e2:seg (rot l s m e) mid b=seg l s m ++ seg l e b:=by
  rw [←Z0sq (l:=rot l s m e) (i:=mid) (j:=e) (k:=b) (by omega) heb (by omega)]
  congr 1
  ·refine Z0sr (by omega) (by omega) (by omega) fun q hq=>?_
   rw [Z0qg (by omega),if_neg (by omega),if_pos (by omega)]
   congr 1;omega
  ·refine Z0sr (by omega) (by omega) rfl fun q hq=>?_
   rw [Z0qg (by omega),if_neg (by omega),if_neg (by omega)]
 have hst:Stb lt (seg l a b) (isortR lt (seg l a s ++ seg l m e) ++ isortR lt (seg l s m ++ seg l e b)):=by
  have:=Z0uy hw (Z0im hw (seg l a s ++ seg l m e)) (Z0im hw (seg l s m ++ seg l e b)) ?_ ?_
  ·rw [Z0sq has hsm (by omega),Z0sq hme heb hb,Z0sq (by omega) (by omega) hb] at this
   exact this
  ·intro x hx y hy
   rcases List.mem_append.1 hx with hx|hx<;>rcases List.mem_append.1 hy with hy|hy<;>obtain⟨p,p1,p2,rfl⟩:=Z0su (by omega) hx<;>obtain⟨q,q1,q2,rfl⟩:=Z0su (by omega) hy
   ·exact hL p q p1 (by omega) (by omega)
   ·exact h1 p q p1 p2 q1 q2
   ·exact hw.asymm _ _ (h2 q p q1 q2 p1 p2)
   ·exact hR p q (by omega) (by omega) (by omega)
  ·intro x hx y hy
   obtain⟨p,p1,p2,rfl⟩:=Z0su (by omega) hx
   obtain⟨q,q1,q2,rfl⟩:=Z0su (by omega) hy
   exact h2 p q p1 p2 q1 q2
 have hres:=hst.eq hw
 have hl1:=Z0uq (lt:=lt) (l:=rot l s m e) (a:=a) (b:=mid) (by omega) (by omega)
 have e3:seg (srtSeg lt (rot l s m e) a mid) mid b=seg l s m ++ seg l e b:=by
  rw [←e2]
  refine Z0sr (by omega) (by omega) rfl fun q hq=>?_
  rw [Z0up (by omega) (by omega),if_neg (by omega),if_neg (by omega)]
 refine Z0k8 (by rw [Z0uq (by omega) (by omega),Z0uq (by omega) hb];omega) fun q hq=>?_
 rw [Z0uq (by omega) (by omega),hl1,hrl] at hq
 rw [Z0up (by omega) (by omega),Z0up (by omega) hb,Z0up (by omega) (by omega),e3,e1,←hres]
 have n1:(isortR lt (seg l a s ++ seg l m e)).length=mid - a:=by rw [Z0ih,List.length_append,Z0st (by omega),Z0st (by omega)];omega
 by_cases c1:q < a
 ·rw [if_pos (by omega),if_pos c1,if_pos c1,Z0qg hq,if_neg (by omega),if_neg (by omega)]
 ·by_cases c2:q < mid
  ·rw [if_pos c2,if_neg c1,if_pos c2,if_neg c1,if_pos (by omega)]
   simp only [List.getD]
   rw [List.getElem?_append_left (by omega)]
  ·by_cases c3:q < b
   ·rw [if_neg c2,if_pos c3,if_neg c1,if_pos c3]
    simp only [List.getD]
    rw [List.getElem?_append_right (by omega),n1]
    congr 2;omega
   ·rw [if_neg c2,if_neg c3,if_neg c1,if_neg c2,if_neg c1,if_neg c3,Z0qg hq,if_neg (by omega),if_neg (by omega)]
end
end Go.Abs
namespace Go.Abs
section
variable {α:Type} [Inhabited α] {lt:α→α→Bool}
theorem Z0ul (hw:SWO lt) {l:List α} {i j:Nat} (h:srtO lt l i j) {p q:Nat} (hp:i≤p) (hpq:p≤q) (hq:q < j):lt (l.getD q default) (l.getD p default)=false:=by
 rcases Nat.lt_or_ge p q with e|e
 ·exact h p q hp e hq
 ·rw [show q=p from by omega];exact hw.irrefl _
def symLo (a m b:Nat):Nat:=if (a+b) / 2 < m then (a+b) / 2+m - b else a
def symHi (a m b:Nat):Nat:=if (a+b) / 2 < m then (a+b) / 2 else m
theorem Z0xp {a m b:Nat} (ham:a < m) (hmb:m < b):a≤symLo a m b∧symLo a m b≤symHi a m b∧symHi a m b≤m∧(∀ c,symLo a m b≤c→c < symHi a m b→m≤(a+b) / 2+m - 1 - c∧(a+b) / 2+m - 1 - c < b∧c < (a+b) / 2+m)∧∀ s,symLo a m b≤s→s≤symHi a m b→m≤(a+b) / 2+m - s∧(a+b) / 2+m - s≤b:=by
 unfold symLo symHi
 split
 ·exact⟨by omega,by omega,by omega,fun c h1 h2=>by omega,fun s h1 h2=>by omega⟩
 ·exact⟨by omega,by omega,by omega,fun c h1 h2=>by omega,fun s h1 h2=>by omega⟩
def symQ (lt:α→α→Bool) (l:List α) (a m b c:Nat):Bool:=lt (l.getD ((a+b) / 2+m - 1 - c) default) (l.getD c default)
theorem Z0xn (hw:SWO lt) {l:List α} {a m b:Nat} (ham:a < m) (hmb:m < b) (hL:srtO lt l a m) (hR:srtO lt l m b) {c c':Nat} (h:symQ lt l a m b c=false) (h1:symLo a m b≤c') (h2:c'≤c) (h3:c < symHi a m b):symQ lt l a m b c'=false:=by
 obtain⟨b1,b2,b3,b4,_⟩:=Z0xp ham hmb
 have b5:=b4 c (by omega) h3
 have b6:=b4 c' h1 (by omega)
 unfold symQ at h ⊢
 have e1:=Z0ul hw hR (p:=(a+b) / 2+m - 1 - c) (q:=(a+b) / 2+m - 1 - c') (by omega) (by omega) (by omega)
 have e2:=Z0ul hw hL (p:=c') (q:=c) (by omega) h2 (by omega)
 exact hw.trans _ _ _ (hw.trans _ _ _ e1 h) e2
theorem Z0xo (hw:SWO lt) {l:List α} {a m b:Nat} (ham:a < m) (hmb:m < b) (hL:srtO lt l a m) (hR:srtO lt l m b) {c c':Nat} (h:symQ lt l a m b c=true) (h1:symLo a m b≤c) (h2:c≤c') (h3:c' < symHi a m b):symQ lt l a m b c'=true:=by
 cases e:symQ lt l a m b c' with
 |true=>rfl
 |false=>rw [Z0xn hw ham hmb hL hR e h1 h2 h3] at h;cases h
theorem Z0xq (hw:SWO lt) {l:List α} {a m b s:Nat} (ham:a < m) (hmb:m < b) (hb:b≤l.length) (hL:srtO lt l a m) (hR:srtO lt l m b) (hlo:symLo a m b≤s) (hhi:s≤symHi a m b)
  (h1:∀ c,symLo a m b≤c→c < s→symQ lt l a m b c=false) (h2:∀ c,s≤c→c < symHi a m b→symQ lt l a m b c=true) :
  srtSeg lt (srtSeg lt (rot l s m ((a+b) / 2+m - s)) a ((a+b) / 2)) ((a+b) / 2) b=srtSeg lt l a b:=by
 obtain⟨b1,b2,b3,b4,b5⟩:=Z0xp ham hmb
 have b6:=b5 s hlo hhi
 have b7:symLo a m b=(if (a+b) / 2 < m then (a+b) / 2+m - b else a):=rfl
 have b8:symHi a m b=(if (a+b) / 2 < m then (a+b) / 2 else m):=rfl
 have hm1:a≤(a+b) / 2∧(a+b) / 2≤b:=by omega
 generalize hmid:(a+b) / 2=mid at *
 refine Z0xt hw (by omega) (by omega) b6.1 b6.2 hb (by omega) hL hR (fun i j i1 i2 j1 j2=>?_) (fun i j i1 i2 j1 j2=>?_)
 ·by_cases e:symLo a m b < s
  ·have q:=h1 (s - 1) (by omega) (by omega)
   unfold symQ at q
   rw [hmid,show mid+m - 1 - (s - 1)=mid+m - s from by omega] at q
   have e1:=Z0ul hw hR (p:=mid+m - s) (q:=j) b6.1 j1 j2
   have e2:=Z0ul hw hL (p:=i) (q:=s - 1) i1 (by omega) (by omega)
   exact hw.trans _ _ _ (hw.trans _ _ _ e1 q) e2
  ·exfalso
   split at b7<;>omega
 ·by_cases e:s < symHi a m b
  ·have q:=h2 s (Nat.le_refl _) e
   unfold symQ at q
   rw [hmid] at q
   have b9:=b4 s hlo e
   have e1:=Z0ul hw hR (p:=j) (q:=mid+m - 1 - s) j1 (by omega) (by omega)
   have e2:=Z0ul hw hL (p:=s) (q:=i) (by omega) i1 i2
   exact hw.lt_le (hw.le_lt e1 q) e2
  ·exfalso
   split at b8<;>omega
theorem Z0xr (hw:SWO lt) {l:List α} {a b i:Nat} (hi:a+1≤i) (hib:i≤b) (hb:b≤l.length) (hR:srtO lt l (a+1) b) (h1:∀ q,a+1≤q→q < i→lt (l.getD q default) (l.getD a default)=true) (h2:∀ q,i≤q→q < b→lt (l.getD q default) (l.getD a default)=false) :
  srtSeg lt l a b=rot l a (a+1) i:=by
 have hrl:=Z0qj l a (a+1) i
 have hL:srtO lt l a (a+1):=fun p q p1 p2 p3=>by omega
 rw [←Z0xt hw (s:=a) (m:=a+1) (e:=i) (mid:=a+(i - (a+1))) (Nat.le_refl _) (by omega) hi hib hb rfl hL hR (fun p q p1 p2=>by omega) (fun p q p1 p2 q1 q2=>by rw [show p=a from by omega];exact h1 q q1 q2)]
 have s1:srtSeg lt (rot l a (a+1) i) a (a+(i - (a+1)))=rot l a (a+1) i:=Z0uu hw (by omega) (by omega) fun p q p1 p2 p3=>by
  rw [Z0qg (by omega),Z0qg (by omega),if_pos (by omega),if_pos (by omega)]
  exact hR _ _ (by omega) (by omega) (by omega)
 rw [s1]
 refine Z0uu hw (by omega) (by omega) fun p q p1 p2 p3=>?_
 rw [Z0qg (q:=q) (by omega),if_neg (by omega),if_neg (by omega),Z0qg (q:=p) (by omega),if_neg (by omega)]
 by_cases e:p < i
 ·rw [if_pos (by omega),show a+(p - (a+(i - (a+1))))=a from by omega]
  exact h2 q (by omega) p3
 ·rw [if_neg (by omega)]
  exact hR p q (by omega) p2 p3
theorem Z0xs (hw:SWO lt) {l:List α} {a m i:Nat} (hi:a≤i) (him:i≤m) (hb:m+1≤l.length) (hL:srtO lt l a m) (h1:∀ q,a≤q→q < i→lt (l.getD m default) (l.getD q default)=false) (h2:∀ q,i≤q→q < m→lt (l.getD m default) (l.getD q default)=true) :
  srtSeg lt l a (m+1)=rot l i m (m+1):=by
 have hrl:=Z0qj l i m (m+1)
 have hR:srtO lt l m (m+1):=fun p q p1 p2 p3=>by omega
 rw [←Z0xt hw (s:=i) (m:=m) (e:=m+1) (mid:=i+1) hi him (by omega) (Nat.le_refl _) hb (by omega) hL hR (fun p q p1 p2 q1 q2=>by omega) (fun p q p1 p2 q1 q2=>by rw [show q=m from by omega];exact h2 p p1 p2)]
 have s1:srtSeg lt (rot l i m (m+1)) a (i+1)=rot l i m (m+1):=Z0uu hw (by omega) (by omega) fun p q p1 p2 p3=>by
  rw [Z0qg (q:=p) (by omega),if_neg (by omega),if_neg (by omega),Z0qg (q:=q) (by omega)]
  by_cases e:q=i
  ·rw [if_pos (by omega),show m+(q - i)=m from by omega]
   exact h1 p p1 (by omega)
  ·rw [if_neg (by omega),if_neg (by omega)]
   exact hL p q p1 p2 (by omega)
 rw [s1]
 refine Z0uu hw (by omega) (by omega) fun p q p1 p2 p3=>?_
 rw [Z0qg (q:=p) (by omega),if_neg (by omega),if_pos (by omega),Z0qg (q:=q) (by omega),if_neg (by omega),if_pos (by omega)]
 exact hL _ _ (by omega) (by omega) (by omega)
end
end Go.Abs
namespace Go.Abs
section
variable {α:Type} [Inhabited α] {lt:α→α→Bool}
theorem Z0ut (hw:SWO lt) {l:List α} {a b:Nat} (hab:a≤b) (hb:b≤l.length):srtO lt (srtSeg lt l a b) a b:=by
 have hl:=Z0uq (lt:=lt) hab hb
 intro p q p1 p2 p3
 rw [Z0up hab hb,Z0up hab hb,if_neg (by omega),if_pos p3,if_neg (by omega),if_pos (by omega)]
 have h:=(Z0im hw (seg l a b)).1
 unfold SrtO at h
 rw [List.pairwise_iff_getElem] at h
 have n:(isortR lt (seg l a b)).length=b - a:=by rw [Z0ih,Z0st hb]
 have:=h (p - a) (q - a) (by omega) (by omega) (by omega)
 simpa [List.getD,n,show p - a < b - a by omega,show q - a < b - a by omega] using this
theorem Z0un {l:List α} {a b i j:Nat} (h:srtO lt l a b) (hi:a≤i) (hj:j≤b):srtO lt l i j:=fun p q p1 p2 p3=>h p q (by omega) p2 (by omega)
theorem Z0uo (hw:SWO lt) {l:List α} {a b i j:Nat} (hai:a≤i) (hij:i≤j) (hjb:j≤b) (hb:b≤l.length):srtSeg lt (srtSeg lt l i j) a b=srtSeg lt l a b:=by
 have hl:=Z0uq (lt:=lt) hij (show j≤l.length by omega)
 have e:seg (srtSeg lt l i j) a b=seg l a i ++ (isortR lt (seg l i j) ++ seg l j b):=by
  rw [←Z0sq hai (show i≤b by omega) (by omega),←Z0sq hij hjb (by omega),Z0us hij (by omega)]
  congr 1
  ·refine Z0sr (by omega) (by omega) rfl fun q hq=>?_
   rw [Z0up hij (by omega),if_pos (by omega)]
  ·congr 1
   refine Z0sr (by omega) hb rfl fun q hq=>?_
   rw [Z0up hij (by omega),if_neg (by omega),if_neg (by omega)]
 have hs:isortR lt (seg (srtSeg lt l i j) a b)=isortR lt (seg l a b):=by
  refine Stb.eq hw ⟨(Z0im hw _).1,fun z=>?_⟩
  rw [(Z0im hw _).2 z,e,←Z0sq hai (show i≤b by omega) hb,←Z0sq hij hjb hb]
  simp only [List.filter_append]
  rw [(Z0im hw (seg l i j)).2 z]
 refine Z0k8 (by rw [Z0uq (by omega) (by omega),Z0uq (by omega) hb,hl]) fun q hq=>?_
 rw [Z0up (by omega) (by omega),Z0up (by omega) hb,hs]
 by_cases c1:q < a
 ·rw [if_pos c1,if_pos c1,Z0up hij (by omega),if_pos (by omega)]
 ·rw [if_neg c1,if_neg c1]
  by_cases c2:q < b
  ·rw [if_pos c2,if_pos c2]
  ·rw [if_neg c2,if_neg c2,Z0up hij (by omega),if_neg (by omega),if_neg (by omega)]
theorem Z0ur {l:List α} {i j a b:Nat} (hij:i≤j) (hj:j≤l.length) (h:b≤i∨j≤a) (hs:srtO lt l a b):srtO lt (srtSeg lt l i j) a b:=fun p q p1 p2 p3=>by
 have e:∀ x,a≤x→x < b→(srtSeg lt l i j).getD x default=l.getD x default:=fun x h1 h2=>by
  rw [Z0up hij hj]
  by_cases c1:x < i
  ·rw [if_pos c1]
  ·rw [if_neg c1,if_neg (by omega)]
 rw [e p p1 (by omega),e q (by omega) p3]
 exact hs p q p1 p2 p3
theorem Z0qf {l:List α} {i j:Nat} (hj:0 < j) (hji:j≤i) (hi:i < l.length):swp (rot l j i (i+1)) j (j - 1)=rot l (j - 1) i (i+1):=by
 have hl:=Z0qj l j i (i+1)
 refine Z0k8 (by rw [Z0xk,hl,Z0qj]) fun q hq=>?_
 rw [Z0xk,hl] at hq
 rw [Z0xj (by omega) (by omega),Z0qg (q:=j) (by omega),Z0qg (q:=j - 1) (by omega),Z0qg (q:=q) (by omega),Z0qg (q:=q) (by omega)]
 by_cases e1:q=j - 1
 ·subst e1
  rw [if_pos rfl,if_pos (by omega),if_pos (by omega)]
  congr 1;omega
 ·rw [if_neg e1]
  by_cases e2:q=j
  ·subst e2
   rw [if_pos rfl,if_neg (by omega),if_neg (by omega),if_neg (by omega),if_pos (by omega)]
   congr 1;omega
  ·rw [if_neg e2,if_neg (by omega)]
   by_cases c:j+(i+1 - i)≤q∧q < i+1
   ·rw [if_pos c,if_neg (by omega),if_pos (by omega)]
    congr 1;omega
   ·rw [if_neg c,if_neg (by omega),if_neg (by omega)]
theorem Z0ql {l:List α} {i:Nat} (hi:i < l.length):rot l i i (i+1)=l:=by
 refine Z0k8 (Z0qj _ _ _ _) fun q hq=>?_
 rw [Z0qj] at hq
 rw [Z0qg hq]
 by_cases c:i≤q∧q < i+(i+1 - i)
 ·rw [if_pos c];congr 1;omega
 ·rw [if_neg c,if_neg (by omega)]
theorem Z0i6 (hw:SWO lt) {l:List α} {a i j:Nat} (haj:a≤j) (hji:j≤i) (hi:i < l.length) (h1:∀ q,j≤q→q < i→lt (l.getD i default) ((srtSeg lt l a i).getD q default)=true)
  (h2:a < j→lt (l.getD i default) ((srtSeg lt l a i).getD (j - 1) default)=false):rot (srtSeg lt l a i) j i (i+1)=srtSeg lt l a (i+1):=by
 have hl:=Z0uq (lt:=lt) (l:=l) (a:=a) (b:=i) (by omega) (by omega)
 have hs:=Z0ut hw (l:=l) (a:=a) (b:=i) (by omega) (by omega)
 have hx:(srtSeg lt l a i).getD i default=l.getD i default:=by rw [Z0up (by omega) (by omega),if_neg (by omega),if_neg (by omega)]
 rw [←Z0uo hw (Nat.le_refl a) (show a≤i by omega) (Nat.le_succ i) (show i+1≤l.length by omega)]
 refine(Z0xs hw haj hji (by omega) hs (fun q q1 q2=>?_) (fun q q1 q2=>by rw [hx];exact h1 q q1 q2)).symm
 rw [hx]
 exact hw.trans _ _ _ (h2 (by omega)) (Z0ul hw hs (p:=q) (q:=j - 1) q1 (by omega) (by omega))
theorem Z0uw (hw:SWO lt) {l cur:List α} (hl:cur.length=l.length) (h1:srtSeg lt cur 0 cur.length=srtSeg lt l 0 l.length) (h2:srtO lt cur 0 cur.length):cur=isortR lt l:=by
 have e:∀ k:List α,srtSeg lt k 0 k.length=isortR lt k:=fun k=>by
  unfold srtSeg seg;simp
 rw [←e l,←h1,Z0uu hw (Nat.zero_le _) (Nat.le_refl _) h2]
end
end Go.Abs
namespace Go.Abs
section
variable {α:Type} [Inhabited α] {lt:α→α→Bool}
inductive DoneB (lt:α→α→Bool) (l:List α) (B:Nat):Nat→Prop where
 |zero:DoneB lt l B 0
 |step (a:Nat) (h:DoneB lt l B a) (hs:srtO lt l a (a+B)):DoneB lt l B (a+B)
inductive RestB (lt:α→α→Bool) (l:List α) (B n:Nat):Nat→Prop where
 |last (a:Nat) (h:n≤a+B) (hs:srtO lt l a n):RestB lt l B n a
 |step (a:Nat) (hs:srtO lt l a (a+B)) (h:RestB lt l B n (a+B)):RestB lt l B n a
theorem DoneB.out {l:List α} {B a i j:Nat} (h:DoneB lt l B a) (hij:i≤j) (hj:j≤l.length) (hi:a≤i):DoneB lt (srtSeg lt l i j) B a:=by
 induction h with
 |zero=>exact .zero
 |step a h hs ih=>exact .step a (ih (by omega)) (Z0ur hij hj (.inl hi) hs)
theorem RestB.out {l:List α} {B n a i j:Nat} (h:RestB lt l B n a) (hij:i≤j) (hj:j≤l.length) (ha:j≤a):RestB lt (srtSeg lt l i j) B n a:=by
 induction h with
 |last a h hs=>exact .last a h (Z0ur hij hj (.inr ha) hs)
 |step a hs h ih=>exact .step a (Z0ur hij hj (.inr ha) hs) (ih (by omega))
theorem DoneB.rest {l:List α} {B n a:Nat} (h:DoneB lt l B a) (hr:RestB lt l B n a):RestB lt l B n 0:=by
 induction h with
 |zero=>exact hr
 |step a h hs ih=>exact ih (.step a hs hr)
theorem RestB.whole {l:List α} {B n:Nat} (h:RestB lt l B n 0) (hB:n≤B):srtO lt l 0 n:=by
 cases h with
 |last _ _ hs=>exact hs
 |step _ hs _=>exact Z0un hs (Nat.le_refl _) (by omega)
theorem Z0a5 (hw:SWO lt) {l:List α} {B n a:Nat} (hB:0 < B) (hn:n≤l.length) (hab:a+2 * B≤n) (hd:DoneB lt l (2 * B) a) (hr:RestB lt l B n a) :
  srtO lt l a (a+B)∧srtO lt l (a+B) (a+2 * B)∧DoneB lt (srtSeg lt l a (a+2 * B)) (2 * B) (a+2 * B)∧RestB lt (srtSeg lt l a (a+2 * B)) B n (a+2 * B):=by
 have e2:a+B+B=a+2 * B:=by omega
 have key:srtO lt l a (a+B)∧srtO lt l (a+B) (a+2 * B)∧RestB lt l B n (a+2 * B):=by
  cases hr with
  |last _ h _=>omega
  |step _ hs h=>
   cases h with
   |last _ h hs2=>
    have:n=a+2 * B:=by omega
    subst this
    exact⟨hs,hs2,.last _ (by omega) fun p q p1 p2 p3=>by omega⟩
   |step _ hs2 h2=>rw [e2] at hs2 h2;exact⟨hs,hs2,h2⟩
 obtain⟨k1,k2,k3⟩:=key
 exact⟨k1,k2,.step a (hd.out (by omega) (by omega) (Nat.le_refl _)) (Z0ut hw (by omega) (by omega)),k3.out (by omega) (by omega) (Nat.le_refl _)⟩
theorem Z0a1 (hw:SWO lt) {l:List α} {B n a:Nat} (hn:n≤l.length) (hab:n < a+2 * B) (hm:a+B < n) (hd:DoneB lt l (2 * B) a) (hr:RestB lt l B n a) :
  srtO lt l a (a+B)∧srtO lt l (a+B) n∧RestB lt (srtSeg lt l a n) (2 * B) n 0:=by
 have key:srtO lt l a (a+B)∧srtO lt l (a+B) n:=by
  cases hr with
  |last _ h _=>omega
  |step _ hs h=>
   cases h with
   |last _ h hs2=>exact⟨hs,hs2⟩
   |step _ hs2 h2=>exact⟨hs,Z0un hs2 (Nat.le_refl _) (by omega)⟩
 exact⟨key.1,key.2,(hd.out (by omega) hn (Nat.le_refl _)).rest (.last a (by omega) (Z0ut hw (by omega) hn))⟩
theorem Z0a2 {l:List α} {B n a:Nat} (hm:n≤a+B) (hd:DoneB lt l (2 * B) a) (hr:RestB lt l B n a):RestB lt l (2 * B) n 0:=by
 refine hd.rest (.last a (by omega) ?_)
 cases hr with
 |last _ _ hs=>exact hs
 |step _ hs _=>exact Z0un hs (Nat.le_refl _) hm
theorem Z0a3 (hw:SWO lt) {l:List α} {B a:Nat} (hb:a+B≤l.length) (hd:DoneB lt l B a):DoneB lt (srtSeg lt l a (a+B)) B (a+B):=
 .step a (hd.out (by omega) hb (Nat.le_refl _)) (Z0ut hw (by omega) hb)
theorem Z0a4 (hw:SWO lt) {l:List α} {B n a:Nat} (han:a≤n) (hn:n≤l.length) (hb:n < a+B) (hd:DoneB lt l B a):RestB lt (srtSeg lt l a n) B n 0:=
 (hd.out han hn (Nat.le_refl _)).rest (.last a (by omega) (Z0ut hw han hn))
end
end Go.Abs
namespace Go.Abs
open Go.Proofs
set_option maxRecDepth 10000
theorem Z0xl {l:List Write} {i j:Nat} (hi:i < l.length) (hj:j < l.length) (q:Nat):PSubs (updAt (updAt (fun q=>cWrite (l.getD q default)) i 0 (cWrite (l.getD j default))) j 0 (cWrite (l.getD i default)) q) (cWrite ((swp l i j).getD q default)):=by
 rw [Z0xj hi hj]
 by_cases e:q=j
 ·subst e
  rw [if_pos rfl,Z0yg]
  by_cases e2:q=i
  ·subst e2;rw [Z0yg];exact PSubs.rfl
  ·rw [Z0yf e2];exact PSubs.rfl
 ·rw [if_neg e,Z0yf e]
  by_cases e2:q=i
  ·subst e2;rw [if_pos rfl,Z0yg];exact PSubs.rfl
  ·rw [if_neg e2,Z0yf e2];exact PSubs.rfl
set_option maxHeartbeats 1000000 in
theorem Z06h (l:List Write) (a b n:Nat) (isB:Bool) (D:List PV→Prop) (gb:List PV→Bool) (gi:List PV→Int) (hl:l.length≤1048576) (hab:a+n≤b) (hb:b+n≤l.length) :
  AC Tryz.prog 216 [.own 900000,.pv (vint a),.pv (vint b),.pv (vint n),.clo D isB gb gi] [(900000,rowL 10 cWrite l)] (.pv (.tup [])) [(900000,rowL 10 cWrite (swpTo l a b n))]:=by
 refine AC.of_awp_gen (T:=T) T_ok hm Tryz.call216 Tryz.func216 rfl rfl rfl rfl rfl rfl ?_
 conv=>whnf
 refine loop_k (ι:=Nat) [0,1,2,3] [] (fun k=>k≤n) (fun k=>n - k) 0 (fun k=>[(10,.pv (vint k))]) (fun k=>[(900000,rowL 10 cWrite (swpTo l a b k))]) [] (Nat.zero_le _) ?_ (fun k hk=>?_)
 ·rw [Z0xi]
  (repeat' (first|exact PSub.rfl|exact rfl|exact PSubs.rfl|exact trivial|exact PSub.lit_sb rfl|refine And.intro ?_ ?_))
  intro i hi;exact PSubs.rfl
 have hsl:=Z0xg l a b k
 conv=>whnf
 repeat (any_goals (first
  |(refine⟨fun(h:(_:Bool)=true)=>?_,fun(h:(_:Bool)=false)=>?_⟩<;>(try simp only [Q0,Q1,Q2,Q3,Q4,Q5,Q6,Q7,Q8,reduceCtorEq] at h)<;>(conv=>whnf))
  |(refine And.intro (by(try simp only [Int.toNat_natCast]);omega) ?_;conv=>whnf)
  |(refine And.intro (show(_:Bool)=true from by kernel_rfl) ?_;conv=>whnf)
  |(refine .inl ⟨wrap64 (by omega),?_⟩;conv=>whnf)))
 ·refine⟨k+1,[],by omega,by omega,?_⟩
  rw [←Z0xh (l:=l) (a:=a) (b:=b) (k:=k) (by omega) (by omega)]
  have hr:=fun q=>Z0xl (l:=swpTo l a b k) (i:=a+k) (j:=b+k) (by omega) (by omega) q
  (repeat' (first|exact PSub.rfl|exact rfl|exact PSubs.rfl|exact trivial|exact PSub.lit_sb rfl|refine And.intro ?_ ?_))
  ·rw [Z0xk]
  ·intro i hi;exact hr i
 ·have e:k=n:=by omega
  subst e
  refine⟨rfl,[],?_⟩
  (repeat' (first|exact PSub.rfl|exact rfl|exact PSubs.rfl|exact trivial|exact PSub.lit_sb rfl|refine And.intro ?_ ?_))
  intro i hi;exact PSubs.rfl
end Go.Abs
namespace Go.Abs
open Go.Proofs
set_option maxRecDepth 10000
theorem Z05o (x:Scene) (s:ByteArray):AC Tryz.prog 305 [.pv (.agg (cSce x)),.pv (.cell [vstr s])] [] (.pv (vbool (decide (x.name=s)))) []:=by
 refine AC.of_awp (T:=T) T_ok hm Tryz.call305 Tryz.func305 rfl rfl rfl ?_
 conv=>whnf
 exact .rfl
def sceB (s:ByteArray):List PV→Bool
 | [.agg (.val (.string n) :: _)]=>decide (n=s)
 |_=>false
theorem Z062 (l:List Scene) (gb:List PV→Bool) (gi:List PV→Int) (hl:smallL l):AC Tryz.prog 304 [.pv (roL 2 cSce l),.clo (fun xs=>∃ x:Scene,xs = [.agg (cSce x)]) true gb gi] [] (.pv (vint (ixI l.length (firstI l.length fun i=>gb [.agg (cSce (l.getD i default))])))) []:=by
 have hl:l.length≤1048576:=hl
 refine AC.of_awp (T:=T) T_ok hm Tryz.call304 Tryz.func304 rfl rfl rfl ?_
 conv=>whnf
 refine loop_k (ι:=Nat) [0,1,7] [] (fun k=>k≤l.length∧(∀ j,j < k→gb [.agg (cSce (l.getD j default))]=false)) (fun k=>l.length - k) 0 (fun k=>[(8,.pv (vint k))]) (fun _=>[]) [] ⟨Nat.zero_le _,fun j h=>absurd h (by omega)⟩ ?_ (fun k hk=>?_)
 ·(repeat' (first|exact PSub.rfl|exact rfl|exact PSubs.rfl|exact trivial|exact PSub.lit_sb rfl|refine And.intro ?_ ?_))
 obtain⟨hkn,hinv⟩:=hk
 conv=>whnf
 repeat (any_goals (first
  |(refine⟨fun(h:(_:Bool)=true)=>?_,fun(h:(_:Bool)=false)=>?_⟩<;>(try simp only [Q0,Q1,Q2,Q3,Q4,Q5,Q6,Q7,Q8,reduceCtorEq] at h)<;>(conv=>whnf))
  |(refine And.intro (by(try simp only [Int.toNat_natCast]);omega) ?_;conv=>whnf)))
 ·refine And.intro ⟨l.getD k default,rfl⟩ ?_
  conv=>whnf
  repeat (any_goals (first
   |(refine⟨fun(h:(_:Bool)=true)=>?_,fun(h:(_:Bool)=false)=>?_⟩<;>(try simp only [Q0,Q1,Q2,Q3,Q4,Q5,Q6,Q7,Q8,reduceCtorEq] at h)<;>(conv=>whnf))
   |(refine .inl ⟨wrap64 (by omega),?_⟩;conv=>whnf)))
  ·have e:firstI l.length (fun i=>gb [.agg (cSce (l.getD i default))])=k:=Z0ei (by omega) h hinv
   exact PSub.int (by rw [e,ixI,if_pos (by omega)])
  ·refine⟨k+1,[],⟨by omega,?_⟩,by first|omega|(dsimp only;omega),?_⟩
   rotate_left
   ·(repeat' (first|exact PSub.rfl|exact rfl|exact PSubs.rfl|exact trivial|exact PSub.lit_sb rfl|refine And.intro ?_ ?_))
   intro j hj
   by_cases e:j=k
   ·subst e;first|exact h|simpa [-List.getD_eq_getElem?_getD] using h|simp_all [-List.getD_eq_getElem?_getD]
   ·exact hinv j (by omega)
 ·have e:firstI l.length (fun i=>gb [.agg (cSce (l.getD i default))])=l.length:=Z0el fun j hj=>hinv j (by omega)
  exact PSub.int (by rw [e,ixI,if_neg (by omega)])
theorem Z063 (l:List Scene) (s:ByteArray) (hl:smallL l):AC Tryz.prog 304 [.pv (roL 2 cSce l),.fn 305 [.pv (.cell [vstr s])]] [] (.pv (vint (ixI l.length (sceAt l s)))) []:=by
 refine AC.with_fn (pre:=[.pv (roL 2 cSce l)]) (post:=[]) (Z062 l (sceB s) (fun _=>0) hl) Tryz.call305 rfl rfl rfl ?_
 rintro xs ⟨x,rfl⟩
 exact Z05o x s
theorem Z05n (l:List Scene) (s:ByteArray) (hl:smallL l) (hi:∀ i,smallL (l.getD i default).items):AC Tryz.prog 301 [.pv (roL 2 cSce l),.pv (vstr s)] [] (.pv (.tup [.agg (cSce (findS l s)),vbool (decide (sceAt l s < l.length))])) []:=by
 have hl':l.length≤1048576:=hl
 refine AC.of_awp (T:=T) T_ok hm Tryz.call301 Tryz.func301 rfl rfl rfl ?_
 conv=>whnf
 refine .inl ⟨_,Z063 l s hl,?_⟩
 conv=>whnf
 repeat (any_goals (first
  |(refine⟨fun(h:(_:Bool)=true)=>?_,fun(h:(_:Bool)=false)=>?_⟩<;>(try simp only [Q0,Q1,Q2,Q3,Q4,Q5,Q6,Q7,Q8,reduceCtorEq] at h)<;>(conv=>whnf))))
 ·have h1:¬ sceAt l s < l.length:=fun hh=>by rw [ixI,if_pos hh] at h;omega
  rw [findS,if_neg h1]
  refine⟨?_,?_⟩<;>(conv=>whnf)
  ·exact PSub.agg ⟨.rfl,PSub.nil_ro _ _,trivial⟩
  ·exact PSub.lit_sb (by simp [h1])
 ·have h1:sceAt l s < l.length:=(Z0iv h).1
  have h2:ixI l.length (sceAt l s)=(sceAt l s:Int):=(Z0iv h).2
  rw [findS,if_pos h1,h2]
  refine And.intro (by omega) ?_
  conv=>whnf
  refine .inr (.inl ⟨_,_,_,Z05q (l.getD (sceAt l s) default).items.length (fun i=>cItem ((l.getD (sceAt l s) default).items.getD i default)) (hi _),?_⟩)
  conv=>whnf
  refine⟨?_,?_⟩<;>(conv=>whnf)
  ·exact .rfl
  ·exact PSub.lit_sb (by simp [h1])
end Go.Abs
namespace Go.Abs
open Go.Proofs
set_option maxRecDepth 10000
theorem Z0dv {l:List Item} {q:Key} {k:Nat} (hk:k < l.length) (h:(l.getD k default).key=q) (hf:∀ j,j < k→(l.getD j default).key≠q):findI l q=some (l.getD k default):=by
 unfold findI
 rw [List.find?_eq_some_iff_getElem]
 refine⟨decide_eq_true h,k,hk,(Z0g2 _ _ hk).symm,fun j hj=>?_⟩
 have:=hf j hj
 rw [Z0g2 _ _ (show j < l.length by omega)] at this
 simp [this]
theorem Z0e0 {l:List Item} {q:Key} (hf:∀ j,j < l.length→(l.getD j default).key≠q):findI l q=none:=by
 unfold findI
 rw [List.find?_eq_none]
 intro x hx
 obtain⟨j,hj,rfl⟩:=List.getElem_of_mem hx
 have:=hf j hj
 rw [Z0g2 _ _ hj] at this
 simp [this]
theorem atV_at {l:List Item} {q:Key} {k:Nat} (hk:k < l.length) (h:(l.getD k default).key=q) (hf:∀ j,j < k→(l.getD j default).key≠q):atV l q=itV (l.getD k default).value:=by
 unfold atV
 rw [Z0dv hk h hf]
theorem Z0ew {x:Val} (h:x.kind=0):fndV x=(noVal,false):=if_pos h
theorem Z0ey {x:Val} (h:x.kind≠0):fndV x=(x,true):=if_neg h
theorem Z0ex (b:Bool):fndV (truV b)=(truV b,true):=Z0ey (by simp [truV])
theorem Z00w (v:Vw) (q:Key) (hv:smallV2 v):AC Tryz.prog 147 [.pv (.agg (cVw v)),.pv (.agg (cKey q))] [] (.pv (.tup [.agg (cVal (fndV (atV v.items q)).1),vbool (fndV (atV v.items q)).2])) []:=by
 have hl:v.items.length≤1048576:=hv.1
 refine AC.of_awp (T:=T) T_ok hm Tryz.call147 Tryz.func147 rfl rfl rfl ?_
 conv=>whnf
 refine loop_k (ι:=Nat) [3,4,9,10] [3,4] (fun k=>k≤v.items.length∧(∀ j,j < k→(v.items.getD j default).key≠q)) (fun k=>v.items.length - k) 0 (fun k=>[(11,.pv (vint k))]) (fun _=>[]) [] ⟨Nat.zero_le _,fun j h=>absurd h (by omega)⟩ ?_ (fun k hk=>?_)
 ·(repeat' (first|exact PSub.rfl|exact rfl|exact PSubs.rfl|exact trivial|exact PSub.lit_sb rfl|refine And.intro ?_ ?_))
 obtain⟨hkn,hinv⟩:=hk
 conv=>whnf
 refine⟨fun h=>?_,fun h=>?_⟩<;>(try simp only [Q0,Q1,Q2,Q3,Q4,Q5,Q6,Q7,Q8,reduceCtorEq] at h)<;>(conv=>whnf)
 ·have hk:k < v.items.length:=by omega
  repeat (any_goals (first
   |(refine⟨fun(h:(_:Bool)=true)=>?_,fun(h:(_:Bool)=false)=>?_⟩<;>(try simp only [Q0,Q1,Q2,Q3,Q4,Q5,Q6,Q7,Q8,reduceCtorEq] at h)<;>(conv=>whnf))
   |(refine .inl ⟨_,Z07b (v.items.getD k default).value,?_⟩;conv=>whnf)
   |(refine .inl ⟨_,Z015,?_⟩;conv=>whnf)
   |(refine And.intro (by(try simp only [Int.toNat_natCast]);omega) ?_;conv=>whnf)
   |(refine .inl ⟨wrap64 (by omega),?_⟩;conv=>whnf)))
  ·rename_i h1
   have e1:=of_decide_eq_true ((key_eq _ _).symm.trans h1)
   have e2:fndV (atV v.items q)=(noVal,false):=by
    rw [atV_at hk e1 hinv]
    refine Z0ew ?_
    unfold itV
    by_cases hb:valE (v.items.getD k default).value≠0
    ·rw [if_pos hb];rfl
    ·rw [if_neg hb];exact h
   rw [e2]
   refine⟨?_,?_⟩<;>(conv=>whnf)
   ·repeat' (first|exact PSub.rfl|exact PSub.nil_ro _ _|exact PSub.lit_sb rfl|exact trivial|exact Z085|refine PSub.agg ?_|refine PSub.ro rfl ?_|refine Z084 ?_ ?_|refine And.intro ?_ ?_)
   ·repeat' (first|exact PSub.rfl|exact PSub.nil_ro _ _|exact PSub.lit_sb rfl|exact trivial|exact Z085|refine PSub.agg ?_|refine PSub.ro rfl ?_|refine Z084 ?_ ?_|refine And.intro ?_ ?_)
  ·rename_i h1 h2
   have e1:=of_decide_eq_true ((key_eq _ _).symm.trans h1)
   have e2:fndV (atV v.items q)=(noVal,false):=by
    rw [atV_at hk e1 hinv]
    refine Z0ew ?_
    unfold itV
    rw [if_pos h];rfl
   rw [e2]
   refine⟨?_,?_⟩<;>(conv=>whnf)
   ·repeat' (first|exact PSub.rfl|exact PSub.nil_ro _ _|exact PSub.lit_sb rfl|exact trivial|exact Z085|refine PSub.agg ?_|refine PSub.ro rfl ?_|refine Z084 ?_ ?_|refine And.intro ?_ ?_)
   ·repeat' (first|exact PSub.rfl|exact PSub.nil_ro _ _|exact PSub.lit_sb rfl|exact trivial|exact Z085|refine PSub.agg ?_|refine PSub.ro rfl ?_|refine Z084 ?_ ?_|refine And.intro ?_ ?_)
  ·rename_i h1 h2
   have e1:=of_decide_eq_true ((key_eq _ _).symm.trans h1)
   have e2:fndV (atV v.items q)=((v.items.getD k default).value,true):=by
    have hn:¬ valE (v.items.getD k default).value≠0:=fun x=>x h
    rw [atV_at hk e1 hinv]
    unfold itV
    rw [if_neg hn]
    exact Z0ey h2
   rw [e2]
   refine⟨?_,?_⟩<;>(conv=>whnf)
   ·repeat' (first|exact PSub.rfl|exact PSub.nil_ro _ _|exact PSub.lit_sb rfl|exact trivial|exact Z085|refine PSub.agg ?_|refine PSub.ro rfl ?_|refine Z084 ?_ ?_|refine And.intro ?_ ?_)
   ·repeat' (first|exact PSub.rfl|exact PSub.nil_ro _ _|exact PSub.lit_sb rfl|exact trivial|exact Z085|refine PSub.agg ?_|refine PSub.ro rfl ?_|refine Z084 ?_ ?_|refine And.intro ?_ ?_)
  ·have e1:=of_decide_eq_false ((key_eq _ _).symm.trans h)
   refine⟨k+1,[],⟨by omega,?_⟩,by first|omega|(dsimp only;omega),?_⟩
   rotate_left
   ·(repeat' (first|exact PSub.rfl|exact rfl|exact PSubs.rfl|exact trivial|exact PSub.lit_sb rfl|refine And.intro ?_ ?_))
   intro j hj
   by_cases e:j=k
   ·subst e;exact e1
   ·exact hinv j (by omega)
 ·repeat (any_goals (first
   |(refine .inl ⟨_,Z015,?_⟩;conv=>whnf)))
  have e2:fndV (atV v.items q)=(noVal,false):=by
   unfold atV
   rw [Z0e0 fun j hj=>hinv j (by omega)]
   exact Z0ew rfl
  rw [e2]
  refine⟨?_,?_⟩<;>(conv=>whnf)
  ·repeat' (first|exact PSub.rfl|exact PSub.nil_ro _ _|exact PSub.lit_sb rfl|exact trivial|exact Z085|refine PSub.agg ?_|refine PSub.ro rfl ?_|refine Z084 ?_ ?_|refine And.intro ?_ ?_)
  ·repeat' (first|exact PSub.rfl|exact PSub.nil_ro _ _|exact PSub.lit_sb rfl|exact trivial|exact Z085|refine PSub.agg ?_|refine PSub.ro rfl ?_|refine Z084 ?_ ?_|refine And.intro ?_ ?_)
theorem Z08f {l:List Mem} {r:Int} {k:Nat} (hk:k < l.length) (h:isHome (l.getD k default) r=true):homeB l r=true:=by
 unfold homeB
 rw [List.any_eq_true]
 rw [Z0g2 _ _ hk] at h
 exact⟨_,List.getElem_mem hk,h⟩
theorem Z08h {l:List Mem} {r:Int} (h:∀ j,j < l.length→isHome (l.getD j default) r=false):homeB l r=false:=by
 unfold homeB
 rw [List.any_eq_false]
 intro x hx
 obtain⟨j,hj,rfl⟩:=List.getElem_of_mem hx
 have:=h j hj
 rw [Z0g2 _ _ hj] at this
 rw [this];decide
theorem Z010 (l : List Mem) (r : Int) (hl : smallL l) : AC Tryz.prog 152 [.pv (roL 5 cMem l), .pv (vint r)] [] (.pv (vbool (homeB l r))) [] := by
  have hl2 : l.length ≤ 1048576 := hl
  refine AC.of_awp (T := T) T_ok hm Tryz.call152 Tryz.func152 rfl rfl rfl ?_
  conv => whnf
  refine loop_k (ι := Nat) [1, 7, 8] [] (fun k => k ≤ l.length ∧ (∀ j, j < k → isHome (l.getD j default) r = false)) (fun k => l.length - k) 0 (fun k => [(9, .pv (vint k))]) (fun _ => []) [] ⟨Nat.zero_le _, fun j h => absurd h (by omega)⟩ ?_ (fun k hk => ?_)
  · (repeat' (first | exact PSub.rfl | exact rfl | exact PSubs.rfl | exact trivial | exact PSub.lit_sb rfl | refine And.intro ?_ ?_))
  obtain ⟨hkn, hinv⟩ := hk
  conv => whnf
  refine ⟨fun h => ?_, fun h => ?_⟩ <;> (try simp only [Q0,Q1,Q2,Q3,Q4,Q5,Q6,Q7,Q8,reduceCtorEq] at h) <;> (conv => whnf)
  · have hk : k < l.length := by omega
    repeat (any_goals (first
      | (refine ⟨fun (h : (_ : Bool) = true) => ?_, fun (h : (_ : Bool) = false) => ?_⟩ <;> (try simp only [Q0,Q1,Q2,Q3,Q4,Q5,Q6,Q7,Q8,reduceCtorEq] at h) <;> (conv => whnf))
      | (refine And.intro (by (try simp only [Int.toNat_natCast]); omega) ?_; conv => whnf)
      | (refine .inl ⟨wrap64 (by omega), ?_⟩; conv => whnf)))
    all_goals first
      | exact PSub.lit_sb (Z08f hk (by unfold isHome; simp_all)).symm
      | skip
    all_goals (refine ⟨k + 1, [], ⟨by omega, fun j hj => ?_⟩, by omega, ?_⟩)
    all_goals first
      | (by_cases e : j = k; · subst e; unfold isHome; simp_all
         exact hinv j (by omega))
      | skip
    all_goals (repeat' (first | exact PSub.rfl | exact rfl | exact PSubs.rfl | exact trivial | refine And.intro ?_ ?_))
  · exact PSub.lit_sb (Z08h fun j hj => hinv j (by omega)).symm
end Go.Abs
namespace Go.Abs
open Go.Proofs
set_option maxRecDepth 10000
theorem Z0tm {v:Val} (h:valE v=0) (hk:v.kind=2):smallV v.n:=Z0yn h hk
theorem Z013 (k:Int) (a b:Val) (ha:valE a=0) (hb:valE b=0):AC Tryz.prog 155 [.pv (vint k),.pv (.agg (cVal a)),.pv (.agg (cVal b))] []
  (.pv (.tup [.agg (cVal (fndV (if k=9 then truV (decide (a=b)) else intV k a b)).1),vbool (fndV (if k=9 then truV (decide (a=b)) else intV k a b)).2])) []:=by
 have hint:¬ (a.kind≠2∨b.kind≠2)→smallV a.n∧smallV b.n:=fun h=>⟨Z0tm ha (by omega),Z0tm hb (by omega)⟩
 refine AC.of_awp (T:=T) T_ok hm Tryz.call155 Tryz.func155 rfl rfl rfl ?_
 conv=>whnf
 have hv:=val_eq a b
 have sp:∀ x,(if k=9 then truV (decide (a=b)) else intV k a b)=x→x.kind≠0→fndV (if k=9 then truV (decide (a=b)) else intV k a b)=(x,true):=fun x e h=>by rw [e];exact Z0ey h
 repeat (any_goals (first
  |(refine⟨fun(h:(_:Bool)=true)=>?_,fun(h:(_:Bool)=false)=>?_⟩<;>(try simp only [Q0,Q1,Q2,Q3,Q4,Q5,Q6,Q7,Q8,reduceCtorEq] at h)<;>(conv=>whnf))
  |(refine .inl ⟨_,Z014 _,?_⟩;conv=>whnf)
  |(refine .inl ⟨_,Z015,?_⟩;conv=>whnf)
  |(refine .inl ⟨_,Z01v a.n b.n (hint (by omega)).1.N (hint (by omega)).2.N,?_⟩;conv=>whnf)
  |(refine .inl ⟨_,Z01z a.n b.n (hint (by omega)).1.N (hint (by omega)).2.N,?_⟩;conv=>whnf)
  |(refine .inl ⟨_,Z01x a.n b.n (hint (by omega)).1 (hint (by omega)).2,?_⟩;conv=>whnf)))
 ·rw [hv,sp (truV (decide (a=b))) (if_pos h) (by simp [truV])]
  refine⟨?_,?_⟩<;>(conv=>whnf)
  ·exact PSub.rfl
  ·exact PSub.rfl
 ·rename_i h1
  rw [show fndV (if k=9 then truV (decide (a=b)) else intV k a b)=(noVal,false) from by rw [if_neg h1];unfold intV;rw [if_pos (.inl h)];rfl]
  refine⟨?_,?_⟩<;>(conv=>whnf)
  ·exact PSub.rfl
  ·exact PSub.rfl
 ·rename_i h1 h2
  rw [show fndV (if k=9 then truV (decide (a=b)) else intV k a b)=(noVal,false) from by rw [if_neg h1];unfold intV;rw [if_pos (.inr h)];rfl]
  refine⟨?_,?_⟩<;>(conv=>whnf)
  ·exact PSub.rfl
  ·exact PSub.rfl
 ·rename_i h1 h2 h3
  rw [sp (truV (decide (a.n < b.n))) (by rw [if_neg h1];unfold intV;rw [if_neg (by omega),if_pos h]) (by simp [truV])]
  refine⟨?_,?_⟩<;>(conv=>whnf)
  ·exact PSub.rfl
  ·exact PSub.rfl
 ·rename_i h1 h2 h3 h4
  rw [sp ⟨2,satI (a.n+b.n),⟨#[]⟩⟩ (by rw [if_neg h1];unfold intV;rw [if_neg (by omega),if_neg h4];unfold binN;rw [if_pos h]) (show(2:Int)≠0 by decide)]
  refine⟨?_,?_⟩<;>(conv=>whnf)
  ·repeat' (first|exact PSub.rfl|exact PSub.nil_ro _ _|exact PSub.lit_sb rfl|exact trivial|exact Z085|refine PSub.agg ?_|refine PSub.ro rfl ?_|refine Z084 ?_ ?_|refine And.intro ?_ ?_)
  ·repeat' (first|exact PSub.rfl|exact PSub.nil_ro _ _|exact PSub.lit_sb rfl|exact trivial|exact Z085|refine PSub.agg ?_|refine PSub.ro rfl ?_|refine Z084 ?_ ?_|refine And.intro ?_ ?_)
 ·rename_i h1 h2 h3 h4 h5
  rw [sp ⟨2,satI (a.n - b.n),⟨#[]⟩⟩ (by rw [if_neg h1];unfold intV;rw [if_neg (by omega),if_neg h4];unfold binN;rw [if_neg h5,if_pos h]) (show(2:Int)≠0 by decide)]
  refine⟨?_,?_⟩<;>(conv=>whnf)
  ·repeat' (first|exact PSub.rfl|exact PSub.nil_ro _ _|exact PSub.lit_sb rfl|exact trivial|exact Z085|refine PSub.agg ?_|refine PSub.ro rfl ?_|refine Z084 ?_ ?_|refine And.intro ?_ ?_)
  ·repeat' (first|exact PSub.rfl|exact PSub.nil_ro _ _|exact PSub.lit_sb rfl|exact trivial|exact Z085|refine PSub.agg ?_|refine PSub.ro rfl ?_|refine Z084 ?_ ?_|refine And.intro ?_ ?_)
 ·rename_i h1 h2 h3 h4 h5
  rw [sp ⟨2,mulI a.n b.n,⟨#[]⟩⟩ (by rw [if_neg h1];unfold intV;rw [if_neg (by omega),if_neg h4];unfold binN;rw [if_neg h5,if_neg h]) (show(2:Int)≠0 by decide)]
  refine⟨?_,?_⟩<;>(conv=>whnf)
  ·repeat' (first|exact PSub.rfl|exact PSub.nil_ro _ _|exact PSub.lit_sb rfl|exact trivial|exact Z085|refine PSub.agg ?_|refine PSub.ro rfl ?_|refine Z084 ?_ ?_|refine And.intro ?_ ?_)
  ·repeat' (first|exact PSub.rfl|exact PSub.nil_ro _ _|exact PSub.lit_sb rfl|exact trivial|exact Z085|refine PSub.agg ?_|refine PSub.ro rfl ?_|refine Z084 ?_ ?_|refine And.intro ?_ ?_)
theorem Z0pb {e:Ex} (h:okN e):(e.kind=4→0≤e.n∧e.n < 1440∧0≤e.m∧e.m < 1440)∧(e.kind=5→1≤e.n∧e.n≤127):=by
 have hn:=((Z0mg e).1 h).1
 have hr:rangeB e=true:=by
  cases hb:rangeB e with
  |true=>rfl
  |false=>
   unfold nodeE at hn
   rw [hb] at hn
   split at hn
   ·cases hn
   ·split at hn
    ·cases hn
    ·rw [if_pos rfl] at hn;cases hn
 constructor
 ·intro hk
  unfold rangeB at hr
  rw [if_pos hk] at hr
  exact of_decide_eq_true hr
 ·intro hk
  unfold rangeB at hr
  rw [if_neg (by omega),if_pos hk] at hr
  exact of_decide_eq_true hr
theorem Z0jk {e:Ex} (h:okN e):(e.kind=6→e.kids.length=1)∧(9≤e.kind∧e.kind≤13→e.kids.length=2)∧(e.kind=14→e.kids.length=3):=by
 have hb:=Z0mh h
 unfold kidsB at hb
 refine⟨fun hk=>?_,fun hk=>?_,fun hk=>?_⟩
 ·rw [if_pos hk] at hb
  have:=of_decide_eq_true hb;omega
 ·rw [if_neg (by omega),if_neg (by omega),if_pos hk] at hb
  have:=of_decide_eq_true hb;omega
 ·rw [if_neg (by omega),if_neg (by omega),if_neg (by omega),if_pos hk] at hb
  have:=of_decide_eq_true hb;omega
theorem Z0mi {e:Ex} (h:okN e):1≤e.kind∧e.kind≤15:=by
 have hn:=((Z0mg e).1 h).1
 by_cases hk:e.kind < 1∨15 < e.kind
 ·unfold nodeE at hn
  rw [if_pos hk] at hn;cases hn
 ·omega
end Go.Abs
