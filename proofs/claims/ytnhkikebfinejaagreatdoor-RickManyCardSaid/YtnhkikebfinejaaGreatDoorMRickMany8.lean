/- Texts of this claim, laid together. No conditions. -/
import Derived.Test.YtnhkikebfinejaaGreatDoorMRickMany6
import Derived.Test.YtnhkikebfinejaaGreatDoorMRickMany7
import Derived.Test.YtnhkikebfinejaaGreatDoorMRickMany3
set_option linter.unusedVariables false
set_option linter.unusedSimpArgs false
set_option maxRecDepth 100000
set_option maxHeartbeats 16000000
namespace Go.Proofs.YtnhkikebfinejaaGreatDoor.Z
open Go Go.RowKit Go.Proofs.YtnhkikebfinejaaGreatDoorW.PrintWords Go.Proofs.YtnhkikebfinejaaGreatDoorW.PrintLast Go.Proofs.YtnhkikebfinejaaGreatDoorW.PrintMore Go.Proofs.YtnhkikebfinejaaGreatDoor.S Go.Proofs.YtnhkikebfinejaaGreatDoor.X
def loadMapI (p:Value):Sem Value:=Instr.loadAt 120 p
theorem loadMap_eq (p:Value):Instr.loadAt 120 p=loadMapI p:=rfl
def storeMapI (p v:Value):Sem Unit:=Instr.storeAt 120 p v
theorem storeMap_eq (p v:Value):Instr.storeAt 120 p v=storeMapI p v:=rfl
def loadTabI (p:Value):Sem Value:=Instr.loadAt 74 p
theorem loadTab_eq (p:Value):Instr.loadAt 74 p=loadTabI p:=rfl
theorem run_loadMap [Inhabited Sanct] {W:World} {g o:Nat} {C:Array Value} (h:W.rangeAt g o C.toList) (hs:C.size=513) :
  (loadMapI (.pointer (some ⟨g,o,none⟩))).run Tryz.prog W = .ok (.agg C) W:=by
 have:=run_loadAt_mid (P:=Tryz.prog) W g o 120 C.toList _ h Tryz.underlying120 rfl (by rw [Array.length_toList,hs];exact map_size)
 rwa [Array.toArray_toList] at this
theorem run_loadTab [Inhabited Sanct] {W:World} {g o:Nat} (h:W.rangeAt g o tabA.toList):(loadTabI (.pointer (some ⟨g,o,none⟩))).run Tryz.prog W = .ok (.agg tabA) W:=by
 have:=run_loadAt_mid (P:=Tryz.prog) W g o 74 tabA.toList _ h Tryz.underlying74 rfl tab_size
 rwa [Array.toArray_toList] at this
theorem blk_range {W:World} {g:Nat} {C:Array Value} {t:TypeId} {fr:Nat×Nat} (h:W.heap[g]?=some (Obj.cells C t fr)):W.rangeAt g 0 C.toList:=fun j v hv=>by
 rw [cell_of_row W g (0+j) _ _ _ h,Nat.zero_add]
 simpa using hv
theorem ld_map [Inhabited Sanct] {g N:Nat} {m:List Bool} (hm:m.length=512):∀ W:World,W.heap[g]?=some (Obj.cells (mapA N m) 120)→(loadMapI (.pointer (some ⟨g,0,none⟩))).run Tryz.prog W = .ok (.agg (mapA N m)) W:=
 fun W h=>run_loadMap (blk_range h) (mapA_len N hm)
theorem ld_tab [Inhabited Sanct] {g:Nat}:∀ W:World,W.heap[g]?=some (Obj.cells tabA 74)→(loadTabI (.pointer (some ⟨g,0,none⟩))).run Tryz.prog W = .ok (.agg tabA) W:=
 fun W h=>run_loadTab (blk_range h)
theorem cell_map {g N:Nat} {m:List Bool}:∀ W:World,W.heap[g]?=some (Obj.cells (mapA N m) 120)→W.cell? ⟨g,0,none⟩=some (.int .i64 (N:Int)):=
 fun W h=>by rw [blk_cell h 0,mapA_at0]
theorem st_map [Inhabited Sanct] {g N:Nat} {m:List Bool} {Z:Array Value} (hm:m.length=512) (hz:Z.size=513):∀ W:World,W.heap[g]?=some (Obj.cells Z 120)→(storeMapI (.pointer (some ⟨g,0,none⟩)) (.agg (mapA N m))).run Tryz.prog W = .ok () (W.setRow g (mapA N m)):=
 fun W h=>by
  have:=run_storeVar_row (P:=Tryz.prog) W g 120 120 Z (mapA N m) h (mapA_size N hm) (by rw [hz,mapA_len N hm]) (map_one _ _)
  simp only [storeMapI,Instr.storeAt,Instr.sureAddr,Sem.run_bind,Sem.run_pure,Result.andThen_ok,this]
section
attribute [local go_sem ↓] Go.wp_at_zero Go.wp_at_succ loadMap_eq storeMap_eq loadTab_eq
theorem mapb_len (N:Nat) (m:List Bool):(mapB N m).length=2+(N+7) / 8:=mapL_len N m 512
theorem writemap_calls [Inhabited Sanct] {w:World} {d N nw:Nat} {f:Nat→List Int} (h:DT w d N nw f) {m:List Bool} (hm:MapOk N m) (a gen:Nat) (ha:a<N) (hgen:gen<1000000) (hw:nw+2048<1000000) :
  Calls Tryz.prog 59 #[.agg tabA,.pointer (some ⟨d,0,none⟩),.int .i64 (a:Int),.int .u64 (gen:Int),.agg (mapA N m)] w fun e w'=>e = .returned (.int .i64 0)∧FrT dT w w' ∧ ∃ f',DT w' d N (nw+4) f'∧Wrote f f' a 66 (mapB N m):=by
 obtain ⟨L,hL⟩:∃ L,2+(N+7) / 8=L:=⟨_,rfl⟩
 have HPUT:Aside0 (∀ W,Calls Tryz.prog 96 #[.agg (mapA N m)] W fun e w'=>∃ v,e = .returned v∧Kd.R (Kd.int .u8) 5 w' W.heap.size (fun _=>True) v (mapB N m)∧Below W.heap.size W w'):=⟨fun W=>mapput_calls (w:=W) hm⟩
 have HLEN:Aside0 ((mapB N m).length=L):=⟨by rw [mapb_len];exact hL⟩
 have HWR:Aside0 (∀ W A c,Below w.heap.size w W→Kd.C (Kd.int .u8) W A (mapB N m).length (mapB N m)→Calls Tryz.prog 95 #[.agg tabA,.pointer (some ⟨d,0,none⟩),.agg #[.int .u8 66,.int .i64 (a:Int),.int .u64 (gen:Int),.slice A L c]] W fun e w'=>e = .returned (.int .i64 0)∧FrT dT W w' ∧ ∃ f',DT w' d N (nw+4) f'∧Wrote f f' a 66 (mapB N m)):=
  ⟨fun W A c hW hC=>pagewrite_calls (h.below hW) a 66 (gen:Int) A L c _ HLEN.out hC (mapL_bs N hm.n5 m 512) (by decide) ha (by have:=hm.n5;omega) (by omega) hw⟩
 obtain ⟨W0,hW0⟩:∃ W,(w.alloc (Obj.cells tabA 74)).alloc (Obj.cells (mapA N m) 120)=W:=⟨_,rfl⟩
 have HX:Aside0 (W0.heap[w.heap.size]?=some (Obj.cells tabA 74)):=⟨by rw [← hW0];exact heap_alloc2_old w _ _⟩
 have HY:Aside0 (W0.heap[w.heap.size+1]?=some (Obj.cells (mapA N m) 120)):=⟨by rw [← hW0];exact heap_alloc2_new w _ _⟩
 have HB:Aside0 (Below w.heap.size w W0):=⟨by rw [← hW0];exact below_alloc (below_alloc (Below.refl _ _) _) _⟩
 have hu74:Tryz.prog.underlying 74=some (.array 256 71):=Tryz.underlying74
 have hs74:=tab_size
 have hl2:=ld_map (g:=w.heap.size+1) (N:=N) hm.len
 clear h hm hL
 go_enter Tryz.func59,Tryz.ntmps59
 go_wp2
 clear hW0
 have ht1:W0.drew.heap[w.heap.size]?=some (Obj.cells tabA 74):=HX.out
 have hr1:=tab_range ht1
 have hp1:W0.drew.heap[w.heap.size+1]?=some (Obj.cells (mapA N m) 120):=HY.out
 go_region_held3 (fun w'=>w'.rangeAt w.heap.size 0 tabA.toList∧w'.heap[w.heap.size+1]?=some (Obj.cells (mapA N m) 120)) (first | exact ⟨hr1,hp1⟩ | exact ⟨hr2,hp2⟩ | exact ⟨hr3,hp3⟩)
  (first
   | (go_at_call 96;(with_reducible refine (HPUT.out _).mono ?_);rintro e w2 ⟨v2,rfl,ho,hb2⟩;obtain ⟨A2,c2,rfl⟩:=Kd.R_slice ho;rw [HLEN.out] at ho ⊢;have hC2:=(Kd.R_reads' ho).2.2;have ht2:=blkb hb2 ht1;have hr2:=tab_range ht2;have hp2:=blkb hb2 hp1)
   | (go_at_call 95;(with_reducible refine (HWR.out _ A2 c2 (below_step (below_drew HB.out) hb2) hC2).mono ?_);rintro e w3 ⟨rfl,hf3,hd3⟩;have hr3:=tab_range (hf3.blk ht2 (by decide));have hp3:=hf3.blk hp2 (by decide)))
 all_goals
  have H3:=Aside0.mk (And.intro hb2 (And.intro hf3 hd3))
  clear hb2 hf3 hd3 hr1 hp1 hr2 hp2 hr3 hp3 ho ht1 ht2
  go_wp2
  go_ret
  exact ⟨rfl,(FrT.of_below (below_step (below_drew HB.out) H3.out.1) _).trans H3.out.2.1,H3.out.2.2⟩
end
theorem foldl_set [Inhabited Sanct] (off:Nat):∀ (vs:List Value) (i:Nat) (cells:Array Value),off+i+vs.length≤cells.size →
  (vs.zipIdx i).foldl (fun (cs:Array Value) (x:Value×Nat)=>cs.setIfInBounds (off+x.2) x.1) cells=(splice cells.toList (off+i) vs).toArray
 | [],i,cells,h=>by unfold splice;simp
 | v :: vs,i,cells,h=>by
  rw [List.zipIdx_cons,List.foldl_cons,foldl_set off vs (i+1) _ (by simp at h ⊢;omega)]
  congr 1
  unfold splice
  have hlt:off+i<cells.size:=by simp at h;omega
  apply List.ext_getElem?
  intro k
  simp only [Array.toList_setIfInBounds,List.getElem?_append,List.length_take,List.length_set,Array.length_toList,List.getElem?_take,List.getElem?_drop,List.length_cons]
  by_cases hk:k<off+i
  ·simp [hk,show k<off+(i+1) by omega,show min (off+(i+1)) cells.size=off+(i+1) by omega,show min (off+i) cells.size=off+i by omega,show off+i≠k by omega]
  ·by_cases hk2:k=off+i
   ·subst hk2
    simp [show min (off+(i+1)) cells.size=off+i+1 by omega,show min (off+i) cells.size=off+i by omega,show off+i<off+(i+1) by omega]
    rw [List.getElem?_set_self (by simpa using hlt)]
   ·have e1:¬ k<min (off+(i+1)) cells.size:=by omega
    have e2:¬ k<min (off+i) cells.size:=by omega
    rw [if_neg e1,if_neg e2,show min (off+(i+1)) cells.size=off+i+1 by omega,show min (off+i) cells.size=off+i by omega,show k-(off+i)=(k-(off+i+1))+1 by omega,List.getElem?_cons_succ]
    by_cases h3:k-(off+i+1)<vs.length
    ·rw [if_pos h3,if_pos (by omega)]
    ·rw [if_neg h3,if_neg (by omega),List.getElem?_set_ne (by omega)]
     congr 1;omega
theorem fill_seq [Inhabited Sanct] (place:Nat→Option (Nat×Nat)):∀ (vs:List Value) (i off:Nat) (cells:Array Value),
  (∀ k v,vs[k]?=some v→place (i+k)=some (off+((vs.take k).map (fun v=>v.cells.size)).sum,v.cells.size))→off+(vs.map (fun v=>v.cells.size)).sum=cells.size →
  Instr.fill place cells ((vs.zipIdx i).map fun x=>(x.2,x.1))=some (cells.toList.take off++vs.flatMap (fun v=>v.cells.toList)).toArray
 | [],i,off,cells,_,h=>by
  simp only [List.map_nil,List.sum_nil,Nat.add_zero] at h
  simp only [List.zipIdx_nil,List.map_nil,Instr.fill,List.flatMap_nil,List.append_nil]
  rw [List.take_of_length_le (by simp;omega),Array.toArray_toList]
 | v :: vs,i,off,cells,hp,h=>by
  have h0:=hp 0 v rfl
  simp only [Nat.add_zero,List.take_zero,List.map_nil,List.sum_nil] at h0
  simp only [List.map_cons,List.sum_cons] at h
  rw [List.zipIdx_cons,List.map_cons,Instr.fill,h0]
  simp only
  rw [if_neg (by simp;omega)]
  have hf:v.cells.zipIdx.foldl (fun cs (x:Value×Nat)=>cs.setIfInBounds (off+x.2) x.1) cells=(splice cells.toList off v.cells.toList).toArray:=by
   have:=foldl_set off v.cells.toList 0 cells (by simp;omega)
   rw [Nat.add_zero] at this
   rw [← this]
   rw [← Array.foldl_toList,Array.toList_zipIdx]
  have hf2:Array.foldl (fun (cs:Array Value) (x:Value×Nat)=>match x with | (c,j)=>cs.setIfInBounds (off+j) c) cells v.cells.zipIdx=(splice cells.toList off v.cells.toList).toArray:=hf
  rw [hf2,fill_seq place vs (i+1) (off+v.cells.toList.length) _ (fun k u hk=>by
   have:=hp (k+1) u (by simpa using hk)
   rw [show i+(k+1)=i+1+k by omega] at this
   rw [this]
   simp only [List.take_succ_cons,List.map_cons,List.sum_cons,Nat.add_assoc,Array.length_toList]) (by
   have hsz:(splice cells.toList off v.cells.toList).length=cells.size:=by rw [length_splice _ _ _ (by simp;omega)];simp
   have e2:(splice cells.toList off v.cells.toList).toArray.size=cells.size:=by rw [← hsz];simp
   rw [e2,Array.length_toList];omega)]
  congr 2
  rw [List.flatMap_cons,← List.append_assoc]
  congr 1
  unfold splice
  rw [← List.append_assoc,List.take_append_of_le_length (by simp;omega),List.take_of_length_le (by simp;omega)]
theorem built_all [Inhabited Sanct] {P:Program} {t:TypeId} {fields:Array Field} (hu:P.underlying t=some (.struct fields)) {n:Nat} (hz:(P.info? t).map (fun i=>i.zero.map (fun z=>z.cells.size))=some (some n))
  {pl:List (Nat×Nat)} (hp:fields.toList.mapM (fun f=>(P.info? f.type).map fun i=>(f.offset,i.size))=some pl) (vs:List Value)
  (hs:∀ k v,vs[k]?=some v→pl[k]?=some (((vs.take k).map (fun v=>v.cells.size)).sum,v.cells.size)) (hn:(vs.map (fun v=>v.cells.size)).sum=n) :
  P.built t ((vs.zipIdx 0).map fun x=>(x.2,x.1))=some (vs.flatMap (fun v=>v.cells.toList)).toArray:=by
 obtain ⟨it,hi,hz2⟩:=Option.map_eq_some_iff.1 hz
 obtain ⟨z,hz3,hz4⟩:=Option.map_eq_some_iff.1 hz2
 unfold Program.built
 rw [hi,hu]
 simp only [hz3,hp]
 rw [fill_seq (fun x=>pl.toArray[x]?) vs 0 0 z.cells (fun k v hk=>by
  have:=hs k v hk
  rw [Nat.zero_add,Nat.zero_add]
  simpa using this) (by rw [Nat.zero_add,hn,hz4])]
 simp
section
def viewL (d N gen:Nat) (m o:List Bool):List Value:=tabA.toList++([.pointer (some ⟨d,0,none⟩)]++([.int .u64 (gen:Int)]++((mapA N m).toList++(mapA N o).toList)))
def viewA (d N gen:Nat) (m o:List Bool):Array Value:=(viewL d N gen m o).toArray
def buildViewI (ps:Array (Nat×Value)):Sem Value:=Instr.build 246 ps
theorem buildView_eq (ps:Array (Nat×Value)):Instr.build 246 ps=buildViewI ps:=rfl
theorem view_len [Inhabited Sanct] {d N gen:Nat} {m o:List Bool} (hm:m.length=512) (ho:o.length=512):(viewL d N gen m o).length=1284:=by
 simp only [viewL,List.length_append,Array.length_toList,tabA_len,mapA_len N hm,mapA_len N ho,List.length_cons,List.length_nil]
theorem built_view [Inhabited Sanct] {d N gen:Nat} {m o:List Bool} (hm:m.length=512) (ho:o.length=512) (W:World) :
  (buildViewI #[(0,.agg tabA),(1,.pointer (some ⟨d,0,none⟩)),(2,.int .u64 (gen:Int)),(3,.agg (mapA N m)),(4,.agg (mapA N o))]).run Tryz.prog W = .ok (.agg (viewA d N gen m o)) W:=by
 have s0:(Value.agg tabA).cells.size=256:=tabA_len
 have s1:(Value.pointer (some ⟨d,0,none⟩)).cells.size=1:=rfl
 have s2:(Value.int .u64 (gen:Int)).cells.size=1:=rfl
 have s3:(Value.agg (mapA N m)).cells.size=513:=mapA_len N hm
 have s4:(Value.agg (mapA N o)).cells.size=513:=mapA_len N ho
 refine run_build W 246 _ _ ?_
 have:=built_all (P:=Tryz.prog) (t:=246) Tryz.underlying246 (n:=1284) (by kernel_rfl) (pl:=[(0,256),(256,1),(257,1),(258,513),(771,513)]) (by kernel_rfl)
  [.agg tabA,.pointer (some ⟨d,0,none⟩),.int .u64 (gen:Int),.agg (mapA N m),.agg (mapA N o)] (fun k v hk=>by
   rcases k with _ | _ | _ | _ | _ | k
   all_goals simp only [List.getElem?_cons_zero,List.getElem?_cons_succ,Option.some.injEq,List.getElem?_nil,reduceCtorEq] at hk
   all_goals subst hk
   all_goals simp [s0,s1,s2,s3,s4]) (by simp [s0,s1,s2,s3,s4])
 refine this.trans ?_
 simp [viewA,viewL,Value.cells]
theorem viewL_tab {d N gen j:Nat} {m o:List Bool} {x:Value} (h:tabA.toList[j]?=some x):(viewL d N gen m o)[0+j]?=some x:=by
 unfold viewL
 rw [Nat.zero_add,List.getElem?_append_left (List.getElem?_eq_some_iff.1 h).1,h]
theorem tabL_len [Inhabited Sanct]:tabA.toList.length=256:=by rw [Array.length_toList,tabA_len]
theorem viewL_d [Inhabited Sanct] {d N gen:Nat} {m o:List Bool}:(viewL d N gen m o)[256]?=some (.pointer (some ⟨d,0,none⟩)):=by
 unfold viewL
 rw [List.getElem?_append_right (by rw [tabL_len];exact Nat.le_refl _),tabL_len]
 rfl
theorem viewL_gen [Inhabited Sanct] {d N gen:Nat} {m o:List Bool}:(viewL d N gen m o)[257]?=some (.int .u64 (gen:Int)):=by
 unfold viewL
 rw [List.getElem?_append_right (by rw [tabL_len];decide),tabL_len]
 rfl
theorem viewL_m [Inhabited Sanct] {d N gen j:Nat} {m o:List Bool} {x:Value} (h:(mapA N m).toList[j]?=some x):(viewL d N gen m o)[258+j]?=some x:=by
 unfold viewL
 rw [List.getElem?_append_right (by rw [tabL_len];omega),tabL_len,show 258+j-256=j+1+1 by omega]
 rw [List.singleton_append,List.getElem?_cons_succ,List.singleton_append,List.getElem?_cons_succ,List.getElem?_append_left (List.getElem?_eq_some_iff.1 h).1,h]
theorem viewL_o [Inhabited Sanct] {d N gen j:Nat} {m o:List Bool} {x:Value} (hm:m.length=512) (h:(mapA N o).toList[j]?=some x):(viewL d N gen m o)[771+j]?=some x:=by
 unfold viewL
 have hl:(mapA N m).toList.length=513:=by rw [Array.length_toList,mapA_len N hm]
 rw [List.getElem?_append_right (by rw [tabL_len];omega),tabL_len,show 771+j-256=(513+j)+1+1 by omega]
 rw [List.singleton_append,List.getElem?_cons_succ,List.singleton_append,List.getElem?_cons_succ,List.getElem?_append_right (by rw [hl];omega),hl,Nat.add_sub_cancel_left,h]
theorem view_set [Inhabited Sanct] {d N gen:Nat} {m m2 o:List Bool} (hm:m.length=512) (hm2:m2.length=512):(splice (viewA d N gen m o).toList 258 (mapA N m2).toList).toArray=viewA d N gen m2 o:=by
 have hl:(mapA N m).toList.length=513:=by rw [Array.length_toList,mapA_len N hm]
 have hl2:(mapA N m2).toList.length=513:=by rw [Array.length_toList,mapA_len N hm2]
 have key:splice (viewL d N gen m o) 258 (mapA N m2).toList=viewL d N gen m2 o:=by
  unfold splice
  rw [hl2]
  have e1:(viewL d N gen m o).take 258=tabA.toList++[Value.pointer (some ⟨d,0,none⟩),.int .u64 (gen:Int)]:=by
   unfold viewL
   rw [List.take_append,tabL_len,List.take_of_length_le (by rw [tabL_len];decide)]
   rfl
  have e2:(viewL d N gen m o).drop (258+513)=(mapA N o).toList:=by
   unfold viewL
   rw [List.drop_append,tabL_len,List.drop_of_length_le (by rw [tabL_len];decide),List.nil_append,show 258+513-256=513+1+1 by decide,List.singleton_append,List.drop_succ_cons,List.singleton_append,List.drop_succ_cons,List.drop_append,hl,List.drop_of_length_le (by rw [hl];exact Nat.le_refl _),List.nil_append,Nat.sub_self,List.drop_zero]
  rw [e1,e2]
  unfold viewL
  simp only [List.append_assoc,List.cons_append,List.nil_append]
 unfold viewA
 rw [List.toList_toArray,key]
section
variable {d N gen v:Nat} {m o:List Bool}
def ViewAt (W:World) (v d N gen:Nat) (m o:List Bool):Prop:=W.heap[v]?=some (Obj.cells (viewA d N gen m o) 246)
theorem view_cell {W:World} (h:ViewAt W v d N gen m o) {i:Nat} {x:Value} (hx:(viewL d N gen m o)[i]?=some x):W.cell? ⟨v,i,none⟩=some x:=by
 rw [blk_cell h i]
 simpa [viewA] using hx
theorem ldv_m [Inhabited Sanct] (hm:m.length=512):∀ W:World,ViewAt W v d N gen m o→(loadMapI (.pointer (some ⟨v,258,none⟩))).run Tryz.prog W = .ok (.agg (mapA N m)) W:=
 fun W h=>run_loadMap (fun j x hx=>view_cell h (viewL_m hx)) (mapA_len N hm)
theorem ldv_o [Inhabited Sanct] (hm:m.length=512) (ho:o.length=512):∀ W:World,ViewAt W v d N gen m o→(loadMapI (.pointer (some ⟨v,771,none⟩))).run Tryz.prog W = .ok (.agg (mapA N o)) W:=
 fun W h=>run_loadMap (fun j x hx=>view_cell h (viewL_o hm hx)) (mapA_len N ho)
theorem cellv_d [Inhabited Sanct]:∀ W:World,ViewAt W v d N gen m o→W.cell? ⟨v,256,none⟩=some (.pointer (some ⟨d,0,none⟩)):=fun W h=>view_cell h viewL_d
theorem cellv_g [Inhabited Sanct]:∀ W:World,ViewAt W v d N gen m o→W.cell? ⟨v,257,none⟩=some (.int .u64 (gen:Int)):=fun W h=>view_cell h viewL_gen
theorem cellv_n [Inhabited Sanct]:∀ W:World,ViewAt W v d N gen m o→W.cell? ⟨v,258,none⟩=some (.int .i64 (N:Int)):=fun W h=>view_cell h (viewL_m (j:=0) (by simp [mapA,mapC]))
theorem rangev_tab {W:World} (h:ViewAt W v d N gen m o):W.rangeAt v 0 tabA.toList:=fun j x hx=>view_cell h (viewL_tab hx)
theorem stv_m [Inhabited Sanct] {m2:List Bool} (hm:m.length=512) (hm2:m2.length=512) (ho:o.length=512):∀ W:World,ViewAt W v d N gen m o→(storeMapI (.pointer (some ⟨v,258,none⟩)) (.agg (mapA N m2))).run Tryz.prog W = .ok () (W.setRow v (viewA d N gen m2 o)):=
 fun W h=>by
  have hsz:(viewA d N gen m o).size=1284:=by simp [viewA,view_len hm ho]
  have hl2:=mapA_len N hm2
  have:=run_storeVar_mid (P:=Tryz.prog) W v 258 120 (mapA N m2) (fun j hj=>by
   rw [hl2] at hj
   refine ⟨?_,blk_frozen h _⟩
   rw [blk_cell h,Array.getElem?_eq_getElem (by omega)];rfl) (mapA_size N hm2) (map_one _ _)
  rw [setCells_row v _ _ (mapA N m2).toList 258 _ W h (by rw [Array.length_toList,hl2,hsz];decide),view_set hm hm2] at this
  simp only [storeMapI,Instr.storeAt,Instr.sureAddr,Sem.run_bind,Sem.run_pure,Result.andThen_ok,this]
end
end
section
attribute [local go_sem ↓] Go.wp_at_zero Go.wp_at_succ loadMap_eq storeMap_eq loadTab_eq buildView_eq
theorem pages_dt [Inhabited Sanct] {w:World} {d N n:Nat} {f:Nat→List Int} (h:DT w d N n f) :
  Calls Tryz.prog 58 #[.pointer (some ⟨d,0,none⟩)] w fun e w'=>e = .returned (.int .i64 (N:Int))∧w=w':=by
 obtain ⟨O,h1,_⟩:=h
 exact pages_calls h1
theorem open_calls [Inhabited Sanct] {w:World} {d N nw:Nat} {f:Nat→List Int} (h:DT w d N nw f) {m o:List Bool} (hm:MapOk N m) (ho:MapOk N o) (gen:Nat) :
  Calls Tryz.prog 103 #[.agg tabA,.pointer (some ⟨d,0,none⟩),.int .u64 (gen:Int),.agg (mapA N m),.agg (mapA N o)] w fun e w'=>∃ v,e = .returned (.tuple #[.pointer (some ⟨v,0,none⟩),.int .i64 0])∧ViewAt w' v d N gen m o∧w.heap.size≤v∧Below w.heap.size w w':=by
 have HR:Aside0 (∀ W,Calls Tryz.prog 125 #[.agg (mapA N m)] W fun e w'=>e = .returned (.bool true)∧Below W.heap.size W w'):=⟨fun W=>mapright_calls hm⟩
 have HR2:Aside0 (∀ W,Calls Tryz.prog 125 #[.agg (mapA N o)] W fun e w'=>e = .returned (.bool true)∧Below W.heap.size W w'):=⟨fun W=>mapright_calls ho⟩
 have HP:Aside0 (∀ W,Below w.heap.size w W→Calls Tryz.prog 58 #[.pointer (some ⟨d,0,none⟩)] W fun e w'=>e = .returned (.int .i64 (N:Int))∧W=w'):=⟨fun W hW=>pages_dt (h.below hW)⟩
 obtain ⟨W0,hW0⟩:∃ W,((w.alloc (Obj.cells tabA 74)).alloc (Obj.cells (mapA N m) 120)).alloc (Obj.cells (mapA N o) 120)=W:=⟨_,rfl⟩
 have HX:Aside0 (W0.heap[w.heap.size]?=some (Obj.cells tabA 74)):=⟨by rw [← hW0];exact blk_alloc (heap_alloc2_old w _ _) _⟩
 have HM:Aside0 (W0.heap[w.heap.size+1]?=some (Obj.cells (mapA N m) 120)):=⟨by rw [← hW0];exact blk_alloc (heap_alloc2_new w _ _) _⟩
 have HO:Aside0 (W0.heap[w.heap.size+1+1]?=some (Obj.cells (mapA N o) 120)):=⟨by rw [← hW0];exact newb (by simp)⟩
 have HB:Aside0 (Below w.heap.size w W0):=⟨by rw [← hW0];exact below_alloc (below_alloc (below_alloc (Below.refl _ _) _) _) _⟩
 have hl1:=ld_map (g:=w.heap.size+1) (N:=N) hm.len
 have hl2:=ld_map (g:=w.heap.size+1+1) (N:=N) ho.len
 have hl3:=ld_tab (g:=w.heap.size)
 have hc1:=cell_map (g:=w.heap.size+1) (N:=N) (m:=m)
 have hc2:=cell_map (g:=w.heap.size+1+1) (N:=N) (m:=o)
 have hbv:=fun W=>built_view (d:=d) (N:=N) (gen:=gen) hm.len ho.len W
 clear h hm ho
 go_enter Tryz.func103,Tryz.ntmps103
 go_wp2
 clear hW0
 have hr1:W0.drew.heap[w.heap.size+1]?=some (Obj.cells (mapA N m) 120):=HM.out
 have hp1:W0.drew.heap[w.heap.size+1+1]?=some (Obj.cells (mapA N o) 120):=HO.out
 have hb1:Below w.heap.size w W0.drew:=below_drew HB.out
 go_region_held3 (fun w'=>w'.heap[w.heap.size+1]?=some (Obj.cells (mapA N m) 120)∧w'.heap[w.heap.size+1+1]?=some (Obj.cells (mapA N o) 120)) (first | exact ⟨hr1,hp1⟩ | exact ⟨hr2,hp2⟩ | exact ⟨hr3,hp3⟩)
  (first
   | (go_at_call 125;(with_reducible refine (HR.out W0.drew).mono ?_);rintro e w2 ⟨rfl,h2⟩;have hb2:=below_step hb1 h2;have hr2:=blkb h2 hr1;have hp2:=blkb h2 hp1;have hx2:=blkb h2 (show W0.drew.heap[w.heap.size]?=_ from HX.out))
   | (go_at_call 125;(with_reducible refine (HR2.out w2).mono ?_);rintro e w3 ⟨rfl,h3⟩;have hb3:=below_step hb2 h3;have hr3:=blkb h3 hr2;have hp3:=blkb h3 hp2;have hx3:=blkb h3 hx2)
   | (go_at_call 58;(with_reducible refine (HP.out _ hb3).mono ?_);rintro e w4 ⟨rfl,rfl⟩))
 all_goals
  have HB3:=Aside0.mk hb3
  have HH:Aside0 (w.heap.size≤w3.heap.size):=⟨hb3.size⟩
  clear hb1 hb2 hb3 h2 h3 hr1 hp1 hr2 hp2 hx2
  go_wp2
  go_ret2
  exact ⟨w3.heap.size,rfl,newb rfl,HH.out,below_alloc HB3.out _⟩
theorem viewmap_calls [Inhabited Sanct] {w:World} {v d N gen:Nat} {m o:List Bool} (h:ViewAt w v d N gen m o) (hm:m.length=512) :
  Calls Tryz.prog 106 #[.pointer (some ⟨v,0,none⟩)] w fun e w'=>e = .returned (.agg (mapA N m))∧Below w.heap.size w w':=by
 obtain ⟨Z0,hZ0⟩:∃ Z,mapA 0 (List.replicate 512 false)=Z:=⟨_,rfl⟩
 have HZS:Z0.size=513:=by rw [← hZ0];exact mapA_len _ (by rw [List.length_replicate])
 have hz:=zero_map
 rw [hZ0] at hz
 obtain ⟨W0,hW0⟩:∃ W,w.alloc (Obj.cells Z0 120)=W:=⟨_,rfl⟩
 have hv:ViewAt W0 v d N gen m o:=by rw [← hW0];exact blk_alloc h _
 have hx:W0.heap[w.heap.size]?=some (Obj.cells Z0 120):=by rw [← hW0];exact newb rfl
 have HB:Aside0 (Below w.heap.size w W0):=⟨by rw [← hW0];exact below_alloc (Below.refl _ _) _⟩
 have HX:=Aside0.mk hx
 have HS:=Aside0.mk (mapA_size N hm)
 have hl:=ldv_m (v:=v) (d:=d) (N:=N) (gen:=gen) (o:=o) hm
 have hst:=st_map (g:=w.heap.size) (N:=N) (m:=m) hm HZS
 clear hZ0 hm h HZS
 go_enter Tryz.func106,Tryz.ntmps106
 go_wp2
 refine bodyPost_ret (results_cell_row rfl _ _ w.heap.size 120 (mapA N m) (0,0) _ rfl (setRow_heap _ _ _ _ _ _ HX.out) Tryz.underlying120 rfl HS.out) rfl ?_
 exact ⟨rfl,below_setRow HB.out (Nat.le_refl _) _⟩
theorem setmap_calls [Inhabited Sanct] {w:World} {v d N gen:Nat} {m m2 o:List Bool} (h:ViewAt w v d N gen m o) (hm:m.length=512) (ho:o.length=512) (h2:MapOk N m2) (gv:sB≤v:=by assumption) :
  Calls Tryz.prog 115 #[.pointer (some ⟨v,0,none⟩),.agg (mapA N m2)] w fun e w'=>e = .returned (.tuple #[])∧ViewAt w' v d N gen m2 o∧FrT [246] w w':=by
 have HR:Aside0 (∀ W,Calls Tryz.prog 125 #[.agg (mapA N m2)] W fun e w'=>e = .returned (.bool true)∧Below W.heap.size W w'):=⟨fun W=>mapright_calls h2⟩
 obtain ⟨W0,hW0⟩:∃ W,w.alloc (Obj.cells (mapA N m2) 120)=W:=⟨_,rfl⟩
 have HV:Aside0 (ViewAt W0 v d N gen m o):=⟨by rw [← hW0];exact blk_alloc h _⟩
 have HX:Aside0 (W0.heap[w.heap.size]?=some (Obj.cells (mapA N m2) 120)):=⟨by rw [← hW0];exact newb rfl⟩
 have HB:Aside0 (Below w.heap.size w W0):=⟨by rw [← hW0];exact below_alloc (Below.refl _ _) _⟩
 have hl1:=ld_map (g:=w.heap.size) (N:=N) h2.len
 have hc1:=cell_map (g:=w.heap.size) (N:=N) (m:=m2)
 have hc2:=cellv_n (v:=v) (d:=d) (N:=N) (gen:=gen) (m:=m) (o:=o)
 have hst:=stv_m (v:=v) (d:=d) (N:=N) (gen:=gen) (o:=o) hm h2.len ho
 clear hm ho h h2
 go_enter Tryz.func115,Tryz.ntmps115
 go_wp2
 clear hW0
 have hr1:W0.drew.heap[w.heap.size]?=some (Obj.cells (mapA N m2) 120):=HX.out
 have hp1:ViewAt W0.drew v d N gen m o:=HV.out
 go_region_held3 (fun w'=>w'.heap[w.heap.size]?=some (Obj.cells (mapA N m2) 120)∧ViewAt w' v d N gen m o) (first | exact ⟨hr1,hp1⟩ | exact ⟨hr2,hp2⟩)
  (first
   | (go_at_call 125;(with_reducible refine (HR.out _).mono ?_);rintro e w2 ⟨rfl,h2⟩;have hr2:=blkb h2 hr1;have hp2:=blkb h2 hp1))
 all_goals
  have HB2:=Aside0.mk (below_step (below_drew HB.out) h2)
  have HV2:=Aside0.mk hp2
  clear h2 hr1 hp1
  go_wp2
  refine bodyPost_end (results_none rfl _ _ _) rfl ?_
  exact ⟨rfl,setRow_heap _ _ _ _ _ _ HV2.out,(FrT.of_below HB2.out _).setRow HV2.out (by simp) _⟩
end
section
attribute [local go_sem ↓] Go.wp_at_zero Go.wp_at_succ
structure Ky where
 s:Int
 a:Int
structure En where
 k:Ky
 z:Int
 p:Nat
 l:Nat
 n:Nat
 c:Nat
 x:Int
def keyC (k:Ky):List Value:=[.int .i64 k.s,.int .i64 k.a]
def keyA (k:Ky):Array Value:=(keyC k).toArray
def enC (e:En):List Value:=[.int .i64 e.k.s,.int .i64 e.k.a,.int .i64 e.z,.int .i64 (e.p:Int),.int .i64 (e.l:Int),.int .i64 (e.n:Int),.int .i64 (e.c:Int),.int .u32 e.x]
def enA (e:En):Array Value:=(enC e).toArray
def loadKeyI (p:Value):Sem Value:=Instr.loadAt 87 p
theorem loadKey_eq (p:Value):Instr.loadAt 87 p=loadKeyI p:=rfl
def loadEnI (p:Value):Sem Value:=Instr.loadAt 89 p
theorem loadEn_eq (p:Value):Instr.loadAt 89 p=loadEnI p:=rfl
def storeKeyI (p v:Value):Sem Unit:=Instr.storeAt 87 p v
theorem storeKey_eq (p v:Value):Instr.storeAt 87 p v=storeKeyI p v:=rfl
def storeEnI (p v:Value):Sem Unit:=Instr.storeAt 89 p v
theorem storeEn_eq (p v:Value):Instr.storeAt 89 p v=storeEnI p v:=rfl
theorem key_size [Inhabited Sanct]:(Tryz.prog.info? 87).map (·.size)=some 2:=by kernel_rfl
theorem en_size [Inhabited Sanct]:(Tryz.prog.info? 89).map (·.size)=some 8:=by kernel_rfl
theorem run_loadKey [Inhabited Sanct] {W:World} {g o:Nat} {k:Ky} (h:W.rangeAt g o (keyC k)):(loadKeyI (.pointer (some ⟨g,o,none⟩))).run Tryz.prog W = .ok (.agg (keyA k)) W:=
 run_loadAt_mid (P:=Tryz.prog) W g o 87 (keyC k) _ h Tryz.underlying87 rfl key_size
theorem run_loadEn [Inhabited Sanct] {W:World} {g o:Nat} {e:En} (h:W.rangeAt g o (enC e)):(loadEnI (.pointer (some ⟨g,o,none⟩))).run Tryz.prog W = .ok (.agg (enA e)) W:=
 run_loadAt_mid (P:=Tryz.prog) W g o 89 (enC e) _ h Tryz.underlying89 rfl en_size
def KyAt (W:World) (g:Nat) (k:Ky):Prop:=W.heap[g]?=some (Obj.cells (keyA k) 87)
def EnAt (W:World) (g:Nat) (e:En):Prop:=W.heap[g]?=some (Obj.cells (enA e) 89)
theorem ky_cell {g:Nat} {k:Ky}:∀ W:World,KyAt W g k→W.cell? ⟨g,0,none⟩=some (.int .i64 k.s)∧W.cell? ⟨g,1,none⟩=some (.int .i64 k.a):=
 fun W h=>⟨by rw [blk_cell h 0];rfl,by rw [blk_cell h 1];rfl⟩
theorem en_cell {g:Nat} {e:En}:∀ W:World,EnAt W g e→W.cell? ⟨g,0,none⟩=some (.int .i64 e.k.s)∧W.cell? ⟨g,1,none⟩=some (.int .i64 e.k.a)∧W.cell? ⟨g,2,none⟩=some (.int .i64 e.z)∧W.cell? ⟨g,3,none⟩=some (.int .i64 (e.p:Int))∧W.cell? ⟨g,4,none⟩=some (.int .i64 (e.l:Int))∧W.cell? ⟨g,5,none⟩=some (.int .i64 (e.n:Int))∧W.cell? ⟨g,6,none⟩=some (.int .i64 (e.c:Int))∧W.cell? ⟨g,7,none⟩=some (.int .u32 e.x):=
 fun W h=>⟨by rw [blk_cell h 0];rfl,by rw [blk_cell h 1];rfl,by rw [blk_cell h 2];rfl,by rw [blk_cell h 3];rfl,by rw [blk_cell h 4];rfl,by rw [blk_cell h 5];rfl,by rw [blk_cell h 6];rfl,by rw [blk_cell h 7];rfl⟩
theorem ld_key [Inhabited Sanct] {g:Nat} {k:Ky}:∀ W:World,KyAt W g k→(loadKeyI (.pointer (some ⟨g,0,none⟩))).run Tryz.prog W = .ok (.agg (keyA k)) W:=
 fun W h=>run_loadKey (fun j v hv=>by rw [Nat.zero_add,blk_cell h j];simpa [keyA] using hv)
theorem ld_en [Inhabited Sanct] {g:Nat} {e:En}:∀ W:World,EnAt W g e→(loadEnI (.pointer (some ⟨g,0,none⟩))).run Tryz.prog W = .ok (.agg (enA e)) W∧(loadKeyI (.pointer (some ⟨g,0,none⟩))).run Tryz.prog W = .ok (.agg (keyA e.k)) W:=
 fun W h=>⟨run_loadEn (fun j v hv=>by rw [Nat.zero_add,blk_cell h j];simpa [enA] using hv),run_loadKey (fun j v hv=>by
  rw [Nat.zero_add,blk_cell h j]
  rcases j with _ | _ | j
  ·simpa [enA,enC,keyC] using hv
  ·simpa [enA,enC,keyC] using hv
  ·simp [keyC] at hv)⟩
theorem KyAt.below [Inhabited Sanct] {w W:World} {g:Nat} {k:Ky} (h:KyAt w g k) (hb:Below w.heap.size w W):KyAt W g k:=blkb hb h
theorem EnAt.below [Inhabited Sanct] {w W:World} {g:Nat} {e:En} (h:EnAt w g e) (hb:Below w.heap.size w W):EnAt W g e:=blkb hb h
theorem KyAt.alloc [Inhabited Sanct] {w:World} {g:Nat} {k:Ky} (h:KyAt w g k) (o:Obj):KyAt (w.alloc o) g k:=blk_alloc h o
theorem EnAt.alloc [Inhabited Sanct] {w:World} {g:Nat} {e:En} (h:EnAt w g e) (o:Obj):EnAt (w.alloc o) g e:=blk_alloc h o
theorem ky_new [Inhabited Sanct] {w:World} {g:Nat} (k:Ky) (h:w.heap.size=g):KyAt (w.alloc (Obj.cells (keyA k) 87)) g k:=newb h
theorem en_new [Inhabited Sanct] {w:World} {g:Nat} (e:En) (h:w.heap.size=g):EnAt (w.alloc (Obj.cells (enA e) 89)) g e:=newb h
def lessB (a b:Ky):Bool:=decide (a.s<b.s) || (decide (a.s=b.s) && decide (a.a<b.a))
attribute [local go_sem ↓] loadKey_eq loadEn_eq storeKey_eq storeEn_eq
theorem less_calls [Inhabited Sanct] {w:World} (a b:Ky):Calls Tryz.prog 134 #[.agg (keyA a),.agg (keyA b)] w fun e w'=>e = .returned (.bool (lessB a b))∧Below w.heap.size w w':=by
 obtain ⟨W0,hW0⟩:∃ W,(w.alloc (Obj.cells (keyA a) 87)).alloc (Obj.cells (keyA b) 87)=W:=⟨_,rfl⟩
 have ha:KyAt W0 w.heap.size a:=by rw [← hW0];exact (ky_new a rfl).alloc _
 have hb:KyAt W0 (w.heap.size+1) b:=by rw [← hW0];exact ky_new b (by simp)
 have HB:Aside0 (Below w.heap.size w W0):=⟨by rw [← hW0];exact below_alloc (below_alloc (Below.refl _ _) _) _⟩
 obtain ⟨a0,a1⟩:=ky_cell W0 ha
 obtain ⟨b0,b1⟩:=ky_cell W0 hb
 obtain ⟨s1,t1⟩:=a
 obtain ⟨s2,t2⟩:=b
 by_cases h1:s1<s2
 ·have d1:decide (s1<s2)=true:=decide_eq_true h1
  have HF:Aside0 (lessB ⟨s1,t1⟩ ⟨s2,t2⟩=true):=⟨by simp [lessB,h1]⟩
  go_enter Tryz.func134,Tryz.ntmps134
  go_wp2
  go_ret
  exact ⟨by rw [HF.out];rfl,HB.out⟩
 ·have d1:decide (s1<s2)=false:=decide_eq_false h1
  by_cases h2:s1=s2
  ·subst h2
   have HF:Aside0 (lessB ⟨s1,t1⟩ ⟨s1,t2⟩=decide (t1<t2)):=⟨by simp [lessB]⟩
   go_enter Tryz.func134,Tryz.ntmps134
   go_wp2
   all_goals
    go_ret
    exact ⟨by rw [HF.out];first | rfl | (congr 2;symm;simpa using by assumption),HB.out⟩
  ·have d2:(s1 == s2)=false:=beq_eq_false_iff_ne.mpr h2
   have HF:Aside0 (lessB ⟨s1,t1⟩ ⟨s2,t2⟩=false):=⟨by simp [lessB,h1,h2]⟩
   go_enter Tryz.func134,Tryz.ntmps134
   go_wp2
   go_ret
   exact ⟨by rw [HF.out];rfl,HB.out⟩
theorem npages_calls [Inhabited Sanct] {w:World} (e:En) (hl:e.l<1000000):Calls Tryz.prog 114 #[.agg (enA e)] w fun r w'=>r = .returned (.int .i64 (((e.l+255) / 256:Nat):Int))∧Below w.heap.size w w':=by
 obtain ⟨W0,hW0⟩:∃ W,w.alloc (Obj.cells (enA e) 89)=W:=⟨_,rfl⟩
 have ha:EnAt W0 w.heap.size e:=by rw [← hW0];exact en_new e rfl
 have HB:Aside0 (Below w.heap.size w W0):=⟨by rw [← hW0];exact below_alloc (Below.refl _ _) _⟩
 obtain ⟨_,_,_,_,a4,_⟩:=en_cell W0 ha
 go_enter Tryz.func114,Tryz.ntmps114
 go_wp2
 go_ret
 refine ⟨?_,HB.out⟩
 show Ending.returned (.int .i64 (((e.l:Int)+256-1) / 256))=_
 congr 2
 omega
theorem between_calls {w:World} (n a b:Int) (h1:a≤n) (h2:n≤b):Calls Tryz.prog 201 #[.int .i64 n,.int .i64 a,.int .i64 b] w fun r w'=>r = .returned (.bool true)∧w=w':=by
 have d1:decide (a≤n)=true:=decide_eq_true h1
 have d2:decide (n≤b)=true:=decide_eq_true h2
 go_enter Tryz.func201,Tryz.ntmps201
 go_wp2
 go_ret
 exact ⟨rfl,rfl⟩
def KyOk (k:Ky):Prop:=0≤k.s∧k.s≤4294967295∧0≤k.a∧k.a<9223372036854775808
structure EnOk (e:En):Prop where
 k:KyOk e.k
 z0:e.k.a≤e.z
 z1:e.z<9223372036854775808
 p2:2≤e.p
 p5:e.p≤511
 l1:1≤e.l
 l6:e.l≤65535
 pl:e.p+(e.l+255) / 256≤512
 n1:1≤e.n
 n2:e.n≤200
 c:e.c≤15
 x0:0≤e.x
 x1:e.x<4294967296
theorem rightkey_calls [Inhabited Sanct] {w:World} (k:Ky) (h:KyOk k):Calls Tryz.prog 202 #[.agg (keyA k)] w fun r w'=>r = .returned (.bool true)∧Below w.heap.size w w':=by
 obtain ⟨W0,hW0⟩:∃ W,w.alloc (Obj.cells (keyA k) 87)=W:=⟨_,rfl⟩
 have ha:KyAt W0 w.heap.size k:=by rw [← hW0];exact ky_new k rfl
 have HB:Aside0 (Below w.heap.size w W0):=⟨by rw [← hW0];exact below_alloc (Below.refl _ _) _⟩
 obtain ⟨a0,a1⟩:=ky_cell W0 ha
 have HC:Aside0 (∀ W,Calls Tryz.prog 201 #[.int .i64 k.s,.int .i64 0,.int .i64 4294967295] W fun r w'=>r = .returned (.bool true)∧W=w'):=⟨fun W=>between_calls k.s 0 4294967295 h.1 h.2.1⟩
 go_enter Tryz.func202,Tryz.ntmps202
 go_wp2_with (go_at_call 201;(with_reducible refine (HC.out _).mono ?_);rintro e w2 ⟨rfl,rfl⟩)
 go_ret
 exact ⟨rfl,HB.out⟩
theorem rightentry_calls [Inhabited Sanct] {w:World} (e:En) (h:EnOk e):Calls Tryz.prog 200 #[.agg (enA e)] w fun r w'=>r = .returned (.bool true)∧Below w.heap.size w w':=by
 obtain ⟨W0,hW0⟩:∃ W,w.alloc (Obj.cells (enA e) 89)=W:=⟨_,rfl⟩
 have ha:EnAt W0 w.heap.size e:=by rw [← hW0];exact en_new e rfl
 have HB:Aside0 (Below w.heap.size w W0):=⟨by rw [← hW0];exact below_alloc (Below.refl _ _) _⟩
 have HK:Aside0 (∀ W,Calls Tryz.prog 202 #[.agg (keyA e.k)] W fun r w'=>r = .returned (.bool true)∧Below W.heap.size W w'):=⟨fun W=>rightkey_calls e.k h.k⟩
 have HC1:Aside0 (∀ W,Calls Tryz.prog 201 #[.int .i64 (e.p:Int),.int .i64 2,.int .i64 511] W fun r w'=>r = .returned (.bool true)∧W=w'):=⟨fun W=>between_calls _ 2 511 (by have:=h.p2;omega) (by have:=h.p5;omega)⟩
 have HC2:Aside0 (∀ W,Calls Tryz.prog 201 #[.int .i64 (e.l:Int),.int .i64 1,.int .i64 65535] W fun r w'=>r = .returned (.bool true)∧W=w'):=⟨fun W=>between_calls _ 1 65535 (by have:=h.l1;omega) (by have:=h.l6;omega)⟩
 have HC3:Aside0 (∀ W,Calls Tryz.prog 201 #[.int .i64 (e.n:Int),.int .i64 1,.int .i64 200] W fun r w'=>r = .returned (.bool true)∧W=w'):=⟨fun W=>between_calls _ 1 200 (by have:=h.n1;omega) (by have:=h.n2;omega)⟩
 have HC4:Aside0 (∀ W,Calls Tryz.prog 201 #[.int .i64 (e.c:Int),.int .i64 0,.int .i64 15] W fun r w'=>r = .returned (.bool true)∧W=w'):=⟨fun W=>between_calls _ 0 15 (by omega) (by have:=h.c;omega)⟩
 obtain ⟨np,hnp⟩:∃ np:Int,(((e.l+255) / 256:Nat):Int)=np:=⟨_,rfl⟩
 have HP:Aside0 (∀ W,Calls Tryz.prog 114 #[.agg (enA e)] W fun r w'=>r = .returned (.int .i64 np)∧Below W.heap.size W w'):=⟨fun W=>by rw [← hnp];exact npages_calls e (by have:=h.l6;omega)⟩
 have hl:=ld_en (g:=w.heap.size) (e:=e)
 have hc:=en_cell (g:=w.heap.size) (e:=e)
 have d1:decide (e.z<e.k.a)=false:=decide_eq_false (by have:=h.z0;omega)
 have w1:IntKind.i64.wrap ((e.p:Int)+np)=(e.p:Int)+np:=by have:=h.pl;simp [IntKind.wrap,IntKind.bits,IntKind.signed];omega
 have d2:decide ((e.p:Int)+np≤512)=true:=decide_eq_true (by have:=h.pl;omega)
 have hnn:0≤np∧np≤512∧(e.p:Int)≤511:=by have:=h.pl;have:=h.p5;omega
 clear h hnp
 go_enter Tryz.func200,Tryz.ntmps200
 go_wp2_with (first
  | (go_at_call 202;(with_reducible refine (HK.out _).mono ?_);rintro r w2 ⟨rfl,h2⟩;have ha2:=ha.below h2;have HB2:=Aside0.mk (below_step HB.out h2))
  | (go_at_call 201;(with_reducible refine (HC1.out _).mono ?_);rintro r w3 ⟨rfl,rfl⟩)
  | (go_at_call 201;(with_reducible refine (HC2.out _).mono ?_);rintro r w4 ⟨rfl,rfl⟩))
 have ha3:EnAt w2.drew w.heap.size e:=ha2
 clear hW0
 go_region_held3 (fun w'=>EnAt w' w.heap.size e) (first | exact ha3 | exact ha4)
  (first
   | (go_at_call 114;(with_reducible refine (HP.out _).mono ?_);rintro r w4 ⟨rfl,h4⟩;have ha4:=ha3.below h4;have HB4:=Aside0.mk (below_step (below_drew HB2.out) h4))
   | (go_at_call 201;(with_reducible refine (HC3.out _).mono ?_);rintro r w5 ⟨rfl,rfl⟩)
   | (go_at_call 201;(with_reducible refine (HC4.out _).mono ?_);rintro r w6 ⟨rfl,rfl⟩))
 all_goals
  clear h2 h4 ha3
  go_wp2
  go_ret
  exact ⟨rfl,HB4.out⟩
end
section
section
variable {α:Type} {T:TypeId} {enc:α→List Value} {sz:Nat} {w W:World} {A:Option Addr} {xs:List α}
def Rw (T:TypeId) (enc:α→List Value) (sz:Nat) (w:World) (A:Option Addr) (xs:List α):Prop:=
 xs.length≤1000000∧(0<xs.length → ∃ g o cs fr,A=some ⟨g,o,none⟩∧w.heap[g]?=some (Obj.cells cs T fr) ∧ ∀ j x,xs[j]?=some x → ∀ i u,(enc x)[i]?=some u→cs[o+j*sz+i]?=some u)
theorem Rw.below [Inhabited Sanct] (h:Rw T enc sz w A xs) (hb:Below w.heap.size w W):Rw T enc sz W A xs:=⟨h.1,fun h0=>by
 obtain ⟨g,o,cs,fr,h1,h2,h3⟩:=h.2 h0
 exact ⟨g,o,cs,fr,h1,blkb hb h2,h3⟩⟩
theorem Rw.frT [Inhabited Sanct] {Ts:List Nat} (h:Rw T enc sz w A xs) (hf:FrT Ts w W) (hT:T ∉ Ts):Rw T enc sz W A xs:=⟨h.1,fun h0=>by
 obtain ⟨g,o,cs,fr,h1,h2,h3⟩:=h.2 h0
 exact ⟨g,o,cs,fr,h1,hf.blk h2 hT,h3⟩⟩
theorem Rw.at_ (h:Rw T enc sz w A xs) {j:Nat} {x:α} (hj:xs[j]?=some x):∃ g o,A=some ⟨g,o,none⟩∧w.rangeAt g (o+j*sz) (enc x):=by
 obtain ⟨g,o,cs,fr,h1,h2,h3⟩:=h.2 (by have:=(List.getElem?_eq_some_iff.1 hj).1;omega)
 exact ⟨g,o,h1,fun i u hu=>by rw [cell_of_row w g _ _ _ _ h2];exact h3 j x hj i u hu⟩
theorem Rw.nil (h:xs=[]):Rw T enc sz w A xs:=⟨by rw [h];simp,fun h0=>by rw [h] at h0;simp at h0⟩
theorem Rw.take (h:Rw T enc sz w A xs) (n:Nat):Rw T enc sz w A (xs.take n):=⟨by have:=h.1;rw [List.length_take];omega,fun h0=>by
 obtain ⟨g,o,cs,fr,h1,h2,h3⟩:=h.2 (by rw [List.length_take] at h0;omega)
 refine ⟨g,o,cs,fr,h1,h2,fun j x hj=>h3 j x ?_⟩
 rw [List.getElem?_take] at hj
 split at hj
 ·exact hj
 ·cases hj⟩
theorem Rw.drop (h:Rw T enc sz w A xs) (n:Nat):Rw T enc sz w (A.map (·.add (n*sz))) (xs.drop n):=⟨by have:=h.1;rw [List.length_drop];omega,fun h0=>by
 obtain ⟨g,o,cs,fr,h1,h2,h3⟩:=h.2 (by rw [List.length_drop] at h0;omega)
 refine ⟨g,o+n*sz,cs,fr,by rw [h1];simp [add_none],h2,fun j x hj i u hu=>?_⟩
 rw [List.getElem?_drop] at hj
 have:=h3 _ x hj i u hu
 rwa [Nat.add_mul,← Nat.add_assoc] at this⟩
def flat (enc:α→List Value) (sz:Nat) (hl:∀ x,(enc x).length=sz) (h1:∀ x u,u∈enc x→u.oneCell'=true):Kd α where
 sz:=sz
 E:=[]
 K:=fun _ x cs=>cs=enc x
 M:=fun _ _ _ x cs=>cs=enc x
 K_len:=fun h=>by rw [h];exact hl _
 K_one:=fun h u hu=>by rw [h] at hu;exact h1 _ u hu
 K_below:=fun _ h=>h
 K_of_M:=fun h=>h
 M_mono:=fun _ h=>h
 M_bound:=fun h=>h
 M_move:=fun _ h=>h
 M_lower:=fun _ h=>h
theorem R_rw {hl:∀ x,(enc x).length=sz} {h1:∀ x u,u∈enc x→u.oneCell'=true} {base:Nat} {ok:Nat→Prop} {n c:Nat} (h:(flat enc sz hl h1).R T w base ok (.slice A n c) xs) (hm:xs.length≤1000000):Rw T enc sz w A xs:=by
 obtain ⟨h0,inner,⟨_,h2⟩,hr⟩:=h
 refine ⟨hm,fun h0=>?_⟩
 rcases h2 with ⟨_,h3⟩ | ⟨g,cap,cur,hv,hg,hh,hn,hmx,hz,ht⟩
 ·omega
 ·injection hv with hv _ _
  refine ⟨g,0,cur,(0,0),hv,hh,fun j x hj i u hu=>?_⟩
  have h5:=hr.2 j x hj
  have h6:(inner.drop (j*sz)).take sz=enc x:=h5
  have hi:i<sz:=by have:=(List.getElem?_eq_some_iff.1 hu).1;rw [hl] at this;exact this
  have h7:inner[j*sz+i]?=some u:=by
   rw [← hu,← h6,List.getElem?_take,if_pos hi,List.getElem?_drop]
  rw [← ht] at h7
  rw [Nat.zero_add]
  rw [List.getElem?_take] at h7
  split at h7
  ·simpa using h7
  ·cases h7
end
theorem en_len (e:En):(enC e).length=8:=rfl
theorem en_one (e:En) (u:Value) (h:u∈enC e):u.oneCell'=true:=by
 simp only [enC,List.mem_cons,List.mem_nil_iff,or_false] at h
 rcases h with rfl | rfl | rfl | rfl | rfl | rfl | rfl | rfl<;>rfl
theorem ky_len (k:Ky):(keyC k).length=2:=rfl
theorem ky_one (k:Ky) (u:Value) (h:u∈keyC k):u.oneCell'=true:=by
 simp only [keyC,List.mem_cons,List.mem_nil_iff,or_false] at h
 rcases h with rfl | rfl<;>rfl
def kE:Kd En:=flat enC 8 en_len en_one
def kK:Kd Ky:=flat keyC 2 ky_len ky_one
def natC (n:Nat):List Value:=[.int .i64 (n:Int)]
def kN:Kd Nat:=flat natC 1 (fun _=>rfl) (fun n u h=>by simp only [natC,List.mem_cons,List.mem_nil_iff,or_false] at h;subst h;rfl)
abbrev REn (w:World) (A:Option Addr) (es:List En):Prop:=Rw 89 enC 8 w A es
abbrev RKy (w:World) (A:Option Addr) (ks:List Ky):Prop:=Rw 87 keyC 2 w A ks
abbrev RNa (w:World) (A:Option Addr) (ns:List Nat):Prop:=Rw 3 natC 1 w A ns
structure Nd where
 lf:Bool
 es:List En
 ks:List Ky
 ts:List Nat
def srt (es:List En):Prop:=∀ i x y,es[i]?=some x→es[i+1]?=some y→lessB x.k y.k=true∧(x.k.s=y.k.s→x.z<y.k.a)
structure LeafOk (es:List En):Prop where
 n1:1≤es.length
 n7:es.length≤7
 ok:∀ e∈es,EnOk e
 so:srt es
structure InnOk (ks:List Ky) (ts:List Nat):Prop where
 n:ks.length=ts.length
 n1:1≤ts.length
 n16:ts.length≤16
 ok:∀ k∈ks,KyOk k
 so:∀ i x y,ks[i]?=some x→ks[i+1]?=some y→lessB x y=true
 pg:∀ t∈ts,2≤t∧t≤511
 nd:ts.Nodup
end
section
attribute [local go_sem ↓] Go.wp_at_zero Go.wp_at_succ loadKey_eq loadEn_eq storeKey_eq storeEn_eq
def zEn:Array Value:=#[.int .i64 0,.int .i64 0,.int .i64 0,.int .i64 0,.int .i64 0,.int .i64 0,.int .i64 0,.int .u32 0]
def zKy:Array Value:=#[.int .i64 0,.int .i64 0]
theorem enA_one (e:En):(enA e).all (·.oneCell')=true:=Array.all_eq_true_iff_forall_mem.2 (fun v hv=>en_one e v (by simpa [enA] using hv))
theorem keyA_one (k:Ky):(keyA k).all (·.oneCell')=true:=Array.all_eq_true_iff_forall_mem.2 (fun v hv=>ky_one k v (by simpa [keyA] using hv))
theorem st_en [Inhabited Sanct] (e:En) (W:World):(storeEnI (.pointer (some ⟨W.heap.size,0,none⟩)) (.agg (enA e))).run Tryz.prog (W.alloc (Obj.cells #[.int .i64 0,.int .i64 0,.int .i64 0,.int .i64 0,.int .i64 0,.int .i64 0,.int .i64 0,.int .u32 0] 89)) = .ok () (W.alloc (Obj.cells (enA e) 89)):=by
 have:=run_storeVar_row (P:=Tryz.prog) (W.alloc (Obj.cells zEn 89)) W.heap.size 89 89 zEn (enA e) (newb rfl) en_size rfl (enA_one e)
 rw [World.setRow_alloc_new] at this
 simp only [storeEnI,Instr.storeAt,Instr.sureAddr,Sem.run_bind,Sem.run_pure,Result.andThen_ok]
 exact this
theorem st_key [Inhabited Sanct] (k:Ky) (W:World):(storeKeyI (.pointer (some ⟨W.heap.size,0,none⟩)) (.agg (keyA k))).run Tryz.prog (W.alloc (Obj.cells #[.int .i64 0,.int .i64 0] 87)) = .ok () (W.alloc (Obj.cells (keyA k) 87)):=by
 have:=run_storeVar_row (P:=Tryz.prog) (W.alloc (Obj.cells zKy 87)) W.heap.size 87 87 zKy (keyA k) (newb rfl) key_size rfl (keyA_one k)
 rw [World.setRow_alloc_new] at this
 simp only [storeKeyI,Instr.storeAt,Instr.sureAddr,Sem.run_bind,Sem.run_pure,Result.andThen_ok]
 exact this
theorem leaf_calls [Inhabited Sanct] {w:World} {A:Option Addr} {es:List En} (n c:Nat) (hn:es.length=n) (hr:REn w A es) (h:LeafOk es) :
  Calls Tryz.prog 153 #[.slice A n c] w fun r w'=>r = .returned (.bool true)∧Below w.heap.size w w':=by
 have hn1:1≤n∧n≤7:=by have:=h.n1;have:=h.n7;omega
 obtain ⟨g,o,_,_,rfl,_,_⟩:=hr.2 (by omega)
 have HR:=Aside0.mk hr
 have HN:=Aside0.mk hn
 have HK:=Aside0.mk h
 have HBT:Aside0 (∀ W,Calls Tryz.prog 201 #[.int .i64 (n:Int),.int .i64 1,.int .i64 7] W fun r w'=>r = .returned (.bool true)∧W=w'):=⟨fun W=>between_calls _ 1 7 (by omega) (by omega)⟩
 clear hr hn h
 go_enter Tryz.func153,Tryz.ntmps153
 go_wp2
 go_loopw [8] (fun v8 wr=>∃ (i:Nat) (ii:Int),v8 = .int .i64 ii∧Aside0 (ii=(i:Int))∧Aside0 (i≤n)∧Aside0 (Below w.heap.size w wr)) (fun v8 _=>((n:Int)-intOf v8).toNat)
 case atStart=>exact ⟨0,0,rfl,⟨rfl⟩,⟨Nat.zero_le _⟩,⟨Below.refl _ _⟩⟩
 case round=>
  obtain ⟨i,ii,rfl,HI,HIL,HB⟩:=hrel
  have hi0:0≤ii∧ii≤7:=by have:=HI.out;have:=HIL.out;omega
  have e5:wrap64 (ii+1)=ii+1:=wrap64_id (by omega) (by omega)
  by_cases hlt:i<n
  ·have d1:decide (ii<(n:Int))=true:=decide_eq_true (by have:=HI.out;omega)
   have d2:(ii<(n:Int))=True:=eq_true (by have:=HI.out;omega)
   have d3:(0≤ii)=True:=eq_true (by omega)
   have eii:ii.toNat=i:=by have:=HI.out;omega
   obtain ⟨e,he⟩:∃ e,es[i]?=some e:=⟨_,List.getElem?_eq_getElem (by rw [HN.out];exact hlt)⟩
   have hld:(loadEnI (.pointer (some ⟨g,o+i*8,none⟩))).run Tryz.prog wr = .ok (.agg (enA e)) wr:=by
    obtain ⟨g2,o2,hA,hc⟩:=(HR.out.below HB.out).at_ he
    injection hA with hA;injection hA with h1 h2;subst h1 h2
    exact run_loadEn hc
   have hst:=st_en e wr
   have hen:EnAt (wr.alloc (Obj.cells (enA e) 89)) wr.heap.size e:=en_new e rfl
   have hl:=ld_en (g:=wr.heap.size) (e:=e)
   have hc:=en_cell (g:=wr.heap.size) (e:=e)
   have HE:=Aside0.mk he
   have HB1:Aside0 (Below w.heap.size w (wr.alloc (Obj.cells (enA e) 89))):=⟨below_alloc HB.out _⟩
   have HRE:Aside0 (∀ W,Calls Tryz.prog 200 #[.agg (enA e)] W fun r w'=>r = .returned (.bool true)∧Below W.heap.size W w'):=⟨fun W=>rightentry_calls e (HK.out.ok e (List.mem_of_getElem? he))⟩
   clear he
   by_cases hz:i=0
   ·have d4:(ii == 0)=true:=beq_iff_eq.mpr (by have:=HI.out;omega)
    subst hz
    simp only [Nat.zero_mul,Nat.add_zero] at hld
    go_wp2_with (go_at_call 200;(with_reducible refine (HRE.out _).mono ?_);rintro r w2 ⟨rfl,h2⟩;have HB2:=Aside0.mk (below_step HB1.out h2);clear h2)
    go_roundw
    case rel=>exact ⟨0+1,_,rfl,⟨by have:=HI.out;omega⟩,⟨by omega⟩,HB2⟩
    case measure=>simp [intOf];have:=HI.out;omega
   ·have d4:(ii == 0)=false:=beq_eq_false_iff_ne.mpr (by have:=HI.out;omega)
    obtain ⟨j,rfl⟩:∃ j,i=j+1:=⟨i-1,by omega⟩
    obtain ⟨p,hp⟩:∃ p,es[j]?=some p:=⟨_,List.getElem?_eq_getElem (by rw [HN.out];omega)⟩
    have hso:=HK.out.so j p e hp HE.out
    obtain ⟨kk,hkk⟩:∃ kk:Int,ii-1=kk:=⟨_,rfl⟩
    have e6:wrap64 (ii-1)=kk:=by rw [hkk];exact wrap64_id (by omega) (by omega)
    have hkj:kk=(j:Int):=by have:=HI.out;omega
    have d5:(kk<(n:Int))=True:=eq_true (by omega)
    have d6:(0≤kk)=True:=eq_true (by omega)
    have ekk:kk.toNat=j:=by omega
    have HKJ:=Aside0.mk hkj
    have HP:=Aside0.mk hp
    have HKK:=Aside0.mk hkk
    have HL:Aside0 (∀ W,Calls Tryz.prog 134 #[.agg (keyA p.k),.agg (keyA e.k)] W fun r w'=>r = .returned (.bool true)∧Below W.heap.size W w'):=⟨fun W=>by rw [← hso.1];exact less_calls p.k e.k⟩
    have HSO:=Aside0.mk hso.2
    clear hkj hp hkk hso hz
    go_wp2_with (go_at_call 200;(with_reducible refine (HRE.out _).mono ?_);rintro r w2 ⟨rfl,h2⟩;refine hold ?_)
    unfold Hold
    have HB2:=Aside0.mk (below_step HB1.out h2)
    have hen2:=hen.below h2
    have hld2:(loadEnI (.pointer (some ⟨g,o+j*8,none⟩))).run Tryz.prog w2 = .ok (.agg (enA p)) w2:=by
     obtain ⟨g2,o2,hA,hc⟩:=(HR.out.below HB2.out).at_ HP.out
     injection hA with hA;injection hA with h1 h2;subst h1 h2
     exact run_loadEn hc
    have hst2:=st_en p w2
    have hpn:EnAt (w2.alloc (Obj.cells (enA p) 89)) w2.heap.size p:=en_new p rfl
    have hen3:EnAt (w2.alloc (Obj.cells (enA p) 89)) wr.heap.size e:=hen2.alloc _
    have hlp:=ld_en (g:=w2.heap.size) (e:=p)
    have hcp:=en_cell (g:=w2.heap.size) (e:=p)
    have HB3:Aside0 (Below w.heap.size w (w2.alloc (Obj.cells (enA p) 89))):=⟨below_alloc HB2.out _⟩
    clear h2 hld
    by_cases hs:p.k.s=e.k.s
    ·have d7:(p.k.s == e.k.s)=true:=beq_iff_eq.mpr hs
     have d8:decide (e.k.a≤p.z)=false:=decide_eq_false (by have:=HSO.out hs;omega)
     clear hs
     go_wp2_with (go_at_call 134;(with_reducible refine (HL.out _).mono ?_);rintro r w3 ⟨rfl,h3⟩;have hp3:=hpn.below h3;have he3:=hen3.below h3;have HB4:=Aside0.mk (below_step HB3.out h3);clear h3)
     go_roundw
     case rel=>exact ⟨j+1+1,_,rfl,⟨by have:=HI.out;omega⟩,⟨by omega⟩,HB4⟩
     case measure=>simp [intOf];have:=HI.out;omega
    ·have d7:(p.k.s == e.k.s)=false:=beq_eq_false_iff_ne.mpr hs
     clear hs
     go_wp2_with (go_at_call 134;(with_reducible refine (HL.out _).mono ?_);rintro r w3 ⟨rfl,h3⟩;have hp3:=hpn.below h3;have he3:=hen3.below h3;have HB4:=Aside0.mk (below_step HB3.out h3);clear h3)
     go_roundw
     case rel=>exact ⟨j+1+1,_,rfl,⟨by have:=HI.out;omega⟩,⟨by omega⟩,HB4⟩
     case measure=>simp [intOf];have:=HI.out;omega
  ·obtain rfl:i=n:=by have:=HIL.out;omega
   have d1:decide (ii<(i:Int))=false:=decide_eq_false (by have:=HI.out;omega)
   go_wp2_with (go_at_call 201;(with_reducible refine (HBT.out _).mono ?_);rintro r w2 ⟨rfl,rfl⟩)
   go_ret
   exact ⟨rfl,HB.out⟩
end
end Go.Proofs.YtnhkikebfinejaaGreatDoor.Z
namespace Go.Proofs.YtnhkikebfinejaaGreatDoor.X
open Go.RowKit Go.Proofs.YtnhkikebfinejaaGreatDoorW.PrintWords Go.Proofs.YtnhkikebfinejaaGreatDoorW.PrintLast Go.Proofs.YtnhkikebfinejaaGreatDoorW.PrintMore
section
attribute [local go_sem] max2_int min2_int max_two min_two max_three min_three max_four min_four
def slices_Index_int_int.l0:Nat→List Int→Int→Int→Int→Option (Int)
 | 0,_,_,_,_=>none
 | k+1,x0,x1,x7,x8=>if x8<x7 then (if 0≤x8 then (if x8<(x0.length:Int) then (if x1=(rd x0 x8) then (some x8) else (slices_Index_int_int.l0 k x0 x1 x7 (wrap64 (x8+1)))) else (none)) else (none)) else (some (-1))
def slices_Index_int_int.f (k:Nat) (l0:List Int) (a1:Int):Option (Int):=slices_Index_int_int.l0 k l0 a1 (l0.length:Int) 0
theorem slices_Index_int_int.mono_l:∀ k,(∀ y0 y1 y2 y3,LeO (slices_Index_int_int.l0 k y0 y1 y2 y3) (slices_Index_int_int.l0 (k+1) y0 y1 y2 y3))
 | 0=>fun _ _ _ _ r h=>by simp [slices_Index_int_int.l0] at h
 | k+1=>by
  have ih0:=slices_Index_int_int.mono_l k
  ·intro y0 y1 y2 y3
   unfold slices_Index_int_int.l0
   repeat' first
   | (with_reducible exact ih0 _ _ _ _)
   | (with_reducible exact LeO.refl _)
   | (with_reducible exact LeO.none _)
   | (with_reducible refine LeO.ite ?_ ?_)
   | (with_reducible refine LeO.bind ?_ (fun _=>?_))
   | exact ih0 _ _ _ _
   | exact LeO.none _
   | refine LeO.ite ?_ ?_
   | refine LeO.bind ?_ (fun _=>?_)
theorem slices_Index_int_int.mono:∀ a0 a1 k,LeO (slices_Index_int_int.f k a0 a1) (slices_Index_int_int.f (k+1) a0 a1):=by
 intro a0 a1 k
 have ih0:=slices_Index_int_int.mono_l k
 unfold slices_Index_int_int.f
 repeat' first
   | (with_reducible exact ih0 _ _ _ _)
   | (with_reducible exact LeO.refl _)
   | (with_reducible exact LeO.none _)
   | (with_reducible refine LeO.ite ?_ ?_)
   | (with_reducible refine LeO.bind ?_ (fun _=>?_))
   | exact ih0 _ _ _ _
   | exact LeO.none _
   | refine LeO.ite ?_ ?_
   | refine LeO.bind ?_ (fun _=>?_)
theorem slices_Index_int_int.calls (k:Nat) (A0:Option Addr) (c0:Nat) (l0:List Int) (a1:Int) (r:Int) (w:World) (hr0:Kd.C (Kd.int .i64) w A0 l0.length l0) (hc0:l0.length≤c0) (h:slices_Index_int_int.f k l0 a1=some r) :
  Calls Tryz.prog 122 #[.slice A0 l0.length c0,.int .i64 a1] w fun e w'=>e = .returned (.int .i64 r)∧Drawn0 w w':=by
 have HR0:=Aside0.mk hr0
 have HC0:=Aside0.mk hc0
 clear hr0 hc0
 have H:(slices_Index_int_int.l0 k l0 a1 (l0.length:Int) 0)=some r:=h
 clear h
 have H':=Aside0.mk H
 clear H
 go_enter Tryz.func122,Tryz.ntmps122
 go_wp2
 go_loopg [8] k (fun kq v8 w'=>∃ (x8_1:Int),v8 = .int .i64 x8_1∧Aside0 (slices_Index_int_int.l0 kq l0 a1 (l0.length:Int) x8_1=some r)∧Aside0 (kq≤k)∧Drawn0 w w')
 case atStart=>exact ⟨(0),(by first | rfl | (simp;done) | (simp [*];done)),H',⟨Nat.le_refl _⟩,by repeat (first | exact Drawn0.refl _ | apply Drawn0.step)⟩
 case round=>
  clear H'
  try clear c1
  try clear p2
  obtain ⟨x8_1,rfl,HA,HK1,⟨m1,rfl⟩⟩:=hrel
  cases gk with
  | zero=>exact absurd HA.out (by simp [slices_Index_int_int.l0])
  | succ k1=>
   have H:=HA.out
   clear HA
   simp only [slices_Index_int_int.l0] at H
   by_cases c3:x8_1<(l0.length:Int)
   ·rw [if_pos c3] at H
    have c3b0:decide (x8_1<(l0.length:Int))=true:=decide_eq_true c3
    clear c3
    by_cases c4:0≤x8_1
    ·rw [if_pos c4] at H
     have c4b0:decide (0≤x8_1)=true:=decide_eq_true c4
     clear c4
     by_cases c5:x8_1<(l0.length:Int)
     ·rw [if_pos c5] at H
      have c5b0:decide (x8_1<(l0.length:Int))=true:=decide_eq_true c5
      clear c5
      by_cases c6:a1=(rd l0 x8_1)
      ·rw [if_pos c6] at H
       have c6b0:(a1 == (rd l0 x8_1))=true:=beq_iff_eq.mpr c6
       have c6b1:(a1 != (rd l0 x8_1))=false:=bne_eq_false_iff_eq.mpr c6
       clear c6
       obtain rfl:=Option.some.inj H
       have p470:0≤(x8_1:Int):=of_decide_eq_true (by first | (with_reducible assumption) | assumption)
       have q470:x8_1<(l0.length:Int):=of_decide_eq_true (by first | (with_reducible assumption) | assumption)
       obtain ⟨ad470,e470,hx470_0⟩:=Kd.at_int HR0.out x8_1 p470 q470
       cases e470
       replace p470:=eq_true p470
       replace q470:=eq_true q470
       go_wp2
       go_ret
       exact ⟨by first | rfl | (simp;done) | (simp [*];done),by repeat (first | exact Drawn0.refl _ | apply Drawn0.step)⟩
      ·rw [if_neg c6] at H
       have c6b0:(a1 == (rd l0 x8_1))=false:=beq_eq_false_iff_ne.mpr c6
       have c6b1:(a1 != (rd l0 x8_1))=true:=bne_iff_ne.mpr c6
       have H':=Aside0.mk H
       clear H
       have p470:0≤(x8_1:Int):=of_decide_eq_true (by first | (with_reducible assumption) | assumption)
       have q470:x8_1<(l0.length:Int):=of_decide_eq_true (by first | (with_reducible assumption) | assumption)
       obtain ⟨ad470,e470,hx470_0⟩:=Kd.at_int HR0.out x8_1 p470 q470
       cases e470
       replace p470:=eq_true p470
       replace q470:=eq_true q470
       go_wp2
       go_roundg k1
       case measure=>have:=HK1.out;omega
       case rel=>exact ⟨(wrap64 (x8_1+1)),(by first | rfl | (simp;done) | (simp [*];done)),H',⟨by have:=HK1.out;omega⟩,by repeat (first | exact Drawn0.refl _ | apply Drawn0.step)⟩
     ·rw [if_neg c5] at H
      exact absurd H (by simp)
    ·rw [if_neg c4] at H
     exact absurd H (by simp)
   ·rw [if_neg c3] at H
    have c3b0:decide (x8_1<(l0.length:Int))=false:=decide_eq_false c3
    clear c3
    obtain rfl:=Option.some.inj H
    go_wp2
    go_ret
    exact ⟨by first | rfl | (simp;done) | (simp [*];done),by repeat (first | exact Drawn0.refl _ | apply Drawn0.step)⟩
end
section
attribute [local go_sem] max2_int min2_int max_two min_two max_three min_three max_four min_four
def slices_Contains_int_int.f (k:Nat) (l0:List Int) (a1:Int):Option (Bool):=(slices_Index_int_int.f k l0 a1).bind fun t471=>(some (decide (t471 ≥ 0)))
theorem slices_Contains_int_int.mono:∀ a0 a1 k,LeO (slices_Contains_int_int.f k a0 a1) (slices_Contains_int_int.f (k+1) a0 a1):=by
 intro a0 a1 k
 unfold slices_Contains_int_int.f
 repeat' first
   | (with_reducible exact slices_Index_int_int.mono _ _ _)
   | (with_reducible exact LeO.refl _)
   | (with_reducible exact LeO.none _)
   | (with_reducible refine LeO.ite ?_ ?_)
   | (with_reducible refine LeO.bind ?_ (fun _=>?_))
   | exact slices_Index_int_int.mono _ _ _
   | exact LeO.none _
   | refine LeO.ite ?_ ?_
   | refine LeO.bind ?_ (fun _=>?_)
theorem slices_Contains_int_int.calls (k:Nat) (A0:Option Addr) (c0:Nat) (l0:List Int) (a1:Int) (r:Bool) (w:World) (hr0:Kd.C (Kd.int .i64) w A0 l0.length l0) (hc0:l0.length≤c0) (h:slices_Contains_int_int.f k l0 a1=some r) :
  Calls Tryz.prog 75 #[.slice A0 l0.length c0,.int .i64 a1] w fun e w'=>e = .returned (.bool r)∧Drawn0 w w':=by
 have HR0:=Aside0.mk hr0
 have HC0:=Aside0.mk hc0
 clear hr0 hc0
 have H:((slices_Index_int_int.f k l0 a1).bind fun t471=>(some (decide (t471 ≥ 0))))=some r:=h
 clear h
 replace H:=Option.bind_eq_some_iff.mp H
 obtain ⟨t471,A30,H⟩:=H
 replace H:(some (decide (t471 ≥ 0)))=some r:=H
 have A3:=Aside0.mk A30
 clear A30
 obtain rfl:=Option.some.inj H
 go_enter Tryz.func75,Tryz.ntmps75
 go_wp2_with (first | ((with_reducible refine gate_callee (f:=122) rfl ?_);refine goesL_ (some 7) rfl rfl Tryz.func122 (by kernel_rfl) rfl #[.slice A0 l0.length c0,.int .i64 a1] rfl (by (try simp only [List.map_toArray,List.map_cons,List.map_nil]);first | done | rfl | (simp only [List.length_drop,List.length_take];rfl)) ?_;(with_reducible refine (slices_Index_int_int.calls k _ _ l0 a1 t471 _ ?side1 ?side2 A3.out).mono ?_);(case side1=>repeat (first | exact HR0.out | (with_reducible refine Kd.C_alloc ?_ _) | (with_reducible refine Kd.C_drewN ?_ _) | (with_reducible refine Kd.C_drew ?_)));(case side2=>exact HC0.out);rintro e w' ⟨rfl,⟨nd,rfl⟩⟩;refine ⟨_,rfl,?_⟩))
 go_ret
 exact ⟨by first | rfl | (simp;done) | (simp [*];done),by repeat (first | exact Drawn0.refl _ | apply Drawn0.step)⟩
end
end Go.Proofs.YtnhkikebfinejaaGreatDoor.X
