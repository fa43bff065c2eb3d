/- Texts of this claim, laid together. No conditions. -/
import Derived.Test.YtnhkikebfinejaaGreatDoorMRickMany5
import Derived.Deep.MidRow
import Derived.Deep.RegionHeld3
import Derived.RegionTactic
import Derived.BigRegion
import Derived.ChangeAlike
import Derived.Test.YtnhkikebfinejaaGreatDoorMRickMany3
set_option linter.unusedVariables false
set_option linter.unusedSimpArgs false
set_option maxRecDepth 100000
set_option maxHeartbeats 16000000
namespace Go.Proofs.YtnhkikebfinejaaGreatDoor.Z
open Go Go.RowKit Go.Proofs.YtnhkikebfinejaaGreatDoorW.PrintWords Go.Proofs.YtnhkikebfinejaaGreatDoorW.PrintLast Go.Proofs.YtnhkikebfinejaaGreatDoorW.PrintMore Go.Proofs.YtnhkikebfinejaaGreatDoor.S Go.Proofs.YtnhkikebfinejaaGreatDoor.X
section
attribute [local go_sem ↓] Go.wp_at_zero Go.wp_at_succ
def tabA:Array Value:=(nums .u32 crcTab).toArray
theorem tabA_len [Inhabited Sanct]:tabA.size=256:=by simp [tabA,nums,crcTab_len]
theorem tabA_size [Inhabited Sanct]:(Tryz.prog.info? 74).map (·.size)=some tabA.size:=by rw [tabA_len];exact size_tab
def PageAt (f:Nat→List Int) (a:Nat) (kind:Int) (body:List Int):Prop:=∃ gen:Int,0≤gen∧gen<18446744073709551616∧gath f (4*a) 4=pageB kind (a:Int) gen body
def SameAt (f g:Nat→List Int) (a:Nat):Prop:=∀ s,4*a≤s→s<4*a+4→g s=f s
theorem gath_same {f g:Nat→List Int} (s:Nat):∀ k,(∀ i,s≤i→i<s+k→g i=f i)→gath g s k=gath f s k:=by
 intro k
 induction k with
 | zero=>intro _;rfl
 | succ k ih=>intro h;rw [gath,gath,ih (fun i h1 h2=>h i h1 (by omega)),h (s+k) (by omega) (by omega)]
theorem SameAt.page [Inhabited Sanct] {f g:Nat→List Int} {a:Nat} {kind:Int} {body:List Int} (h:SameAt f g a) (hp:PageAt f a kind body):PageAt g a kind body:=by
 obtain ⟨gen,h1,h2,h3⟩:=hp
 exact ⟨gen,h1,h2,(gath_same (4*a) 4 (fun i hi hj=>h i hi hj)).trans h3⟩
theorem gath_cut {P:List Int} {g:Nat→List Int} (s:Nat):∀ k,64*k≤P.length→(∀ i,i<k→g (s+i)=cut64 P i)→gath g s k=P.take (64*k):=by
 intro k
 induction k with
 | zero=>intro _ _;rfl
 | succ k ih=>
  intro hl h
  rw [gath,ih (by omega) (fun i hi=>h i (by omega)),h k (by omega)]
  unfold cut64
  rw [show 64*(k+1)=64*k+64 by omega,List.take_add]
theorem raws_gath (f:Nat→List Int) (a:Nat) (bs:List Int):gath (raws f a bs) (4*a) (4*((bs.length+255) / 256))=padB bs:=by
 rw [gath_cut (P:=padB bs) (4*a) _ (by rw [padB_len];omega),List.take_of_length_le (by rw [padB_len];omega)]
 intro i hi
 unfold raws
 rw [if_pos (by omega),Nat.add_sub_cancel_left]
theorem raws_other (f:Nat→List Int) (a:Nat) (bs:List Int) (b:Nat) (h:b<a∨a+(bs.length+255) / 256≤b):SameAt f (raws f a bs) b:=by
 intro s h1 h2
 unfold raws
 rw [if_neg (by omega)]
def Wrote (f f':Nat→List Int) (a:Nat) (kind:Int) (body:List Int):Prop:=PageAt f' a kind body ∧ ∀ b,b≠a→SameAt f f' b
theorem wrote_page (f:Nat→List Int) (a:Nat) (kind gen:Int) (body:List Int) (hg:0≤gen∧gen<18446744073709551616) (hl:body.length≤238):Wrote f (raws f a (pageB kind (a:Int) gen body)) a kind body:=by
 have hp:=pageB_len (kind:=kind) (addr:=(a:Int)) (gen:=gen) hl
 refine ⟨⟨gen,hg.1,hg.2,?_⟩,fun b hb=>raws_other _ _ _ _ (by rw [hp];omega)⟩
 have h:=raws_gath f a (pageB kind (a:Int) gen body)
 rw [hp] at h
 rw [show padB (pageB kind (a:Int) gen body)=pageB kind (a:Int) gen body by unfold padB;rw [hp];exact List.append_nil _] at h
 exact h
theorem pagewrite_calls [Inhabited Sanct] {w:World} {d N nw:Nat} {f:Nat→List Int} (h:DT w d N nw f) (a:Nat) (kind gen:Int) (A:Option Addr) (n c:Nat) (body:List Int) (hn:body.length=n) (hr:Kd.C (Kd.int .u8) w A body.length body) (hb:Bs body) (hk:kind=83∨kind=76∨kind=73∨kind=66) (haN:a<N) (h2:n≤238) (hg:0≤gen∧gen<18446744073709551616) (hw:nw+2048<1000000) :
  Calls Tryz.prog 95 #[.agg tabA,.pointer (some ⟨d,0,none⟩),pageV kind (a:Int) gen A n c] w fun e w'=>e = .returned (.int .i64 0)∧FrT dT w w' ∧ ∃ f',DT w' d N (nw+4) f'∧Wrote f f' a kind body:=by
 have hN:=h.hN
 subst hn
 have HPUT:Aside0 (∀ W,Below w.heap.size w W→Calls Tryz.prog 139 #[.agg tabA,.agg #[.int .u8 kind,.int .i64 (a:Int),.int .u64 gen,.slice A body.length c]] W fun e w'=>∃ v,e = .returned (.tuple #[v,.int .i64 0])∧Kd.R (Kd.int .u8) 5 w' W.heap.size (fun _=>True) v (pageB kind (a:Int) gen body)∧Below W.heap.size W w'):=
  ⟨fun W hW=>pageput_calls kind (a:Int) gen A body.length c body rfl (Kd.C_below hr hW) hk (by omega) (by omega) h2 hg⟩
 have HWR:Aside0 (∀ W A' c',Below w.heap.size w W→256≤c'→Kd.C (Kd.int .u8) W A' (pageB kind (a:Int) gen body).length (pageB kind (a:Int) gen body)→Calls Tryz.prog 62 #[.pointer (some ⟨d,0,none⟩),.int .i64 (a:Int),.slice A' 256 c'] W fun e w'=>e = .returned (.int .i64 0)∧FrT dT W w'∧DT w' d N (nw+4) (raws f a (pageB kind (a:Int) gen body))):=
  ⟨fun W A' c' hW hc' hC=>writeraw_calls (h.below hW) a 256 A' c' _ (pageB_len h2) (by decide) hc' hC (pageB_bs (by omega) hb) (by omega) hw (by decide)⟩
 have HW:Aside0 (Wrote f (raws f a (pageB kind (a:Int) gen body)) a kind body):=⟨wrote_page f a kind gen body hg h2⟩
 have HPL:=Aside0.mk (pageB_len (kind:=kind) (addr:=(a:Int)) (gen:=gen) h2)
 have HX0:Aside0 (((w.alloc (Obj.cells tabA 74)).alloc (Obj.cells #[.int .u8 kind,.int .i64 (a:Int),.int .u64 gen,.slice A body.length c] 154)).heap[w.heap.size]?=some (Obj.cells tabA 74)):=⟨heap_alloc2_old w _ _⟩
 have HX1:Aside0 (((w.alloc (Obj.cells tabA 74)).alloc (Obj.cells #[.int .u8 kind,.int .i64 (a:Int),.int .u64 gen,.slice A body.length c] 154)).heap[w.heap.size+1]?=some (Obj.cells #[.int .u8 kind,.int .i64 (a:Int),.int .u64 gen,.slice A body.length c] 154)):=⟨heap_alloc2_new w _ _⟩
 have HB0:Aside0 (Below w.heap.size w ((w.alloc (Obj.cells tabA 74)).alloc (Obj.cells #[.int .u8 kind,.int .i64 (a:Int),.int .u64 gen,.slice A body.length c] 154))):=⟨below_alloc (below_alloc (Below.refl _ _) _) _⟩
 unfold pageV
 clear hr hb hk hg h
 go_enter Tryz.func95,Tryz.ntmps95
 go_wp2
 refine wp_load_row 74 (.tmp 3) rfl w.heap.size rfl 74 tabA (0,0) _ HX0.out Tryz.underlying74 rfl tabA_size ?_
 obtain ⟨W0,hW0⟩:∃ W,(w.alloc (Obj.cells tabA 74)).alloc (Obj.cells #[.int .u8 kind,.int .i64 (a:Int),.int .u64 gen,.slice A body.length c] 154)=W:=⟨_,rfl⟩
 rw [hW0] at HX1 HB0 ⊢
 have q0:=blk_cell HX1.out 0
 have q1:=blk_cell HX1.out 1
 have q2:=blk_cell HX1.out 2
 have q3:=blk_cell HX1.out 3
 simp only [List.getElem?_toArray,List.getElem?_cons_zero,List.getElem?_cons_succ] at q0 q1 q2 q3
 clear hW0 HX0
 go_wp2_with (first
  | (go_at_call 139;(with_reducible refine (HPUT.out _ HB0.out).mono ?_);rintro e w1 ⟨v1,rfl,ho,hb⟩;obtain ⟨A1,c1,rfl⟩:=Kd.R_slice ho;rw [HPL.out] at ho ⊢;have HO1:=Aside0.mk ho;have HC1:=Aside0.mk (Kd.R_reads' ho);have HB1:=Aside0.mk (below_step HB0.out hb);have hx:=blkb hb HX1.out;have p1:=blk_cell hx 1;simp only [List.getElem?_toArray,List.getElem?_cons_zero,List.getElem?_cons_succ] at p1;clear ho hb hx)
  | (go_at_call 62;(with_reducible refine (HWR.out _ A1 c1 HB1.out HC1.out.2.1 HC1.out.2.2).mono ?_);rintro e w2 ⟨rfl,hf,hd⟩;have HF2:=Aside0.mk hf;have HD2:=Aside0.mk hd;clear hf hd))
 go_ret
 exact ⟨rfl,(FrT.of_below HB1.out _).trans HF2.out,_,HD2.out,HW.out⟩
end
section
attribute [local go_sem ↓] Go.wp_at_zero Go.wp_at_succ
def mapC (N:Nat) (m:List Bool):List Value:=.int .i64 (N:Int) :: bools m
def mapA (N:Nat) (m:List Bool):Array Value:=(mapC N m).toArray
structure MapOk (N:Nat) (m:List Bool):Prop where
 len:m.length=512
 n8:8≤N
 n5:N≤512
 lo:∀ i:Nat,i<2→m[i]?=some true
 hi:∀ i:Nat,N≤i→i<512→m[i]?=some false
def boolsA (m:List Bool):Array Value:=(bools m).toArray
theorem bools_len (m:List Bool):(bools m).length=m.length:=by simp [bools]
theorem mapC_len {m:List Bool} (N:Nat) (h:m.length=512):(mapC N m).length=513:=by simp [mapC,bools,h]
theorem mapA_len [Inhabited Sanct] {m:List Bool} (N:Nat) (h:m.length=512):(mapA N m).size=513:=by simp [mapA,mapC_len N h]
theorem map_size [Inhabited Sanct]:(Tryz.prog.info? 120).map (·.size)=some 513:=by kernel_rfl
theorem used_size [Inhabited Sanct]:(Tryz.prog.info? 118).map (·.size)=some 512:=by kernel_rfl
theorem mapA_at0 (N:Nat) (m:List Bool):(mapA N m)[0]?=some (.int .i64 (N:Int)):=by simp [mapA,mapC]
theorem mapA_at {N i:Nat} {m:List Bool} {b:Bool} (h:m[i]?=some b):(mapA N m)[1+i]?=some (.bool b):=by
 rw [Nat.add_comm]
 simp [mapA,mapC,bools,h]
theorem map_range {w:World} {g N:Nat} {m:List Bool} (h:w.heap[g]?=some (Obj.cells (mapA N m) 120)):w.rangeAt g 1 (bools m):=fun j v hv=>by
 rw [cell_of_row w g (1+j) _ _ _ h,Nat.add_comm]
 simpa [mapA,mapC] using hv
theorem run_index_bools {m:List Bool} {i:Nat} {b:Bool} (h:m[i]?=some b) (ii:Int) (hi:ii=(i:Int)) (hl:i<512) (w:World) :
  (Instr.index 118 (.agg (boolsA m)) (.int .i64 ii)).run Tryz.prog w = .ok (.bool b) w:=by
 subst hi
 have hu:Tryz.prog.underlying 118=some (.array 512 4):=by kernel_rfl
 have hb:Tryz.prog.underlying 4=some .bool:=by kernel_rfl
 have hs:∀ W,(sizeOf 4).run Tryz.prog W = .ok 1 W:=fun W=>by kernel_rfl
 have hag:∀ W,(isAgg 4).run Tryz.prog W = .ok false W:=fun W=>by kernel_rfl
 have hc:(boolsA m)[i]?=some (.bool b):=by simp [boolsA,bools,h]
 unfold Instr.index part
 simp only [Sem.run_bind,run_underlying hu,asIntOf,Sem.run_pure,Result.andThen_ok,hs,hag]
 rw [if_pos ⟨by omega,by omega⟩]
 simp only [Sem.run_bind,hs,hag,Result.andThen_ok,Int.toNat_natCast,Nat.mul_one]
 simp [hc]
theorem mapright_calls [Inhabited Sanct] {w:World} {N:Nat} {m:List Bool} (h:MapOk N m) :
  Calls Tryz.prog 125 #[.agg (mapA N m)] w fun e w'=>e = .returned (.bool true)∧Below w.heap.size w w':=by
 have HX:Aside0 ((w.alloc (Obj.cells (mapA N m) 120)).heap[w.heap.size]?=some (Obj.cells (mapA N m) 120)):=⟨heap_alloc_new w _⟩
 have HB:Aside0 (Below w.heap.size w (w.alloc (Obj.cells (mapA N m) 120))):=⟨below_alloc (Below.refl _ _) _⟩
 have HM:=Aside0.mk h
 have d1:decide ((N:Int)<8)=false:=decide_eq_false (by have:=h.n8;omega)
 have d2:decide (512<(N:Int))=false:=decide_eq_false (by have:=h.n5;omega)
 have c0:=blk_cell HX.out 0
 rw [mapA_at0] at c0
 clear h
 go_enter Tryz.func125,Tryz.ntmps125
 go_wp2
 refine wp_load_mid 118 (.tmp 13) rfl w.heap.size 1 rfl (bools m) (.array 512 4) (map_range HX.out) (by kernel_rfl) rfl (by rw [bools_len,HM.out.len];exact used_size) ?_
 rw [show (bools m).toArray=boolsA m from rfl]
 go_wp2
 obtain ⟨W0,hW0⟩:∃ W,w.alloc (Obj.cells (mapA N m) 120)=W:=⟨_,rfl⟩
 rw [hW0] at c0 HB HX ⊢
 clear hW0
 go_loopw [15] (fun v15 wr=>∃ (i:Nat) (ii:Int),v15 = .int .i64 ii∧Aside0 (ii=(i:Int))∧Aside0 (i≤512)∧wr=W0) (fun v15 _=>((512:Int)-intOf v15).toNat)
 case atStart=>exact ⟨0,0,rfl,⟨rfl⟩,⟨by decide⟩,rfl⟩
 case round=>
  obtain ⟨i,ii,rfl,HI,HIL,hwr⟩:=hrel
  obtain rfl:=hwr.symm
  by_cases hlt:i<512
  ·have d3:decide (ii<512)=true:=decide_eq_true (by have:=HI.out;omega)
   have e5:wrap64 (ii+1)=ii+1:=wrap64_id (by have:=HI.out;omega) (by have:=HI.out;omega)
   obtain ⟨b,hb⟩:∃ b,m[i]?=some b:=⟨_,List.getElem?_eq_getElem (by rw [HM.out.len];exact hlt)⟩
   have hix:=fun W=>run_index_bools hb ii HI.out hlt W
   have HBI:=Aside0.mk hb
   clear hb
   by_cases h1:i<2
   ·have hb2:b=true:=by have h:=HM.out.lo i h1;rw [HBI.out] at h;injection h
    subst hb2
    have d4:decide (ii<2)=true:=decide_eq_true (by have:=HI.out;omega)
    have d5:decide ((N:Int)≤ii)=false:=decide_eq_false (by have:=HI.out;have:=HM.out.n8;omega)
    go_wp2
    go_roundw
    case rel=>exact ⟨i+1,_,rfl,⟨by have:=HI.out;omega⟩,⟨by omega⟩,trivial⟩
    case measure=>simp [intOf];have:=HI.out;omega
   ·have d4:decide (ii<2)=false:=decide_eq_false (by have:=HI.out;omega)
    by_cases h2:i<N
    ·have d5:decide ((N:Int)≤ii)=false:=decide_eq_false (by have:=HI.out;omega)
     go_wp2
     go_roundw
     case rel=>exact ⟨i+1,_,rfl,⟨by have:=HI.out;omega⟩,⟨by omega⟩,trivial⟩
     case measure=>simp [intOf];have:=HI.out;omega
    ·have hb2:b=false:=by have h:=HM.out.hi i (by omega) hlt;rw [HBI.out] at h;injection h
     subst hb2
     have d5:decide ((N:Int)≤ii)=true:=decide_eq_true (by have:=HI.out;omega)
     go_wp2
     go_roundw
     case rel=>exact ⟨i+1,_,rfl,⟨by have:=HI.out;omega⟩,⟨by omega⟩,trivial⟩
     case measure=>simp [intOf];have:=HI.out;omega
  ·have d3:decide (ii<512)=false:=decide_eq_false (by have:=HI.out;have:=HIL.out;omega)
   go_wp2
   go_ret
   exact ⟨rfl,HB.out⟩
end
section
attribute [local go_sem ↓] Go.wp_at_zero Go.wp_at_succ
theorem mapA_size [Inhabited Sanct] {m:List Bool} (N:Nat) (h:m.length=512):(Tryz.prog.info? 120).map (·.size)=some (mapA N m).size:=by rw [mapA_len N h];exact map_size
theorem setCells_row [Inhabited Sanct] (g:Nat) (t:TypeId) (fr:Nat×Nat):∀ (vs:List Value) (o:Nat) (cur:Array Value) (w:World),w.heap[g]?=some (.cells cur t fr)→o+vs.length≤cur.size →
  w.setCells g o vs=w.setRow g (splice cur.toList o vs).toArray
 | [],o,cur,w,hg,hl=>by
  have h:splice cur.toList o []=cur.toList:=by unfold splice;simp
  rw [h,Array.toArray_toList]
  show w=_
  have hlt:g<w.heap.size:=(Array.getElem?_eq_some_iff.1 hg).1
  have hv:w.heap[g] = .cells cur t fr:=(Array.getElem?_eq_some_iff.1 hg).2
  unfold World.setRow
  cases w with
  | mk heap tape drawn os output=>
   congr 1
   apply Array.ext
   ·simp
   ·intro k h1 h2
    simp only [Array.getElem_modify]
    split
    ·rename_i hk;subst hk;simp at hv;simp [hv]
    ·rfl
 | v :: r,o,cur,w,hg,hl=>by
  have ho:o<cur.size:=by simp at hl;omega
  rw [World.setCells,setCell_eq_setRow w g o cur t fr v hg,setCells_row g t fr r (o+1) (cur.setIfInBounds o v) _ (setRow_heap w g cur _ t _ hg) (by simp at hl ⊢;omega),setRow_setRow]
  congr 2
  unfold splice
  apply List.ext_getElem?
  intro k
  simp only [Array.toList_setIfInBounds,List.getElem?_append,List.length_take,List.length_set,Array.length_toList,List.getElem?_take,List.getElem?_drop,List.length_cons]
  by_cases hk:k<o
  ·simp [hk,show k<o+1 by omega,show min (o+1) cur.size=o+1 by omega,show min o cur.size=o by omega,show o≠k by omega]
  ·by_cases hk2:k=o
   ·subst hk2
    simp [show min (k+1) cur.size=k+1 by omega,show min k cur.size=k by omega]
    rw [List.getElem?_set_self (by simpa using ho)]
   ·have hk3:o<k:=by omega
    have e1:¬ k<min (o+1) cur.size:=by omega
    have e2:¬ k<min o cur.size:=by omega
    rw [if_neg e1,if_neg e2,show min (o+1) cur.size=o+1 by omega,show min o cur.size=o by omega,show k-o=(k-(o+1))+1 by omega,List.getElem?_cons_succ]
    by_cases h:k-(o+1)<r.length
    ·rw [if_pos h,if_pos (by omega)]
    ·rw [if_neg h,if_neg (by omega),List.getElem?_set_ne (by omega)]
     congr 1;omega
theorem run_storeA [Inhabited Sanct] {P:Program} (w:World) (g:Nat) (t:TypeId) (old cs:Array Value) (hg:w.heap[g]?=some (.cells old t (0,0))) (ho:old.size=cs.size) (h1:cs.all (·.oneCell')=true) :
  (storeCells ⟨g,0,none⟩ cs.toList).run P w = .ok () (w.setRow g cs):=by
 have:=run_storeCells_from (P:=P) g t cs.toList 0 old w hg (by simp;omega) (fun v hv=>(Array.all_eq_true_iff_forall_mem.1 h1) v (by simpa using hv))
 simpa using this
theorem zero_map:∀ w,(zeroValue 120).run Tryz.prog w = .ok (.agg (mapA 0 (List.replicate 512 false))) w:=(zero_of_info (n:=513) (by kernel_rfl)).1
theorem map_one (N:Nat) (m:List Bool):(mapA N m).all (·.oneCell')=true:=by
 refine Array.all_eq_true_iff_forall_mem.2 (fun v hv=>?_)
 simp only [mapA,mapC,bools,List.mem_toArray,List.mem_cons,List.mem_map] at hv
 rcases hv with rfl | ⟨b,_,rfl⟩<;>rfl
def setN (b:Bool) (m:List Bool) (a:Nat):Nat→List Bool
 | 0=>m
 | k+1=>(setN b m a k).set (a+k) b
theorem setN_len (b:Bool) (m:List Bool) (a:Nat):∀ k,(setN b m a k).length=m.length
 | 0=>rfl
 | k+1=>by rw [setN,List.length_set,setN_len b m a k]
theorem setN_get (b:Bool) (m:List Bool) (a:Nat):∀ (k:Nat) (i:Nat),i<m.length→(setN b m a k)[i]?=if a≤i∧i<a+k then some b else m[i]?
 | 0,i,h=>by rw [setN,if_neg (by omega)]
 | k+1,i,h=>by
  rw [setN,List.getElem?_set,setN_get b m a k i h,setN_len]
  by_cases e:a+k=i
  ·subst e;rw [if_pos rfl,if_pos h,if_pos (by omega)]
  ·rw [if_neg e]
   by_cases h2:a≤i∧i<a+k
   ·rw [if_pos h2,if_pos (by omega)]
   ·rw [if_neg h2,if_neg (by omega)]
theorem mapA_set {N i:Nat} {m:List Bool} (b:Bool):(mapA N m).setIfInBounds (1+i) (.bool b)=mapA N (m.set i b):=by
 rw [Nat.add_comm]
 simp [mapA,mapC,bools,List.map_set]
theorem alike_calls [Inhabited Sanct] {w:World} {N:Nat} {m o:List Bool} (h:MapOk N m) (k:MapOk N o) :
  Calls Tryz.prog 94 #[.agg (mapA N m),.agg (mapA N o)] w fun e w'=>e = .returned (.bool true)∧Below w.heap.size w w':=by
 obtain ⟨W0,hW0⟩:∃ W,(w.alloc (Obj.cells (mapA N m) 120)).alloc (Obj.cells (mapA N o) 120)=W:=⟨_,rfl⟩
 have HX:Aside0 (W0.heap[w.heap.size]?=some (Obj.cells (mapA N m) 120)):=⟨by rw [← hW0];exact heap_alloc2_old w _ _⟩
 have HY:Aside0 (W0.heap[w.heap.size+1]?=some (Obj.cells (mapA N o) 120)):=⟨by rw [← hW0];exact heap_alloc2_new w _ _⟩
 have HB:Aside0 (Below w.heap.size w W0):=⟨by rw [← hW0];exact below_alloc (below_alloc (Below.refl _ _) _) _⟩
 have HM:=Aside0.mk (And.intro h k)
 clear h k
 go_enter Tryz.func94,Tryz.ntmps94
 go_wp2
 refine wp_load_row 120 (.tmp 2) rfl w.heap.size rfl 120 (mapA N m) (0,0) _ HX.out Tryz.underlying120 rfl (mapA_size N HM.out.1.len) ?_
 clear hW0
 go_wp2_with (go_at_call 125;(with_reducible refine (mapright_calls HM.out.1).mono ?_);rintro e w1 ⟨rfl,hb⟩;have HB1:=Aside0.mk hb;have hx:=blkb hb HX.out;have hy:=blkb hb HY.out;have HX1:=Aside0.mk hx;have HY1:=Aside0.mk hy;clear hb hx hy)
 refine wp_load_row 120 (.tmp 3) rfl (w.heap.size+1) rfl 120 (mapA N o) (0,0) _ HY1.out Tryz.underlying120 rfl (mapA_size N HM.out.2.len) ?_
 go_wp2_with (go_at_call 125;(with_reducible refine (mapright_calls HM.out.2).mono ?_);rintro e w2 ⟨rfl,hb⟩;have HB2:=Aside0.mk hb;have c0:=blk_cell (blkb hb HX1.out) 0;have c1:=blk_cell (blkb hb HY1.out) 0;rw [mapA_at0] at c0 c1;clear hb)
 go_ret
 exact ⟨rfl,below_step (below_step HB.out HB1.out) HB2.out⟩
end
section
attribute [local go_sem ↓] Go.wp_at_zero Go.wp_at_succ
theorem give_calls [Inhabited Sanct] {w:World} {N:Nat} {m:List Bool} (h:MapOk N m) (a n:Nat) (ha:2≤a) (hn:a+n≤N) (hu:∀ i,a≤i→i<a+n→m[i]?=some true) :
  Calls Tryz.prog 105 #[.agg (mapA N m),.int .i64 (a:Int),.int .i64 (n:Int)] w fun e w'=>e = .returned (.tuple #[.agg (mapA N (setN false m a n)),.int .i64 0])∧Below w.heap.size w w':=by
 obtain ⟨Z0,hZ0⟩:∃ Z,mapA 0 (List.replicate 512 false)=Z:=⟨_,rfl⟩
 obtain ⟨W0,hW0⟩:∃ W,(w.alloc (Obj.cells (mapA N m) 120)).alloc (Obj.cells Z0 120)=W:=⟨_,rfl⟩
 have HX:Aside0 (W0.heap[w.heap.size]?=some (Obj.cells (mapA N m) 120)):=⟨by rw [← hW0];exact heap_alloc2_old w _ _⟩
 have HY:Aside0 (W0.heap[w.heap.size+1]?=some (Obj.cells Z0 120)):=⟨by rw [← hW0];exact heap_alloc2_new w _ _⟩
 have HB:Aside0 (Below w.heap.size w W0):=⟨by rw [← hW0];exact below_alloc (below_alloc (Below.refl _ _) _) _⟩
 have HZS:Aside0 (Z0.size=513):=⟨by rw [← hZ0];exact mapA_len _ (by simp)⟩
 have HM:=Aside0.mk h
 have HU:=Aside0.mk hu
 have hz:=zero_map
 rw [hZ0] at hz
 have d1:decide ((n:Int)<0)=false:=decide_eq_false (by omega)
 have d2:decide ((a:Int)<2)=false:=decide_eq_false (by omega)
 have d3:decide ((N:Int)<(a:Int))=false:=decide_eq_false (by omega)
 have d4:decide ((N:Int)-(a:Int)<(n:Int))=false:=decide_eq_false (by omega)
 have hN5:=h.n5
 clear h hu hZ0
 go_enter Tryz.func105,Tryz.ntmps105
 go_wp2
 clear hW0 hz
 refine wp_load_row 120 (.tmp 3) rfl w.heap.size rfl 120 (mapA N m) (0,0) _ HX.out Tryz.underlying120 rfl (mapA_size N HM.out.len) ?_
 go_wp2_with (go_at_call 125;(with_reducible refine (mapright_calls HM.out).mono ?_);rintro e w1 ⟨rfl,hb⟩;have HB1:=Aside0.mk (below_step HB.out hb);have hx:=blkb hb HX.out;have HX1:Aside0 (w1.heap[w.heap.size]?=some (Obj.cells (mapA N (setN false m a 0)) 120)):=⟨hx⟩;have HY1:=Aside0.mk (blkb hb HY.out);have c0:=blk_cell hx 0;rw [mapA_at0] at c0;clear hb hx)
 clear c0 d1 d2 d3 d4 HB HX HY
 go_loopw [8] (fun v8 wr=>∃ (k:Nat) (ii:Int),v8 = .int .i64 ii∧Aside0 (ii=(a:Int)+(k:Int))∧Aside0 (k≤n)∧Aside0 (wr.heap[w.heap.size]?=some (Obj.cells (mapA N (setN false m a k)) 120))∧Aside0 (wr.heap[w.heap.size+1]?=some (Obj.cells Z0 120))∧Aside0 (Below w.heap.size w wr)) (fun v8 _=>((a:Int)+(n:Int)-intOf v8).toNat)
 case atStart=>exact ⟨0,_,rfl,⟨by simp⟩,⟨Nat.zero_le _⟩,HX1,HY1,HB1⟩
 case round=>
  clear HX1 HY1 HB1
  obtain ⟨k,ii,rfl,HI,HIL,HX,HY,HB⟩:=hrel
  have e5:wrap64 (ii+1)=ii+1:=wrap64_id (by have:=HI.out;omega) (by have:=HI.out;have:=HIL.out;omega)
  by_cases hlt:k<n
  ·have d1:decide (ii<(a:Int)+(n:Int))=true:=decide_eq_true (by have:=HI.out;omega)
   have hlen:a+k<m.length:=by rw [HM.out.len];omega
   have hget:(setN false m a k)[a+k]?=some true:=by rw [setN_get _ _ _ _ _ hlen,if_neg (by omega)];exact HU.out _ (by omega) (by omega)
   have d2:(ii<512)=True:=eq_true (by have:=HI.out;omega)
   have d3:(0≤ii)=True:=eq_true (by have:=HI.out;omega)
   have eii:ii.toNat=a+k:=by have:=HI.out;omega
   have c1:=blk_cell HX.out (1+(a+k))
   have f1:=blk_frozen HX.out (1+(a+k))
   rw [mapA_at hget] at c1
   go_wp2
   have hset:=blk_set HX.out (1+(a+k)) (.bool false)
   rw [mapA_set] at hset
   exact ⟨⟨k+1,_,rfl,⟨by have:=HI.out;omega⟩,⟨by omega⟩,⟨hset⟩,⟨blk_far HY.out (p:=⟨w.heap.size,1+(a+k),none⟩) (by simp) _⟩,⟨HB.out.setCell (p:=⟨w.heap.size,1+(a+k),none⟩) (Nat.le_refl _) _⟩⟩,by simp [intOf];have:=HI.out;omega⟩
  ·obtain rfl:k=n:=by have:=HIL.out;omega
   have d1:decide (ii<(a:Int)+(k:Int))=false:=decide_eq_false (by have:=HI.out;omega)
   have hsz:(mapA N (setN false m a k)).size=513:=mapA_len N (by rw [setN_len,HM.out.len])
   have hst:=run_storeA (P:=Tryz.prog) wr (w.heap.size+1) 120 Z0 (mapA N (setN false m a k)) HY.out (by rw [HZS.out,hsz]) (map_one _ _)
   go_wp2
   refine wp_load_row 120 (.tmp 3) rfl w.heap.size rfl 120 (mapA N (setN false m a k)) (0,0) _ HX.out Tryz.underlying120 rfl (mapA_size N (by rw [setN_len,HM.out.len])) ?_
   go_wp2
   refine bodyPost_ret (results_ct rfl _ _ (w.heap.size+1) 120 (mapA N (setN false m a k)) (0,0) _ rfl (setRow_heap _ _ _ _ _ _ HY.out) Tryz.underlying120 rfl (mapA_size N (by rw [setN_len,HM.out.len]))) rfl ?_
   exact ⟨rfl,below_setRow HB.out (by omega) _⟩
end
section
attribute [local go_sem ↓] Go.wp_at_zero Go.wp_at_succ
def mapL (N:Nat) (m:List Bool):Nat→List Int
 | 0=>[(N:Int) / 256,(N:Int) % 256]++List.replicate ((N+7) / 8) 0
 | i+1=>if m[i]?=some true then (mapL N m i).set (2+i / 8) (Go.bits .or .u8 (rd (mapL N m i) ((2+i / 8:Nat):Int)) (2 ^ (i % 8))) else mapL N m i
def mapB (N:Nat) (m:List Bool):List Int:=mapL N m 512
theorem mapL_len (N:Nat) (m:List Bool):∀ i,(mapL N m i).length=2+(N+7) / 8
 | 0=>by simp [mapL];omega
 | i+1=>by
  rw [mapL]
  split
  ·rw [List.length_set,mapL_len N m i]
  ·exact mapL_len N m i
theorem mapL_bs (N:Nat) (hN:N≤512) (m:List Bool):∀ i,Bs (mapL N m i)
 | 0=>by
  refine Bs.append (fun x hx=>?_) (fun x hx=>by rw [(List.mem_replicate.1 hx).2];omega)
  simp at hx;omega
 | i+1=>by
  rw [mapL]
  split
  ·intro x hx
   rcases List.mem_or_eq_of_mem_set hx with h | rfl
   ·exact mapL_bs N hN m i x h
   ·exact wf_u8 (wf_bits .or .u8 _ _)
  ·exact mapL_bs N hN m i
theorem R_row {w:World} {k:IntKind} {g e base:Nat} {xs:List Int} {L:Nat} (h:w.heap[g]?=some (Obj.cells (nums k xs).toArray e)) (hg:base≤g) (hl:xs.length=L) (hm:L≤9223372036854775807):Kd.R (Kd.int k) e w base (fun _=>True) (.slice (some ⟨g,0,none⟩) L L) xs:=by
 subst hl
 exact Kd.R_of_own ⟨by simp [encs],Or.inr ⟨g,xs.length,(nums k xs).toArray,rfl,hg,h,Nat.le_refl _,by simpa [maxLen] using hm,by simp [nums],by simp [nums,encs];exact List.take_of_length_le (by simp)⟩⟩ (fun _ _=>trivial)
theorem mapput_calls [Inhabited Sanct] {w:World} {N:Nat} {m:List Bool} (h:MapOk N m) :
  Calls Tryz.prog 96 #[.agg (mapA N m)] w fun e w'=>∃ v,e = .returned v∧Kd.R (Kd.int .u8) 5 w' w.heap.size (fun _=>True) v (mapB N m)∧Below w.heap.size w w':=by
 obtain ⟨W0,hW0⟩:∃ W,w.alloc (Obj.cells (mapA N m) 120)=W:=⟨_,rfl⟩
 have HX:Aside0 (W0.heap[w.heap.size]?=some (Obj.cells (mapA N m) 120)):=⟨by rw [← hW0];exact heap_alloc_new w _⟩
 have HB:Aside0 (Below w.heap.size w W0):=⟨by rw [← hW0];exact below_alloc (Below.refl _ _) _⟩
 have HM:=Aside0.mk h
 have hN5:=h.n5
 have hN8:=h.n8
 obtain ⟨L,hL⟩:∃ L,2+(N+7) / 8=L:=⟨_,rfl⟩
 have hm:=fun W=>make_u8 W (2+((N:Int)+7) / 8) L (by omega) (by omega)
 have e1:(N:Int)+8-1=(N:Int)+7:=by omega
 have HL:=Aside0.mk hL
 clear h hL
 go_enter Tryz.func96,Tryz.ntmps96
 go_wp2
 clear hW0
 refine wp_load_row 120 (.tmp 1) rfl w.heap.size rfl 120 (mapA N m) (0,0) _ HX.out Tryz.underlying120 rfl (mapA_size N HM.out.len) ?_
 go_wp2_with (go_at_call 125;(with_reducible refine (mapright_calls HM.out).mono ?_);rintro e w1 ⟨rfl,hb⟩;have HB1:=Aside0.mk (below_step HB.out hb);have hx:=blkb hb HX.out;have HX1:=Aside0.mk hx;have c0:=blk_cell hx 0;rw [mapA_at0] at c0;clear hb hx)
 obtain ⟨W2,hW2⟩:∃ W,w1.alloc (Obj.cells (nums .u8 (List.replicate L 0)).toArray 5)=W:=⟨_,rfl⟩
 obtain ⟨q,hq⟩:∃ q,w1.heap.size=q:=⟨_,rfl⟩
 have hwq:w.heap.size<q:=by rw [← hq];have:=blk_lt HX1.out;exact this
 have HX2:Aside0 (W2.heap[w.heap.size]?=some (Obj.cells (mapA N m) 120)):=⟨by rw [← hW2];exact blk_alloc HX1.out _⟩
 have HQ2:Aside0 (W2.heap[q]?=some (Obj.cells (nums .u8 (List.replicate L 0)).toArray 5)):=⟨by rw [← hW2];exact newb hq⟩
 have HB2:Aside0 (Below w.heap.size w W2):=⟨by rw [← hW2];exact below_alloc HB1.out _⟩
 rw [hW2,hq]
 clear hW2 hm c0
 have hL2:3≤L:=by have:=HL.out;omega
 have c0:=blk_cell HX2.out 0
 rw [mapA_at0] at c0
 have q0:W2.cell? ⟨q,0,none⟩=some (.int .u8 0):=by rw [blk_cell HQ2.out];simp [nums,List.getElem?_replicate,show 0<L by omega,show 1<L by omega]
 have q1:W2.cell? ⟨q,1,none⟩=some (.int .u8 0):=by rw [blk_cell HQ2.out];simp [nums,List.getElem?_replicate,show 0<L by omega,show 1<L by omega]
 have f0:=blk_frozen HQ2.out 0
 have f1:=blk_frozen HQ2.out 1
 have t0:(0<(L:Int))=True:=eq_true (by omega)
 have t1:(1<(L:Int))=True:=eq_true (by omega)
 have hne:¬ q=w.heap.size:=by omega
 have hne2:¬ w.heap.size=q:=by omega
 have HWQ:=Aside0.mk hwq
 clear hwq hq
 have hfin:((W2.setCell ⟨q,0,none⟩ (.int .u8 ((N:Int) / 256))).setCell ⟨q,1,none⟩ (.int .u8 ((N:Int) % 256))).drew.heap[q]?=some (Obj.cells (nums .u8 (mapL N m 0)).toArray 5):=by
  have h:=blk_set (blk_set HQ2.out 0 (.int .u8 ((N:Int) / 256))) 1 (.int .u8 ((N:Int) % 256))
  refine h.trans ?_
  congr 2
  rw [← HL.out,show 2+(N+7) / 8=(N+7) / 8+1+1 by omega,List.replicate_succ,List.replicate_succ]
  simp [nums,mapL]
 have HFIN:=Aside0.mk hfin
 have HXF:Aside0 (((W2.setCell ⟨q,0,none⟩ (.int .u8 ((N:Int) / 256))).setCell ⟨q,1,none⟩ (.int .u8 ((N:Int) % 256))).drew.heap[w.heap.size]?=some (Obj.cells (mapA N m) 120)):=⟨blk_far (blk_far HX2.out (p:=⟨q,0,none⟩) hne2 _) (p:=⟨q,1,none⟩) hne2 _⟩
 have HBF:Aside0 (Below w.heap.size w ((W2.setCell ⟨q,0,none⟩ (.int .u8 ((N:Int) / 256))).setCell ⟨q,1,none⟩ (.int .u8 ((N:Int) % 256))).drew):=⟨below_drew ((HB2.out.setCell (p:=⟨q,0,none⟩) (Nat.le_of_lt HWQ.out) _).setCell (p:=⟨q,1,none⟩) (Nat.le_of_lt HWQ.out) _)⟩
 clear hfin
 go_region
 obtain ⟨W3,hW3⟩:∃ W,((W2.setCell ⟨q,0,none⟩ (.int .u8 ((N:Int) / 256))).setCell ⟨q,1,none⟩ (.int .u8 ((N:Int) % 256))).drew=W:=⟨_,rfl⟩
 rw [hW3] at HFIN HXF HBF ⊢
 clear hW3 c0 q0 q1 f0 f1 t0 t1
 go_wp2
 refine wp_load_mid 118 (.tmp 27) rfl w.heap.size 1 rfl (bools m) (.array 512 4) (map_range HXF.out) (by kernel_rfl) rfl (by rw [bools_len,HM.out.len];exact used_size) ?_
 rw [show (bools m).toArray=boolsA m from rfl]
 go_wp2
 go_loopw [29] (fun v29 wr=>∃ (i:Nat) (ii:Int),v29 = .int .i64 ii∧Aside0 (ii=(i:Int))∧Aside0 (i≤512)∧Aside0 (wr.heap[q]?=some (Obj.cells (nums .u8 (mapL N m i)).toArray 5))∧Aside0 (Below w.heap.size w wr)) (fun v29 _=>((512:Int)-intOf v29).toNat)
 case atStart=>exact ⟨0,0,rfl,⟨rfl⟩,⟨by decide⟩,HFIN,HBF⟩
 case round=>
  clear HFIN HXF HBF
  obtain ⟨i,ii,rfl,HI,HIL,HQ,HB⟩:=hrel
  by_cases hlt:i<512
  ·have d3:decide (ii<512)=true:=decide_eq_true (by have:=HI.out;omega)
   have e5:wrap64 (ii+1)=ii+1:=wrap64_id (by have:=HI.out;omega) (by have:=HI.out;omega)
   obtain ⟨b,hb⟩:∃ b,m[i]?=some b:=⟨_,List.getElem?_eq_getElem (by rw [HM.out.len];exact hlt)⟩
   have hix:=fun W=>run_index_bools hb ii HI.out hlt W
   have HBI:=Aside0.mk hb
   clear hb
   cases b with
   | false=>
    have hL:mapL N m (i+1)=mapL N m i:=by rw [mapL,if_neg (by rw [HBI.out];decide)]
    rw [← hL] at HQ
    clear hL
    go_wp2
    go_roundw
    case rel=>exact ⟨i+1,_,rfl,⟨by have:=HI.out;omega⟩,⟨by omega⟩,HQ,HB⟩
    case measure=>simp [intOf];have:=HI.out;omega
   | true=>
    have hiN:i<N:=by
     by_cases h:i<N
     ·exact h
     ·have h2:=HM.out.hi i (by omega) hlt
      rw [HBI.out] at h2;cases h2
    have hlen:2+i / 8<(mapL N m i).length:=by rw [mapL_len];omega
    obtain ⟨x,hx⟩:∃ x,(mapL N m i)[2+i / 8]=x:=⟨_,rfl⟩
    have hrx:rd (mapL N m i) ((2+i / 8:Nat):Int)=x:=by rw [← hx];exact rd_get hlen
    have hset:=blk_set HQ.out (2+i / 8) (.int .u8 (Go.bits .or .u8 x (2 ^ (i % 8))))
    have hL:(nums .u8 (mapL N m i)).toArray.setIfInBounds (2+i / 8) (.int .u8 (Go.bits .or .u8 x (2 ^ (i % 8))))=(nums .u8 (mapL N m (i+1))).toArray:=by
     rw [mapL,if_pos HBI.out,hrx]
     simp [nums,List.map_set]
    rw [hL] at hset
    have HSET:=Aside0.mk hset
    have c1:wr.cell? ⟨q,2+i / 8,none⟩=some (.int .u8 x):=by rw [blk_cell HQ.out];simp [nums,List.getElem?_eq_getElem hlen,hx]
    have f1:=blk_frozen HQ.out (2+i / 8)
    clear hset hL hrx hx
    obtain ⟨jj,hjj⟩:∃ jj:Int,ii / 8=jj:=⟨_,rfl⟩
    obtain ⟨rr,hrr⟩:∃ rr:Int,ii % 8=rr:=⟨_,rfl⟩
    have hii:=HI.out
    have hii0:0≤ii:=by omega
    have hjr:0≤jj∧jj≤64∧0≤rr∧rr<8:=by omega
    have tj:ii.tdiv 8=jj:=by rw [Int.tdiv_eq_ediv_of_nonneg hii0];exact hjj
    have tr:ii.tmod 8=rr:=by rw [Int.tmod_eq_emod_of_nonneg hii0];exact hrr
    have wj:IntKind.i64.wrap jj=jj:=by simp [IntKind.wrap,IntKind.bits,IntKind.signed];omega
    have wj2:IntKind.i64.wrap (2+jj)=2+jj:=by simp [IntKind.wrap,IntKind.bits,IntKind.signed];omega
    have s1:(0≤2+jj)=True:=eq_true (by omega)
    have s2:(2+jj<(L:Int))=True:=eq_true (by have:=HL.out;omega)
    have s3:(2+jj).toNat=2+i / 8:=by omega
    have s4:rr.toNat=i % 8:=by omega
    have s5:min (i % 8) 8=i % 8:=by omega
    have s6:(0≤rr)=True:=eq_true (by omega)
    have hpow:(2:Int) ^ (i % 8)<256:=by
     have:i % 8=0∨i % 8=1∨i % 8=2∨i % 8=3∨i % 8=4∨i % 8=5∨i % 8=6∨i % 8=7:=by omega
     rcases this with h | h | h | h | h | h | h | h<;>rw [h]<;>decide
    have hpow0:(0:Int)<2 ^ (i % 8):=Int.pow_pos (by decide)
    have s7:IntKind.u8.wrap (2 ^ (i % 8))=2 ^ (i % 8):=by simp [IntKind.wrap,IntKind.bits,IntKind.signed];omega
    have HJJ:=Aside0.mk hjj
    have HRR:=Aside0.mk hrr
    clear hii
    go_wp2
    go_region
    go_wp2
    go_roundw
    case rel=>exact ⟨i+1,_,rfl,⟨by have:=HI.out;omega⟩,⟨by omega⟩,⟨HSET.out⟩,⟨below_drew (HB.out.setCell (p:=⟨q,2+i / 8,none⟩) (Nat.le_of_lt HWQ.out) _)⟩⟩
    case measure=>simp [intOf];have:=HI.out;omega
  ·have d3:decide (ii<512)=false:=decide_eq_false (by have:=HI.out;have:=HIL.out;omega)
   obtain rfl:i=512:=by have:=HIL.out;omega
   go_wp2
   go_ret
   exact ⟨_,rfl,R_row (xs:=mapB N m) HQ.out (Nat.le_of_lt HWQ.out) (by unfold mapB;rw [mapL_len,HL.out]) (by have:=HL.out;omega),HB.out⟩
def newM:List Bool:=setN true (List.replicate 512 false) 0 2
theorem newM_ok {N:Nat} (h8:8≤N) (h5:N≤512):MapOk N newM:=by
 have hg:∀ i,i<512→newM[i]?=if i<2 then some true else some false:=fun i hi=>by
  unfold newM
  rw [setN_get _ _ _ _ _ (by rw [List.length_replicate];exact hi)]
  by_cases h:i<2
  ·rw [if_pos (by omega),if_pos h]
  ·rw [if_neg (by omega),if_neg h,List.getElem?_replicate,if_pos hi]
 exact ⟨by unfold newM;rw [setN_len,List.length_replicate],h8,h5,fun i hi=>by rw [hg i (by omega),if_pos hi],fun i h1 h2=>by rw [hg i h2,if_neg (by omega)]⟩
theorem mapnew_calls [Inhabited Sanct] {w:World} {N:Nat} (h8:8≤N) (h5:N≤512) :
  Calls Tryz.prog 57 #[.int .i64 (N:Int)] w fun e w'=>e = .returned (.agg (mapA N newM))∧Below w.heap.size w w':=by
 obtain ⟨Z0,hZ0⟩:∃ Z,mapA 0 (List.replicate 512 false)=Z:=⟨_,rfl⟩
 have hsz:Z0.size=513:=by rw [← hZ0];exact mapA_len _ (by rw [List.length_replicate])
 have hne:(Z0=#[])=False:=eq_false (fun e=>by rw [e] at hsz;simp at hsz)
 obtain ⟨A1,hA1⟩:∃ A,mapA N (setN true (List.replicate 512 false) 0 0)=A:=⟨_,rfl⟩
 have hset:Z0.setIfInBounds 0 (.int .i64 (N:Int))=A1:=by rw [← hZ0,← hA1];simp only [mapA,mapC,setN,List.setIfInBounds_toArray,List.set_cons_zero]
 obtain ⟨W0,hW0⟩:∃ W,(w.alloc (Obj.cells Z0 120)).alloc (Obj.cells Z0 120)=W:=⟨_,rfl⟩
 have HY:Aside0 (W0.heap[w.heap.size]?=some (Obj.cells Z0 120)):=⟨by rw [← hW0];exact heap_alloc2_old w _ _⟩
 have HX:Aside0 (W0.heap[w.heap.size+1]?=some (Obj.cells Z0 120)):=⟨by rw [← hW0];exact heap_alloc2_new w _ _⟩
 have HB:Aside0 (Below w.heap.size w W0):=⟨by rw [← hW0];exact below_alloc (below_alloc (Below.refl _ _) _) _⟩
 have hst:=run_storeA (P:=Tryz.prog) W0 (w.heap.size+1) 120 Z0 A1 HX.out (by rw [hsz,← hA1,mapA_len _ (by rw [setN_len,List.length_replicate])]) (by rw [← hA1];exact map_one _ _)
 have hs1:A1.size=513:=by rw [← hA1];exact mapA_len _ (by rw [setN_len,List.length_replicate])
 have HA1:=Aside0.mk hA1
 have hz:=zero_map
 rw [hZ0] at hz
 clear hZ0 hA1
 go_enter Tryz.func57,Tryz.ntmps57
 go_wp2
 obtain ⟨W1,hW1⟩:∃ W,W0.setRow (w.heap.size+1) A1=W:=⟨_,rfl⟩
 have HX1:Aside0 (W1.heap[w.heap.size+1]?=some (Obj.cells (mapA N (setN true (List.replicate 512 false) 0 0)) 120)):=⟨by rw [← hW1,HA1.out];exact setRow_heap _ _ _ _ _ _ HX.out⟩
 have HY1:Aside0 (W1.heap[w.heap.size]?=some (Obj.cells Z0 120)):=⟨by rw [← hW1];exact (setRow_other W0 _ _ _ (by simp)).trans HY.out⟩
 have HB1:Aside0 (Below w.heap.size w W1):=⟨by rw [← hW1];exact below_setRow HB.out (by simp) _⟩
 have HSZ:=Aside0.mk hsz
 rw [hW1]
 clear hW1 hst hset hs1 hne hW0 hz HX HY HB hsz
 go_loopw [9] (fun v9 wr=>∃ (k:Nat) (kk:Int),v9 = .int .i64 kk∧Aside0 (kk=(k:Int))∧Aside0 (k≤2)∧Aside0 (wr.heap[w.heap.size+1]?=some (Obj.cells (mapA N (setN true (List.replicate 512 false) 0 k)) 120))∧Aside0 (wr.heap[w.heap.size]?=some (Obj.cells Z0 120))∧Aside0 (Below w.heap.size w wr)) (fun v9 _=>((2:Int)-intOf v9).toNat)
 case atStart=>exact ⟨0,0,rfl,⟨rfl⟩,⟨Nat.zero_le _⟩,HX1,HY1,HB1⟩
 case round=>
  clear HX1 HY1 HB1
  obtain ⟨k,kk,rfl,HKK,HKL,HX,HY,HB⟩:=hrel
  have hk0:0≤kk∧kk≤2:=by have:=HKK.out;have:=HKL.out;omega
  have e5:wrap64 (kk+1)=kk+1:=wrap64_id (by omega) (by omega)
  by_cases hlt:k<2
  ·have d1:decide (kk<2)=true:=decide_eq_true (by have:=HKK.out;omega)
   have d2:(kk<512)=True:=eq_true (by omega)
   have d3:(0≤kk)=True:=eq_true (by omega)
   have eii:kk.toNat=k:=by have:=HKK.out;omega
   have hlen:k<(setN true (List.replicate 512 false) 0 k).length:=by rw [setN_len,List.length_replicate];omega
   have c1:=blk_cell HX.out (1+k)
   have f1:=blk_frozen HX.out (1+k)
   rw [mapA_at (List.getElem?_eq_getElem hlen)] at c1
   have hset:=blk_set HX.out (1+k) (.bool true)
   rw [mapA_set] at hset
   have HSET:Aside0 ((wr.setCell ⟨w.heap.size+1,1+k,none⟩ (.bool true)).heap[w.heap.size+1]?=some (Obj.cells (mapA N (setN true (List.replicate 512 false) 0 (k+1))) 120)):=⟨by rw [setN,Nat.zero_add];exact hset⟩
   clear hset
   go_wp2
   exact ⟨⟨k+1,_,rfl,⟨by have:=HKK.out;omega⟩,⟨by omega⟩,HSET,⟨blk_far HY.out (p:=⟨w.heap.size+1,1+k,none⟩) (by simp) _⟩,⟨HB.out.setCell (p:=⟨w.heap.size+1,1+k,none⟩) (by simp) _⟩⟩,by simp [intOf];have:=HKK.out;omega⟩
  ·obtain rfl:k=2:=by have:=HKL.out;omega
   have d1:decide (kk<2)=false:=decide_eq_false (by have:=HKK.out;omega)
   have hlen2:(setN true (List.replicate 512 false) 0 2).length=512:=by rw [setN_len,List.length_replicate]
   have HM2:=Aside0.mk (And.intro (mapA_size N hlen2) (And.intro (mapA_len N hlen2) (map_one N (setN true (List.replicate 512 false) 0 2))))
   obtain ⟨A2,hA2⟩:∃ A,mapA N (setN true (List.replicate 512 false) 0 2)=A:=⟨_,rfl⟩
   have HA2:=Aside0.mk hA2
   rw [hA2] at HX HM2
   have hsz2:A2.size=513:=HM2.out.2.1
   have hst:=run_storeA (P:=Tryz.prog) wr w.heap.size 120 Z0 A2 HY.out (by rw [HSZ.out,hsz2]) HM2.out.2.2
   clear hlen2 hA2
   go_wp2
   refine wp_load_row 120 (.tmp 3) rfl (w.heap.size+1) rfl 120 A2 (0,0) _ HX.out Tryz.underlying120 rfl HM2.out.1 ?_
   go_wp2
   refine bodyPost_ret (results_cell_row rfl _ _ w.heap.size 120 A2 (0,0) _ rfl (setRow_heap _ _ _ _ _ _ HY.out) Tryz.underlying120 rfl HM2.out.1) rfl ?_
   exact ⟨by rw [← HA2.out];rfl,below_setRow HB.out (Nat.le_refl _) _⟩
def freeN (N:Nat) (m:List Bool):Nat→Nat
 | 0=>0
 | i+1=>freeN N m i+if i<N∧m[i]?=some false then 1 else 0
theorem freeN_le (N:Nat) (m:List Bool):∀ i,freeN N m i≤i
 | 0=>Nat.le_refl _
 | i+1=>by rw [freeN];have:=freeN_le N m i;split<;>omega
theorem mapfree_calls [Inhabited Sanct] {w:World} {N:Nat} {m:List Bool} (h:MapOk N m) :
  Calls Tryz.prog 76 #[.agg (mapA N m)] w fun e w'=>e = .returned (.int .i64 (freeN N m 512:Int))∧Below w.heap.size w w':=by
 obtain ⟨W0,hW0⟩:∃ W,w.alloc (Obj.cells (mapA N m) 120)=W:=⟨_,rfl⟩
 have HX:Aside0 (W0.heap[w.heap.size]?=some (Obj.cells (mapA N m) 120)):=⟨by rw [← hW0];exact heap_alloc_new w _⟩
 have HB:Aside0 (Below w.heap.size w W0):=⟨by rw [← hW0];exact below_alloc (Below.refl _ _) _⟩
 have HM:=Aside0.mk h
 have c0:=blk_cell HX.out 0
 rw [mapA_at0] at c0
 clear h
 go_enter Tryz.func76,Tryz.ntmps76
 go_wp2
 clear hW0
 refine wp_load_mid 118 (.tmp 6) rfl w.heap.size 1 rfl (bools m) (.array 512 4) (map_range HX.out) (by kernel_rfl) rfl (by rw [bools_len,HM.out.len];exact used_size) ?_
 rw [show (bools m).toArray=boolsA m from rfl]
 go_wp2
 go_loopw [3,8] (fun v3 v8 wr=>∃ (i:Nat) (ii nn:Int),v8 = .int .i64 ii∧v3 = .int .i64 nn∧Aside0 (ii=(i:Int))∧Aside0 (nn=(freeN N m i:Int))∧Aside0 (i≤512)∧wr=W0) (fun _ v8 _=>((512:Int)-intOf v8).toNat)
 case atStart=>exact ⟨0,0,0,rfl,rfl,⟨rfl⟩,⟨rfl⟩,⟨by decide⟩,rfl⟩
 case round=>
  obtain ⟨i,ii,nn,rfl,rfl,HI,HN,HIL,hwr⟩:=hrel
  obtain rfl:=hwr.symm
  by_cases hlt:i<512
  ·have d3:decide (ii<512)=true:=decide_eq_true (by have:=HI.out;omega)
   have e5:wrap64 (ii+1)=ii+1:=wrap64_id (by have:=HI.out;omega) (by have:=HI.out;omega)
   have e6:wrap64 (nn+1)=nn+1:=wrap64_id (by have:=HN.out;omega) (by have:=HN.out;have:=freeN_le N m i;omega)
   obtain ⟨b,hb⟩:∃ b,m[i]?=some b:=⟨_,List.getElem?_eq_getElem (by rw [HM.out.len];exact hlt)⟩
   have hix:=fun W=>run_index_bools hb ii HI.out hlt W
   have HBI:=Aside0.mk hb
   clear hb
   by_cases h2:i<N
   ·have d5:decide (ii<(N:Int))=true:=decide_eq_true (by have:=HI.out;omega)
    cases b with
    | true=>
     go_wp2
     go_roundw
     case rel=>exact ⟨i+1,_,_,rfl,rfl,⟨by have:=HI.out;omega⟩,⟨by rw [freeN,if_neg (by rw [HBI.out];simp),HN.out];rfl⟩,⟨by omega⟩,trivial⟩
     case measure=>simp [intOf];have:=HI.out;omega
    | false=>
     go_wp2
     go_roundw
     case rel=>exact ⟨i+1,_,_,rfl,rfl,⟨by have:=HI.out;omega⟩,⟨by rw [freeN,if_pos ⟨h2,HBI.out⟩,e6,HN.out];rfl⟩,⟨by omega⟩,trivial⟩
     case measure=>simp [intOf];have:=HI.out;omega
   ·have d5:decide (ii<(N:Int))=false:=decide_eq_false (by have:=HI.out;omega)
    go_wp2
    go_roundw
    case rel=>exact ⟨i+1,_,_,rfl,rfl,⟨by have:=HI.out;omega⟩,⟨by rw [freeN,if_neg (by omega),HN.out];rfl⟩,⟨by omega⟩,trivial⟩
    case measure=>simp [intOf];have:=HI.out;omega
  ·have d3:decide (ii<512)=false:=decide_eq_false (by have:=HI.out;have:=HIL.out;omega)
   obtain rfl:i=512:=by have:=HIL.out;omega
   go_wp2
   go_ret
   refine ⟨?_,HB.out⟩
   show Ending.returned (.int .i64 nn)=_
   rw [HN.out]
end
end Go.Proofs.YtnhkikebfinejaaGreatDoor.Z
namespace Go.Proofs.YtnhkikebfinejaaGreatDoor.X
open Go.RowKit Go.Proofs.YtnhkikebfinejaaGreatDoorW.PrintWords Go.Proofs.YtnhkikebfinejaaGreatDoorW.PrintLast Go.Proofs.YtnhkikebfinejaaGreatDoorW.PrintMore
section
attribute [local go_sem] max2_int min2_int max_two min_two max_three min_three max_four min_four
def super_big.l0:Nat→List Int→Int→Int→Option (List Int)
 | 0,_,_,_=>none
 | k+1,x0,x1,x7=>if x7 ≥ 0 then (if 0≤(wrap64 (8*x7)) then (if x0.length<140737488355328 then (super_big.l0 k (x0++[(shr .u64 x1 (wrap64 (8*x7))) % 256]) x1 (wrap64 (x7-1))) else (none)) else (none)) else (some x0)
def super_big.f (k:Nat) (l0:List Int) (a1:Int) (a2:Int):Option (List Int):=super_big.l0 k l0 a1 (wrap64 (a2-1))
theorem super_big.mono_l:∀ k,(∀ y0 y1 y2,LeO (super_big.l0 k y0 y1 y2) (super_big.l0 (k+1) y0 y1 y2))
 | 0=>fun _ _ _ r h=>by simp [super_big.l0] at h
 | k+1=>by
  have ih0:=super_big.mono_l k
  ·intro y0 y1 y2
   unfold super_big.l0
   repeat' first
   | (with_reducible exact ih0 _ _ _)
   | (with_reducible exact LeO.refl _)
   | (with_reducible exact LeO.none _)
   | (with_reducible refine LeO.ite ?_ ?_)
   | (with_reducible refine LeO.bind ?_ (fun _=>?_))
   | exact ih0 _ _ _
   | exact LeO.none _
   | refine LeO.ite ?_ ?_
   | refine LeO.bind ?_ (fun _=>?_)
theorem super_big.mono:∀ a0 a1 a2 k,LeO (super_big.f k a0 a1 a2) (super_big.f (k+1) a0 a1 a2):=by
 intro a0 a1 a2 k
 have ih0:=super_big.mono_l k
 unfold super_big.f
 repeat' first
   | (with_reducible exact ih0 _ _ _)
   | (with_reducible exact LeO.refl _)
   | (with_reducible exact LeO.none _)
   | (with_reducible refine LeO.ite ?_ ?_)
   | (with_reducible refine LeO.bind ?_ (fun _=>?_))
   | exact ih0 _ _ _
   | exact LeO.none _
   | refine LeO.ite ?_ ?_
   | refine LeO.bind ?_ (fun _=>?_)
theorem super_big.calls (k:Nat) (P0_:Nat→Prop) (u9000_:Value) (l0:List Int) (a1:Int) (a2:Int) (r:List Int) (w0 w:World) (hB:Below w0.heap.size w0 w) (ho0:Kd.R (Kd.int .u8) 5 w w0.heap.size P0_ u9000_ l0) (h:super_big.f k l0 a1 a2=some r) :
  Calls Tryz.prog 141 #[u9000_,.int .u64 a1,.int .i64 a2] w fun e w'=>∃ v0_:Value,e = .returned (v0_)∧Kd.R (Kd.int .u8) 5 w' w0.heap.size (fun k_=>(P0_ k_∨w.heap.size≤k_)) v0_ r∧Below w0.heap.size w0 w'∧Kept w w' (fun k_=>P0_ k_):=by
 have HO0:=Aside0.mk (show Kd.R (Kd.int .u8) 5 w w0.heap.size (fun k_=>(P0_ k_∨w.heap.size≤k_)) u9000_ l0 from Kd.R_mono ho0 (fun k_ hk=>(.inl hk)))
 have HK:=Aside0.mk (Kept.refl w (fun k_=>P0_ k_))
 have HW0:=Aside0.mk hB.size
 have HB:=Aside0.mk hB
 clear hB
 have H:(super_big.l0 k l0 a1 (wrap64 (a2-1)))=some r:=h
 clear h
 have H':=Aside0.mk H
 clear H
 go_enter Tryz.func141,Tryz.ntmps141
 go_wp2
 go_loopg [0,7] k (fun kq v0 v7 w'=>∃ (x0_1:List Int) (x7_1:Int),v7 = .int .i64 x7_1∧Aside0 (super_big.l0 kq x0_1 a1 x7_1=some r)∧Aside0 (kq≤k)∧Aside0 (Kd.R (Kd.int .u8) 5 w' w0.heap.size (fun k_=>(P0_ k_∨w.heap.size≤k_)) v0 x0_1)∧Aside0 (Kept w w' (fun k_=>P0_ k_))∧Aside0 (Below w0.heap.size w0 w'))
 case atStart=>exact ⟨(l0),(wrap64 (a2-1)),(by first | rfl | (simp;done) | (simp [*];done)),H',⟨Nat.le_refl _⟩,⟨by (with_reducible repeat (first | apply Kd.R_alloc | apply Kd.R_drewN | apply Kd.R_drew));exact HO0.out⟩,⟨by repeat (first | (with_reducible first | exact HK.out | apply Kept.alloc | apply Kept.drewN | apply Kept.drew) | exact HK.out)⟩,⟨by repeat (first | (with_reducible first | exact HB.out | apply below_alloc | apply pw_below_drewN | apply below_drew1) | exact HB.out)⟩⟩
 case round=>
  clear H'
  try clear c1
  try clear p2
  obtain ⟨x0_1,x7_1,rfl,HA,HK1,HO_0,HK,HB⟩:=hrel
  cases gk with
  | zero=>exact absurd HA.out (by simp [super_big.l0])
  | succ k1=>
   have H:=HA.out
   clear HA
   simp only [super_big.l0] at H
   by_cases c4:x7_1 ≥ 0
   ·rw [if_pos c4] at H
    have c4b0:decide (0≤x7_1)=true:=decide_eq_true c4
    clear c4
    obtain ⟨ji5,hji5⟩:∃ j_:Int,(wrap64 (8*x7_1))=j_:=⟨_,rfl⟩
    replace H:(if 0≤(ji5) then (if x0_1.length<140737488355328 then (super_big.l0 k1 (x0_1++[(shr .u64 a1 (ji5)) % 256]) a1 (wrap64 (x7_1-1))) else (none)) else (none))=some r:=by first | (rw [hji5] at H;exact H) | (simp only [hji5] at H ⊢;exact H)
    have hji5w:(IntKind.i64.wrap (8*x7_1))=ji5:=(i64_w _).trans hji5
    by_cases c6:0≤(ji5)
    ·rw [if_pos c6] at H
     have c6b0:=eq_true c6
     have c6b1:decide (0≤(ji5))=true:=decide_eq_true c6
     clear c6
     obtain ⟨ji7,hji7⟩:∃ j_:Int,(shr .u64 a1 (ji5))=j_:=⟨_,rfl⟩
     replace H:(if x0_1.length<140737488355328 then (super_big.l0 k1 (x0_1++[(ji7) % 256]) a1 (wrap64 (x7_1-1))) else (none))=some r:=by first | (rw [hji7] at H;exact H) | (simp only [hji7] at H ⊢;exact H)
     have hji7_:(a1 / 2 ^ min (ji5).toNat 64)=ji7:=hji7
     have hji7z:(ji5)≤64→(a1 / 2 ^ (ji5).toNat)=ji7:=shr_small hji7
     by_cases c8:x0_1.length<140737488355328
     ·rw [if_pos c8] at H
      have LMc8:=Aside0.mk c8
      clear c8
      obtain ⟨y121,hy121⟩:∃ y_:List Int,y_=(x0_1++[(ji7) % 256]):=⟨_,rfl⟩
      replace H:(super_big.l0 k1 y121 a1 (wrap64 (x7_1-1)))=some r:=by first | (rw [hy121];with_reducible exact H) | (have H2_:=(Option.bind_some _ _).symm.trans H;rw [hy121];with_reducible exact H2_) | (have H2_:=(Option.bind_some _ _).symm.trans H;with_reducible exact H2_) | with_reducible exact H | (rw [hy121];exact H) | exact H
      have Ny121:=Aside0.mk hy121
      clear hy121
      have H':=Aside0.mk H
      clear H
      go_wp2_with (first | ((with_reducible refine gate_builtin (b:=.append) (xs:=#[.tmp 14,.tmp 20]) rfl ?_);at_builtin;refine Kd.R_append (Kd.int .u8) (w0:=w0) w0.heap.size rfl (.tmp 14) (.tmp 20) 46 5 (.int .u8 0) 1 rfl Tryz.underlying46 info5 rfl (by decide) (by omega) u0 x0_1 ((ji7) % 256) [.int .u8 ((ji7) % 256)] (fun k_=>(P0_ k_∨w.heap.size≤k_)) (fun _=>False) rfl rfl ?aP (fun _ hk=>hk.elim) ?aF ?aO ?aB ?aS ?aL ?_;(case aP=>exact rfl);(case aB=>exact (by repeat (first | (with_reducible first | exact HB.out | apply below_alloc | apply pw_below_drewN | apply below_drew1) | exact HB.out)));(case aF=>exact (fun k_ hk=>(.inr (Nat.le_trans (by first | exact HK.out.1 | exact (show Kept w _ (fun k_=>P0_ k_) from by repeat (first | (with_reducible first | exact HK.out | apply Kept.alloc | apply Kept.drewN | apply Kept.drew) | exact HK.out)).1) hk))));(case aO=>exact (by (with_reducible repeat (first | apply Kd.R_alloc | apply Kd.R_drewN | apply Kd.R_drew));exact HO_0.out));(case aS=>exact (below_size (by repeat (first | (with_reducible first | exact HB.out | apply below_alloc | apply pw_below_drewN | apply below_drew1) | exact HB.out))));(case aL=>have:=LMc8.out;omega);intro v122 w9 ho hb hg hat;rw [← Ny121.out] at ho;have n0_:=Aside0.mk (hb);have n1_:=Aside0.mk (Kept.of_grown (S:=(fun k_=>P0_ k_)) hg (by repeat (first | (with_reducible first | exact HK.out | apply Kept.alloc | apply Kept.drewN | apply Kept.drew) | exact HK.out)) (fun k_ e_=>(HO_0.out.1 k_ e_)));have n2_:=Aside0.mk (ho);clear HB;clear HK;clear HO_0;have HB:=n0_;have HK:=n1_;have HO123:=n2_;clear n0_ n1_ n2_;clear ho hb hg hat))
      go_roundg k1
      case measure=>have:=HK1.out;omega
      case rel=>exact ⟨(y121),(wrap64 (x7_1-1)),(by first | rfl | (simp;done) | (simp [*];done)),H',⟨by have:=HK1.out;omega⟩,⟨by (with_reducible repeat (first | apply Kd.R_alloc | apply Kd.R_drewN | apply Kd.R_drew));exact HO123.out⟩,⟨by repeat (first | (with_reducible first | exact HK.out | apply Kept.alloc | apply Kept.drewN | apply Kept.drew) | exact HK.out)⟩,⟨by repeat (first | (with_reducible first | exact HB.out | apply below_alloc | apply pw_below_drewN | apply below_drew1) | exact HB.out)⟩⟩
     ·rw [if_neg c8] at H
      exact absurd H (by simp)
    ·rw [if_neg c6] at H
     exact absurd H (by simp)
   ·rw [if_neg c4] at H
    have c4b0:decide (0≤x7_1)=false:=decide_eq_false c4
    clear c4
    obtain rfl:=Option.some.inj H
    go_wp2
    go_ret
    exact ⟨_,by first | rfl | (simp [errW_none,errW_some]<;>rfl) | (simp [*,errW_none,errW_some]<;>rfl),by (with_reducible repeat (first | apply Kd.R_alloc | apply Kd.R_drewN | apply Kd.R_drew));exact HO_0.out,by repeat (first | (with_reducible first | exact HB.out | apply below_alloc | apply pw_below_drewN | apply below_drew1) | exact HB.out),by repeat (first | (with_reducible first | exact HK.out | apply Kept.alloc | apply Kept.drewN | apply Kept.drew) | exact HK.out)⟩
end
section
attribute [local go_sem] max2_int min2_int max_two min_two max_three min_three max_four min_four
def super_within.f (a0:Int) (a1:Int):Option (Bool):=if a0 ≥ 2 then (some (decide (a0<a1))) else (some false)
theorem super_within.calls (a0:Int) (a1:Int) (r:Bool) (w:World) (h:super_within.f a0 a1=some r) :
  Calls Tryz.prog 190 #[.int .i64 a0,.int .i64 a1] w fun e w'=>e = .returned (.bool r)∧Drawn0 w w':=by
 have H:(if a0 ≥ 2 then (some (decide (a0<a1))) else (some false))=some r:=h
 clear h
 by_cases c3:a0 ≥ 2
 ·rw [if_pos c3] at H
  have c3b0:decide (2≤a0)=true:=decide_eq_true c3
  clear c3
  obtain rfl:=Option.some.inj H
  go_enter Tryz.func190,Tryz.ntmps190
  go_wp2
  go_ret
  exact ⟨by first | rfl | (simp;done) | (simp [*];done),by repeat (first | exact Drawn0.refl _ | apply Drawn0.step)⟩
 ·rw [if_neg c3] at H
  have c3b0:decide (2≤a0)=false:=decide_eq_false c3
  clear c3
  obtain rfl:=Option.some.inj H
  go_enter Tryz.func190,Tryz.ntmps190
  go_wp2
  go_ret
  exact ⟨by first | rfl | (simp;done) | (simp [*];done),by repeat (first | exact Drawn0.refl _ | apply Drawn0.step)⟩
end
end Go.Proofs.YtnhkikebfinejaaGreatDoor.X
