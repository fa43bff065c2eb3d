/- Texts of this claim, laid together. No conditions. -/
import Derived.Test.YtnhkikebfinejaaGreatDoorMRickMany19
set_option linter.unusedVariables false
set_option linter.unusedSimpArgs false
set_option maxRecDepth 100000
set_option maxHeartbeats 16000000
namespace Go.Proofs.YtnhkikebfinejaaGreatDoor.Z
open Go Go.RowKit Go.Proofs.YtnhkikebfinejaaGreatDoorW.PrintWords Go.Proofs.YtnhkikebfinejaaGreatDoorW.PrintLast Go.Proofs.YtnhkikebfinejaaGreatDoorW.PrintMore Go.Proofs.YtnhkikebfinejaaGreatDoor.S Go.Proofs.YtnhkikebfinejaaGreatDoor.X
section
attribute [local go_sem ↓] Go.wp_at_zero Go.wp_at_succ loadKey_eq loadEn_eq storeKey_eq storeEn_eq loadNd_eq storeNd_eq loadMap_eq storeMap_eq loadTab_eq storePg_eq loadRt_eq storeRt_eq eqKy_eq
theorem rt_range {W:World} {g:Nat} {a q:Int} (h:W.heap[g]?=some (Obj.cells #[.int .i64 a,.int .i64 q] 96)):W.rangeAt g 0 [.int .i64 a,.int .i64 q]:=by intro j y hy;rw [blk_cell h];simpa using hy
theorem leaf_one {x:En} (h:EnOk x):NdOk ⟨true,[x],[],[]⟩:=.inl ⟨rfl,rfl,rfl,by simp,by simp,fun e he=>by rcases List.mem_singleton.1 he with rfl;exact h,fun i a b h1 h2=>by simp at h2⟩
theorem ndl_one [Inhabited Sanct] {W:World} {g:Nat} {nv:NV} {nd:Nd} (hg:W.heap[g]?=some (Obj.cells (nvA nv) 175)) {base:Nat} (hb:base≤g) (hr:NdR W base (nvA nv) nd):NdL W base (.slice (some ⟨g,0,none⟩) 1 1) [nd]:=by
 refine ⟨[nv],?_,rfl,fun j x n h1 h2=>?_⟩
 ·exact R_of_cells (cur:=nvA nv) rfl (Nat.le_refl _) (by decide) hb hg rfl (by simp [nvA,nvC])
 ·cases j with
  | zero=>injection h1 with h1;injection h2 with h2;subst h1 h2;exact hr
  | succ j=>simp at h1
theorem nv_one_leaf {W:World} {g:Nat} {x:En} (hg:W.heap[g]?=some (Obj.cells (enA x) 89)):NdV W #[.bool true,.slice (some ⟨g,0,none⟩) 1 1,.slice none 0 0,.slice none 0 0] ⟨true,[x],[],[]⟩:=
 ⟨_,1,_,0,_,0,rfl,Nat.le_refl _,Nat.le_refl _,Nat.le_refl _,rw_of_blk hg rfl,Rw.nil rfl,Rw.nil rfl⟩
theorem nr_one_leaf [Inhabited Sanct] {W:World} {g base:Nat} {x:En} (hg:W.heap[g]?=some (Obj.cells (enA x) 89)) (hb:base≤g):NdR W base (nvA ⟨true,some ⟨g,0,none⟩,1,1,none,0,0,none,0,0⟩) ⟨true,[x],[],[]⟩:=
 ⟨_,_,_,rfl,R_of_cells (n:=1) (c:=1) (cur:=enA x) rfl (Nat.le_refl _) (by decide) hb hg rfl (by simp [enA,enC]),Kd.R_nil _ _ _ _ _,Kd.R_nil _ _ _ _ _⟩
theorem tinsert_calls [Inhabited Sanct] {w:World} {v:Nat} {a q:Int} {es:List En} {x:En} (hq0:0≤q) (hq5:q≤5) (hx:EnOk x) (hl:es.length≤100000) (hne:∀ y∈es,y.k≠x.k) (hme:∀ y∈es,meetB x y=false) {Mid:Value→World→Prop} {Post:Int→Int→World→Prop}
  (hP:∀ a q W g cs Q,Post a q W→w.heap.size≤g→W.heap[g]?=some (Obj.cells cs 96)→Post a q (W.setRow g Q))
  (hall:∀ W,Below w.heap.size w W→Calls Tryz.prog 126 #[.pointer (some ⟨v,0,none⟩),.agg #[.int .i64 a,.int .i64 q]] W fun r w'=>∃ vo,r = .returned (.tuple #[vo,.int .i64 0])∧kE.R 89 w' W.heap.size (fun _=>True) vo es∧Below W.heap.size W w')
  (hz:q=0 → ∀ (W:World) (lv:Value) (b:Nat),Below w.heap.size w W→NdL W b lv [⟨true,[x],[],[]⟩]→Calls Tryz.prog 157 #[.pointer (some ⟨v,0,none⟩),lv,.int .i64 1] W fun r w'=>∃ a' q':Int,r = .returned (.tuple #[.agg #[.int .i64 a',.int .i64 q'],.int .i64 0])∧Post a' q' w'∧FrT vT W w')
  (hi:q≠0 → ∀ W,Below w.heap.size w W→Calls Tryz.prog 158 #[.pointer (some ⟨v,0,none⟩),.int .i64 a,.int .i64 q,.agg (enA x)] W fun r w'=>∃ lv,r = .returned (.tuple #[lv,.int .i64 0])∧Mid lv w'∧FrT vT W w')
  (hr:q≠0 → ∀ lv W,Mid lv W→Calls Tryz.prog 157 #[.pointer (some ⟨v,0,none⟩),lv,.int .i64 q] W fun r w'=>∃ a' q':Int,r = .returned (.tuple #[.agg #[.int .i64 a',.int .i64 q'],.int .i64 0])∧Post a' q' w'∧FrT vT W w') :
  Calls Tryz.prog 116 #[.pointer (some ⟨v,0,none⟩),.agg #[.int .i64 a,.int .i64 q],.agg (enA x)] w fun r w'=>∃ a' q':Int,r = .returned (.tuple #[.agg #[.int .i64 a',.int .i64 q'],.int .i64 0])∧Post a' q' w':=by
 have HP:=Aside0.mk hP
 have HA:=Aside0.mk hall
 have HZ:=Aside0.mk hz
 have HI:=Aside0.mk hi
 have HR:=Aside0.mk hr
 have HNE:=Aside0.mk (And.intro hne hme)
 have HL:=Aside0.mk hl
 have HM:Aside0 (∀ W,Calls Tryz.prog 155 #[.pointer (some ⟨v,0,none⟩),.agg #[.int .i64 a,.int .i64 q]] W fun r w'=>r = .returned (.int .i64 0)∧Below W.heap.size W w'):=⟨fun W=>vmay_calls v _ _ hq0 hq5⟩
 obtain ⟨x1,x2,x3,x4,x5,x6,x7,x8,hxl⟩:∃ (x1 x2 x3 x4 x5 x6 x7 x8:Int),enA x=#[.int .i64 x1,.int .i64 x2,.int .i64 x3,.int .i64 x4,.int .i64 x5,.int .i64 x6,.int .i64 x7,.int .u32 x8]:=⟨_,_,_,_,_,_,_,_,rfl⟩
 have HXL:=Aside0.mk hxl
 have HOK:=Aside0.mk hx
 obtain ⟨gR,hgR⟩:∃ q,w.heap.size=q:=⟨_,rfl⟩
 obtain ⟨Wa,hWa⟩:∃ W,w.alloc (Obj.cells #[.int .i64 a,.int .i64 q] 96)=W:=⟨_,rfl⟩
 obtain ⟨gx,hgx⟩:∃ q,Wa.heap.size=q:=⟨_,rfl⟩
 obtain ⟨Wb,hWb⟩:∃ W,Wa.alloc (Obj.cells (enA x) 89)=W:=⟨_,rfl⟩
 obtain ⟨gZ,hgZ⟩:∃ q,Wb.heap.size=q:=⟨_,rfl⟩
 obtain ⟨W0,hW0⟩:∃ W,Wb.alloc (Obj.cells #[.int .i64 0,.int .i64 0] 96)=W:=⟨_,rfl⟩
 have HB0:Aside0 (Below w.heap.size w W0):=⟨by rw [← hW0,← hWb,← hWa];exact below_alloc (below_alloc (below_alloc (Below.refl _ _) _) _) _⟩
 have HR0:Aside0 (W0.heap[gR]?=some (Obj.cells #[.int .i64 a,.int .i64 q] 96)):=⟨by rw [← hW0,← hWb,← hWa];exact blk_alloc (blk_alloc (newb hgR) _) _⟩
 have HX0:Aside0 (EnAt W0 gx x):=⟨by rw [← hW0,← hWb];exact (en_new x hgx).alloc _⟩
 have HZ0:Aside0 (W0.heap[gZ]?=some (Obj.cells #[.int .i64 0,.int .i64 0] 96)):=⟨by rw [← hW0];exact newb hgZ⟩
 have HGZ:Aside0 (w.heap.size≤gZ):=⟨by rw [← hgZ,← hWb,← hWa];simp;omega⟩
 have hlr:=ld_rt W0 (rt_range HR0.out)
 clear hP hall hz hi hr hne hme hl hq0 hq5 hx hxl
 go_enter Tryz.func116,Tryz.ntmps116
 go_wp2_with (go_at_call 155;(with_reducible refine (HM.out _).mono ?_);rintro r w1 ⟨rfl,hb⟩;refine hold ?_)
 unfold Hold
 clear hlr hW0 hWa hWb hgR hgx hgZ
 have HB1:=Aside0.mk (below_step HB0.out hb)
 have HX1:Aside0 (EnAt w1 gx x):=⟨HX0.out.below hb⟩
 have HR1:=Aside0.mk (blkb hb HR0.out)
 have HZ1:=Aside0.mk (blkb hb HZ0.out)
 clear hb
 have hlx:(loadEnI (.pointer (some ⟨gx,0,none⟩))).run Tryz.prog w1 = .ok (.agg #[.int .i64 x1,.int .i64 x2,.int .i64 x3,.int .i64 x4,.int .i64 x5,.int .i64 x6,.int .i64 x7,.int .u32 x8]) w1:=by rw [← HXL.out];exact (ld_en w1 HX1.out).1
 obtain ⟨gV,hgV⟩:∃ q,w1.heap.size=q:=⟨_,rfl⟩
 obtain ⟨w2,hw2⟩:∃ W,w1.alloc (Obj.cells #[.int .i64 x1,.int .i64 x2,.int .i64 x3,.int .i64 x4,.int .i64 x5,.int .i64 x6,.int .i64 x7,.int .u32 x8] 89)=W:=⟨_,rfl⟩
 have hb2:Below w1.heap.size w1 w2:=by rw [← hw2];exact below_alloc (Below.refl _ _) _
 have hv2:w2.heap[gV]?=some (Obj.cells (enA x) 89):=by rw [← hw2,HXL.out];exact newb hgV
 have HRT:=Aside0.mk (right_calls (nv_one_leaf hv2) (leaf_one HOK.out))
 have HB2:=Aside0.mk (below_step HB1.out hb2)
 have HX2:Aside0 (EnAt w2 gx x):=⟨HX1.out.below hb2⟩
 have HR2:=Aside0.mk (blkb hb2 HR1.out)
 have HZ2:=Aside0.mk (blkb hb2 HZ1.out)
 clear hb2 hv2
 go_wp2_with (go_at_call 111;(with_reducible refine HRT.out.mono ?_);rintro r w3 ⟨rfl,hb⟩;refine hold ?_)
 unfold Hold
 clear hlx hw2 hgV HRT
 have HB3:=Aside0.mk (below_step HB2.out hb)
 have HX3:Aside0 (EnAt w3 gx x):=⟨HX2.out.below hb⟩
 have HR3:=Aside0.mk (blkb hb HR2.out)
 have HZ3:=Aside0.mk (blkb hb HZ2.out)
 clear hb
 have hlr:=ld_rt w3 (rt_range HR3.out)
 go_wp2_with (go_at_call 126;(with_reducible refine (HA.out _ HB3.out).mono ?_);rintro r w4 ⟨vo,rfl,hro,hb⟩;refine hold ?_)
 unfold Hold
 clear hlr
 have HB4:=Aside0.mk (below_step HB3.out hb)
 have HX4:Aside0 (EnAt w4 gx x):=⟨HX3.out.below hb⟩
 have HR4:=Aside0.mk (blkb hb HR3.out)
 have HZ4:=Aside0.mk (blkb hb HZ3.out)
 clear hb
 obtain ⟨n,hn⟩:∃ n,es.length=n:=⟨_,rfl⟩
 obtain ⟨A,c,rfl⟩:=Kd.R_slice hro
 rw [hn] at hro ⊢
 have HRO:=Aside0.mk (And.intro (R_rw hro (by have:=HL.out;omega)) hn)
 clear hro hn
 go_wp2
 go_loopw [41] (fun v41 wr=>∃ (i:Nat) (ii:Int),v41 = .int .i64 ii∧Aside0 (ii=(i:Int)∧i≤n)∧Aside0 (Below w4.heap.size w4 wr)) (fun v41 _=>((n:Int)-intOf v41).toNat)
 case atStart=>exact ⟨0,0,rfl,⟨rfl,Nat.zero_le _⟩,⟨Below.refl _ _⟩⟩
 case round=>
  obtain ⟨i,ii,rfl,HII,HBW⟩:=hrel
  have hi0:0≤ii∧ii≤100000:=by have:=HII.out;have:=HL.out;have:=HRO.out.2;omega
  have e5:wrap64 (ii+1)=ii+1:=wrap64_id (by omega) (by omega)
  have e6:IntKind.i64.wrap (ii+1)=ii+1:=i64_id (by omega) (by omega)
  by_cases hlt:i<n
  ·have d1:decide (ii<(n:Int))=true:=decide_eq_true (by have:=HII.out;omega)
   have d2:(ii<(n:Int))=True:=eq_true (by have:=HII.out;omega)
   have d3:(0≤ii)=True:=eq_true (by omega)
   have d4:ii.toNat=i:=by have:=HII.out;omega
   obtain ⟨y,hy⟩:∃ y,es[i]?=some y:=⟨_,List.getElem?_eq_getElem (by rw [HRO.out.2];exact hlt)⟩
   have hym:=List.mem_of_getElem? hy
   obtain ⟨g,o,hA,hcc⟩:=(HRO.out.1.below HBW.out).at_ hy
   have hld:(loadEnI (.pointer (some ⟨g,o+i*8,none⟩))).run Tryz.prog wr = .ok (.agg (enA y)) wr:=run_loadEn hcc
   subst hA
   have hst:=st_en y wr
   obtain ⟨gY,hgY⟩:∃ q,wr.heap.size=q:=⟨_,rfl⟩
   obtain ⟨W1,hW1⟩:∃ W,wr.alloc (Obj.cells (enA y) 89)=W:=⟨_,rfl⟩
   have hbW:Below wr.heap.size wr W1:=by rw [← hW1];exact below_alloc (Below.refl _ _) _
   have hyW:EnAt W1 gY y:=by rw [← hW1];exact en_new y hgY
   have hxW:EnAt W1 gx x:=(HX4.out.below HBW.out).below hbW
   have HB5:=Aside0.mk (below_step HBW.out hbW)
   rw [hgY,hW1] at hst
   have hk1:=(ld_en W1 hyW).2
   have hk2:=(ld_en W1 hxW).2
   have hkq:=key_ne (HNE.out.1 y hym) W1
   clear hy hym hcc hbW hyW hxW
   go_wp2
   go_roundw
   case rel=>exact ⟨i+1,_,rfl,⟨by have:=HII.out;omega,hlt⟩,HB5⟩
   case measure=>simp [intOf];have:=HII.out;omega
  ·have d1:decide (ii<(n:Int))=false:=decide_eq_false (by have:=HII.out;omega)
   have HX5:Aside0 (EnAt wr gx x):=⟨HX4.out.below HBW.out⟩
   have HRO5:=Aside0.mk (HRO.out.1.below HBW.out)
   have HR5:=Aside0.mk (blkb HBW.out HR4.out)
   have HZ5:=Aside0.mk (blkb HBW.out HZ4.out)
   have HB5:=Aside0.mk (below_step HB4.out HBW.out)
   obtain ⟨w5,hw5⟩:∃ W,W=wr:=⟨_,rfl⟩
   subst hw5
   clear e5 e6 hi0 hlt HII HBW
   go_wp2
   clear d1
   go_loopw [54] (fun v54 wr=>∃ (i:Nat) (ii:Int),v54 = .int .i64 ii∧Aside0 (ii=(i:Int)∧i≤n)∧Aside0 (Below w5.heap.size w5 wr)) (fun v54 _=>((n:Int)-intOf v54).toNat)
   case atStart=>exact ⟨0,0,rfl,⟨rfl,Nat.zero_le _⟩,⟨Below.refl _ _⟩⟩
   case round=>
    obtain ⟨i,ii,rfl,HII,HBW⟩:=hrel
    have hi0:0≤ii∧ii≤100000:=by have:=HII.out;have:=HL.out;have:=HRO.out.2;omega
    have e5:wrap64 (ii+1)=ii+1:=wrap64_id (by omega) (by omega)
    have e6:IntKind.i64.wrap (ii+1)=ii+1:=i64_id (by omega) (by omega)
    by_cases hlt:i<n
    ·have d1:decide (ii<(n:Int))=true:=decide_eq_true (by have:=HII.out;omega)
     have d2:(ii<(n:Int))=True:=eq_true (by have:=HII.out;omega)
     have d3:(0≤ii)=True:=eq_true (by omega)
     have d4:ii.toNat=i:=by have:=HII.out;omega
     obtain ⟨y,hy⟩:∃ y,es[i]?=some y:=⟨_,List.getElem?_eq_getElem (by rw [HRO.out.2];exact hlt)⟩
     have hym:=List.mem_of_getElem? hy
     obtain ⟨g,o,hA,hcc⟩:=(HRO5.out.below HBW.out).at_ hy
     have hld:(loadEnI (.pointer (some ⟨g,o+i*8,none⟩))).run Tryz.prog wr = .ok (.agg (enA y)) wr:=run_loadEn hcc
     subst hA
     have hst:=st_en y wr
     obtain ⟨gY,hgY⟩:∃ q,wr.heap.size=q:=⟨_,rfl⟩
     obtain ⟨W1,hW1⟩:∃ W,wr.alloc (Obj.cells (enA y) 89)=W:=⟨_,rfl⟩
     have hbW:Below wr.heap.size wr W1:=by rw [← hW1];exact below_alloc (Below.refl _ _) _
     have hyW:EnAt W1 gY y:=by rw [← hW1];exact en_new y hgY
     have hxW:EnAt W1 gx x:=(HX5.out.below HBW.out).below hbW
     have HB5b:=Aside0.mk (below_step HBW.out hbW)
     rw [hgY,hW1] at hst
     have hk1:=(ld_en W1 hyW).1
     have hk2:=(ld_en W1 hxW).1
     have HTM:=Aside0.mk (tmeets_calls (w:=W1) x y (HNE.out.2 y hym))
     clear hy hym hcc hbW hyW hxW
     go_wp2_with (go_at_call 156;(with_reducible refine HTM.out.mono ?_);rintro r w7 ⟨rfl,hb⟩;have HB7:=Aside0.mk (below_step HB5b.out hb);clear hb)
     go_roundw
     case rel=>exact ⟨i+1,_,rfl,⟨by have:=HII.out;omega,hlt⟩,HB7⟩
     case measure=>simp [intOf];have:=HII.out;omega
    ·have d1:decide (ii<(n:Int))=false:=decide_eq_false (by have:=HII.out;omega)
     have HX6:Aside0 (EnAt wr gx x):=⟨HX5.out.below HBW.out⟩
     have HR6:=Aside0.mk (blkb HBW.out HR5.out)
     have HZ6:=Aside0.mk (blkb HBW.out HZ5.out)
     have HB6:=Aside0.mk (below_step HB5.out HBW.out)
     have hc6:=blk_cell HR6.out 1
     simp only [List.getElem?_toArray,List.getElem?_cons_zero,List.getElem?_cons_succ] at hc6
     clear e5 e6 hi0 hlt HII HBW
     have hc60:=blk_cell HR6.out 0
     simp only [List.getElem?_toArray,List.getElem?_cons_zero,List.getElem?_cons_succ] at hc60
     by_cases hq:q=0
     ·have hq1:(q == 0)=true:=beq_iff_eq.2 hq
      have hlx:(loadEnI (.pointer (some ⟨gx,0,none⟩))).run Tryz.prog wr = .ok (.agg #[.int .i64 x1,.int .i64 x2,.int .i64 x3,.int .i64 x4,.int .i64 x5,.int .i64 x6,.int .i64 x7,.int .u32 x8]) wr:=by rw [← HXL.out];exact (ld_en wr HX6.out).1
      obtain ⟨g7,hg7⟩:∃ q,wr.heap.size=q:=⟨_,rfl⟩
      obtain ⟨w7,hw7⟩:∃ W,wr.alloc (Obj.cells #[.int .i64 x1,.int .i64 x2,.int .i64 x3,.int .i64 x4,.int .i64 x5,.int .i64 x6,.int .i64 x7,.int .u32 x8] 89)=W:=⟨_,rfl⟩
      obtain ⟨g8,hg8⟩:∃ q,w7.heap.size=q:=⟨_,rfl⟩
      obtain ⟨w8,hw8⟩:∃ W,w7.alloc (Obj.cells #[.bool true,.slice (some ⟨g7,0,none⟩) 1 1,.slice none 0 0,.slice none 0 0] 175)=W:=⟨_,rfl⟩
      have hb7:Below wr.heap.size wr w7:=by rw [← hw7];exact below_alloc (Below.refl _ _) _
      have hb8:Below w7.heap.size w7 w8:=by rw [← hw8];exact below_alloc (Below.refl _ _) _
      have h7:w8.heap[g7]?=some (Obj.cells (enA x) 89):=by rw [← hw8,← hw7,HXL.out];exact blk_alloc (newb hg7) _
      have h8:w8.heap[g8]?=some (Obj.cells (nvA ⟨true,some ⟨g7,0,none⟩,1,1,none,0,0,none,0,0⟩) 175):=by rw [← hw8];exact newb hg8
      have hB8:=below_step HB6.out (below_step hb7 hb8)
      have HB8:=Aside0.mk hB8
      have HZ8:=Aside0.mk (blkb (below_step hb7 hb8) HZ6.out)
      have HNL:=Aside0.mk (HZ.out hq w8 _ g7 hB8 (ndl_one h8 (by rw [← hg8,← hw7,← hg7];simp) (nr_one_leaf h7 (Nat.le_refl _))))
      clear hb7 hb8 h7 h8 hB8
      go_wp2_with (go_at_call 157;(with_reducible refine HNL.out.mono ?_);rintro r w9 ⟨a9,q9,rfl,hp,hf⟩;have HP9:=Aside0.mk hp;have HZ9:=Aside0.mk (hf.blk HZ8.out (by decide));have hst:=st_rt a9 q9 HZ9.out rfl;clear hp hf)
      refine bodyPost_ret (results_ct rfl _ _ gZ 96 (rootA a9 q9) (0,0) _ rfl (setRow_heap _ _ _ _ _ _ HZ9.out) Tryz.underlying96 rfl rt_size) rfl ?_
      exact ⟨a9,q9,rfl,HP.out _ _ _ _ _ _ HP9.out HGZ.out HZ9.out⟩
     ·have hq1:(q == 0)=false:=beq_eq_false_iff_ne.2 hq
      have hlx:=(ld_en wr HX6.out).1
      go_wp2_with (go_at_call 158;(with_reducible refine (HI.out hq _ HB6.out).mono ?_);rintro r w7 ⟨lv,rfl,hmid,hf⟩;refine hold ?_)
      unfold Hold
      have HM7:=Aside0.mk hmid
      have HZ7:=Aside0.mk (hf.blk HZ6.out (by decide))
      have hr7:=hf.blk HR6.out (by decide)
      have hc7:=blk_cell hr7 1
      simp only [List.getElem?_toArray,List.getElem?_cons_zero,List.getElem?_cons_succ] at hc7
      clear hmid hf hlx hc6 hc60 hr7
      go_wp2_with (go_at_call 157;(with_reducible refine (HR.out hq _ _ HM7.out).mono ?_);rintro r w9 ⟨a9,q9,rfl,hp,hf⟩;have HP9:=Aside0.mk hp;have HZ9:=Aside0.mk (hf.blk HZ7.out (by decide));have hst:=st_rt a9 q9 HZ9.out rfl;clear hp hf)
      refine bodyPost_ret (results_ct rfl _ _ gZ 96 (rootA a9 q9) (0,0) _ rfl (setRow_heap _ _ _ _ _ _ HZ9.out) Tryz.underlying96 rfl rt_size) rfl ?_
      exact ⟨a9,q9,rfl,HP.out _ _ _ _ _ _ HP9.out HGZ.out HZ9.out⟩
end
section
attribute [local go_sem ↓] Go.wp_at_zero Go.wp_at_succ loadKey_eq loadEn_eq storeKey_eq storeEn_eq loadNd_eq storeNd_eq loadMap_eq storeMap_eq loadTab_eq storePg_eq loadRt_eq storeRt_eq eqKy_eq
theorem all0_calls [Inhabited Sanct] {w:World} {v:Nat} (a:Int) :
  Calls Tryz.prog 126 #[.pointer (some ⟨v,0,none⟩),.agg #[.int .i64 a,.int .i64 0]] w fun r w'=>r = .returned (.tuple #[.slice none 0 0,.int .i64 0])∧Below w.heap.size w w':=by
 have HM:Aside0 (∀ W,Calls Tryz.prog 155 #[.pointer (some ⟨v,0,none⟩),.agg #[.int .i64 a,.int .i64 0]] W fun r w'=>r = .returned (.int .i64 0)∧Below W.heap.size W w'):=⟨fun W=>vmay_calls v _ _ (by omega) (by omega)⟩
 obtain ⟨gR,hgR⟩:∃ q,w.heap.size=q:=⟨_,rfl⟩
 obtain ⟨W0,hW0⟩:∃ W,w.alloc (Obj.cells #[.int .i64 a,.int .i64 0] 96)=W:=⟨_,rfl⟩
 have hb0:Below w.heap.size w W0:=by rw [← hW0];exact below_alloc (Below.refl _ _) _
 have hx0:W0.heap[gR]?=some (Obj.cells #[.int .i64 a,.int .i64 0] 96):=by rw [← hW0];exact newb hgR
 have HR0:=Aside0.mk hx0
 have hlr:=ld_rt W0 (rt_range hx0)
 have HB0:=Aside0.mk hb0
 clear hb0 hx0
 go_enter Tryz.func126,Tryz.ntmps126
 go_wp2_with (go_at_call 155;(with_reducible refine (HM.out _).mono ?_);rintro r w1 ⟨rfl,hb⟩;refine hold ?_)
 unfold Hold
 clear hW0 hlr
 have hx1:=blkb hb HR0.out
 have hc1:=blk_cell hx1 1
 simp only [List.getElem?_toArray,List.getElem?_cons_zero,List.getElem?_cons_succ] at hc1
 have HB1:=Aside0.mk (below_step HB0.out hb)
 clear hb hx1
 go_wp2
 go_ret2
 exact ⟨rfl,HB1.out⟩
def TreeOk (f:Nat→List Int) (a q:Int) (es:List En) (ps:List Nat):Prop:=
 (q=0∧a=0∧es=[]∧ps=[]) ∨ ∃ (h p:Nat) (nd:Nd) (ps':List Nat),q=((h+1:Nat):Int)∧a=(p:Int)∧ps=p :: ps'∧NdT f h nd es ps'∧NdOk nd∧(nd.lf=true∨2≤ndSize nd)∧PageAt f p (kindN nd) (ndB nd)
theorem root_low {f:Nat→List Int} {h:Nat} {nd:Nd} {es:List En} {ps:List Nat} (H:NdT f h nd es ps) (h2:nd.lf=true∨2≤ndSize nd) (hl:es.length≤90):h≤2∧ps.length≤es.length:=by
 have hlf:=H.lf
 obtain ⟨c1,c2⟩:=H.rootCount (by
  rcases h2 with h2 | h2
  ·rw [h2] at hlf;exact .inr (by simpa using hlf.symm)
  ·exact .inl h2)
 refine ⟨?_,c1⟩
 rcases Nat.lt_or_ge 2 h with h3 | h3
 ·have h4:=c2 (by omega)
  have h5:8 ^ 3≤8 ^ h:=Nat.pow_le_pow_right (by decide) h3
  have:(8:Nat) ^ 3=512:=by decide
  omega
 ·exact h3
theorem meet_of {x y:En} (hx:EnG x) (hy:EnG y) (h:y.k≠x.k):meetB x y=false:=by
 unfold meetB
 cases hb:(decide (x.k.s=y.k.s) && decide (x.k.a≤y.z) && decide (y.k.a≤x.z)) with
 | false=>rfl
 | true=>
  simp only [Bool.and_eq_true,decide_eq_true_eq] at hb
  obtain ⟨⟨h1,h2⟩,h3⟩:=hb
  have h4:=hx.2
  have h5:=hy.2
  have h6:x.k.a=y.k.a:=by omega
  exact absurd (by cases hk:x.k;cases hk2:y.k;rw [hk,hk2] at h1 h6;simp only at h1 h6;rw [h1,h6]) h
structure InsTo [Inhabited Sanct] (w w':World) (v d N gen k:Nat) (o:List Bool) (f:Nat→List Int) (R:List Nat) (x:En) (es:List En) (a' q':Int):Prop where
 e:∃ (es':List En) (ps':List Nat) (m':List Bool) (f':Nat→List Int) (nw':Nat),TreeOk f' a' q' es' ps'∧es'.Perm (x :: es)∧Sp es'∧VS w' v d N gen nw' m' o f' k∧Us N m' (ps'++R)∧(∀ p∈R,SameAt f f' p)∧FrT vT w w'
theorem vs_Insert [Inhabited Sanct] {w:World} {v d N gen nw k:Nat} {m o:List Bool} {f:Nat→List Int} {a q:Int} {es:List En} {ps R:List Nat} {x:En} (hv:VS w v d N gen nw m o f (k+11)) (ht:TreeOk f a q es ps) (hs:Sp es) (hg:∀ e∈es,EnG e) (hl:es.length≤89) (hx:EnG x) (hne:∀ y∈es,y.k≠x.k) (hu:Us N m (ps++R)) :
  Calls Tryz.prog 116 #[.pointer (some ⟨v,0,none⟩),.agg #[.int .i64 a,.int .i64 q],.agg (enA x)] w fun r w'=>∃ a' q':Int,r = .returned (.tuple #[.agg #[.int .i64 a',.int .i64 q'],.int .i64 0])∧InsTo w w' v d N gen k o f R x es a' q':=by
 have hP:∀ a q W g cs Q,InsTo w W v d N gen k o f R x es a q→w.heap.size≤g→W.heap[g]?=some (Obj.cells cs 96)→InsTo w (W.setRow g Q) v d N gen k o f R x es a q:=by
  rintro a q W g cs Q ⟨es',ps',m',f',nw',t1,t2,t3,t4,t5,t6,t7⟩ hg hf
  exact ⟨es',ps',m',f',nw',t1,t2,t3,t4.frT ((FrT.refl [96] _).setRow hf (by decide) Q) (by decide),t5,t6,t7.setRowNew hg Q⟩
 have hm:=hv.mm
 rcases ht with ⟨rfl,rfl,rfl,rfl⟩ | ⟨h,p,nd,ps',rfl,rfl,rfl,H,hok,h2,hp⟩
 ·refine tinsert_calls (Mid:=fun _ _=>False) (by omega) (by omega) hx.1 (es:=[]) (by simp) (by simp) (by simp) hP (fun W hW=>?_) (fun _ W lv b hW hnl=>?_) (fun hc=>absurd rfl hc) (fun hc=>absurd rfl hc)
  ·refine (all0_calls 0).mono ?_
   rintro r w' ⟨rfl,hb⟩
   exact ⟨_,rfl,Kd.R_nil _ _ _ _ _,hb⟩
  ·have hvW:=(hv.below hW).mono (j:=k+1) (by omega)
   refine (vs_root1 hvW hnl (leaf_one hx.1) (.inl rfl) 1 (by omega)).mono ?_
   rintro r w' ⟨a',f',rfl,k1,k2,k3⟩
   obtain ⟨d1,d2,d3⟩:=k2.done hm hu
   exact ⟨_,_,rfl,⟨[x],[a'],_,f',_,.inr ⟨0,a',⟨true,[x],[],[]⟩,[],rfl,rfl,rfl,⟨rfl,rfl⟩,leaf_one hx.1,.inl rfl,d3 0 _ _ rfl rfl⟩,List.Perm.refl _,by simp [Sp],k1,d1,fun p hp=>d2 p hp,((FrT.of_below hW vT).trans k3)⟩,k3⟩
 ·have hlow:=root_low H h2 (by omega)
  have hN:∀ r∈p :: ps',r+1≤N:=fun r hr=>(hu.b r (List.mem_append_left _ hr)).2
  refine tinsert_calls (Mid:=fun lv W=>∃ (P:List Pc) (m1:List Bool) (f1:Nat→List Int) (nw1:Nat),NdL W w.heap.size lv (P.map Pc.n)∧Ins f1 h nd x es P∧VS W v d N gen nw1 m1 o f1 (k+3)∧Us N m1 (P.flatMap Pc.ps++R)∧(∀ p∈R,SameAt f f1 p)∧FrT vT w W)
   (by omega) (by omega) hx.1 (by omega) hne (fun y hy=>meet_of hx (hg y hy) (hne y hy)) hP (fun W hW=>all_calls (by omega) (hv.below hW) H hok hp hN (by omega)) (fun hc=>absurd hc (by omega)) (fun _ W hW=>?_) (fun _ lv W hmid=>?_)
  ·refine (vs_insert h (k:=k+3) (by omega) ((hv.below hW).mono (by omega)) H hok h2 hp hs hg hx hne hu).mono ?_
   rintro r w' ⟨lv,P,m1,f1,n1,rfl,q1,q2,q3,q4,q5,q6⟩
   exact ⟨lv,rfl,⟨P,m1,f1,n1,q1.lower hW.size,q2,q3,q4,q5,(FrT.of_below hW vT).trans q6⟩,q6⟩
  ·obtain ⟨P,m1,f1,n1,q1,q2,q3,q4,q5,q6⟩:=hmid
   have hm1:=q3.mm
   rcases q2.len with hP1 | ⟨hP2,hleast⟩
   ·obtain ⟨z,rfl⟩:∃ z,P=[z]:=by match P,hP1 with | [z],_=>exact ⟨z,rfl⟩
    obtain ⟨o1,o2,o3,o4⟩:=q2.ok z (by simp)
    refine (vs_root1 (k:=k) (q3.mono (by omega)) q1 o2 o4 _ (by omega)).mono ?_
    rintro r w' ⟨a',f',rfl,k1,k2,k3⟩
    obtain ⟨d1,d2,d3⟩:=k2.done hm1 q4
    refine ⟨_,_,rfl,⟨z.es,a' :: z.ps,_,f',_,.inr ⟨h,a',z.n,z.ps,rfl,rfl,rfl,o1.same (fun r hr=>d2 r (by simp [hr])),o2,?_,d3 0 _ _ rfl rfl⟩,by simpa using q2.es,by simpa using q2.sp,k1,?_,fun r hr=>(q5 r hr).trans (d2 r (by simp [hr])),(q6.trans k3)⟩,k3⟩
    ·rcases o4 with o4 | o4
     ·exact .inl o4
     ·rcases Bool.eq_false_or_eq_true z.n.lf with hz | hz
      ·exact .inl hz
      ·refine .inr ?_
       unfold ndSize
       rw [hz]
       exact o4
    ·have:[a']++([z].flatMap Pc.ps++R)=a' :: z.ps++R:=by simp
     rw [← this];exact d1
   ·obtain ⟨y,z,rfl⟩:∃ y z,P=[y,z]:=by match P,hP2 with | [y,z],_=>exact ⟨y,z,rfl⟩
    obtain ⟨o1,o2,o3,o4⟩:=q2.ok y (by simp)
    obtain ⟨r1,r2,r3,r4⟩:=q2.ok z (by simp)
    have hsp:=q2.sp
    simp only [List.flatMap_cons,List.flatMap_nil,List.append_nil] at hsp
    have hlt:lessB (ndLeast y.n) (ndLeast z.n)=true:=by
     obtain ⟨e1,es1,g1,g2⟩:=o1.least o2.one.1
     obtain ⟨e2,es2,g3,g4⟩:=r1.least r2.one.1
     rw [g2,g4]
     exact (List.pairwise_append.1 hsp).2.2 e1 (by rw [g1];simp) e2 (by rw [g3];simp)
    refine (vs_root2 (k:=k) q3 q1 o2 r2 hlt _ (by omega) (by omega)).mono ?_
    rintro r w' ⟨ts,a',m',f',rfl,k1,k2,k3⟩
    obtain ⟨d1,d2,d3⟩:=k2.done hm1 q4
    have htl:=k2.len
    obtain ⟨t1,t2,rfl⟩:∃ t1 t2,ts=[t1,t2]:=by
     simp at htl
     match ts,htl with | [t1,t2],_=>exact ⟨t1,t2,rfl⟩
    have hKK:∀ c∈[(⟨t1,y.n,y.es,y.ps⟩:Kid),⟨t2,z.n,z.es,z.ps⟩],KidOk f' h c:=by
     intro c hc
     rcases List.mem_cons.1 hc with rfl | hc
     ·exact ⟨o2,hleast y (by simp),d3 0 _ _ rfl rfl,o1.same (fun r hr=>d2 r (by simp [hr]))⟩
     ·rcases List.mem_singleton.1 hc with rfl
      exact ⟨r2,hleast z (by simp),d3 1 _ _ rfl rfl,r1.same (fun r hr=>d2 r (by simp [hr]))⟩
    have hT:NdT f' (h+1) (upper y.n z.n [t1,t2]) (y.es++z.es) (t1 :: (y.ps++t2 :: z.ps)):=⟨_,rfl,by simp [kidEs],by simp [kidPs],hKK⟩
    have hU:Us N m' ((a' :: (t1 :: (y.ps++t2 :: z.ps)))++R):=d1.perm (by
     simp only [List.cons_append,List.nil_append,List.flatMap_cons,List.flatMap_nil,List.append_nil,List.append_assoc]
     have p1:(t1 :: t2 :: a' :: (y.ps++(z.ps++R))).Perm (a' :: t1 :: t2 :: (y.ps++(z.ps++R))):=
      ((List.Perm.swap a' t2 _).cons t1).trans (List.Perm.swap a' t1 _)
     exact p1.trans (((List.perm_middle (a:=t2) (l₁:=y.ps) (l₂:=z.ps++R)).symm.cons t1).cons a'))
    have hpe:(y.es++z.es).Perm (x :: es):=by simpa using q2.es
    have hOK:NdOk (upper y.n z.n [t1,t2]):=hT.ok hsp (EnG.perm hpe hg hx) (by simp [ndSize,upper]) (by simp [ndSize,upper,mostN]) (List.nodup_cons.1 (List.nodup_append.1 hU.n).1).2 (hU.bnd hm.n5 (fun r hr=>List.mem_append_left _ (List.mem_cons_of_mem _ hr)))
    exact ⟨_,_,rfl,⟨y.es++z.es,a' :: (t1 :: (y.ps++t2 :: z.ps)),m',f',_,.inr ⟨h+1,a',upper y.n z.n [t1,t2],_,by omega,rfl,rfl,hT,hOK,.inr (by simp [ndSize,upper]),d3 2 _ _ rfl rfl⟩,hpe,hsp,k1,hU,fun r hr=>(q5 r hr).trans (d2 r (by simp [hr])),(q6.trans k3)⟩,k3⟩
end
section
attribute [local go_sem ↓] Go.wp_at_zero Go.wp_at_succ loadKey_eq loadEn_eq storeKey_eq storeEn_eq loadNd_eq storeNd_eq loadMap_eq storeMap_eq loadTab_eq storePg_eq loadRt_eq storeRt_eq
theorem alone_calls [Inhabited Sanct] {w:World} (e:En) :
  Calls Tryz.prog 112 #[.agg (enA e)] w fun r w'=>∃ x:NV,r = .returned (.agg (nvA x))∧NdR w' w.heap.size (nvA x) ⟨true,[e],[],[]⟩∧Below w.heap.size w w':=by
 obtain ⟨x1,x2,x3,x4,x5,x6,x7,x8,hxl⟩:∃ (x1 x2 x3 x4 x5 x6 x7 x8:Int),enA e=#[.int .i64 x1,.int .i64 x2,.int .i64 x3,.int .i64 x4,.int .i64 x5,.int .i64 x6,.int .i64 x7,.int .u32 x8]:=⟨_,_,_,_,_,_,_,_,rfl⟩
 have HXL:=Aside0.mk hxl
 obtain ⟨g0,hg0⟩:∃ q,w.heap.size=q:=⟨_,rfl⟩
 obtain ⟨W1,hW1⟩:∃ W,w.alloc (Obj.cells #[.int .i64 x1,.int .i64 x2,.int .i64 x3,.int .i64 x4,.int .i64 x5,.int .i64 x6,.int .i64 x7,.int .u32 x8] 89)=W:=⟨_,rfl⟩
 obtain ⟨gZ,hgZ⟩:∃ q,W1.heap.size=q:=⟨_,rfl⟩
 obtain ⟨W2,hW2⟩:∃ W,W1.alloc (Obj.cells #[.bool false,.slice none 0 0,.slice none 0 0,.slice none 0 0] 175)=W:=⟨_,rfl⟩
 obtain ⟨gS,hgS⟩:∃ q,W2.heap.size=q:=⟨_,rfl⟩
 obtain ⟨W3,hW3⟩:∃ W,W2.alloc (Obj.cells #[.int .i64 x1,.int .i64 x2,.int .i64 x3,.int .i64 x4,.int .i64 x5,.int .i64 x6,.int .i64 x7,.int .u32 x8] 89)=W:=⟨_,rfl⟩
 have hb1:Below w.heap.size w W1:=by rw [← hW1];exact below_alloc (Below.refl _ _) _
 have hb2:Below w.heap.size w W2:=by rw [← hW2];exact below_alloc hb1 _
 have hb3:Below w.heap.size w W3:=by rw [← hW3];exact below_alloc hb2 _
 have he2:EnAt W2 g0 e:=by rw [← hW2,← hW1,← hxl];exact (en_new e hg0).alloc _
 have hld:(loadEnI (.pointer (some ⟨g0,0,none⟩))).run Tryz.prog W2 = .ok (.agg #[.int .i64 x1,.int .i64 x2,.int .i64 x3,.int .i64 x4,.int .i64 x5,.int .i64 x6,.int .i64 x7,.int .u32 x8]) W2:=by rw [← hxl];exact (ld_en W2 he2).1
 have hz3:NbAt W3 gZ zNd:=by rw [← hW3,← hW2];exact (nb_new _ hgZ).alloc _
 have hst:=st_nd_at (ds:=#[.bool true,.slice (some ⟨gS,0,none⟩) 1 1,.slice none 0 0,.slice none 0 0]) hz3 rfl rfl (by simp [Value.oneCell'])
 have hr3:kE.R 89 W3 w.heap.size (fun _=>True) (.slice (some ⟨gS,0,none⟩) 1 1) [e]:=by
  have h:=R_fresh kE (W:=W2) (e:=89) (inner:=enC e) (xs:=[e]) hb2.size (fun W' ok=>reps_one rfl rfl) (by simp)
  rw [show (enC e).toArray=enA e from rfl,hxl,hW3,hgS] at h
  exact h
 have HZ:=Aside0.mk (And.intro hz3 (And.intro hr3 hb3))
 have HGZ:Aside0 (w.heap.size≤gZ):=⟨by rw [← hgZ];exact hb1.size⟩
 rw [hxl]
 clear hxl hb1 hb2 hb3 he2 hz3 hr3
 go_enter Tryz.func112,Tryz.ntmps112
 go_wp2
 refine bodyPost_ret (results_cell_row rfl _ _ gZ 175 #[.bool true,.slice (some ⟨gS,0,none⟩) 1 1,.slice none 0 0,.slice none 0 0] (0,0) _ rfl (setRow_heap _ _ _ _ _ _ HZ.out.1) Tryz.underlying175 rfl nd_size) rfl ?_
 exact ⟨⟨true,some ⟨gS,0,none⟩,1,1,none,0,0,none,0,0⟩,rfl,⟨_,_,_,rfl,R_frT HZ.out.2.1 ((FrT.refl [175] _).setRow HZ.out.1 (by decide) _) (by decide),Kd.R_nil _ _ _ _ _,Kd.R_nil _ _ _ _ _⟩,HZ.out.2.2.trans ⟨rfl,rfl,rfl,by simp [World.setRow],fun k hk=>setRow_other _ _ _ _ (by have:=HGZ.out;omega)⟩⟩
end
section
attribute [local go_sem ↓] Go.wp_at_zero Go.wp_at_succ loadKey_eq loadEn_eq storeKey_eq storeEn_eq loadNd_eq storeNd_eq loadMap_eq storeMap_eq loadTab_eq storePg_eq loadRt_eq storeRt_eq eqKy_eq
def baseL (d N:Nat) (s:Sup) (m:List Bool) (v:Nat) (op en:Bool):List Value:=tabA.toList++([.pointer (some ⟨d,0,none⟩)]++(supC s++((mapA N m).toList++[.pointer (some ⟨v,0,none⟩),.bool op,.bool en])))
def baseA (d N:Nat) (s:Sup) (m:List Bool) (v:Nat) (op en:Bool):Array Value:=(baseL d N s m v op en).toArray
def BaseAt (W:World) (b d N:Nat) (s:Sup) (m:List Bool) (v:Nat) (op en:Bool):Prop:=W.heap[b]?=some (Obj.cells (baseA d N s m v op en) 144)
def TxnAt (W:World) (t b v:Nat) (a q:Int) (ov:Bool):Prop:=W.heap[t]?=some (Obj.cells #[.pointer (some ⟨b,0,none⟩),.pointer (some ⟨v,0,none⟩),.int .i64 a,.int .i64 q,.bool ov] 198)
section
variable {b d N v t:Nat} {s:Sup} {m:List Bool} {op en ov:Bool} {a q:Int}
theorem base_cell {W:World} (h:BaseAt W b d N s m v op en) {i:Nat} {x:Value} (hx:(baseL d N s m v op en)[i]?=some x):W.cell? ⟨b,i,none⟩=some x:=by
 rw [blk_cell h i]
 simpa [baseA] using hx
theorem baseL_d [Inhabited Sanct]:(baseL d N s m v op en)[256]?=some (.pointer (some ⟨d,0,none⟩)):=by
 unfold baseL
 rw [List.getElem?_append_right (by rw [tabL_len];exact Nat.le_refl _),tabL_len]
 rfl
theorem baseL_s [Inhabited Sanct] {j:Nat} (hj:j<5):(baseL d N s m v op en)[257+j]?=(supC s)[j]?:=by
 unfold baseL
 rw [List.getElem?_append_right (by rw [tabL_len];omega),tabL_len,show 257+j-256=j+1 by omega,List.singleton_append,List.getElem?_cons_succ,List.getElem?_append_left (by simp [supC];omega)]
theorem baseL_m [Inhabited Sanct] {j:Nat} {x:Value} (h:(mapA N m).toList[j]?=some x):(baseL d N s m v op en)[262+j]?=some x:=by
 unfold baseL
 rw [List.getElem?_append_right (by rw [tabL_len];omega),tabL_len,show 262+j-256=(5+j)+1 by omega,List.singleton_append,List.getElem?_cons_succ,List.getElem?_append_right (by simp [supC]),show 5+j-(supC s).length=j by simp [supC],List.getElem?_append_left (List.getElem?_eq_some_iff.1 h).1,h]
theorem baseL_e [Inhabited Sanct] {j:Nat} (hm:m.length=512):(baseL d N s m v op en)[775+j]?=[Value.pointer (some ⟨v,0,none⟩),.bool op,.bool en][j]?:=by
 have hl:(mapA N m).toList.length=513:=by rw [Array.length_toList,mapA_len N hm]
 unfold baseL
 rw [List.getElem?_append_right (by rw [tabL_len];omega),tabL_len,show 775+j-256=(5+(513+j))+1 by omega,List.singleton_append,List.getElem?_cons_succ,List.getElem?_append_right (by simp [supC]),show 5+(513+j)-(supC s).length=513+j by simp [supC],List.getElem?_append_right (by rw [hl];omega),hl,Nat.add_sub_cancel_left]
theorem ldb_tab [Inhabited Sanct]:∀ W:World,BaseAt W b d N s m v op en→(loadTabI (.pointer (some ⟨b,0,none⟩))).run Tryz.prog W = .ok (.agg tabA) W:=
 fun W h=>run_loadTab (fun j x hx=>base_cell h (by rw [Nat.zero_add];unfold baseL;rw [List.getElem?_append_left (List.getElem?_eq_some_iff.1 hx).1,hx]))
theorem ldb_m [Inhabited Sanct] (hm:m.length=512):∀ W:World,BaseAt W b d N s m v op en→(loadMapI (.pointer (some ⟨b,262,none⟩))).run Tryz.prog W = .ok (.agg (mapA N m)) W:=
 fun W h=>run_loadMap (fun j x hx=>base_cell h (baseL_m hx)) (mapA_len N hm)
theorem ldb_rt [Inhabited Sanct]:∀ W:World,BaseAt W b d N s m v op en→(loadRtI (.pointer (some ⟨b,258,none⟩))).run Tryz.prog W = .ok (.agg #[.int .i64 (s.ra:Int),.int .i64 (s.rh:Int)]) W:=
 fun W h=>ld_rt W (fun j x hx=>base_cell h (by
  rcases j with _ | _ | j
  ·rw [show 258+0=257+1 by rfl,baseL_s (by decide)];exact hx
  ·rw [show 258+1=257+2 by rfl,baseL_s (by decide)];exact hx
  ·simp at hx))
theorem cellb [Inhabited Sanct] (hm:m.length=512):∀ W:World,BaseAt W b d N s m v op en→W.cell? ⟨b,256,none⟩=some (.pointer (some ⟨d,0,none⟩))∧W.cell? ⟨b,257,none⟩=some (.int .u64 (s.gen:Int))∧W.cell? ⟨b,259,none⟩=some (.int .i64 (s.rh:Int))∧W.cell? ⟨b,260,none⟩=some (.int .i64 (s.bm:Int))∧W.cell? ⟨b,261,none⟩=some (.int .i64 (s.N:Int))∧W.cell? ⟨b,775,none⟩=some (.pointer (some ⟨v,0,none⟩))∧W.cell? ⟨b,776,none⟩=some (.bool op)∧W.cell? ⟨b,777,none⟩=some (.bool en):=
 fun W h=>⟨base_cell h baseL_d,base_cell h (baseL_s (j:=0) (by decide)),base_cell h (baseL_s (j:=2) (by decide)),base_cell h (baseL_s (j:=3) (by decide)),base_cell h (baseL_s (j:=4) (by decide)),base_cell h (baseL_e (j:=0) hm),base_cell h (baseL_e (j:=1) hm),base_cell h (baseL_e (j:=2) hm)⟩
theorem txn_cell:∀ W:World,TxnAt W t b v a q ov→W.cell? ⟨t,0,none⟩=some (.pointer (some ⟨b,0,none⟩))∧W.cell? ⟨t,1,none⟩=some (.pointer (some ⟨v,0,none⟩))∧W.cell? ⟨t,2,none⟩=some (.int .i64 a)∧W.cell? ⟨t,3,none⟩=some (.int .i64 q)∧W.cell? ⟨t,4,none⟩=some (.bool ov):=
 fun W h=>⟨by rw [blk_cell h 0];rfl,by rw [blk_cell h 1];rfl,by rw [blk_cell h 2];rfl,by rw [blk_cell h 3];rfl,by rw [blk_cell h 4];rfl⟩
theorem txn_rt [Inhabited Sanct]:∀ W:World,TxnAt W t b v a q ov→(loadRtI (.pointer (some ⟨t,2,none⟩))).run Tryz.prog W = .ok (.agg #[.int .i64 a,.int .i64 q]) W:=
 fun W h=>ld_rt W (fun j x hx=>by
  rcases j with _ | _ | j
  ·rw [(txn_cell W h).2.2.1];exact hx
  ·rw [(txn_cell W h).2.2.2.1];exact hx
  ·simp at hx)
theorem bmay_calls [Inhabited Sanct] {w:World} (h:BaseAt w b d N s m v op false) (hm:m.length=512):Calls Tryz.prog 71 #[.pointer (some ⟨b,0,none⟩)] w fun r w'=>r = .returned (.int .i64 0)∧w=w':=by
 have hc:=(cellb hm w h).2.2.2.2.2.2.2
 clear h
 go_enter Tryz.func71,Tryz.ntmps71
 go_wp2
 go_ret
 exact ⟨rfl,rfl⟩
theorem bstop_calls {w:World} (b:Nat):Calls Tryz.prog 73 #[.pointer (some ⟨b,0,none⟩),.int .i64 0] w fun r w'=>r = .returned (.int .i64 0)∧w=w':=by
 go_enter Tryz.func73,Tryz.ntmps73
 go_wp2
 go_ret
 exact ⟨rfl,rfl⟩
theorem tmay_calls [Inhabited Sanct] {w:World} (h:BaseAt w b d N s m v op false) (hm:m.length=512) {v2:Nat} (ht:TxnAt w t b v2 a q false):Calls Tryz.prog 104 #[.pointer (some ⟨t,0,none⟩)] w fun r w'=>r = .returned (.int .i64 0)∧w=w':=by
 have HB:=Aside0.mk (bmay_calls h hm)
 have hc:=txn_cell w ht
 clear h ht
 go_enter Tryz.func104,Tryz.ntmps104
 go_wp2_with (go_at_call 71;(with_reducible refine HB.out.mono ?_);rintro r w2 ⟨rfl,rfl⟩)
 go_ret
 exact ⟨rfl,rfl⟩
end
end
section
attribute [local go_sem ↓] Go.wp_at_zero Go.wp_at_succ loadKey_eq loadEn_eq storeKey_eq storeEn_eq loadNd_eq storeNd_eq loadMap_eq storeMap_eq loadTab_eq storePg_eq loadRt_eq storeRt_eq eqKy_eq
theorem txmeets_calls [Inhabited Sanct] {w:World} {t b v:Nat} {a q:Int} {ov:Bool} {es:List En} {x:En} (ht:TxnAt w t b v a q ov) (hl:es.length≤100000) (hne:∀ y∈es,y.k≠x.k) (hme:∀ y∈es,meetB x y=false)
  (hall:∀ W,Below w.heap.size w W→Calls Tryz.prog 126 #[.pointer (some ⟨v,0,none⟩),.agg #[.int .i64 a,.int .i64 q]] W fun r w'=>∃ vo,r = .returned (.tuple #[vo,.int .i64 0])∧kE.R 89 w' W.heap.size (fun _=>True) vo es∧Below W.heap.size W w') :
  Calls Tryz.prog 113 #[.pointer (some ⟨t,0,none⟩),.agg (enA x)] w fun r w'=>r = .returned (.int .i64 0)∧Below w.heap.size w w':=by
 have HA:=Aside0.mk hall
 have HNE:=Aside0.mk (And.intro hne hme)
 have HL:=Aside0.mk hl
 obtain ⟨gx,hgx⟩:∃ q,w.heap.size=q:=⟨_,rfl⟩
 obtain ⟨W0,hW0⟩:∃ W,w.alloc (Obj.cells (enA x) 89)=W:=⟨_,rfl⟩
 have HB0:Aside0 (Below w.heap.size w W0):=⟨by rw [← hW0];exact below_alloc (Below.refl _ _) _⟩
 have HX0:Aside0 (EnAt W0 gx x):=⟨by rw [← hW0];exact en_new x hgx⟩
 have ht0:TxnAt W0 t b v a q ov:=by rw [← hW0];exact blk_alloc ht _
 have htc:=txn_cell (t:=t) (b:=b) (v:=v) (a:=a) (q:=q) (ov:=ov)
 have htr:=txn_rt (t:=t) (b:=b) (v:=v) (a:=a) (q:=q) (ov:=ov)
 clear hne hme hl hall
 go_enter Tryz.func113,Tryz.ntmps113
 go_wp2
 clear hW0 hgx
 have ht1:TxnAt W0.drew t b v a q ov:=ht0
 have hb1:Below w.heap.size w W0.drew:=below_drew HB0.out
 go_region_held3 (fun w'=>TxnAt w' t b v a q ov) (first | exact ht1 | exact ht2)
  ((go_at_call 126;(with_reducible refine (HA.out _ hb1).mono ?_);rintro r w4 ⟨vo,rfl,hro,hb⟩;have ht2:TxnAt w4 t b v a q ov:=blkb hb ht1))
 have HB4:=Aside0.mk (below_step hb1 hb)
 have HX4:Aside0 (EnAt w4 gx x):=⟨HX0.out.below (below_drew (Below.refl _ _)) |>.below hb⟩
 obtain ⟨n,hn⟩:∃ n,es.length=n:=⟨_,rfl⟩
 obtain ⟨A,c,rfl⟩:=Kd.R_slice hro
 rw [hn] at hro ⊢
 have HRO:=Aside0.mk (And.intro (R_rw hro (by have:=HL.out;omega)) hn)
 clear hro hn hb hb1 ht0 ht1 ht2 ht htc htr
 go_wp2
 go_loopw [28] (fun v28 wr=>∃ (i:Nat) (ii:Int),v28 = .int .i64 ii∧Aside0 (ii=(i:Int)∧i≤n)∧Aside0 (Below w4.heap.size w4 wr)) (fun v28 _=>((n:Int)-intOf v28).toNat)
 case atStart=>exact ⟨0,0,rfl,⟨rfl,Nat.zero_le _⟩,⟨Below.refl _ _⟩⟩
 case round=>
  obtain ⟨i,ii,rfl,HII,HBW⟩:=hrel
  have hi0:0≤ii∧ii≤100000:=by have:=HII.out;have:=HL.out;have:=HRO.out.2;omega
  have e5:wrap64 (ii+1)=ii+1:=wrap64_id (by omega) (by omega)
  have e6:IntKind.i64.wrap (ii+1)=ii+1:=i64_id (by omega) (by omega)
  by_cases hlt:i<n
  ·have d1:decide (ii<(n:Int))=true:=decide_eq_true (by have:=HII.out;omega)
   have d2:(ii<(n:Int))=True:=eq_true (by have:=HII.out;omega)
   have d3:(0≤ii)=True:=eq_true (by omega)
   have d4:ii.toNat=i:=by have:=HII.out;omega
   obtain ⟨y,hy⟩:∃ y,es[i]?=some y:=⟨_,List.getElem?_eq_getElem (by rw [HRO.out.2];exact hlt)⟩
   have hym:=List.mem_of_getElem? hy
   obtain ⟨g,o,hA,hcc⟩:=(HRO.out.1.below HBW.out).at_ hy
   have hld:(loadEnI (.pointer (some ⟨g,o+i*8,none⟩))).run Tryz.prog wr = .ok (.agg (enA y)) wr:=run_loadEn hcc
   subst hA
   have hst:=st_en y wr
   obtain ⟨gY,hgY⟩:∃ q,wr.heap.size=q:=⟨_,rfl⟩
   obtain ⟨W1,hW1⟩:∃ W,wr.alloc (Obj.cells (enA y) 89)=W:=⟨_,rfl⟩
   have hbW:Below wr.heap.size wr W1:=by rw [← hW1];exact below_alloc (Below.refl _ _) _
   have hyW:EnAt W1 gY y:=by rw [← hW1];exact en_new y hgY
   have hxW:EnAt W1 gx x:=(HX4.out.below HBW.out).below hbW
   have HB5:=Aside0.mk (below_step HBW.out hbW)
   rw [hgY,hW1] at hst
   have hk1:=(ld_en W1 hyW).2
   have hk2:=(ld_en W1 hxW).2
   have hkq:=key_ne (HNE.out.1 y hym) W1
   clear hy hym hcc hbW hyW hxW
   go_wp2
   go_roundw
   case rel=>exact ⟨i+1,_,rfl,⟨by have:=HII.out;omega,hlt⟩,HB5⟩
   case measure=>simp [intOf];have:=HII.out;omega
  ·have d1:decide (ii<(n:Int))=false:=decide_eq_false (by have:=HII.out;omega)
   have HX5:Aside0 (EnAt wr gx x):=⟨HX4.out.below HBW.out⟩
   have HRO5:=Aside0.mk (HRO.out.1.below HBW.out)
   have HB5:=Aside0.mk (below_step HB4.out HBW.out)
   obtain ⟨w5,hw5⟩:∃ W,W=wr:=⟨_,rfl⟩
   subst hw5
   clear e5 e6 hi0 hlt HII HBW
   go_wp2
   clear d1
   go_loopw [40] (fun v40 wr=>∃ (i:Nat) (ii:Int),v40 = .int .i64 ii∧Aside0 (ii=(i:Int)∧i≤n)∧Aside0 (Below w5.heap.size w5 wr)) (fun v40 _=>((n:Int)-intOf v40).toNat)
   case atStart=>exact ⟨0,0,rfl,⟨rfl,Nat.zero_le _⟩,⟨Below.refl _ _⟩⟩
   case round=>
    obtain ⟨i,ii,rfl,HII,HBW⟩:=hrel
    have hi0:0≤ii∧ii≤100000:=by have:=HII.out;have:=HL.out;have:=HRO.out.2;omega
    have e5:wrap64 (ii+1)=ii+1:=wrap64_id (by omega) (by omega)
    have e6:IntKind.i64.wrap (ii+1)=ii+1:=i64_id (by omega) (by omega)
    by_cases hlt:i<n
    ·have d1:decide (ii<(n:Int))=true:=decide_eq_true (by have:=HII.out;omega)
     have d2:(ii<(n:Int))=True:=eq_true (by have:=HII.out;omega)
     have d3:(0≤ii)=True:=eq_true (by omega)
     have d4:ii.toNat=i:=by have:=HII.out;omega
     obtain ⟨y,hy⟩:∃ y,es[i]?=some y:=⟨_,List.getElem?_eq_getElem (by rw [HRO.out.2];exact hlt)⟩
     have hym:=List.mem_of_getElem? hy
     obtain ⟨g,o,hA,hcc⟩:=(HRO5.out.below HBW.out).at_ hy
     have hld:(loadEnI (.pointer (some ⟨g,o+i*8,none⟩))).run Tryz.prog wr = .ok (.agg (enA y)) wr:=run_loadEn hcc
     subst hA
     have hst:=st_en y wr
     obtain ⟨gY,hgY⟩:∃ q,wr.heap.size=q:=⟨_,rfl⟩
     obtain ⟨W1,hW1⟩:∃ W,wr.alloc (Obj.cells (enA y) 89)=W:=⟨_,rfl⟩
     have hbW:Below wr.heap.size wr W1:=by rw [← hW1];exact below_alloc (Below.refl _ _) _
     have hyW:EnAt W1 gY y:=by rw [← hW1];exact en_new y hgY
     have hxW:EnAt W1 gx x:=(HX5.out.below HBW.out).below hbW
     have HB5b:=Aside0.mk (below_step HBW.out hbW)
     rw [hgY,hW1] at hst
     have cy:=en_cell (g:=gY) (e:=y) W1 hyW
     have cx:=en_cell (g:=gx) (e:=x) W1 hxW
     have hm:=HNE.out.2 y hym
     clear hy hym hcc hbW hyW hxW
     by_cases h1:y.k.s=x.k.s
     ·have d5:(y.k.s == x.k.s)=true:=beq_iff_eq.mpr h1
      by_cases h2:x.k.a≤y.z
      ·have d6:decide (x.k.a≤y.z)=true:=decide_eq_true h2
       have d7:decide (y.k.a≤x.z)=false:=by simpa [meetB,h1,h2] using hm
       clear h1 h2 hm
       go_wp2
       go_roundw
       case rel=>exact ⟨i+1,_,rfl,⟨by have:=HII.out;omega,hlt⟩,HB5b⟩
       case measure=>simp [intOf];have:=HII.out;omega
      ·have d6:decide (x.k.a≤y.z)=false:=decide_eq_false h2
       clear h1 h2 hm
       go_wp2
       go_roundw
       case rel=>exact ⟨i+1,_,rfl,⟨by have:=HII.out;omega,hlt⟩,HB5b⟩
       case measure=>simp [intOf];have:=HII.out;omega
     ·have d5:(y.k.s == x.k.s)=false:=beq_eq_false_iff_ne.mpr h1
      clear h1 hm
      go_wp2
      go_roundw
      case rel=>exact ⟨i+1,_,rfl,⟨by have:=HII.out;omega,hlt⟩,HB5b⟩
      case measure=>simp [intOf];have:=HII.out;omega
    ·have d1:decide (ii<(n:Int))=false:=decide_eq_false (by have:=HII.out;omega)
     have HB6:=Aside0.mk (below_step HB5.out HBW.out)
     clear e5 e6 hi0 hlt HII HBW
     go_wp2
     go_ret
     exact ⟨rfl,HB6.out⟩
end
section
attribute [local go_sem ↓] Go.wp_at_zero Go.wp_at_succ loadKey_eq loadEn_eq storeKey_eq storeEn_eq loadNd_eq storeNd_eq loadMap_eq storeMap_eq loadTab_eq storePg_eq loadRt_eq storeRt_eq eqKy_eq
theorem baseL_set [Inhabited Sanct] {d N v:Nat} {s:Sup} {m:List Bool} {op en:Bool} (hm:m.length=512) (b:Bool):(baseA d N s m v op en).setIfInBounds 776 (.bool b)=baseA d N s m v b en:=by
 have hl:(mapA N m).toList.length=513:=by rw [Array.length_toList,mapA_len N hm]
 have key:∀ o:Bool,baseL d N s m v o en=(tabA.toList++([.pointer (some ⟨d,0,none⟩)]++(supC s++(mapA N m).toList)))++[.pointer (some ⟨v,0,none⟩),.bool o,.bool en]:=fun o=>by simp [baseL]
 have hlen:(tabA.toList++([Value.pointer (some ⟨d,0,none⟩)]++(supC s++(mapA N m).toList))).length=775:=by
  rw [List.length_append,tabL_len,List.length_append,List.length_append,hl];simp [supC]
 unfold baseA
 rw [List.setIfInBounds_toArray,key op,key b,List.set_append,if_neg (by rw [hlen];decide),hlen]
 rfl
theorem base_range {W:World} {b d N v:Nat} {s:Sup} {m:List Bool} {op en:Bool} (h:BaseAt W b d N s m v op en):W.rangeAt b 0 tabA.toList:=fun j x hx=>base_cell h (by rw [Nat.zero_add];unfold baseL;rw [List.getElem?_append_left (List.getElem?_eq_some_iff.1 hx).1,hx])
theorem begin_calls [Inhabited Sanct] {w:World} {b d N v nw:Nat} {s:Sup} {m:List Bool} {f:Nat→List Int} (h:BaseAt w b d N s m v false false) (hd:DT w d N nw f) (hm:MapOk N m) (hg:s.gen+1<1000000) (gb:sB≤b:=by assumption) :
  Calls Tryz.prog 65 #[.pointer (some ⟨b,0,none⟩)] w fun r w'=>∃ t v2,r = .returned (.tuple #[.pointer (some ⟨t,0,none⟩),.int .i64 0])∧BaseAt w' b d N s m v true false∧ViewAt w' v2 d N (s.gen+1) m m∧TxnAt w' t b v2 (s.ra:Int) (s.rh:Int) false∧w.heap.size≤t∧w.heap.size≤v2∧FrT [144] w w':=by
 have HMY:=Aside0.mk (bmay_calls h hm.len)
 obtain ⟨g1,hg1⟩:∃ z:Int,((s.gen+1:Nat):Int)=z:=⟨_,rfl⟩
 have e1:IntKind.u64.wrap ((s.gen:Int)+1)=g1:=by rw [← hg1];exact u64_nat hg
 have HO:Aside0 (∀ W,Below w.heap.size w W→Calls Tryz.prog 103 #[.agg tabA,.pointer (some ⟨d,0,none⟩),.int .u64 g1,.agg (mapA N m),.agg (mapA N m)] W fun e w'=>∃ v,e = .returned (.tuple #[.pointer (some ⟨v,0,none⟩),.int .i64 0])∧ViewAt w' v d N (s.gen+1) m m∧W.heap.size≤v∧Below W.heap.size W w'):=⟨fun W hW=>by rw [← hg1];exact open_calls (hd.below hW) hm hm (s.gen+1)⟩
 have hml:=hm.len
 have hbc:=cellb (b:=b) (d:=d) (N:=N) (s:=s) (v:=v) (op:=false) (en:=false) hml
 have hbt:=ldb_tab (b:=b) (d:=d) (N:=N) (s:=s) (m:=m) (v:=v) (op:=false) (en:=false)
 have hbm:=ldb_m (b:=b) (d:=d) (N:=N) (s:=s) (v:=v) (op:=false) (en:=false) hml
 have HML:=Aside0.mk hml
 have hu74:Tryz.prog.underlying 74=some (.array 256 71):=Tryz.underlying74
 have hs74:=tab_size
 clear hd hm hg hg1 hml
 go_enter Tryz.func65,Tryz.ntmps65
 go_wp2_with (go_at_call 71;(with_reducible refine HMY.out.mono ?_);rintro r w1 ⟨rfl,rfl⟩)
 have h1:BaseAt w.drew b d N s m v false false:=h
 have hb1:Below w.heap.size w w.drew:=below_drew (Below.refl _ _)
 have hr1:=base_range h1
 go_region_held3 (fun w'=>BaseAt w' b d N s m v false false∧w'.rangeAt b 0 tabA.toList) (first | exact ⟨h1,hr1⟩ | exact ⟨h2,hr2⟩)
  ((go_at_call 103;(with_reducible refine (HO.out _ hb1).mono ?_);rintro r w3 ⟨v2,rfl,hv2,hvs,hb⟩;have h2:BaseAt w3 b d N s m v false false:=blkb hb h1;have hr2:=base_range h2))
 have HV:=Aside0.mk (And.intro hv2 (And.intro hvs hb))
 have hc2:=(hbc w3 h2).2.2.2.2.2.2.1
 have hf2:=blk_frozen h2 776
 have H2:=Aside0.mk h2
 have hset:=blk_set h2 776 (.bool true)
 rw [baseL_set HML.out] at hset
 obtain ⟨w4,hw4⟩:∃ W,w3.setCell ⟨b,776,none⟩ (.bool true)=W:=⟨_,rfl⟩
 rw [hw4] at hset
 have h4:BaseAt w4 b d N s m v true false:=hset
 have hrt:=ldb_rt w4 h4
 have HF4:Aside0 (FrT [144] w3 w4):=⟨by rw [← hw4];exact (FrT.refl _ _).setCell h2 (by decide) _ _⟩
 have H4:=Aside0.mk h4
 clear hv2 hvs hb hset h2 hr2 h4 hbc hbt hbm h1 hr1 h
 go_wp2
 go_ret2
 have hb3:Below w.heap.size w w3:=hb1.trans (HV.out.2.2.mono (below_size hb1))
 refine ⟨w4.heap.size,v2,rfl,blk_alloc H4.out _,?_,newb rfl,?_,Nat.le_trans (below_size hb1) HV.out.2.1,((FrT.of_below hb3 _).trans HF4.out).alloc _⟩
 ·exact blk_alloc (HF4.out.blk HV.out.1 (by decide)) _
 ·exact Nat.le_trans hb3.size HF4.out.size
end
section
attribute [local go_sem ↓] Go.wp_at_zero Go.wp_at_succ loadKey_eq loadEn_eq storeKey_eq storeEn_eq loadNd_eq storeNd_eq loadMap_eq storeMap_eq loadTab_eq storePg_eq loadRt_eq storeRt_eq eqKy_eq
def RawAt (f:Nat→List Int) (a:Nat) (bs:List Int):Prop:=∀ i,i<4→f (4*a+i)=cut64 (padB bs) i
theorem RawAt.same [Inhabited Sanct] {f g:Nat→List Int} {a:Nat} {bs:List Int} (h:RawAt f a bs) (hs:SameAt f g a):RawAt g a bs:=fun i hi=>(hs _ (by omega) (by omega)).trans (h i hi)
theorem raw_at (f:Nat→List Int) (a:Nat) (bs:List Int) (h0:1≤bs.length) (h1:bs.length≤256):RawAt (raws f a bs) a bs:=fun i hi=>by
 unfold raws
 rw [if_pos ⟨by omega,by omega⟩,show 4*a+i-4*a=i by omega]
theorem RawAt.gath [Inhabited Sanct] {f:Nat→List Int} {a:Nat} {bs:List Int} (h:RawAt f a bs) (h1:bs.length≤256) (h0:1≤bs.length) {K:Nat} (hK:K≤4) (hn:bs.length≤64*K):(gath f (4*a) K).take bs.length=bs:=by
 have hp:(padB bs).length=256:=by rw [padB_len];omega
 rw [gath_cut (P:=padB bs) (4*a) K (by omega) (fun i hi=>h i (by omega)),List.take_take,Nat.min_eq_left hn]
 unfold padB
 rw [List.take_left']
 rfl
theorem st_txn [Inhabited Sanct] {W:World} {t b v:Nat} {a q a' q':Int} {ov:Bool} (h:TxnAt W t b v a q ov):(storeRtI (.pointer (some ⟨t,2,none⟩)) (.agg #[.int .i64 a',.int .i64 q'])).run Tryz.prog W = .ok () (W.setRow t #[.pointer (some ⟨b,0,none⟩),.pointer (some ⟨v,0,none⟩),.int .i64 a',.int .i64 q',.bool ov]):=by
 have hc:=txn_cell W h
 have:=run_storeVar_mid (P:=Tryz.prog) W t 2 96 #[.int .i64 a',.int .i64 q'] (fun j hj=>by
  refine ⟨?_,blk_frozen h _⟩
  rcases j with _ | _ | j
  ·rw [hc.2.2.1];rfl
  ·rw [show 2+(0+1)=3 by rfl,hc.2.2.2.1];rfl
  ·exact absurd hj (by show ¬ j+1+1<2;omega)) rt_size (rootA_one a' q')
 rw [setCells_row t _ _ _ 2 _ W h (by simp)] at this
 simp only [storeRtI,Instr.storeAt,Instr.sureAddr,Sem.run_bind,Sem.run_pure,Result.andThen_ok,this]
 rfl
theorem en_set [Inhabited Sanct] {W:World} {g:Nat} {x:En} (h:EnAt W g x) (n:Nat) (c:Int) :
  EnAt (((W.setCell ⟨g,3,none⟩ (.int .i64 2)).setCell ⟨g,4,none⟩ (.int .i64 (n:Int))).setCell ⟨g,7,none⟩ (.int .u32 c)) g { x with p:=2,l:=n,x:=c }:=by
 have:=blk_set (blk_set (blk_set h 3 (.int .i64 2)) 4 (.int .i64 (n:Int))) 7 (.int .u32 c)
 exact this
theorem en_setp [Inhabited Sanct] {W:World} {g:Nat} {x:En} (h:EnAt W g x) (p:Nat):EnAt (W.setCell ⟨g,3,none⟩ (.int .i64 (p:Int))) g { x with p:=p }:=blk_set h 3 (.int .i64 (p:Int))
theorem leaf_cut {M:World→Nat→Nat→Prop} {G:Prop} (F:World→Nat→Nat→Prop) (h:(∀ W g p,F W g p→M W g p)→G) (k:∀ W g p,F W g p→M W g p):G:=h k
theorem leaf_cut4 {M:World→Nat→Int→Int→Prop} {G:Prop} (F:World→Nat→Int→Int→Prop) (h:(∀ W g a q,F W g a q→M W g a q)→G) (k:∀ W g a q,F W g a q→M W g a q):G:=h k
theorem name2 {F:World→Nat→Prop} {W:World} {g:Nat} (h:F W g):∃ W' g',W'=W∧g'=g∧F W' g':=⟨W,g,rfl,rfl,h⟩
structure Bx (w0:World) (T:TypeId) (Z:Array Value) (W:World) (bx:Option Nat):Prop where
 f:Below w0.heap.size w0 W
 x:∀ g,bx=some g→W.heap[g]?=some (Obj.cells Z T)∧w0.heap.size≤g
section
variable {w0:World} {T:TypeId} {Z:Array Value} {W W2:World} {bx:Option Nat}
theorem Bx.start [Inhabited Sanct] (w0:World) (T:TypeId) (Z:Array Value):Bx w0 T Z w0.drew none:=⟨below_drew (Below.refl _ _),fun g hg=>by cases hg⟩
theorem Bx.below [Inhabited Sanct] (h:Bx w0 T Z W bx) (hb:Below W.heap.size W W2):Bx w0 T Z W2 bx:=⟨below_step h.f hb,fun g hg=>⟨blkb hb (h.x g hg).1,(h.x g hg).2⟩⟩
theorem Bx.alloc [Inhabited Sanct] (h:Bx w0 T Z W none):Bx w0 T Z (W.alloc (Obj.cells Z T)) (some W.heap.size):=⟨below_alloc h.f _,fun g hg=>by injection hg with hg;exact ⟨newb hg,by rw [← hg];exact h.f.size⟩⟩
theorem Bx.setOther [Inhabited Sanct] {g i:Nat} (h:Bx w0 T Z W (some g)) (hi:w0.heap.size≤i) (hne:g≠i) (Q:Array Value):Bx w0 T Z (W.setRow i Q) (some g):=
 ⟨h.f.trans ⟨rfl,rfl,rfl,by simp [World.setRow],fun k hk=>setRow_other _ _ _ _ (by omega)⟩,fun j hj=>by injection hj with hj;subst hj;exact ⟨(setRow_other _ _ _ _ hne).trans (h.x g rfl).1,(h.x g rfl).2⟩⟩
theorem Bx.name {g:Nat} (h:Bx w0 T Z W (some g)):∃ W' g',W'=W∧g'=g∧Bx w0 T Z W' (some g'):=⟨W,g,rfl,rfl,h⟩
theorem Bx.store [Inhabited Sanct] {g:Nat} (h:Bx w0 T Z W (some g)) (Q:Array Value):Bx w0 T Q (W.setRow g Q) (some g):=
 ⟨h.f.trans ⟨rfl,rfl,rfl,by simp [World.setRow],fun k hk=>setRow_other _ _ _ _ (by have:=(h.x g rfl).2;omega)⟩,fun i hi=>by injection hi with hi;subst hi;exact ⟨setRow_heap _ _ _ _ _ _ (h.x g rfl).1,(h.x g rfl).2⟩⟩
end
end
end Go.Proofs.YtnhkikebfinejaaGreatDoor.Z
