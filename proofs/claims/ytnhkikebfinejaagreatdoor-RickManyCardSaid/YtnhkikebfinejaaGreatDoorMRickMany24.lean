/- Texts of this claim, laid together. No conditions. -/
import Derived.Test.YtnhkikebfinejaaGreatDoorMRickMany23
import Derived.Maps.OwnIn
import Derived.Test.YtnhkikebfinejaaGreatDoorMRickMany1
import Derived.Handy
set_option linter.unusedVariables false
set_option linter.unusedSimpArgs false
set_option maxRecDepth 100000
set_option maxHeartbeats 16000000
namespace Go.Proofs.YtnhkikebfinejaaGreatDoor.Z
open Go Go.RowKit Go.Proofs.YtnhkikebfinejaaGreatDoorW.PrintWords Go.Proofs.YtnhkikebfinejaaGreatDoorW.PrintLast Go.Proofs.YtnhkikebfinejaaGreatDoorW.PrintMore Go.Proofs.YtnhkikebfinejaaGreatDoor.S Go.Proofs.YtnhkikebfinejaaGreatDoor.X
section
attribute [local go_sem ↓] Go.wp_at_zero Go.wp_at_succ loadKey_eq loadEn_eq storeKey_eq storeEn_eq loadNd_eq storeNd_eq loadMap_eq storeMap_eq loadTab_eq storePg_eq loadRt_eq storeRt_eq eqKy_eq loadSup_eq storeSup_eq loadBase_eq storeBase_eq storeTab_eq
theorem bytes_calls [Inhabited Sanct] {w:World} {b d N v nw:Nat} {s:Sup} {m:List Bool} {f:Nat→List Int} {x:En} {bs:List Int} (hb:BaseAt w b d N s m v false false) (hm:m.length=512) (hd:DT w d N nw f) (hx:EnOk x) (hp:x.p+1≤N) (hr:RawAt f x.p bs) (hl:bs.length=x.l) (hl2:x.l≤256) (hc:x.x=crcSum bs) :
  Calls Tryz.prog 298 #[.pointer (some ⟨b,0,none⟩),.agg (enA x)] w fun r w'=>∃ A,r = .returned (.tuple #[.slice A x.l x.l,.int .i64 0])∧Kd.C (Kd.int .u8) w' A bs.length bs∧Below w.heap.size w w':=by
 have hl1:1≤x.l:=hx.l1
 obtain ⟨gx,hgx⟩:∃ q,w.heap.size=q:=⟨_,rfl⟩
 obtain ⟨W0,hW0⟩:∃ W,w.alloc (Obj.cells (enA x) 89)=W:=⟨_,rfl⟩
 have hB0:Below w.heap.size w W0:=by rw [← hW0];exact below_alloc (Below.refl _ _) _
 have hX0:EnAt W0 gx x:=by rw [← hW0];exact en_new x hgx
 have hb0:BaseAt W0 b d N s m v false false:=blkb hB0 hb
 have HMY:=Aside0.mk (bmay_calls hb0 hm)
 have hbc:=cellb (b:=b) (d:=d) (N:=N) (s:=s) (v:=v) (op:=false) (en:=false) hm
 have HPG:Aside0 (∀ W,Below w.heap.size w W→Calls Tryz.prog 58 #[.pointer (some ⟨d,0,none⟩)] W fun e w'=>e = .returned (.int .i64 (N:Int))∧W=w'):=⟨fun W hW=>pages_dt (hd.below hW)⟩
 have HNP:Aside0 (∀ W,Calls Tryz.prog 114 #[.agg (enA x)] W fun r w'=>r = .returned (.int .i64 1)∧Below W.heap.size W w'):=⟨fun W=>by
  refine (npages_calls x (by omega)).mono ?_
  rintro r w' ⟨rfl,h⟩
  exact ⟨by rw [show (x.l+255) / 256=1 by omega];rfl,h⟩⟩
 have HAL:Aside0 (∀ W,Calls Tryz.prog 112 #[.agg (enA x)] W fun r w'=>∃ xn:NV,r = .returned (.agg (nvA xn))∧Aside0 (Calls Tryz.prog 111 #[.agg (nvA xn)] w' fun r w2=>r = .returned (.bool true)∧Below w'.heap.size w' w2)∧Below W.heap.size W w'):=⟨fun W=>by
  refine (alone_calls x).mono ?_
  rintro r w' ⟨xn,rfl,h1,h2⟩
  exact ⟨xn,rfl,⟨right_calls (h1.v ⟨by simp,by simp,by simp⟩) (leaf_one hx)⟩,h2⟩⟩
 obtain ⟨K,hK,hK1,hK2⟩:∃ K,K≤4∧x.l≤64*K∧64*K<x.l+64:=⟨(x.l+63) / 64,by omega,by omega,by omega⟩
 have hg:(gath f (4*x.p) K).take x.l=bs:=by rw [← hl];exact hr.gath (by omega) (by omega) hK (by omega)
 have HRR:Aside0 (∀ W,Below w.heap.size w W→Calls Tryz.prog 123 #[.pointer (some ⟨d,0,none⟩),.int .i64 (x.p:Int),.int .i64 (x.l:Int)] W fun e w'=>∃ A,e = .returned (.tuple #[.slice A x.l x.l,.int .i64 0])∧Kd.C (Kd.int .u8) w' A bs.length bs∧Below W.heap.size W w'):=⟨fun W hW=>by
  obtain ⟨O,hD,_⟩:=hd.below hW
  have:=readraw_calls hD x.p x.l K (by omega) hK1 hK2 (by omega)
  rw [hg] at this
  exact this⟩
 obtain ⟨cz,hcz⟩:∃ z,crcSum bs=z:=⟨_,rfl⟩
 have HSM:Aside0 (∀ W A,Kd.C (Kd.int .u8) W A bs.length bs→Calls Tryz.prog 26 #[.agg tabA,.slice A x.l x.l] W fun e w'=>e = .returned (.int .u32 cz)∧Below W.heap.size W w'):=⟨fun W A h=>by rw [← hcz];exact sum_calls A x.l x.l bs hl h⟩
 have hxc:x.x=cz:=hc.trans hcz
 have HB0:=Aside0.mk hB0
 obtain ⟨pz,hpz⟩:∃ z:Int,(x.p:Int)=z:=⟨_,rfl⟩
 have e1:wrap64 (pz+1)=pz+1:=wrap64_id (by have:=hd.hN;omega) (by have:=hd.hN;omega)
 have e2:IntKind.i64.wrap (pz+1)=pz+1:=(i64_w _).trans e1
 have d1:decide ((N:Int)<pz+1)=false:=decide_eq_false (by omega)
 rw [hpz] at HRR
 have hen:∀ W:World,EnAt W gx x→W.cell? ⟨gx,2,none⟩=some (.int .i64 x.z)∧W.cell? ⟨gx,3,none⟩=some (.int .i64 pz)∧W.cell? ⟨gx,4,none⟩=some (.int .i64 (x.l:Int))∧W.cell? ⟨gx,7,none⟩=some (.int .u32 cz):=fun W h=>by
  obtain ⟨_,_,h2,h3,h4,_,_,h7⟩:=en_cell W h
  rw [hpz] at h3
  rw [hxc] at h7
  exact ⟨h2,h3,h4,h7⟩
 have hle:∀ W:World,EnAt W gx x→(loadEnI (.pointer (some ⟨gx,0,none⟩))).run Tryz.prog W = .ok (.agg (enA x)) W:=ld_en_en
 have HX:=Aside0.mk hX0
 have hu74:Tryz.prog.underlying 74=some (.array 256 71):=Tryz.underlying74
 have hs74:=tab_size
 clear hm hd hx hp hr hl hl2 hc hl1 hB0 hb hg hK hK1 hK2 hcz hxc
 go_enter Tryz.func298,Tryz.ntmps298
 go_wp2_with (go_at_call 71;(with_reducible refine HMY.out.mono ?_);rintro r w1 ⟨rfl,rfl⟩)
 clear hW0
 have h1:EnAt W0.drew gx x∧BaseAt W0.drew b d N s m v false false:=⟨hX0,hb0⟩
 have hb1:Below w.heap.size w W0.drew:=below_drew HB0.out
 go_region_held3 (fun w'=>EnAt w' gx x∧BaseAt w' b d N s m v false false) (first | exact h1 | exact h2 | exact h3 | exact h4)
  (first
   | ((go_at_call 112;(with_reducible refine (HAL.out _).mono ?_);rintro r w3 ⟨xn,rfl,hr3,hb3⟩;have h2:EnAt w3 gx x∧BaseAt w3 b d N s m v false false:=⟨h1.1.below hb3,blkb hb3 h1.2⟩;have hb2:=below_step hb1 hb3))
   | ((go_at_call 111;(with_reducible refine hr3.out.mono ?_);rintro r w4 ⟨rfl,hb4⟩;have h3:EnAt w4 gx x∧BaseAt w4 b d N s m v false false:=⟨h2.1.below hb4,blkb hb4 h2.2⟩;have hb3':=below_step hb2 hb4))
   | ((go_at_call 114;(with_reducible refine (HNP.out _).mono ?_);rintro r w5 ⟨rfl,hb5⟩;have h4:EnAt w5 gx x∧BaseAt w5 b d N s m v false false:=⟨h3.1.below hb5,blkb hb5 h3.2⟩;have hb4':=below_step hb3' hb5))
   | ((go_at_call 58;(with_reducible refine (HPG.out _ (by first | exact hb4' | exact hb3')).mono ?_);rintro r w6 ⟨rfl,rfl⟩)))
 obtain ⟨w6,hw6⟩:∃ W,W=w5:=⟨_,rfl⟩
 subst hw6
 clear h1 h2 h3 hb1 hb2 hb3 hb3' hb4 hb5 hX0 hb0 hr3 HAL HNP HMY
 go_wp2
 have h5:EnAt w6.drew gx x∧BaseAt w6.drew b d N s m v false false:=h4
 have hb5:Below w.heap.size w w6.drew:=below_drew hb4'
 go_region_held3 (fun w'=>EnAt w' gx x∧BaseAt w' b d N s m v false false) (first | exact h5 | exact h6)
  ((go_at_call 123;(with_reducible refine (HRR.out _ hb5).mono ?_);rintro r w7 ⟨A,rfl,hk7,hb7⟩;have h6:EnAt w7 gx x∧BaseAt w7 b d N s m v false false:=⟨h5.1.below hb7,blkb hb7 h5.2⟩;have hb6:=below_step hb5 hb7))
 have HK7:=Aside0.mk hk7
 clear h4 h5 hb4' hb5 hb7 hk7 HRR HPG
 go_wp2
 have h7:EnAt w7.drew gx x∧BaseAt w7.drew b d N s m v false false∧w7.drew.rangeAt b 0 tabA.toList:=⟨h6.1,h6.2,base_range (show BaseAt w7.drew b d N s m v false false from h6.2)⟩
 have hb8:Below w.heap.size w w7.drew:=below_drew hb6
 have HS:=Aside0.mk (HSM.out w7.drew A (Kd.C_below HK7.out (below_drew (Below.refl _ _))))
 clear h6 hb6 HSM
 go_region_held3 (fun w'=>EnAt w' gx x∧BaseAt w' b d N s m v false false∧w'.rangeAt b 0 tabA.toList) (first | exact h7 | exact h8)
  ((go_at_call 26;(with_reducible refine HS.out.mono ?_);rintro r w9 ⟨rfl,hb9⟩;have h8:EnAt w9 gx x∧BaseAt w9 b d N s m v false false∧w9.rangeAt b 0 tabA.toList:=⟨h7.1.below hb9,blkb hb9 h7.2.1,base_range (show BaseAt w9 b d N s m v false false from blkb hb9 h7.2.1)⟩;have HB9:=Aside0.mk (And.intro (below_step hb8 hb9) (below_step (below_drew (Below.refl w7.heap.size w7)) hb9));clear hb9))
 clear h7 h8 hb8 hu74 hs74
 go_wp2
 go_ret2
 exact ⟨A,rfl,Kd.C_below HK7.out HB9.out.2,HB9.out.1⟩
end
section
open Go.Shelf
theorem own_at {W W2:World} {base:Nat} {e:TypeId} {sz n:Nat} {v:Value} {xs:List Value} (h:W.ownsRow base e sz v n xs) (hk:∀ g cs,v.ownBlock=some g→W.heap[g]?=some (.cells cs e (0,0))→W2.heap[g]?=some (.cells cs e (0,0))):W2.ownsRow base e sz v n xs:=by
 refine ⟨h.1,?_⟩
 rcases h.2 with h2 | ⟨g,cap,cur,rfl,hg,hh,r⟩
 ·exact .inl h2
 ·exact .inr ⟨g,cap,cur,rfl,hg,hk g cur rfl hh,r⟩
structure OutO (W:World) (base ob:Nat) (bt e:TypeId) (sz:Nat) (v:Value) (n:Nat) (xs:List Value):Prop where
 b:W.heap[ob]?=some (Obj.cells #[v] bt)
 r:W.ownsRow base e sz v n xs
section
variable {W W2:World} {base ob:Nat} {bt e:TypeId} {sz n:Nat} {v:Value} {xs:List Value} {T:List Nat}
theorem OutO.frT [Inhabited Sanct] (h:OutO W base ob bt e sz v n xs) (hf:FrT T W W2) (h1:bt ∉ T) (h2:e ∉ T):OutO W2 base ob bt e sz v n xs:=⟨hf.blk h.b h1,own_at h.r (fun g cs _ hg=>hf.blk hg h2)⟩
theorem OutO.below [Inhabited Sanct] (h:OutO W base ob bt e sz v n xs) (hb:Below W.heap.size W W2):OutO W2 base ob bt e sz v n xs:=h.frT (FrT.of_below hb []) (by simp) (by simp)
theorem OutO.grown [Inhabited Sanct] {row:Option Nat} (h:OutO W base ob bt e sz v n xs) (hg:W.grownBy W2 row) (hr:∀ r,row=some r → ∃ o:Obj,W.heap[r]?=some o∧o.isCells=false):OutO W2 base ob bt e sz v n xs:=⟨slot_cells hg hr h.b,own_at h.r (fun g cs _ hh=>slot_cells hg hr hh)⟩
theorem OutO.block (h:OutO W base ob bt e sz v n xs) {g:Nat} (hg:v.ownBlock=some g):base≤g ∧ ∃ cs,W.heap[g]?=some (Obj.cells cs e (0,0)):=by
 rcases h.r.2 with ⟨rfl,_⟩ | ⟨g',cap,cur,rfl,hb,hh,_⟩
 ·simp [Value.ownBlock] at hg
 ·simp [Value.ownBlock] at hg
  subst hg
  exact ⟨hb,cur,hh⟩
theorem OutO.obT (h:OutO W base ob bt e sz v n xs) (hT:bt ∉ T):Ob T ob W:=⟨⟨_,_,_,h.b,hT⟩,fun i hi=>by
 rcases hi with rfl | ⟨v2,t2,fr2,h1,h2⟩
 ·exact blk_lt h.b
 ·rw [h.b] at h1
  injection h1 with h1
  injection h1 with h1 _ _
  have h1:v=v2:=by simpa using h1
  rw [← h1] at h2
  obtain ⟨_,cs,hh⟩:=h.block h2
  exact blk_lt hh⟩
theorem OutO.val (h:OutO W base ob bt e sz v n xs):∃ A c,v = .slice A n c∧n≤c:=by
 rcases h.r.2 with ⟨rfl,rfl⟩ | ⟨g,cap,cur,rfl,_,_,hn,_⟩
 ·exact ⟨none,0,rfl,Nat.le_refl _⟩
 ·exact ⟨_,cap,rfl,hn⟩
theorem OutO.push [Inhabited Sanct] {W1 W3:World} {v':Value} {n':Nat} {xs':List Value} (h:OutO W base ob bt e sz v n xs) (hbt:bt≠e) (hb:Below W.heap.size W W1) (hown:W3.ownsRow base e sz v' n' xs') (hg:W1.grownBy W3 v.ownBlock) (hat:v'.ownBlock=v.ownBlock∨v'.ownBlock=some W1.heap.size) (heS:e ∉ sS:=by decide) (hbS:bt ∉ sS:=by decide) :
  W3.heap[ob]?=some (Obj.cells #[v] bt)∧OutO (W3.setCell ⟨ob,0,none⟩ v') base ob bt e sz v' n' xs'∧KpT [] ob W (W3.setCell ⟨ob,0,none⟩ v')∧FrT [bt,e] W (W3.setCell ⟨ob,0,none⟩ v')∧(∀ {w:World},FrT T w W→w.heap.size≤ob→w.heap.size≤base→FrT T w (W3.setCell ⟨ob,0,none⟩ v')):=by
 have hob1:=blkb hb h.b
 have hne:∀ g,v.ownBlock=some g→g≠ob:=fun g hg e=>by
  obtain ⟨_,cs,hh⟩:=h.block hg
  rw [e,h.b] at hh
  injection hh with hh
  injection hh with _ hh _
  exact hbt hh
 have hob3:W3.heap[ob]?=some (Obj.cells #[v] bt):=(hg.block ob (blk_lt hob1) (fun e=>hne ob e.symm rfl)).trans hob1
 have hset:=blk_set hob3 0 v'
 have hne':∀ g,v'.ownBlock=some g→g≠ob:=fun g hg' e=>by
  rcases hat with hat | hat
  ·rw [hat] at hg';exact hne g hg' e
  ·rw [hat] at hg'
   injection hg' with hg'
   have:=blk_lt hob1
   omega
 have hf1:FrT [bt,e] W W3:=by
  have h1:=FrT.of_below hb [bt,e]
  refine h1.grown hg (fun k hk=>?_)
  obtain ⟨_,cs,hh⟩:=h.block hk
  exact ⟨cs,e,(0,0),blkb hb hh,by simp,fun h9=>absurd h9 heS⟩
 have hf3:FrT [bt,e] W (W3.setCell ⟨ob,0,none⟩ v'):=hf1.setCell hob3 (by simp) 0 v' (fun h9=>absurd h9 hbS)
 refine ⟨hob3,⟨by simpa using hset,own_at hown (fun g cs hgv hh=>blk_far hh (by exact hne' g hgv) _)⟩,kp_out h.b (by simpa using hset) hf3.size (fun i cs t fr h1 h2 h3=>?_) ?_,hf3,fun {w} hfw h4 h5=>?_⟩
 ·have h6:=blkb hb h1
  have h7:=(hg.block i (blk_lt h6) (fun e=>h3 e.symm)).trans h6
  exact (Below.heap_setCell _ _ _ _ (by exact h2)).trans h7
 ·rcases hat with hat | hat
  ·exact .inl hat
  ·exact .inr ⟨_,hat,hb.size⟩
 ·exact (((hfw.below hb).slot hg (fun r hr=>by have:=(h.block hr).1;omega))).setNew h4 0 v'
end
end
section
open Go.Shelf
attribute [local go_sem] Oper.semAt_some
attribute [local go_sem ↓] loadKey_eq loadEn_eq storeKey_eq storeEn_eq loadNd_eq storeNd_eq loadMap_eq storeMap_eq loadTab_eq storePg_eq loadRt_eq storeRt_eq
theorem info_i [Inhabited Sanct]:(Tryz.prog.info? 3).map (fun i=>(i.zero,i.size,i.bytes))=some (some (.int .i64 0),1,8):=by kernel_rfl
theorem cont_any [Inhabited Sanct] {w:World} {base:Nat} {A:Option Addr} {xs:List Int} {n c:Nat} (hn:xs.length=n) (hc:n≤c) (h:w.ownsRow base 3 1 (.slice A n c) n (nums .i64 xs)) (hl:n≤1000) (x:Int) :
  Calls Tryz.prog 75 #[.slice A n c,.int .i64 x] w fun e w'=>e = .returned (.bool (decide (x∈xs)))∧Below w.heap.size w w':=by
 have hC:Kd.C (Kd.int .i64) w A xs.length xs:=by
  rcases h.2 with ⟨_,h2⟩ | ⟨g,cap,cur,hv,hb,hh,h1,h2,h3,h4⟩
  ·exact ⟨rfl,by omega,fun h0=>by omega⟩
  ·injection hv with hv
   subst hv
   refine C_of (fun j p hj=>?_) (by omega)
   have h5:(nums .i64 xs)[j]?=some (.int .i64 p):=by simp [nums,hj]
   rw [← h4,List.getElem?_take] at h5
   have hjn:j<n*1:=by have:=(List.getElem?_eq_some_iff.1 hj).1;omega
   rw [if_pos hjn] at h5
   rw [Nat.zero_add,blk_cell hh j]
   simpa using h5
 subst hn
 have:=slices_Contains_int_int.calls 1100 A c xs x (decide (x∈xs)) w hC hc (contains_f hl)
 exact this.mono (fun e w' h=>⟨h.1,h.2.below⟩)
end
section
open Go.Shelf
attribute [local go_sem] Oper.semAt_some
attribute [local go_sem ↓] loadKey_eq loadEn_eq storeKey_eq storeEn_eq loadNd_eq storeNd_eq loadMap_eq storeMap_eq loadTab_eq storePg_eq loadRt_eq storeRt_eq
theorem BsOk.iv [Inhabited Sanct] {Ch:Ky→Nat→List Int→Prop} {w W:World} {ob b d N v:Nat} {sp:Sup} {m:List Bool} {f:Nat→List Int} {ps:List Nat} {es:List En} (h:BsOk Ch w b d N sp m v f ps es) (hf:FrT wT w W) (ho:Ob wT ob W) (hl:es.length≤90):IvB ob b d N sp m v f W:=
 ⟨ho,(VS.frT (k:=0) ⟨h.va,h.dt,h.mm,h.mm,by have:=h.gn;omega,by decide,⟨[],List.nodup_nil,rfl,by simp⟩,h.gv⟩ hf (by decide)),hf.blk h.ba (by decide)⟩
theorem series_in [Inhabited Sanct] {Ch:Ky→Nat→List Int→Prop} {w:World} {s b d N:Nat} {es:List En} (h:StOk Ch w s b d N es) (hl:es.length≤90) :
  CallsIn Fence.wide 20 Tryz.prog 36 #[.pointer (some ⟨s,0,none⟩)] w fun r w'=>(∃ A n c,r = .returned (.tuple #[.slice A n c,.int .i64 0]))∧FrT wT w w':=by
 obtain ⟨hst,sp,m,v,f,ps,H⟩:=h
 obtain ⟨g2,hg2⟩:∃ q,w.heap.size=q:=⟨_,rfl⟩
 obtain ⟨Wa,hWa⟩:∃ W,w.alloc (Obj.cells #[.slice none 0 0] 53)=W:=⟨_,rfl⟩
 obtain ⟨g3,hg3⟩:∃ q,Wa.heap.size=q:=⟨_,rfl⟩
 obtain ⟨W0,hW0⟩:∃ W,Wa.alloc (Obj.cells #[.int .i64 0] 23)=W:=⟨_,rfl⟩
 have hba:Below w.heap.size w Wa:=by rw [← hWa];exact below_alloc (Below.refl _ _) _
 have hb0:Below w.heap.size w W0:=by rw [← hW0];exact below_alloc hba _
 have hx2:W0.heap[g2]?=some (Obj.cells #[.slice none 0 0] 53):=by rw [← hW0,← hWa];exact blk_alloc (newb hg2) _
 have hx3:W0.heap[g3]?=some (Obj.cells #[.int .i64 0] 23):=by rw [← hW0];exact newb hg3
 have hst0:StoAt W0 s b:=blkb hb0 hst
 have HMY:=Aside0.mk (smay_calls hst0)
 obtain ⟨gO,hgO⟩:∃ q,W0.heap.size=q:=⟨_,rfl⟩
 obtain ⟨W1,hW1⟩:∃ W,W0.alloc (Obj.cells #[.slice none 0 0] 53)=W:=⟨_,rfl⟩
 have hb1:Below w.heap.size w W1:=by rw [← hW1];exact below_alloc hb0 _
 have hO1:OutO W1 w.heap.size gO 53 3 1 (.slice none 0 0) 0 []:=⟨by rw [← hW1];exact newb hgO,World.ownsRow_nil _ _ _ _⟩
 have hst1:StoAt W1 s b:=blkb hb1 hst
 have hc1:=(sto_cell W1 hst1).1
 have HBE:=Aside0.mk (bentries_calls (w:=W1) b)
 have HX:Aside0 (W1.heap[g2]?=some (Obj.cells #[.slice none 0 0] 53)∧W1.heap[g3]?=some (Obj.cells #[.int .i64 0] 23)∧OutO W1 w.heap.size gO 53 3 1 (.slice none 0 0) 0 []∧Below w.heap.size w W1∧g2<g3∧g3<gO∧w.heap.size≤gO∧w.heap.size≤g2):=⟨by rw [← hW1];exact blk_alloc hx2 _,by rw [← hW1];exact blk_alloc hx3 _,hO1,hb1,by rw [← hg2,← hg3,← hWa];simp,by have:=blk_lt hx3;omega,by have:=hb0.size;omega,by omega⟩
 have HH:=Aside0.mk (And.intro H hl)
 clear hba hb0 hx2 hx3 hst0 hb1 hO1 hst1 H hl hst
 refine callsIn_of_wp_marks Tryz.func36 rfl trivial ?_ rfl
 simp only [Tryz.ntmps36,List.size_toArray,List.length_cons,List.length_nil,Nat.reduceAdd,Nat.reduceSub,Array.replicate_succ,Array.replicate_zero,List.push_toArray,List.append_toArray,List.nil_append,List.cons_append]
 refine wpIn_wide.2 ?_
 go_wp2_with (first
  | (go_at_call 31;(with_reducible refine HMY.out.mono ?_);rintro r w1 ⟨rfl,rfl⟩)
  | (go_at_call 33;(with_reducible refine HBE.out.mono ?_);rintro r w4 ⟨gb,rfl,hgb,hgbs,hb4⟩;refine hold ?_))
 unfold Hold
 have HB4:=Aside0.mk hb4
 have HGB:=Aside0.mk (And.intro hgb hgbs)
 clear hb4 hgb hgbs hc1 hW1 hgO hW0 hWa HMY HBE hg2 hg3
 go_wp2
 obtain ⟨x2,x3,x4,x5,x6,x7,x8,x9⟩:=HX.out
 have hf4:FrT wT w w4:=(FrT.of_below x5 wT).below HB4.out
 have hO4:=x4.below HB4.out
 have hbO:Ob wT gO W1:=x4.obT (by decide)
 have hbO4:Ob wT gO w4:=hO4.obT (by decide)
 have hs4:w.heap.size≤w4.heap.size:=hf4.size
 have hnO:∀ g,g<gO→¬ Ow gO W1 g:=fun g hg e=>by
  rcases e with e | ⟨v2,t2,fr2,e1,e2⟩
  ·omega
  ·rw [x4.b] at e1
   injection e1 with e1
   injection e1 with e1 _ _
   have e1:Value.slice none 0 0=v2:=by simpa using e1
   rw [← e1] at e2
   simp [Value.ownBlock] at e2
 have y2:BxO gO w4 g2 (.slice none 0 0) 53:=(BxO.mk x2 (hnO _ (by omega))).frT hbO (FrT.of_below HB4.out wT) (by decide)
 have y3:BxO gO w4 g3 (.int .i64 0) 23:=(BxO.mk x3 (hnO _ x7)).frT hbO (FrT.of_below HB4.out wT) (by decide)
 clear hnO
 refine (wpIn_wide (n:=20)).1 ?_
 refine rf_law (F:=Fence.wide) (n:=20) rfl (by decide) (gf:=70) (lb:=#[.pointer (some ⟨gb,0,none⟩)]) rfl trivial (enters_of Tryz.func70 (by kernel_rfl) rfl)
  (bseq (n:=19) (Iv:=fun W=>IvB gO b d N sp m v f W) ⟨HGB.out.1,hbO.new (FrT.of_below HB4.out wT) HGB.out.2⟩ hbO4 HH.out.1.mm.len HH.out.1.tr (fun p hp=>(HH.out.1.us.b p (List.mem_append_left _ hp)).2) HH.out.2 (fun _ h=>h))
  (fun h k=>KpT.trans h k) ?kb (Below.refl _ _) (fun _=>rfl)
  (fun pre W=>FrT wT w W∧BxO gO W g2 (.slice none 0 0) 53∧BxO gO W g3 (.int .i64 0) 23 ∧ ∃ v xs,OutO W w.heap.size gO 53 3 1 v xs.length (nums .i64 xs)∧xs.length≤pre.length)
  ?own ?abt (fun pre A h=>by obtain ⟨h1,-,-,v2,xs,h2,-⟩:=h;exact HH.out.1.iv h1 (h2.obT (by decide)) HH.out.2) ⟨hf4,y2,y3,_,[],by simpa [nums] using hO4,Nat.le_refl _⟩
  (fun x a' W=>∃ gx,EnAt W gx x∧a' = { tmps:=#[.pointer (some ⟨s,0,none⟩),undef,.pointer (some ⟨g2,0,none⟩),.pointer (some ⟨g3,0,none⟩),.int .i64 0,.pointer (some ⟨gO,0,none⟩),.pointer (some ⟨gx,0,none⟩),.int .i64 0,.pointer (some ⟨s,0,none⟩),.int .i64 0,.int .i64 0,.bool false,undef,.pointer (some ⟨s,0,none⟩),.pointer (some ⟨s,0,none⟩),.pointer (some ⟨s,0,none⟩),.pointer (some ⟨b,0,none⟩),.func (.func 70) #[] #[.pointer (some ⟨gb,0,none⟩)],.agg (enA x),.int .i64 0,undef,undef,undef,undef,undef,undef,undef,undef,undef,undef,undef,undef,undef,undef,undef,undef],defers:=[] })
  ?ax ?assign ?body ?done
 case kb=>
  intro W2 l2 o o' hl2 hW2 ho hw
  exact Ob.put (by have:=hbO4.lt;omega) hW2 ho
 case own=>
  rintro pre X Y row ⟨h1,h2,h3,v2,xs,h4,h5⟩ hg hr
  have hr1:∀ r,row=some r → ∃ o:Obj,X.heap[r]?=some o∧o.isCells=false:=fun r e=>(hr r e).2
  exact ⟨h1.slot hg (fun r e=>by have:=(hr r e).1;omega),⟨slot_cells hg hr1 h2.b,fun e=>h2.n ((Ow.grown hg hr1 ⟨_,_,_,h4.b⟩ _).1 e)⟩,⟨slot_cells hg hr1 h3.b,fun e=>h3.n ((Ow.grown hg hr1 ⟨_,_,_,h4.b⟩ _).1 e)⟩,v2,xs,h4.grown hg hr1,h5⟩
 case abt=>
  rintro pre X Y ⟨h1,h2,h3,v2,xs,h4,h5⟩ hf
  have hob:Ob wT gO X:=h4.obT (by decide)
  exact ⟨h1.trans hf,h2.frT hob hf (by decide),h3.frT hob hf (by decide),v2,xs,h4.frT hf (by decide) (by decide),h5⟩
 case ax=>
  rintro x a'-X Y row ⟨gx,h1,h2⟩ hg hr
  exact ⟨gx,slot_cells hg (fun r e=>(hr r e).2) h1,h2⟩
 case assign=>
  rintro l2 pre x W2 K ⟨h1,h2,h3,v2,xs,h4,h5⟩ hK
  have hst:=st_en x W2
  obtain ⟨gx,hgx⟩:∃ q,W2.heap.size=q:=⟨_,rfl⟩
  obtain ⟨W3,hW3⟩:∃ W,W2.alloc (Obj.cells (enA x) 89)=W:=⟨_,rfl⟩
  have hbW:Below W2.heap.size W2 W3:=by rw [← hW3];exact below_alloc (Below.refl _ _) _
  have hxW:EnAt W3 gx x:=by rw [← hW3];exact en_new x hgx
  have hK':=Aside0.mk hK
  have HI:=Aside0.mk (And.intro hbW (And.intro hxW (And.intro h1 (And.intro h2 (And.intro h3 (And.intro h4 h5))))))
  rw [hgx,hW3] at hst
  clear hK h1 h2 h3 h4 h5 hbW hxW
  simp only [encN]
  gi_wp2
  have hk:KpT [] gO W2 W3:=(HI.out.2.2.2.2.2.1.obT (T:=[]) (by simp)).kp (FrT.of_below HI.out.1 [])
  exact hK'.out _ W3 ((FrT.of_below HI.out.1 []).keeps _) hk ⟨HI.out.2.2.1.below HI.out.1,HI.out.2.2.2.1.kp hk (by simp),HI.out.2.2.2.2.1.kp hk (by simp),v2,xs,HI.out.2.2.2.2.2.1.below HI.out.1,HI.out.2.2.2.2.2.2⟩ ⟨gx,HI.out.2.1,rfl⟩
 case body=>
  rintro l2 pre x a' W2 ⟨h1,h2,h3,v2,xs,h4,h5⟩ ⟨gx,hx,rfl⟩ hp
  have hpl:pre.length+1≤90:=by have:=hp.length_le;rw [List.length_append] at this;have:=HH.out.2;simp at *;omega
  obtain ⟨n,hn⟩:∃ n,xs.length=n:=⟨_,rfl⟩
  obtain ⟨A2,c2,hv2,hc2⟩:=h4.val
  have h4r:=h4.r
  have c1:=blk_cell h4.b 0
  simp only [List.getElem?_toArray,List.getElem?_cons_zero,List.getElem?_cons_succ] at c1
  subst hv2
  rw [hn] at h4 h4r c1 hc2 h5
  have HC:=Aside0.mk (cont_any hn hc2 h4r (by omega) x.k.s)
  have cx:=(en_cell W2 hx).1
  obtain ⟨rb,hrb⟩:∃ r,decide (x.k.s∈xs)=r:=⟨_,rfl⟩
  rw [hrb] at HC
  have HI:=Aside0.mk (And.intro h1 (And.intro h2 (And.intro h3 (And.intro h4 h5))))
  have HXX:=Aside0.mk hx
  have HN:=Aside0.mk hn
  have HP:=Aside0.mk hpl
  clear h1 h2 h3 h4 h5 hx hp hrb h4r hn hpl hc2
  gi_wp2_with ((first | refine ⟨trivial,(fun h=>by cases h),?_⟩ | refine ⟨trivial,?_⟩);gi_at_call 75;(with_reducible refine (CallsIn.inRound l2 (callsIn_wide.2 HC.out)).mono ?_);rintro r w5 ⟨rfl,hb5⟩;refine hold ?_)
  unfold Hold
  obtain ⟨h1,h2,h3,h4,h5⟩:=HI.out
  have k1:=h1.below hb5
  have k4:=h4.below hb5
  have hk:=(h4.obT (T:=[]) (by simp)).kp (FrT.of_below hb5 [])
  have k2:=h2.kp hk (by simp)
  have k3:=h3.kp hk (by simp)
  have hkf:=(FrT.of_below hb5 []).keeps w4.heap.size
  have d1:=blk_cell k4.b 0
  have dx:=(en_cell w5 (HXX.out.below hb5)).1
  simp only [List.getElem?_toArray,List.getElem?_cons_zero,List.getElem?_cons_succ] at d1
  have HK:=Aside0.mk (And.intro k1 (And.intro k2 (And.intro k3 (And.intro k4 (And.intro hk (And.intro hkf (And.intro h5 x8)))))))
  clear h1 h2 h3 h4 h5 k1 k2 k3 k4 hk hkf x2 x3 x4 x5 x6 x7 x8 x9 hf4 hO4 hbO hbO4 hs4 y2 y3 HI HC c1 cx hb5 HXX
  rcases rb with _ | _
  ·obtain ⟨i0,hi,hz0,hz1,hz2⟩:=info_parts info_i
   have HI0:=Aside0.mk (And.intro hi (And.intro hz0 (And.intro hz1 hz2)))
   clear hi hz0 hz1 hz2
   gi_wp2_with (gi_at_builtin;refine wpListIn_append_own_at _ rfl _ _ 53 rfl w.heap.size 3 i0 (.int .i64 0) 1 8 Tryz.underlying53 HI0.out.1 HI0.out.2.1 HI0.out.2.2.1 HI0.out.2.2.2 rfl (by decide) _ n (nums .i64 xs) rfl (HK.out.2.2.2.1.r.alloc _) ⟨w5.heap.size,0,none⟩ 1 1 [.int .i64 x.k.s] rfl rfl (cell_one_new _ _ _) (by simp [Value.oneCell']) (by simp only [maxLen];have:=HK.out.2.2.2.2.2.2.1;have:=HP.out;omega) (by have:=HK.out.2.2.2.2.2.2.1;have:=HP.out;omega) (by have:=HK.out.1.size;simp;omega) ?_;intro v9 w9 hown9 hgrow9 hnil9 hat9;refine hold ?_)
   unfold Hold
   obtain ⟨p1,p2,p3,p4,p5⟩:=HK.out.2.2.2.1.push (T:=wT) (by decide) (below_alloc (Below.refl _ w5) _) hown9 hgrow9 hat9
   obtain ⟨A9,c9,hv9,hc9⟩:=p2.val
   subst hv9
   have e1:=blk_cell p1 0
   have f1:=blk_frozen p1 0
   simp only [List.getElem?_toArray,List.getElem?_cons_zero,List.getElem?_cons_succ] at e1
   have HQ:=Aside0.mk (And.intro p2 (And.intro p3 (And.intro p4 (p5 HK.out.1 HK.out.2.2.2.2.2.2.2 (Nat.le_refl _)))))
   clear p1 p2 p3 p4 p5 hown9 hgrow9 hnil9 hat9 hc9
   gi_wp2
   refine ⟨HK.out.2.2.2.2.2.1.trans (HQ.out.2.2.1.keeps _),HK.out.2.2.2.2.1.trans HQ.out.2.1,HQ.out.2.2.2,HK.out.2.1.kp HQ.out.2.1 (by simp),HK.out.2.2.1.kp HQ.out.2.1 (by simp),.slice A9 (n+1) c9,xs++[x.k.s],?_,?_⟩
   ·have:=HQ.out.1
    simpa [nums,HN.out] using this
   ·have:=HK.out.2.2.2.2.2.2.1
    have:=HN.out
    simp only [List.length_append,List.length_cons,List.length_nil]
    omega
  ·gi_wp2
   refine ⟨HK.out.2.2.2.2.2.1,HK.out.2.2.2.2.1,HK.out.1,HK.out.2.1,HK.out.2.2.1,.slice A2 n c2,xs,?_,?_⟩
   ·rw [HN.out];exact HK.out.2.2.2.1
   ·have:=HK.out.2.2.2.2.2.2.1
    have:=HN.out
    simp only [List.length_append,List.length_cons,List.length_nil]
    omega
 case done=>
  rintro D W2 hD ⟨h1,h2,h3,v2,xs,h4,h5⟩ hK
  obtain ⟨A2,c2,hv2,hc2⟩:=h4.val
  subst hv2
  have c1:=blk_cell h4.b 0
  have k2:=blk_cell h2.b 0
  have k3:=blk_cell h3.b 0
  have f2:=blk_frozen h2.b 0
  have f3:=blk_frozen h3.b 0
  simp only [List.getElem?_toArray,List.getElem?_cons_zero,List.getElem?_cons_succ] at c1 k2 k3
  have hne:g2≠g3:=by omega
  have b2:=blk_set h2.b 0 (.slice A2 xs.length c2)
  have b3:=blk_far h3.b (p:=⟨g2,0,none⟩) (by simpa using hne.symm) (.slice A2 xs.length c2)
  have j3:=blk_cell b3 0
  have m3:=blk_frozen b3 0
  simp only [List.getElem?_toArray,List.getElem?_cons_zero,List.getElem?_cons_succ] at j3
  obtain ⟨W3,hW3⟩:∃ W,W2.setCell ⟨g2,0,none⟩ (.slice A2 xs.length c2)=W:=⟨_,rfl⟩
  have hK3:W3.heap[D]?=some (.deferred (some [])):=by rw [← hW3];exact (KeepsOthers.setCell W2 ⟨g2,0,none⟩ _).same D _ hK rfl
  have hf3:FrT wT w W3:=by rw [← hW3];exact h1.setNew (by omega) 0 _
  rw [hW3] at b2 b3 j3 m3
  have b2':=blk_far b2 (p:=⟨g3,0,none⟩) (by simpa using hne) (.int .i64 0)
  have b3':=blk_set b3 0 (.int .i64 0)
  have hK4:=(KeepsOthers.setCell W3 ⟨g3,0,none⟩ (.int .i64 0)).same D _ hK3 rfl
  have hf4':=hf3.setNew (g:=g3) (by omega) 0 (.int .i64 0)
  clear b2 b3
  go_wp2
  have hD2:∀ (g:Nat) (cs:Array Value) (t:TypeId) (fr:Nat×Nat) (W:World),W.heap[D]?=some (.deferred (some []))→W.heap[g]?=some (Obj.cells cs t fr)→(W.putObj D (.deferred none)).heap[g]?=some (Obj.cells cs t fr):=fun g cs t fr W e1 e2=>(World.putObj_heap_other (fun e=>by rw [e,e1] at e2;cases e2)).trans e2
  have q2:=blk_cell (hD2 _ _ _ _ _ hK4 b2') 0
  have q3:=blk_cell (hD2 _ _ _ _ _ hK4 b3') 0
  refine ⟨by simp,.inl ⟨_,_,rfl,run_takeDeferred hK4,?_⟩⟩
  refine ⟨.tuple #[.slice A2 xs.length c2,.int .i64 0],?_,⟨A2,xs.length,c2,rfl⟩,hf4'.slot (grownBy_putObj' _ D (.deferred none)) (fun k e=>by cases e;omega)⟩
  obtain ⟨W5,hW5⟩:∃ W,(W3.setCell ⟨g3,0,none⟩ (.int .i64 0)).putObj D (.deferred none)=W:=⟨_,rfl⟩
  rw [hW5] at q2 q3 ⊢
  have q2':W5.cell? ⟨g2,0,none⟩=some (.slice A2 xs.length c2):=q2
  have q3':W5.cell? ⟨g3,0,none⟩=some (.int .i64 0):=q3
  clear q2 q3 hW5 hK4 b2' b3' hf4' hD2 c1 k2 k3 j3 m3 f2 f3
  simp [results,Tryz.f36,go_sem,q2',q3']
theorem series_calls [Inhabited Sanct] {Ch:Ky→Nat→List Int→Prop} {w:World} {s b d N:Nat} {es:List En} (h:StOk Ch w s b d N es) (hl:es.length≤90) :
  Calls Tryz.prog 36 #[.pointer (some ⟨s,0,none⟩)] w fun r w'=>(∃ A n c,r = .returned (.tuple #[.slice A n c,.int .i64 0]))∧FrT wT w w':=callsIn_wide.1 (series_in h hl)
end
section
open Go.Shelf
attribute [local go_sem ↓] Go.wp_at_zero Go.wp_at_succ loadKey_eq loadEn_eq storeKey_eq storeEn_eq loadNd_eq storeNd_eq loadMap_eq storeMap_eq loadTab_eq storePg_eq loadRt_eq storeRt_eq loadSup_eq storeSup_eq
theorem bfree_calls [Inhabited Sanct] {w:World} {b d N v:Nat} {s:Sup} {m:List Bool} (h:BaseAt w b d N s m v false false) (hm:MapOk N m) :
  Calls Tryz.prog 37 #[.pointer (some ⟨b,0,none⟩)] w fun r w'=>∃ z:Int,r = .returned (.int .i64 z)∧Below w.heap.size w w':=by
 have HF:=Aside0.mk (mapfree_calls (w:=w) hm)
 have hl:=ldb_m hm.len w h
 clear h hm
 go_enter Tryz.func37,Tryz.ntmps37
 go_wp2_with (go_at_call 76;(with_reducible refine HF.out.mono ?_);rintro r w1 ⟨rfl,hb⟩;have HB:=Aside0.mk hb;clear hb)
 go_ret
 exact ⟨_,rfl,HB.out⟩
theorem ldb_sup [Inhabited Sanct] {b d N v:Nat} {s:Sup} {m:List Bool} {op en:Bool}:∀ W:World,BaseAt W b d N s m v op en→(loadSupI (.pointer (some ⟨b,257,none⟩))).run Tryz.prog W = .ok (.agg (supA s)) W:=fun W h=>by
 have:=run_loadAt_mid (P:=Tryz.prog) W b 257 98 (supA s).toList _ (fun j x hx=>base_cell h (by
  have hj:j<5:=(List.getElem?_eq_some_iff.1 hx).1
  rw [baseL_s hj]
  exact hx)) Tryz.underlying98 rfl sup_size
 exact this
theorem bsuper_calls [Inhabited Sanct] {w:World} {b d N v:Nat} {s:Sup} {m:List Bool} (h:BaseAt w b d N s m v false false) :
  Calls Tryz.prog 38 #[.pointer (some ⟨b,0,none⟩)] w fun r w'=>r = .returned (.agg #[.int .u64 (s.gen:Int),.int .i64 (s.ra:Int),.int .i64 (s.rh:Int),.int .i64 (s.bm:Int),.int .i64 (s.N:Int)])∧Below w.heap.size w w':=by
 obtain ⟨g,hg⟩:∃ q,w.heap.size=q:=⟨_,rfl⟩
 obtain ⟨W0,hW0⟩:∃ W,w.alloc (Obj.cells #[.int .u64 0,.int .i64 0,.int .i64 0,.int .i64 0,.int .i64 0] 98)=W:=⟨_,rfl⟩
 have hx0:W0.heap[g]?=some (Obj.cells #[.int .u64 0,.int .i64 0,.int .i64 0,.int .i64 0,.int .i64 0] 98):=by rw [← hW0];exact newb hg
 have hb0:Below w.heap.size w W0:=by rw [← hW0];exact below_alloc (Below.refl _ _) _
 have hl:(loadSupI (.pointer (some ⟨b,257,none⟩))).run Tryz.prog W0 = .ok (.agg #[.int .u64 (s.gen:Int),.int .i64 (s.ra:Int),.int .i64 (s.rh:Int),.int .i64 (s.bm:Int),.int .i64 (s.N:Int)]) W0:=ldb_sup W0 (blkb hb0 h)
 have hst:=st_sup s hx0 rfl
 obtain ⟨W1,hW1⟩:∃ W,W0.setRow g (supA s)=W:=⟨_,rfl⟩
 have hs1:SupAt W1 g s:=by rw [← hW1];exact setRow_heap _ _ _ _ _ _ hx0
 have HS1:=Aside0.mk hs1
 have HB:Aside0 (Below w.heap.size w W1):=⟨by rw [← hW1,← hW0];exact below_new _ hg _⟩
 rw [hW1] at hst
 clear hx0 hb0 h hs1 hW1
 go_enter Tryz.func38,Tryz.ntmps38
 go_wp2
 refine bodyPost_ret (results_cell_row rfl _ _ g 98 (supA s) (0,0) _ rfl HS1.out Tryz.underlying98 rfl sup_size) rfl ?_
 exact ⟨rfl,HB.out⟩
def stC (x n f t:Int) (g:Nat):Array Value:=#[.int .i64 x,.int .i64 n,.int .i64 t,.int .i64 f,.int .u64 (g:Int)]
def loadStI (p:Value):Sem Value:=Instr.loadAt 39 p
theorem loadSt_eq (p:Value):Instr.loadAt 39 p=loadStI p:=rfl
def storeStI (p v:Value):Sem Unit:=Instr.storeAt 39 p v
theorem storeSt_eq (p v:Value):Instr.storeAt 39 p v=storeStI p v:=rfl
theorem st_size [Inhabited Sanct]:(Tryz.prog.info? 39).map (·.size)=some 5:=by kernel_rfl
theorem st_st [Inhabited Sanct] {W:World} {g:Nat} {cs:Array Value} (x n f t:Int) (k:Nat) (h:W.heap[g]?=some (Obj.cells cs 39)) (hs:cs.size=5):(storeStI (.pointer (some ⟨g,0,none⟩)) (.agg #[.int .i64 x,.int .i64 n,.int .i64 t,.int .i64 f,.int .u64 (k:Int)])).run Tryz.prog W = .ok () (W.setRow g (stC x n f t k)):=by
 have:=run_storeVar_row (P:=Tryz.prog) W g 39 39 cs (stC x n f t k) h st_size hs (by simp [stC,Value.oneCell'])
 simp only [storeStI,Instr.storeAt,Instr.sureAddr,Sem.run_bind,Sem.run_pure,Result.andThen_ok]
 exact this
theorem ld_st [Inhabited Sanct] {W:World} {g:Nat} {x n f t:Int} {k:Nat} (h:W.heap[g]?=some (Obj.cells (stC x n f t k) 39)):(loadStI (.pointer (some ⟨g,0,none⟩))).run Tryz.prog W = .ok (.agg (stC x n f t k)) W:=by
 have:=run_loadAt_mid (P:=Tryz.prog) W g 0 39 (stC x n f t k).toList _ (blk_range h) Tryz.underlying39 rfl st_size
 exact this
end
section
open Go.Shelf
attribute [local go_sem] Oper.semAt_some
attribute [local go_sem ↓] Go.wp_at_zero Go.wp_at_succ loadKey_eq loadEn_eq storeKey_eq storeEn_eq loadNd_eq storeNd_eq loadMap_eq storeMap_eq loadTab_eq storePg_eq loadRt_eq storeRt_eq loadSup_eq storeSup_eq loadSt_eq storeSt_eq
theorem leaf_cut3 {M:World→Nat→Int→Prop} {G:Prop} (F:World→Nat→Int→Prop) (h:(∀ W g a,F W g a→M W g a)→G) (k:∀ W g a,F W g a→M W g a):G:=h k
theorem wp_calm {P:Program} {c:Code} {a:Act} {w:World} {K:Act→World→Prop} {Q:Exit→Act→World→Prop} (h:c.wp P (Exit.then K (fun _ _ _=>False)) a w):c.wp P (Exit.then K Q) a w:=
 Code.wp_mono (fun e a w h=>by cases e<;>first | exact h | exact h.elim) h
def zSt:Array Value:=#[.int .i64 0,.int .i64 0,.int .i64 0,.int .i64 0,.int .u64 0]
structure BkO (ob:Nat) (W:World) (g:Nat) (cs:Array Value) (t:TypeId):Prop where
 b:W.heap[g]?=some (Obj.cells cs t)
 n:¬ Ow ob W g
theorem BkO.kp [Inhabited Sanct] {ob g:Nat} {cs:Array Value} {t:TypeId} {T:List Nat} {A B:World} (h:BkO ob A g cs t) (hk:KpT T ob A B) (ht:t ∉ T):BkO ob B g cs t:=by
 obtain ⟨h1,h2⟩:=hk.k g _ _ _ h.b ht h.n
 exact ⟨h1,h2⟩
theorem ow_five {ob:Nat} {W:World} {x n f t:Int} {k:Nat} (h:W.heap[ob]?=some (Obj.cells (stC x n f t k) 39)) (i:Nat) (hi:Ow ob W i):i=ob:=by
 rcases hi with hi | ⟨v,t2,fr,h1,_⟩
 ·exact hi
 ·rw [h] at h1
  injection h1 with h1
  injection h1 with h1 _ _
  simp [stC] at h1
theorem ob_five {ob:Nat} {W:World} {x n f t:Int} {k:Nat} {T:List Nat} (h:W.heap[ob]?=some (Obj.cells (stC x n f t k) 39)) (hT:39 ∉ T):Ob T ob W:=⟨⟨_,_,_,h,hT⟩,fun i hi=>by rw [ow_five h i hi];exact blk_lt h⟩
theorem kp_five [Inhabited Sanct] {ob:Nat} {A:World} {x n f t x' n' f' t':Int} {k k':Nat} {B:World} (h:A.heap[ob]?=some (Obj.cells (stC x n f t k) 39)) (h2:B.heap[ob]?=some (Obj.cells (stC x' n' f' t' k') 39)) (hs:A.heap.size≤B.heap.size) (hk:∀ i,i≠ob → ∀ o,A.heap[i]?=some o→B.heap[i]?=some o):KpT [] ob A B:=
 ⟨hs,fun i cs t fr h3 _ h4=>by
  have hne:i≠ob:=fun e=>h4 (Or.inl e)
  exact ⟨hk i hne _ h3,fun e=>hne (ow_five h2 i e)⟩⟩
theorem stat_in [Inhabited Sanct] {Ch:Ky→Nat→List Int→Prop} {w:World} {s b d N:Nat} {es:List En} (h:StOk Ch w s b d N es) (hl:es.length≤90) :
  CallsIn Fence.wide 20 Tryz.prog 11 #[.pointer (some ⟨s,0,none⟩)] w fun r w'=>∃ (x f t:Int) (g:Nat),r = .returned (.tuple #[.agg (stC x (es.length:Int) f t g),.int .i64 0])∧FrT wT w w':=by
 obtain ⟨g2,hg2⟩:∃ q,w.heap.size=q:=⟨_,rfl⟩
 obtain ⟨Wa,hWa⟩:∃ W,w.alloc (Obj.cells #[.int .i64 0,.int .i64 0,.int .i64 0,.int .i64 0,.int .u64 0] 39)=W:=⟨_,rfl⟩
 obtain ⟨g3,hg3⟩:∃ q,Wa.heap.size=q:=⟨_,rfl⟩
 obtain ⟨W0,hW0⟩:∃ W,Wa.alloc (Obj.cells #[.int .i64 0] 23)=W:=⟨_,rfl⟩
 have hba:Below w.heap.size w Wa:=by rw [← hWa];exact below_alloc (Below.refl _ _) _
 have hb0:Below w.heap.size w W0:=by rw [← hW0];exact below_alloc hba _
 have hx2:W0.heap[g2]?=some (Obj.cells zSt 39):=by rw [← hW0,← hWa];exact blk_alloc (newb hg2) _
 have hx3:W0.heap[g3]?=some (Obj.cells #[.int .i64 0] 23):=by rw [← hW0];exact newb hg3
 have h0:=h.below hb0
 have HSR:=Aside0.mk (series_calls h0 hl)
 have HX:=Aside0.mk (And.intro hx2 (And.intro hx3 (And.intro h0 hl)))
 have HG:Aside0 (g2≠g3):=⟨by rw [← hg2,← hg3,← hWa];simp⟩
 have HB0:Aside0 (Below w.heap.size w W0∧w.heap.size≤g2∧w.heap.size≤g3):=⟨hb0,by omega,by have:=hba.size;omega⟩
 clear hba hb0 hx2 hx3 h0 h hl
 refine callsIn_of_wp_marks Tryz.func11 rfl trivial ?_ rfl
 simp only [Tryz.ntmps11,List.size_toArray,List.length_cons,List.length_nil,Nat.reduceAdd,Nat.reduceSub,Array.replicate_succ,Array.replicate_zero,List.push_toArray,List.append_toArray,List.nil_append,List.cons_append]
 refine wpIn_wide.2 ?_
 go_wp2_with (go_at_call 36;(with_reducible refine HSR.out.mono ?_);rintro r w1 ⟨⟨A,n,c,rfl⟩,hf⟩;refine hold ?_)
 unfold Hold
 have y2:=hf.blk HX.out.1 (by decide)
 have y3:=hf.blk HX.out.2.1 (by decide)
 obtain ⟨hst,sp,m,v,f,ps,H⟩:=HX.out.2.2.1
 have hst1:StoAt w1 s b:=hf.blk hst (by decide)
 have hba1:BaseAt w1 b d N sp m v false false:=hf.blk H.ba (by decide)
 have HPO:Aside0 (∀ W,Below w1.heap.size w1 W→StoAt W s b):=⟨fun W hW=>blkb hW hst1⟩
 have HFR:Aside0 (∀ W,Below w1.heap.size w1 W→Calls Tryz.prog 37 #[.pointer (some ⟨b,0,none⟩)] W fun r w'=>∃ z:Int,r = .returned (.int .i64 z)∧Below W.heap.size W w'):=⟨fun W hW=>bfree_calls (show BaseAt W b d N sp m v false false from blkb hW hba1) H.mm⟩
 have HSU:Aside0 (∀ W,Below w1.heap.size w1 W→Calls Tryz.prog 38 #[.pointer (some ⟨b,0,none⟩)] W fun r w'=>r = .returned (.agg #[.int .u64 (sp.gen:Int),.int .i64 (sp.ra:Int),.int .i64 (sp.rh:Int),.int .i64 (sp.bm:Int),.int .i64 (sp.N:Int)])∧Below W.heap.size W w'):=⟨fun W hW=>bsuper_calls (show BaseAt W b d N sp m v false false from blkb hW hba1)⟩
 have hsc:=fun W=>sto_cell (s:=s) (b:=b) W
 have hfd:∀ W:World,(Instr.field 98 (.agg #[.int .u64 (sp.gen:Int),.int .i64 (sp.ra:Int),.int .i64 (sp.rh:Int),.int .i64 (sp.bm:Int),.int .i64 (sp.N:Int)]) 0).run Tryz.prog W = .ok (.int .u64 (sp.gen:Int)) W:=fun _=>by kernel_rfl
 have HF:=Aside0.mk hf
 have HY:=Aside0.mk (And.intro y2 y3)
 have HH:=Aside0.mk H
 have hS:Bx w1 39 zSt w1.drew none:=Bx.start _ _ _
 clear y2 y3 hst hst1 hba1 H hf hW0 hWa hg2 hg3 HSR
 unfold zSt at hS
 go_wp2
 apply leaf_cut3 (fun W g z=>W.heap[g]?=some (Obj.cells (stC (n:Int) 0 z 0 sp.gen) 39)∧w1.heap.size≤g∧Below w1.heap.size w1 W)
 ·intro hkey
  refine wp_calm ?_
  refine start_ (n:=16) (S:=fun w'=>StoAt w' s b) (ds:=[15]) (fbB 16 0) (by kernel_rfl) rfl rfl (HPO.out _ hS.f) (fun hHeld=>?_)
  obtain ⟨wt,hwt⟩:∃ W,w1.drew=W:=⟨_,rfl⟩
  rw [hwt] at hHeld hS ⊢
  clear hwt
  refine puR 0 18 (fbB 16 1) (h:=?_)
  refine puR 1 19 (fbB 16 3) (h:=?_)
  refine puR 2 20 (fbB 16 7) (h:=?_)
  refine puR 3 21 (fbB 16 15) (h:=?_)
  refine puR 4 22 (fbB 16 31) (h:=?_)
  refine tkR 5 23 (fbB 16 63) hHeld (h:=?_)
  refine puR 7 25 (fbB 16 191) (h:=?_)
  refine puR 8 26 (fbB 16 447) (h:=?_)
  refine puR 9 27 (fbB 16 959) (h:=?_)
  refine tkR 10 28 (fbB 16 1983) hHeld (h:=?_)
  refine two_ (i:=6) (j:=14) (Ni:=some 24) (Nj:=some 6) (fbB 16 2047) (fbB 16 18367) rfl rfl rfl rfl (by kernel_rfl) (by simp) (by simp) (fun K hK=>?_) (fun K hK=>?_)
  refine goes_ Tryz.func37 (by kernel_rfl) rfl #[.pointer (some ⟨b,0,none⟩)] (by rfl) rfl rfl (by simp [Act.eval]) ?_
  (with_reducible refine (HFR.out _ hS.f).mono ?_)
  rintro r w6 ⟨z,rfl,hb⟩
  replace hS:=hS.below hb
  clear hb
  refine ⟨_,rfl,hK.out _ _ (HPO.out _ hS.f) (fun hHeld=>?_)⟩
  refine nmR (h:=?_)
  refine two_ (i:=11) (j:=14) (Ni:=some 29) (Nj:=some 6) (fbB 16 4095) (fbB 16 18431) rfl rfl rfl rfl (by kernel_rfl) (by simp) (by simp) (fun K hK=>?_) (fun K hK=>?_)
  refine goes_ Tryz.func38 (by kernel_rfl) rfl #[.pointer (some ⟨b,0,none⟩)] (by rfl) rfl rfl (by simp [Act.eval]) ?_
  (with_reducible refine (HSU.out _ hS.f).mono ?_)
  rintro r w6 ⟨rfl,hb⟩
  replace hS:=hS.below hb
  clear hb
  refine ⟨_,rfl,hK.out _ _ (HPO.out _ hS.f) (fun hHeld=>?_)⟩
  refine nmR (h:=?_)
  refine puR 12 30 (fbB 16 8191) (h:=?_)
  refine puR 13 31 (fbB 16 16383) (h:=?_)
  refine one_ (i:=14) (N:=some 6) (fbB 16 32767) rfl rfl (by kernel_rfl) (by simp) (fun K hK=>?_)
  go_simp
  replace hS:=hS.alloc
  refine hK.out _ _ (HPO.out _ hS.f) (fun hHeld=>?_)
  have hst:=st_st (n:Int) 0 z 0 sp.gen (hS.x _ rfl).1 rfl
  refine last_ (i:=15) (N:=none) (fbB 16 65535) rfl rfl (by kernel_rfl) (by simp) (fun K hK=>?_)
  go_simp
  refine hK.out _ _ ?_
  replace hS:=hS.store (stC (n:Int) 0 z 0 sp.gen)
  clear hst
  refine done_ (by kernel_rfl) ?_
  rotate_left
  go_simp
  replace hS:=hS.alloc
  refine hK.out _ _ (HPO.out _ hS.f) (fun hHeld=>?_)
  refine one_ (i:=11) (N:=some 29) (fbB 16 20479) rfl rfl (by kernel_rfl) (by simp) (fun K hK=>?_)
  refine goes_ Tryz.func38 (by kernel_rfl) rfl #[.pointer (some ⟨b,0,none⟩)] (by rfl) rfl rfl (by simp [Act.eval]) ?_
  (with_reducible refine (HSU.out _ hS.f).mono ?_)
  rintro r w6 ⟨rfl,hb⟩
  replace hS:=hS.below hb
  clear hb
  refine ⟨_,rfl,hK.out _ _ (HPO.out _ hS.f) (fun hHeld=>?_)⟩
  refine nmR (h:=?_)
  refine puR 12 30 (fbB 16 24575) (h:=?_)
  refine puR 13 31 (fbB 16 32767) (h:=?_)
  have hst:=st_st (n:Int) 0 z 0 sp.gen (hS.x _ rfl).1 rfl
  refine last_ (i:=15) (N:=none) (fbB 16 65535) rfl rfl (by kernel_rfl) (by simp) (fun K hK=>?_)
  go_simp
  refine hK.out _ _ ?_
  replace hS:=hS.store (stC (n:Int) 0 z 0 sp.gen)
  clear hst
  refine done_ (by kernel_rfl) ?_
  rotate_left
  go_simp
  replace hS:=hS.alloc
  refine hK.out _ _ (HPO.out _ hS.f) (fun hHeld=>?_)
  refine one_ (i:=6) (N:=some 24) (fbB 16 18431) rfl rfl (by kernel_rfl) (by simp) (fun K hK=>?_)
  refine goes_ Tryz.func37 (by kernel_rfl) rfl #[.pointer (some ⟨b,0,none⟩)] (by rfl) rfl rfl (by simp [Act.eval]) ?_
  (with_reducible refine (HFR.out _ hS.f).mono ?_)
  rintro r w6 ⟨z,rfl,hb⟩
  replace hS:=hS.below hb
  clear hb
  refine ⟨_,rfl,hK.out _ _ (HPO.out _ hS.f) (fun hHeld=>?_)⟩
  refine nmR (h:=?_)
  refine one_ (i:=11) (N:=some 29) (fbB 16 20479) rfl rfl (by kernel_rfl) (by simp) (fun K hK=>?_)
  refine goes_ Tryz.func38 (by kernel_rfl) rfl #[.pointer (some ⟨b,0,none⟩)] (by rfl) rfl rfl (by simp [Act.eval]) ?_
  (with_reducible refine (HSU.out _ hS.f).mono ?_)
  rintro r w6 ⟨rfl,hb⟩
  replace hS:=hS.below hb
  clear hb
  refine ⟨_,rfl,hK.out _ _ (HPO.out _ hS.f) (fun hHeld=>?_)⟩
  refine nmR (h:=?_)
  refine puR 12 30 (fbB 16 24575) (h:=?_)
  refine puR 13 31 (fbB 16 32767) (h:=?_)
  have hst:=st_st (n:Int) 0 z 0 sp.gen (hS.x _ rfl).1 rfl
  refine last_ (i:=15) (N:=none) (fbB 16 65535) rfl rfl (by kernel_rfl) (by simp) (fun K hK=>?_)
  go_simp
  refine hK.out _ _ ?_
  replace hS:=hS.store (stC (n:Int) 0 z 0 sp.gen)
  clear hst
  refine done_ (by kernel_rfl) ?_
  rotate_left
  all_goals
   clear hHeld hK
   obtain ⟨W6,g6,hW6,hg6,hL⟩:=hS.name
   rw [← hW6,← hg6]
   exact hkey W6 g6 z ⟨(hL.x _ rfl).1,(hL.x _ rfl).2,hL.f⟩
 ·rintro W6 gO z6 ⟨hx6,hg6,hb6⟩
  have hc6:=(hsc W6 (HPO.out W6 hb6)).1
  have HBE:=Aside0.mk (bentries_calls (w:=W6) b)
  have hbO:Ob wT gO W6:=ob_five hx6 (by decide)
  have hlt:=blk_lt hx6
  have z2:BkO gO W6 g2 zSt 39:=⟨blkb hb6 HY.out.1,fun e=>by have e1:=ow_five hx6 _ e;have:=blk_lt HY.out.1;omega⟩
  have z3:BkO gO W6 g3 #[.int .i64 0] 23:=⟨blkb hb6 HY.out.2,fun e=>by have e1:=ow_five hx6 _ e;have:=blk_lt HY.out.2;omega⟩
  have HX6:=Aside0.mk (And.intro hx6 (And.intro hg6 (And.intro hb6 (And.intro hbO (And.intro z2 z3)))))
  clear hx6 hg6 hb6 hbO hlt z2 z3 hS HPO HFR HSU hfd hsc
  go_wp2_with (go_at_call 33;(with_reducible refine HBE.out.mono ?_);rintro r w4 ⟨gb,rfl,hgb,hgbs,hb4⟩;refine hold ?_)
  unfold Hold
  obtain ⟨x1,x2,x3,x4,x5,x6⟩:=HX6.out
  have hf4:FrT wT W0 w4:=(HF.out.below x3).below hb4
  have hO4:=blkb hb4 x1
  have hbO4:Ob wT gO w4:=x4.frT (FrT.of_below hb4 wT)
  have hk4:=x4.kp (FrT.of_below hb4 wT)
  have hgbn:¬ Ow gO w4 gb:=x4.new (FrT.of_below hb4 wT) hgbs
  have hlt:=blk_lt x1
  have hW0s:W0.heap.size≤gO:=Nat.le_trans HF.out.size x2
  have y2:=x5.kp hk4 (by decide)
  have y3:=x6.kp hk4 (by decide)
  clear hc6 HBE hk4 x1 x2 x3 x4 x5 x6 HY HX6
  go_wp2
  refine (wpIn_wide (n:=20)).1 ?_
  refine rf_law (F:=Fence.wide) (n:=20) rfl (by decide) (gf:=70) (lb:=#[.pointer (some ⟨gb,0,none⟩)]) rfl trivial (enters_of Tryz.func70 (by kernel_rfl) rfl)
   (bseq (n:=19) (Iv:=fun W=>IvB gO b d N sp m v f W) ⟨hgb,hgbn⟩ hbO4 HH.out.mm.len HH.out.tr (fun p hp=>(HH.out.us.b p (List.mem_append_left _ hp)).2) HX.out.2.2.2 (fun _ h=>h))
   (fun h k=>KpT.trans h k) ?kb (Below.refl _ _) (fun _=>rfl)
   (fun pre W=>FrT wT W0 W∧BkO gO W g2 zSt 39∧BkO gO W g3 #[.int .i64 0] 23 ∧ ∃ t:Int,W.heap[gO]?=some (Obj.cells (stC (n:Int) (pre.length:Int) z6 t sp.gen) 39))
   ?own ?abt (fun pre A h=>by obtain ⟨h1,-,-,t,h2⟩:=h;exact HH.out.iv h1 (ob_five h2 (by decide)) HX.out.2.2.2) ⟨hf4,y2,y3,0,hO4⟩
   (fun x a' W=>∃ gx,EnAt W gx x∧a' = { tmps:=#[.pointer (some ⟨s,0,none⟩),undef,.pointer (some ⟨g2,0,none⟩),.pointer (some ⟨g3,0,none⟩),.slice A n c,.int .i64 0,.pointer (some ⟨gO,0,none⟩),.pointer (some ⟨gx,0,none⟩),.int .i64 0,.tuple #[.slice A n c,.int .i64 0],.pointer (some ⟨s,0,none⟩),.tuple #[.slice A n c,.int .i64 0],.slice A n c,.int .i64 0,.int .i64 0,.bool false,undef,undef,.slice A n c,.int .i64 (n:Int),.pointer (some ⟨s,0,none⟩),.pointer (some ⟨s,0,none⟩),.pointer (some ⟨s,0,none⟩),.pointer (some ⟨b,0,none⟩),.int .i64 z6,.pointer (some ⟨s,0,none⟩),.pointer (some ⟨s,0,none⟩),.pointer (some ⟨s,0,none⟩),.pointer (some ⟨b,0,none⟩),.agg #[.int .u64 (sp.gen:Int),.int .i64 (sp.ra:Int),.int .i64 (sp.rh:Int),.int .i64 (sp.bm:Int),.int .i64 (sp.N:Int)],.int .u64 (sp.gen:Int),.agg #[.int .i64 (n:Int),.int .i64 0,.int .i64 0,.int .i64 z6,.int .u64 (sp.gen:Int)],.pointer (some ⟨s,0,none⟩),.pointer (some ⟨s,0,none⟩),.pointer (some ⟨s,0,none⟩),.pointer (some ⟨b,0,none⟩),.func (.func 70) #[] #[.pointer (some ⟨gb,0,none⟩)],.agg (enA x),.int .i64 0,undef,undef,undef,undef,undef,undef,undef,undef,undef,undef,undef,undef,undef,undef,undef],defers:=[] })
   ?ax ?assign ?body ?done
  case kb=>
   intro W2 l2 o o' hl2 hW2 ho hw
   exact Ob.put (by have:=hbO4.lt;omega) hW2 ho
  case own=>
   rintro pre X Y row ⟨h1,h2,h3,t,h4⟩ hg hr
   have hr1:∀ r,row=some r → ∃ o:Obj,X.heap[r]?=some o∧o.isCells=false:=fun r e=>(hr r e).2
   exact ⟨h1.slot hg (fun r e=>by have:=(hr r e).1;have:=hf4.size;omega),⟨slot_cells hg hr1 h2.b,fun e=>h2.n ((Ow.grown hg hr1 ⟨_,_,_,h4⟩ _).1 e)⟩,⟨slot_cells hg hr1 h3.b,fun e=>h3.n ((Ow.grown hg hr1 ⟨_,_,_,h4⟩ _).1 e)⟩,t,slot_cells hg hr1 h4⟩
  case abt=>
   rintro pre X Y ⟨h1,h2,h3,t,h4⟩ hf
   have hk:=(ob_five (T:=wT) h4 (by decide)).kp hf
   exact ⟨h1.trans hf,h2.kp hk (by decide),h3.kp hk (by decide),t,hf.blk h4 (by decide)⟩
  case ax=>
   rintro x a'-X Y row ⟨gx,h1,h2⟩ hg hr
   exact ⟨gx,slot_cells hg (fun r e=>(hr r e).2) h1,h2⟩
  case assign=>
   rintro l2 pre x W2 K ⟨h1,h2,h3,t,h4⟩ hK
   have hst:=st_en x W2
   obtain ⟨gx,hgx⟩:∃ q,W2.heap.size=q:=⟨_,rfl⟩
   obtain ⟨W3,hW3⟩:∃ W,W2.alloc (Obj.cells (enA x) 89)=W:=⟨_,rfl⟩
   have hbW:Below W2.heap.size W2 W3:=by rw [← hW3];exact below_alloc (Below.refl _ _) _
   have hxW:EnAt W3 gx x:=by rw [← hW3];exact en_new x hgx
   have hK':=Aside0.mk hK
   have HI:=Aside0.mk (And.intro hbW (And.intro hxW (And.intro h1 (And.intro h2 (And.intro h3 h4)))))
   rw [hgx,hW3] at hst
   clear hK h1 h2 h3 h4 hbW hxW
   simp only [encN]
   gi_wp2
   obtain ⟨i1,i2,i3,i4,i5,i6⟩:=HI.out
   have hk:=(ob_five (T:=[]) i6 (by simp)).kp (FrT.of_below i1 [])
   exact hK'.out _ W3 ((FrT.of_below i1 []).keeps _) hk ⟨i3.below i1,i4.kp hk (by simp),i5.kp hk (by simp),t,blkb i1 i6⟩ ⟨gx,i2,rfl⟩
  case body=>
   rintro l2 pre x a' W2 ⟨h1,h2,h3,t,h4⟩ ⟨gx,hx,rfl⟩ hp
   have hpl:pre.length+1≤90:=by have:=hp.length_le;rw [List.length_append] at this;have:=HX.out.2.2.2;simp at *;omega
   obtain ⟨k,hk⟩:∃ k:Int,(pre.length:Int)=k:=⟨_,rfl⟩
   rw [hk] at h4
   have e1:wrap64 (k+1)=k+1:=wrap64_id (by omega) (by omega)
   have e2:IntKind.i64.wrap (k+1)=k+1:=(i64_w _).trans e1
   obtain ⟨t2,ht2⟩:∃ z,wrap64 (t+(x.n:Int))=z:=⟨_,rfl⟩
   have e3:IntKind.i64.wrap (t+(x.n:Int))=t2:=(i64_w _).trans ht2
   have c1:=blk_cell h4 1
   have f1:=blk_frozen h4 1
   have hne:gx≠gO:=fun e=>by rw [e] at hx;rw [EnAt,h4] at hx;injection hx with hx;injection hx with _ hx _;revert hx;decide
   have b4:=blk_set h4 1 (.int .i64 (k+1))
   obtain ⟨W3,hW3⟩:∃ W,W2.setCell ⟨gO,1,none⟩ (.int .i64 (k+1))=W:=⟨_,rfl⟩
   have hx3:EnAt W3 gx x:=by rw [← hW3];exact blk_far hx (p:=⟨gO,1,none⟩) (by exact hne) _
   rw [hW3] at b4
   have c2:=blk_cell b4 2
   have f2:=blk_frozen b4 2
   have cx:=(en_cell W3 hx3).2.2.2.2.2.1
   have cx4:=(en_cell W3 hx3).2.2.2.2.1
   have b5:=blk_set b4 2 (.int .i64 t2)
   simp only [stC,List.getElem?_toArray,List.getElem?_cons_zero,List.getElem?_cons_succ,List.setIfInBounds_toArray,List.set_cons_zero,List.set_cons_succ] at c1 c2 b5
   have HI:=Aside0.mk (And.intro h1 (And.intro h2 (And.intro h3 (And.intro h4 (And.intro b5 hk)))))
   have HW3:=Aside0.mk hW3
   clear h1 h2 h3 h4 hx hp hk b4 hx3 b5 hpl hne
   gi_wp2
   obtain ⟨i1,i2,i3,i4,i5,i6⟩:=HI.out
   have hsz:W2.heap.size≤(W3.setCell ⟨gO,2,none⟩ (.int .i64 t2)).heap.size:=by rw [← HW3.out];simp [World.setCell]
   have hoth:∀ i,i≠gO → ∀ o,W2.heap[i]?=some o→(W3.setCell ⟨gO,2,none⟩ (.int .i64 t2)).heap[i]?=some o:=fun i hi o ho=>(Below.heap_setCell _ _ _ _ (by exact hi)).trans (by rw [← HW3.out];exact (Below.heap_setCell _ _ _ _ (by exact hi)).trans ho)
   have i5':(W3.setCell ⟨gO,2,none⟩ (.int .i64 t2)).heap[gO]?=some (Obj.cells (stC (n:Int) (k+1) z6 t2 sp.gen) 39):=i5
   have hkp:=kp_five i4 i5' hsz hoth
   refine ⟨?_,hkp,?_,i2.kp hkp (by simp),i3.kp hkp (by simp),t2,?_⟩
   ·have h1:=(KeepsOthers.setCell W2 ⟨gO,1,none⟩ (.int .i64 (k+1))).from w4.heap.size
    rw [HW3.out] at h1
    exact h1.trans ((KeepsOthers.setCell W3 ⟨gO,2,none⟩ (.int .i64 t2)).from _)
   ·have h1:=i1.setNew hW0s 1 (.int .i64 (k+1))
    rw [HW3.out] at h1
    exact h1.setNew hW0s 2 _
   ·rw [i5']
    simp only [List.length_append,List.length_cons,List.length_nil]
    rw [show ((pre.length+(0+1):Nat):Int)=k+1 by omega]
  case done=>
   rintro D W2 hD ⟨h1,h2,h3,t,h4⟩ hK
   obtain ⟨k,hk⟩:∃ k:Int,(es.length:Int)=k:=⟨_,rfl⟩
   rw [hk] at h4
   have hl:=ld_st h4
   have hst:=st_st (n:Int) k z6 t sp.gen h2.b rfl
   have b2:(W2.setRow g2 (stC (n:Int) k z6 t sp.gen)).heap[g2]?=some (Obj.cells (stC (n:Int) k z6 t sp.gen) 39):=setRow_heap _ _ _ _ _ _ h2.b
   obtain ⟨W3,hW3⟩:∃ W,W2.setRow g2 (stC (n:Int) k z6 t sp.gen)=W:=⟨_,rfl⟩
   have b3:W3.heap[g3]?=some (Obj.cells #[.int .i64 0] 23):=by rw [← hW3];exact (setRow_other _ _ _ _ (by exact HG.out.symm)).trans h3.b
   have k3:W3.heap[D]?=some (.deferred (some [])):=by rw [← hW3];exact (setRow_other _ _ _ _ (fun e=>by first | (rw [e,h2.b] at hK;cases hK) | (rw [← e,h2.b] at hK;cases hK))).trans hK
   have hf3:FrT wT w W3:=by rw [← hW3];exact ((FrT.of_below HB0.out.1 wT).trans h1).setRowNew HB0.out.2.1 _
   rw [hW3] at hst b2
   have j3:=blk_cell b3 0
   have m3:=blk_frozen b3 0
   simp only [List.getElem?_toArray,List.getElem?_cons_zero,List.getElem?_cons_succ] at j3
   have b2':=blk_far b2 (p:=⟨g3,0,none⟩) (by exact HG.out) (.int .i64 0)
   have b3':=blk_set b3 0 (.int .i64 0)
   have hK4:=(KeepsOthers.setCell W3 ⟨g3,0,none⟩ (.int .i64 0)).same D _ k3 rfl
   have hf4':=hf3.setNew (g:=g3) HB0.out.2.2 0 (.int .i64 0)
   have HB:=Aside0.mk (And.intro b2' (And.intro b3' (And.intro hK4 (And.intro hk hf4'))))
   clear h1 h2 h3 h4 hK b2 b3 k3 b2' b3' hK4 hk hW3 hf3 hf4'
   unfold stC at hl
   go_wp2
   obtain ⟨b2',b3',hK4,hk,hf4'⟩:=HB.out
   have hD2:∀ (g:Nat) (cs:Array Value) (t:TypeId) (fr:Nat×Nat) (W:World),W.heap[D]?=some (.deferred (some []))→W.heap[g]?=some (Obj.cells cs t fr)→(W.putObj D (.deferred none)).heap[g]?=some (Obj.cells cs t fr):=fun g cs t fr W e1 e2=>(World.putObj_heap_other (fun e=>by rw [e,e1] at e2;cases e2)).trans e2
   have q2:=hD2 _ _ _ _ _ hK4 b2'
   have q3:=blk_cell (hD2 _ _ _ _ _ hK4 b3') 0
   refine ⟨by simp,.inl ⟨_,_,rfl,run_takeDeferred hK4,?_⟩⟩
   refine ⟨.tuple #[.agg (stC (n:Int) k z6 t sp.gen),.int .i64 0],?_,n,z6,t,sp.gen,by rw [hk],hf4'.slot (grownBy_putObj' _ D (.deferred none)) (fun k e=>by cases e;have:=hf4.size;have:=HB0.out.1.size;omega)⟩
   obtain ⟨W5,hW5⟩:∃ W,(W3.setCell ⟨g3,0,none⟩ (.int .i64 0)).putObj D (.deferred none)=W:=⟨_,rfl⟩
   rw [hW5] at q2 q3 ⊢
   have r0:=blk_cell q2 0
   have r1:=blk_cell q2 1
   have r2:=blk_cell q2 2
   have r3:=blk_cell q2 3
   have r4:=blk_cell q2 4
   simp only [stC,List.getElem?_toArray,List.getElem?_cons_zero,List.getElem?_cons_succ] at r0 r1 r2 r3 r4
   have q3':W5.cell? ⟨g3,0,none⟩=some (.int .i64 0):=q3
   clear q2 q3 hW5 hK4 b2' b3' hf4' hD2 hl hst j3 m3
   simp [results,Tryz.f11,go_sem,r0,r1,r2,r3,r4,q3',stC]
theorem stat_calls [Inhabited Sanct] {Ch:Ky→Nat→List Int→Prop} {w:World} {s b d N:Nat} {es:List En} (h:StOk Ch w s b d N es) (hl:es.length≤90) :
  Calls Tryz.prog 11 #[.pointer (some ⟨s,0,none⟩)] w fun r w'=>∃ (x f t:Int) (g:Nat),r = .returned (.tuple #[.agg (stC x (es.length:Int) f t g),.int .i64 0])∧FrT wT w w':=callsIn_wide.1 (stat_in h hl)
end
section
open Go.Shelf
attribute [local go_sem ↓] Go.wp_at_zero Go.wp_at_succ loadKey_eq loadEn_eq storeKey_eq storeEn_eq loadNd_eq storeNd_eq loadMap_eq storeMap_eq loadTab_eq storePg_eq loadRt_eq storeRt_eq
theorem ranged_calls [Inhabited Sanct] {w:World} (x fz tz:Int) (h0:0≤x) (h1:x≤4294967295) (h2:fz≤tz):Calls Tryz.prog 32 #[.int .i64 x,.int .i64 fz,.int .i64 tz] w fun r w'=>r = .returned (.int .i64 0)∧w=w':=by
 have HK:=Aside0.mk (known_calls (w:=w) x h0 h1)
 have d1:decide (tz<fz)=false:=decide_eq_false (by omega)
 clear h0 h1 h2
 go_enter Tryz.func32,Tryz.ntmps32
 go_wp2_with (go_at_call 43;(with_reducible refine HK.out.mono ?_);rintro r w1 ⟨rfl,rfl⟩)
 go_ret
 exact ⟨rfl,rfl⟩
theorem smeets_calls [Inhabited Sanct] {w:World} (x:En) (sr fz tz:Int) (h1:x.k.a≤tz) (h2:fz≤x.z):Calls Tryz.prog 34 #[.agg (enA x),.int .i64 sr,.int .i64 fz,.int .i64 tz] w fun r w'=>r = .returned (.bool (x.k.s == sr))∧Below w.heap.size w w':=by
 obtain ⟨g,hg⟩:∃ q,w.heap.size=q:=⟨_,rfl⟩
 obtain ⟨W0,hW0⟩:∃ W,w.alloc (Obj.cells (enA x) 89)=W:=⟨_,rfl⟩
 have hB0:Aside0 (Below w.heap.size w W0):=⟨by rw [← hW0];exact below_alloc (Below.refl _ _) _⟩
 obtain ⟨c0,c1,c2,_⟩:=en_cell (g:=g) (e:=x) W0 (by rw [← hW0];exact en_new x hg)
 have d1:decide (x.k.a≤tz)=true:=decide_eq_true h1
 have d2:decide (fz≤x.z)=true:=decide_eq_true h2
 obtain ⟨rb,hrb⟩:∃ b,(x.k.s == sr)=b:=⟨_,rfl⟩
 rw [hrb]
 clear h1 h2
 cases rb
 all_goals
  go_enter Tryz.func34,Tryz.ntmps34
  go_wp2
  go_ret
  exact ⟨rfl,hB0.out⟩
def DecC (sm:Sm) (codec:Nat) (bs:List Int):Prop:=∀ (W:World) (A:Option Addr) (c:Nat),Kd.C (Kd.int .u8) W A bs.length bs→bs.length≤c→Calls Tryz.prog 74 #[.slice A bs.length c] W fun r w'=>∃ A' c',r = .returned (.tuple #[.slice A' 1 c',.int .i64 (codec:Int),.int .i64 0])∧RSm w' A' [sm]∧1≤c'∧Below W.heap.size W w'
theorem samples_calls [Inhabited Sanct] {w:World} {b codec:Nat} {x:En} {sm:Sm} {bs:List Int} (hl:bs.length=x.l) (hc:x.c=codec) (hn:x.n=1) (hk:x.k.a=sm.a) (hz:x.z=sm.a) (hd:DecC sm codec bs)
  (hb:∀ W,Below w.heap.size w W→Calls Tryz.prog 298 #[.pointer (some ⟨b,0,none⟩),.agg (enA x)] W fun r w'=>∃ A,r = .returned (.tuple #[.slice A x.l x.l,.int .i64 0])∧Kd.C (Kd.int .u8) w' A bs.length bs∧Below W.heap.size W w') :
  Calls Tryz.prog 35 #[.iface 68 (.pointer (some ⟨b,0,none⟩)),.agg (enA x)] w fun r w'=>∃ A c,r = .returned (.tuple #[.slice A 1 c,.int .i64 0])∧RSm w' A [sm]∧1≤c∧Below w.heap.size w w':=by
 obtain ⟨g,hg⟩:∃ q,w.heap.size=q:=⟨_,rfl⟩
 obtain ⟨W0,hW0⟩:∃ W,w.alloc (Obj.cells (enA x) 89)=W:=⟨_,rfl⟩
 have hB0:Below w.heap.size w W0:=by rw [← hW0];exact below_alloc (Below.refl _ _) _
 have hX0:EnAt W0 g x:=by rw [← hW0];exact en_new x hg
 have HBY:=Aside0.mk (hb W0 hB0)
 have hle:=ld_en_en W0 hX0
 obtain ⟨L,hL⟩:∃ L,x.l=L:=⟨_,rfl⟩
 rw [hL] at HBY hl
 have HD:=Aside0.mk hd
 have HL:=Aside0.mk hl
 have HX:=Aside0.mk (And.intro hX0 hB0)
 have HC:Aside0 (∀ W,EnAt W g x→W.cell? ⟨g,1,none⟩=some (.int .i64 sm.a)∧W.cell? ⟨g,2,none⟩=some (.int .i64 sm.a)∧W.cell? ⟨g,5,none⟩=some (.int .i64 1)∧W.cell? ⟨g,6,none⟩=some (.int .i64 (codec:Int))):=⟨fun W h=>by
  obtain ⟨_,h1,h2,_,_,h5,h6,_⟩:=en_cell W h
  rw [hk] at h1
  rw [hz] at h2
  rw [hn] at h5
  rw [hc] at h6
  exact ⟨h1,h2,h5,h6⟩⟩
 clear hb hd hB0 hX0 hl hL hc hn hk hz
 go_enter Tryz.func35,Tryz.ntmps35
 go_wp2_with (first
  | (go_at_call 298;(with_reducible refine HBY.out.mono ?_);rintro r w1 ⟨A,rfl,hk1,hb1⟩;have HD1:=HD.out w1 A L hk1 (by have:=HL.out;omega);rw [HL.out] at HD1;have HD1:=Aside0.mk HD1;have HB1:=Aside0.mk hb1;clear hk1 hb1)
  | (go_at_call 74;(with_reducible refine HD1.out.mono ?_);rintro r w2 ⟨A2,c2,rfl,hr2,hc2,hb2⟩;refine hold ?_))
 unfold Hold
 have hB2:=below_step (below_step HX.out.2 HB1.out) hb2
 obtain ⟨gs,os,hA,hcc⟩:=hr2.at_ (j:=0) (x:=sm) rfl
 have hcs:w2.cell? ⟨gs,os,none⟩=some (.int .i64 sm.a):=by have:=hcc 0 _ rfl;simpa using this
 subst hA
 have hX2:EnAt w2 g x:=(HX.out.1.below HB1.out).below hb2
 have hen:=HC.out
 have e0:wrap64 0=0:=wrap64_id (by omega) (by omega)
 have e03:IntKind.i64.wrap 0=0:=by decide
 have d9:(0<(c2:Int))=True:=eq_true (by omega)
 have HR:=Aside0.mk (And.intro hr2 (And.intro hc2 hB2))
 obtain ⟨cz,hcz⟩:∃ z:Int,(codec:Int)=z:=⟨_,rfl⟩
 rw [hcz] at hen ⊢
 clear hr2 hc2 hb2 hB2 hcc HC hle hW0 HD1 HD hcz
 go_wp2
 have h5:EnAt w2.drew g x∧w2.drew.cell? ⟨gs,os,none⟩=some (.int .i64 sm.a):=⟨hX2,hcs⟩
 go_region_held3 (fun w'=>EnAt w' g x∧w'.cell? ⟨gs,os,none⟩=some (.int .i64 sm.a)) (exact h5) (fail)
 go_wp2
 go_ret2
 exact ⟨some ⟨gs,os,none⟩,c2,rfl,HR.out.1.below (below_drew (Below.refl _ _)),HR.out.2.1,below_drew HR.out.2.2⟩
end
end Go.Proofs.YtnhkikebfinejaaGreatDoor.Z
