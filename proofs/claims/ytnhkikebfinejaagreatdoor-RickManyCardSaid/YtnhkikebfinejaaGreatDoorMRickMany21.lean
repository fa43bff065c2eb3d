/- Texts of this claim, laid together. No conditions. -/
import Derived.Test.YtnhkikebfinejaaGreatDoorMRickMany20
import Derived.Test.YtnhkikebfinejaaGreatDoorMRickMany1
import Derived.Test.YtnhkikebfinejaaGreatDoorMRickMany4
set_option linter.unusedVariables false
set_option linter.unusedSimpArgs false
set_option maxRecDepth 100000
set_option maxHeartbeats 16000000
namespace Go.Proofs.YtnhkikebfinejaaGreatDoor.Z
open Go Go.RowKit Go.Proofs.YtnhkikebfinejaaGreatDoorW.PrintWords Go.Proofs.YtnhkikebfinejaaGreatDoorW.PrintLast Go.Proofs.YtnhkikebfinejaaGreatDoorW.PrintMore Go.Proofs.YtnhkikebfinejaaGreatDoor.S Go.Proofs.YtnhkikebfinejaaGreatDoor.X
section
attribute [local go_sem ↓] Go.wp_at_zero Go.wp_at_succ loadKey_eq loadEn_eq storeKey_eq storeEn_eq loadNd_eq storeNd_eq loadMap_eq storeMap_eq loadTab_eq storePg_eq loadRt_eq storeRt_eq eqKy_eq
theorem ViewAt.setE [Inhabited Sanct] {w W:World} {v d N gen:Nat} {m o:List Bool} (h:ViewAt w v d N gen m o) (hf:FrT [89] w W):ViewAt W v d N gen m o:=hf.blk h (by decide)
theorem put_calls [Inhabited Sanct] {w:World} {t b v d N gen nw k:Nat} {s:Sup} {m mV:List Bool} {vB:Nat} {op:Bool} {f:Nat→List Int} {a q:Int} {es:List En} {x:En} {A:Option Addr} {n c bR:Nat} {bs:List Int}
  (hb:BaseAt w b d N s m vB op false) (ht:TxnAt w t b v a q false) (hv:VS w v d N gen nw mV m f (k+1)) (hn:bs.length=n) (h1:1≤n) (h2:n≤256) (hr:Kd.R (Kd.int .u8) 5 w bR (fun _=>True) (.slice A n c) bs) (hbs:Bs bs)
  (hx:EnOk { x with p:=2,l:=n,x:=crcSum bs }) (hl:es.length≤100000) (hne:∀ y∈es,y.k≠x.k) (hme:∀ y∈es,meetB x y=false)
  (hall:∀ W,Below w.heap.size w W→Calls Tryz.prog 126 #[.pointer (some ⟨v,0,none⟩),.agg #[.int .i64 a,.int .i64 q]] W fun r w'=>∃ vo,r = .returned (.tuple #[vo,.int .i64 0])∧kE.R 89 w' W.heap.size (fun _=>True) vo es∧Below W.heap.size W w')
  {Post:Nat→Int→Int→World→Prop}
  (hins:∀ (W:World) (p:Nat),p+1≤N→FreeRun mV m p 1→VS W v d N gen (nw+4) (setN true mV p 1) m (raws f p bs) k→FrT vT w W→Calls Tryz.prog 116 #[.pointer (some ⟨v,0,none⟩),.agg #[.int .i64 a,.int .i64 q],.agg (enA { x with p:=p,l:=n,x:=crcSum bs })] W fun r w'=>∃ a' q':Int,r = .returned (.tuple #[.agg #[.int .i64 a',.int .i64 q'],.int .i64 0])∧Post p a' q' w'∧FrT vT W w') (gt:sB≤t:=by assumption) :
  Calls Tryz.prog 69 #[.pointer (some ⟨t,0,none⟩),.agg (enA x),.slice A n c] w fun r w'=>r = .returned (.int .i64 0) ∧ ∃ (p:Nat) (a' q':Int) (wI:World),Post p a' q' wI∧FrT [198,96] wI w'∧TxnAt w' t b v a' q' false∧BaseAt w' b d N s m vB op false∧FrT (198 :: vT) w w':=by
 obtain ⟨gx,hgx⟩:∃ q,w.heap.size=q:=⟨_,rfl⟩
 obtain ⟨W0,hW0⟩:∃ W,w.alloc (Obj.cells (enA x) 89)=W:=⟨_,rfl⟩
 have hB0:Below w.heap.size w W0:=by rw [← hW0];exact below_alloc (Below.refl _ _) _
 have hX0:EnAt W0 gx x:=by rw [← hW0];exact en_new x hgx
 have hb0:BaseAt W0 b d N s m vB op false:=by rw [← hW0];exact blk_alloc hb _
 have ht0:TxnAt W0 t b v a q false:=by rw [← hW0];exact blk_alloc ht _
 have hml:=hv.oo.len
 have HTM:=Aside0.mk (tmay_calls hb0 hml ht0)
 obtain ⟨cz,hcz⟩:∃ z,crcSum bs=z:=⟨_,rfl⟩
 have HSM:Aside0 (Calls Tryz.prog 26 #[.agg tabA,.slice A n c] W0 fun e w'=>e = .returned (.int .u32 cz)∧Below W0.heap.size W0 w'):=⟨by rw [← hcz];exact sum_calls A c n bs hn (Kd.R_reads' (Kd.R_below hr hB0)).2.2⟩
 have htc:=txn_cell (t:=t) (b:=b) (v:=v) (a:=a) (q:=q) (ov:=false)
 have htr:=txn_rt (t:=t) (b:=b) (v:=v) (a:=a) (q:=q) (ov:=false)
 have hbc:=cellb (b:=b) (d:=d) (N:=N) (s:=s) (v:=vB) (op:=op) (en:=false) hml
 have hbt:=ldb_tab (b:=b) (d:=d) (N:=N) (s:=s) (m:=m) (v:=vB) (op:=op) (en:=false)
 have hbm:=ldb_m (b:=b) (d:=d) (N:=N) (s:=s) (v:=vB) (op:=op) (en:=false) hml
 have HI:=Aside0.mk hins
 have HB0:=Aside0.mk hB0
 have HGX:Aside0 (w.heap.size≤gx):=⟨by omega⟩
 obtain ⟨nz,hnz⟩:∃ z:Int,(n:Int)=z:=⟨_,rfl⟩
 have HV:=Aside0.mk (And.intro hv (And.intro hr (And.intro hn (And.intro h1 (And.intro h2 hbs)))))
 have HX:=Aside0.mk hx
 have HME:=Aside0.mk (And.intro hl (And.intro hne hme))
 have HALL:=Aside0.mk hall
 clear hB0 hins hv hr hn h1 h2 hbs hx hl hne hme hall hb ht
 rw [hcz] at HX HI
 go_enter Tryz.func69,Tryz.ntmps69
 go_wp2_with (go_at_call 104;(with_reducible refine HTM.out.mono ?_);rintro r w1 ⟨rfl,rfl⟩;refine hold ?_)
 unfold Hold
 clear hW0 HTM
 go_wp2_with (go_at_call 26;(with_reducible refine HSM.out.mono ?_);rintro r w1 ⟨rfl,hb1⟩;refine hold ?_)
 unfold Hold
 have hX1:EnAt w1 gx x:=hX0.below hb1
 have HB1:=Aside0.mk (And.intro (show BaseAt w1 b d N s m vB op false from blkb hb1 hb0) (show TxnAt w1 t b v a q false from blkb hb1 ht0))
 have HF1:=Aside0.mk (below_step HB0.out hb1)
 have hcx:=en_cell w1 hX1
 have f3:=blk_frozen hX1 3
 have f4:=blk_frozen hX1 4
 have f7:=blk_frozen hX1 7
 have hs2:=en_set hX1 n cz
 rw [hnz] at hs2
 obtain ⟨w2,hw2⟩:∃ W,((w1.setCell ⟨gx,3,none⟩ (.int .i64 2)).setCell ⟨gx,4,none⟩ (.int .i64 nz)).setCell ⟨gx,7,none⟩ (.int .u32 cz)=W:=⟨_,rfl⟩
 rw [hw2] at hs2
 have hF2:Below w.heap.size w w2:=by rw [← hw2];exact ((HF1.out.setCell (p:=⟨gx,3,none⟩) HGX.out _).setCell (p:=⟨gx,4,none⟩) HGX.out _).setCell (p:=⟨gx,7,none⟩) HGX.out _
 have HE2:=Aside0.mk hs2
 have hfe:FrT [89] w1 w2:=by rw [← hw2];exact (((FrT.refl _ _).setCell hX1 (by decide) _ _).setCell (blk_set hX1 3 _) (by decide) _ _).setCell (blk_set (blk_set hX1 3 _) 4 _) (by decide) _ _
 have HB2:=Aside0.mk (And.intro (show BaseAt w2 b d N s m vB op false from hfe.blk HB1.out.1 (by decide)) (show TxnAt w2 t b v a q false from hfe.blk HB1.out.2 (by decide)))
 have HF2:=Aside0.mk hF2
 have HAL:=Aside0.mk (alone_calls (w:=w2) { x with p:=2,l:=n,x:=cz })
 have hle:=(ld_en w2 hs2).1
 clear hX0 hb0 ht0 hb1 hX1 hfe hs2 hF2 HSM
 go_wp2_with (first
  | (go_at_call 112;(with_reducible refine HAL.out.mono ?_);rintro r w3 ⟨xn,rfl,hr3,hb3⟩;have HR3:=Aside0.mk (right_calls (hr3.v ⟨by simp,by simp,by simp⟩) (leaf_one HX.out));have HB3:=Aside0.mk hb3;clear hr3 hb3)
  | (go_at_call 111;(with_reducible refine HR3.out.mono ?_);rintro r w4 ⟨rfl,hb4⟩;refine hold ?_))
 unfold Hold
 have hB24:=below_step HB3.out hb4
 have HB4:=Aside0.mk (And.intro (show BaseAt w4 b d N s m vB op false from blkb hB24 HB2.out.1) (show TxnAt w4 t b v a q false from blkb hB24 HB2.out.2))
 have hX4:EnAt w4 gx { x with p:=2,l:=n,x:=cz }:=HE2.out.below hB24
 have HF4:=Aside0.mk (below_step HF2.out hB24)
 have HMT:=Aside0.mk (txmeets_calls (x:={ x with p:=2,l:=n,x:=cz }) HB4.out.2 HME.out.1 HME.out.2.1 HME.out.2.2 (fun W hW=>HALL.out W (below_step HF4.out hW)))
 have hle4:=(ld_en w4 hX4).1
 have HE4:=Aside0.mk hX4
 clear hle hw2 hcx f3 f4 f7 hb4 hB24 hX4 HAL
 go_wp2_with (go_at_call 113;(with_reducible refine HMT.out.mono ?_);rintro r w5 ⟨rfl,hb5⟩;refine hold ?_)
 unfold Hold
 obtain ⟨x2,hx2⟩:∃ e,({ x with p:=2,l:=n,x:=cz }:En)=e:=⟨_,rfl⟩
 rw [hx2] at HE4
 have HXE:Aside0 (∀ p:Nat,({ x with p:=p,l:=n,x:=cz }:En) = { x2 with p:=p }):=⟨fun p=>by rw [← hx2]⟩
 have HPO:Aside0 (∀ W,Below w5.heap.size w5 W→TxnAt W t b v a q false∧BaseAt W b d N s m vB op false∧EnAt W gx x2):=⟨fun W h=>⟨blkb h (blkb hb5 HB4.out.2),blkb h (blkb hb5 HB4.out.1),(HE4.out.below hb5).below h⟩⟩
 have HPV:Aside0 (∀ W,Below w5.heap.size w5 W→VS W v d N gen nw mV m f (k+1)∧Kd.R (Kd.int .u8) 5 W bR (fun _=>True) (.slice A n c) bs∧Below w.heap.size w W):=⟨fun W h=>by
  have hw:=below_step (below_step HF4.out hb5) h
  exact ⟨HV.out.1.below hw,Kd.R_below HV.out.2.1 hw,hw⟩⟩
 have HMP:Aside0 (∀ W,Below w5.heap.size w5 W→Calls Tryz.prog 106 #[.pointer (some ⟨v,0,none⟩)] W fun e w'=>e = .returned (.agg (mapA N mV))∧Below W.heap.size W w'):=⟨fun W h=>viewmap_calls (HPV.out W h).1.va (HPV.out W h).1.mm.len⟩
 have HPG:Aside0 (∀ W,Calls Tryz.prog 114 #[.agg (enA x2)] W fun r w'=>r = .returned (.int .i64 1)∧Below W.heap.size W w'):=⟨fun W=>by
  have h1:=HV.out.2.2.2.1
  have h2:=HV.out.2.2.2.2.1
  have:=npages_calls (w:=W) x2 (by rw [← hx2];show n<1000000;omega)
  rw [show (x2.l+255) / 256=1 by rw [← hx2];show (n+255) / 256=1;omega] at this
  exact this⟩
 obtain ⟨b1,hb1,hf1⟩:=HV.out.1.cp.one
 have HTK:Aside0 (∀ W,Calls Tryz.prog 56 #[.agg (mapA N mV),.agg (mapA N m),.int .i64 1] W fun e w'=>∃ a:Nat,e = .returned (.tuple #[.agg (mapA N (setN true mV a 1)),.int .i64 (a:Int),.int .i64 0])∧a+1≤N∧FreeRun mV m a 1∧Below W.heap.size W w'):=⟨fun W=>take_calls HV.out.1.mm HV.out.1.oo 1 b1 (by decide) hb1 hf1⟩
 clear hx2 hb5 hb1 hf1 hle4 HMT HE4 HB4 HF4 HB2 HF2 HE2 HB1 HF1 hgx HB3 HR3 HB0 hcz HALL HME
 go_wp2
 obtain ⟨Z0,hZ0⟩:∃ Z,mapA 0 (List.replicate 512 false)=Z:=⟨_,rfl⟩
 have hsz:Z0.size=513:=by rw [← hZ0];exact mapA_len _ (by rw [List.length_replicate])
 have hz:=zero_map
 rw [hZ0] at hz
 have HSZ:=Aside0.mk hsz
 have HL2:Aside0 (∀ a,(setN true mV a 1).length=512):=⟨fun a=>by rw [setN_len,HV.out.1.mm.len]⟩
 clear hZ0 hsz
 have hS:=Bx.start w5 120 Z0
 have hle:=ld_en_en (g:=gx) (x:=x2)
 apply leaf_cut (fun W g p=>Bx w5 120 (mapA N (setN true mV p 1)) W (some g)∧p+1≤N∧FreeRun mV m p 1)
 ·intro hkey
  refine start_ (n:=23) (S:=fun w'=>TxnAt w' t b v a q false∧BaseAt w' b d N s m vB op false∧EnAt w' gx x2) (ds:=[20]) (fbB 23 0) (by kernel_rfl) rfl rfl (HPO.out _ hS.f) (fun hHeld=>?_)
  obtain ⟨wt,hwt⟩:∃ W,w5.drew=W:=⟨_,rfl⟩
  rw [hwt] at hHeld hS ⊢
  clear hwt
  refine puR 0 46 (fbB 23 1) (h:=?_)
  refine puR 1 47 (fbB 23 3) (h:=?_)
  refine puR 2 48 (fbB 23 7) (h:=?_)
  refine tkR 3 49 (fbB 23 15) hHeld (h:=?_)
  refine puR 5 51 (fbB 23 47) (h:=?_)
  refine puR 6 52 (fbB 23 111) (h:=?_)
  refine puR 7 53 (fbB 23 239) (h:=?_)
  refine tkR 8 54 (fbB 23 495) hHeld (h:=?_)
  refine puR 9 55 (fbB 23 1007) (h:=?_)
  refine puR 10 56 (fbB 23 2031) (h:=?_)
  refine tkR 11 57 (fbB 23 4079) hHeld (h:=?_)
  refine tkR 12 58 (fbB 23 8175) hHeld (h:=?_)
  refine two_ (i:=4) (j:=19) (Ni:=some 50) (Nj:=some 9) (fbB 23 8191) (fbB 23 532463) rfl rfl rfl rfl (by kernel_rfl) (by simp) (by simp) (fun K hK=>?_) (fun K hK=>?_)
  refine goes_ Tryz.func106 (by kernel_rfl) rfl #[.pointer (some ⟨v,0,none⟩)] (by rfl) rfl rfl (by simp [Act.eval]) ?_
  (with_reducible refine (HMP.out _ hS.f).mono ?_)
  rintro r w6 ⟨rfl,hb⟩
  replace hS:=hS.below hb
  clear hb
  refine ⟨_,rfl,hK.out _ _ (HPO.out _ hS.f) (fun hHeld=>?_)⟩
  refine nmR (h:=?_)
  refine two_ (i:=13) (j:=19) (Ni:=some 59) (Nj:=some 9) (fbB 23 16383) (fbB 23 532479) rfl rfl rfl rfl (by kernel_rfl) (by simp) (by simp) (fun K hK=>?_) (fun K hK=>?_)
  refine goes_ Tryz.func114 (by kernel_rfl) rfl #[.agg (enA x2)] (by rfl) rfl rfl (by simp [Act.eval]) ?_
  (with_reducible refine (HPG.out _).mono ?_)
  rintro r w6 ⟨rfl,hb⟩
  replace hS:=hS.below hb
  clear hb
  refine ⟨_,rfl,hK.out _ _ (HPO.out _ hS.f) (fun hHeld=>?_)⟩
  refine nmR (h:=?_)
  refine two_ (i:=14) (j:=19) (Ni:=some 60) (Nj:=some 9) (fbB 23 32767) (fbB 23 540671) rfl rfl rfl rfl (by kernel_rfl) (by simp) (by simp) (fun K hK=>?_) (fun K hK=>?_)
  refine goes_ Tryz.func56 (by kernel_rfl) rfl #[.agg (mapA N mV),.agg (mapA N m),.int .i64 1] (by rfl) rfl rfl (by simp [Act.eval]) ?_
  (with_reducible refine (HTK.out _).mono ?_)
  rintro r w6 ⟨p,rfl,hpN,hpf,hb⟩
  replace hS:=hS.below hb
  clear hb
  refine ⟨_,rfl,hK.out _ _ (HPO.out _ hS.f) (fun hHeld=>?_)⟩
  refine nmR (h:=?_)
  refine puR 15 45 (fbB 23 65535) (h:=?_)
  refine puR 16 61 (fbB 23 131071) (h:=?_)
  refine puR 17 62 (fbB 23 262143) (h:=?_)
  refine puR 18 63 (fbB 23 524287) (h:=?_)
  refine one_ (i:=19) (N:=some 9) (fbB 23 1048575) rfl rfl (by kernel_rfl) (by simp) (fun K hK=>?_)
  go_simp
  replace hS:=hS.alloc
  refine hK.out _ _ (HPO.out _ hS.f) (fun hHeld=>?_)
  have hst:=st_map (N:=N) (m:=setN true mV p 1) (Z:=Z0) (HL2.out p) HSZ.out _ (hS.x _ rfl).1
  refine last_ (i:=20) (N:=none) (fbB 23 2097151) rfl rfl (by kernel_rfl) (by simp) (fun K hK=>?_)
  go_simp
  refine hK.out _ _ ?_
  refine puR 21 10 (fbB 23 4194303) (h:=?_)
  refine puR 22 11 (fbB 23 8388607) (h:=?_)
  replace hS:=hS.store (mapA N (setN true mV p 1))
  clear hst hHeld
  refine done_ (by kernel_rfl) ?_
  rotate_left
  go_simp
  replace hS:=hS.alloc
  refine hK.out _ _ (HPO.out _ hS.f) (fun hHeld=>?_)
  refine one_ (i:=14) (N:=some 60) (fbB 23 557055) rfl rfl (by kernel_rfl) (by simp) (fun K hK=>?_)
  refine goes_ Tryz.func56 (by kernel_rfl) rfl #[.agg (mapA N mV),.agg (mapA N m),.int .i64 1] (by rfl) rfl rfl (by simp [Act.eval]) ?_
  (with_reducible refine (HTK.out _).mono ?_)
  rintro r w6 ⟨p,rfl,hpN,hpf,hb⟩
  replace hS:=hS.below hb
  clear hb
  refine ⟨_,rfl,hK.out _ _ (HPO.out _ hS.f) (fun hHeld=>?_)⟩
  refine nmR (h:=?_)
  refine puR 15 45 (fbB 23 589823) (h:=?_)
  refine puR 16 61 (fbB 23 655359) (h:=?_)
  refine puR 17 62 (fbB 23 786431) (h:=?_)
  refine puR 18 63 (fbB 23 1048575) (h:=?_)
  have hst:=st_map (N:=N) (m:=setN true mV p 1) (Z:=Z0) (HL2.out p) HSZ.out _ (hS.x _ rfl).1
  refine last_ (i:=20) (N:=none) (fbB 23 2097151) rfl rfl (by kernel_rfl) (by simp) (fun K hK=>?_)
  go_simp
  refine hK.out _ _ ?_
  refine puR 21 10 (fbB 23 4194303) (h:=?_)
  refine puR 22 11 (fbB 23 8388607) (h:=?_)
  replace hS:=hS.store (mapA N (setN true mV p 1))
  clear hst hHeld
  refine done_ (by kernel_rfl) ?_
  rotate_left
  go_simp
  replace hS:=hS.alloc
  refine hK.out _ _ (HPO.out _ hS.f) (fun hHeld=>?_)
  refine one_ (i:=13) (N:=some 59) (fbB 23 540671) rfl rfl (by kernel_rfl) (by simp) (fun K hK=>?_)
  refine goes_ Tryz.func114 (by kernel_rfl) rfl #[.agg (enA x2)] (by rfl) rfl rfl (by simp [Act.eval]) ?_
  (with_reducible refine (HPG.out _).mono ?_)
  rintro r w6 ⟨rfl,hb⟩
  replace hS:=hS.below hb
  clear hb
  refine ⟨_,rfl,hK.out _ _ (HPO.out _ hS.f) (fun hHeld=>?_)⟩
  refine nmR (h:=?_)
  refine one_ (i:=14) (N:=some 60) (fbB 23 557055) rfl rfl (by kernel_rfl) (by simp) (fun K hK=>?_)
  refine goes_ Tryz.func56 (by kernel_rfl) rfl #[.agg (mapA N mV),.agg (mapA N m),.int .i64 1] (by rfl) rfl rfl (by simp [Act.eval]) ?_
  (with_reducible refine (HTK.out _).mono ?_)
  rintro r w6 ⟨p,rfl,hpN,hpf,hb⟩
  replace hS:=hS.below hb
  clear hb
  refine ⟨_,rfl,hK.out _ _ (HPO.out _ hS.f) (fun hHeld=>?_)⟩
  refine nmR (h:=?_)
  refine puR 15 45 (fbB 23 589823) (h:=?_)
  refine puR 16 61 (fbB 23 655359) (h:=?_)
  refine puR 17 62 (fbB 23 786431) (h:=?_)
  refine puR 18 63 (fbB 23 1048575) (h:=?_)
  have hst:=st_map (N:=N) (m:=setN true mV p 1) (Z:=Z0) (HL2.out p) HSZ.out _ (hS.x _ rfl).1
  refine last_ (i:=20) (N:=none) (fbB 23 2097151) rfl rfl (by kernel_rfl) (by simp) (fun K hK=>?_)
  go_simp
  refine hK.out _ _ ?_
  refine puR 21 10 (fbB 23 4194303) (h:=?_)
  refine puR 22 11 (fbB 23 8388607) (h:=?_)
  replace hS:=hS.store (mapA N (setN true mV p 1))
  clear hst hHeld
  refine done_ (by kernel_rfl) ?_
  rotate_left
  go_simp
  replace hS:=hS.alloc
  refine hK.out _ _ (HPO.out _ hS.f) (fun hHeld=>?_)
  refine one_ (i:=4) (N:=some 50) (fbB 23 532479) rfl rfl (by kernel_rfl) (by simp) (fun K hK=>?_)
  refine goes_ Tryz.func106 (by kernel_rfl) rfl #[.pointer (some ⟨v,0,none⟩)] (by rfl) rfl rfl (by simp [Act.eval]) ?_
  (with_reducible refine (HMP.out _ hS.f).mono ?_)
  rintro r w6 ⟨rfl,hb⟩
  replace hS:=hS.below hb
  clear hb
  refine ⟨_,rfl,hK.out _ _ (HPO.out _ hS.f) (fun hHeld=>?_)⟩
  refine nmR (h:=?_)
  refine one_ (i:=13) (N:=some 59) (fbB 23 540671) rfl rfl (by kernel_rfl) (by simp) (fun K hK=>?_)
  refine goes_ Tryz.func114 (by kernel_rfl) rfl #[.agg (enA x2)] (by rfl) rfl rfl (by simp [Act.eval]) ?_
  (with_reducible refine (HPG.out _).mono ?_)
  rintro r w6 ⟨rfl,hb⟩
  replace hS:=hS.below hb
  clear hb
  refine ⟨_,rfl,hK.out _ _ (HPO.out _ hS.f) (fun hHeld=>?_)⟩
  refine nmR (h:=?_)
  refine one_ (i:=14) (N:=some 60) (fbB 23 557055) rfl rfl (by kernel_rfl) (by simp) (fun K hK=>?_)
  refine goes_ Tryz.func56 (by kernel_rfl) rfl #[.agg (mapA N mV),.agg (mapA N m),.int .i64 1] (by rfl) rfl rfl (by simp [Act.eval]) ?_
  (with_reducible refine (HTK.out _).mono ?_)
  rintro r w6 ⟨p,rfl,hpN,hpf,hb⟩
  replace hS:=hS.below hb
  clear hb
  refine ⟨_,rfl,hK.out _ _ (HPO.out _ hS.f) (fun hHeld=>?_)⟩
  refine nmR (h:=?_)
  refine puR 15 45 (fbB 23 589823) (h:=?_)
  refine puR 16 61 (fbB 23 655359) (h:=?_)
  refine puR 17 62 (fbB 23 786431) (h:=?_)
  refine puR 18 63 (fbB 23 1048575) (h:=?_)
  have hst:=st_map (N:=N) (m:=setN true mV p 1) (Z:=Z0) (HL2.out p) HSZ.out _ (hS.x _ rfl).1
  refine last_ (i:=20) (N:=none) (fbB 23 2097151) rfl rfl (by kernel_rfl) (by simp) (fun K hK=>?_)
  go_simp
  refine hK.out _ _ ?_
  refine puR 21 10 (fbB 23 4194303) (h:=?_)
  refine puR 22 11 (fbB 23 8388607) (h:=?_)
  replace hS:=hS.store (mapA N (setN true mV p 1))
  clear hst hHeld
  refine done_ (by kernel_rfl) ?_
  rotate_left
  all_goals
   clear hHeld hK
   obtain ⟨W6,g6,hW6,hg6,hS⟩:=hS.name
   rw [← hW6,← hg6]
   exact hkey W6 g6 p ⟨hS,hpN,hpf⟩
 ·rintro W6 g6 p ⟨hS,hpN,hpf⟩
  obtain ⟨hT6,hb6,hX6⟩:=HPO.out _ hS.f
  obtain ⟨hV6,hR6,hB6⟩:=HPV.out _ hS.f
  have hbx:=(hS.x _ rfl).1
  obtain ⟨m2,hm2⟩:∃ M,setN true mV p 1=M:=⟨_,rfl⟩
  have hp2:=hV6.mm.free_ge hpf
  have hM2:MapOk N m2:=by rw [← hm2];exact hV6.mm.set _ hp2 hpN
  rw [hm2] at hbx ⊢
  have HM2:=Aside0.mk (And.intro hm2 (And.intro hM2 (And.intro hpN hpf)))
  have HSM:=Aside0.mk (setmap_calls (w:=W6.drew) (hV6.below (below_drew (Below.refl _ _))).va hV6.mm.len hV6.oo.len hM2 hV6.gv)
  have H6:=Aside0.mk (And.intro hT6 (And.intro hb6 (And.intro hX6 (And.intro hV6 (And.intro hR6 (And.intro hB6 hbx))))))
  have ht1:TxnAt W6.drew t b v a q false:=hT6
  have hx1:W6.drew.heap[g6]?=some (Obj.cells (mapA N m2) 120):=hbx
  have hlm:=ld_map (g:=g6) (N:=N) hM2.len
  clear hS hT6 hb6 hX6 hV6 hR6 hB6 hbx hm2 hpN hpf hp2 hM2 hle hz
  go_wp2
  go_region_held3 (fun w'=>TxnAt w' t b v a q false∧w'.heap[g6]?=some (Obj.cells (mapA N m2) 120)) (first | exact ⟨ht1,hx1⟩ | exact ⟨ht2,hx2⟩)
   ((go_at_call 115;(with_reducible refine HSM.out.mono ?_);rintro r w7 ⟨rfl,hv7,hf7⟩;have ht2:TxnAt w7 t b v a q false:=hf7.blk ht1 (by decide);have hx2:=hf7.blk hx1 (by decide)))
  have hbd:=below_drew (Below.refl W6.heap.size W6)
  have hb7:BaseAt w7 b d N s m vB op false:=hf7.blk (show W6.drew.heap[b]?=_ from H6.out.2.1) (by decide)
  have hX7:EnAt w7 gx x2:=hf7.blk (show W6.drew.heap[gx]?=_ from H6.out.2.2.1) (by decide)
  have hR7:=R_frT (Kd.R_below H6.out.2.2.2.2.1 hbd) hf7 (by decide)
  have hD7:=(H6.out.2.2.2.1.dt.below hbd).frT hf7 (by decide)
  have hF7:FrT vT w w7:=(FrT.of_below (below_step H6.out.2.2.2.2.2.1 hbd) vT).trans (hf7.mono (by decide))
  have hcx:=en_cell w7 hX7
  have hf3:=blk_frozen hX7 3
  obtain ⟨w8,hw8⟩:∃ W,w7.setCell ⟨gx,3,none⟩ (.int .i64 (p:Int))=W:=⟨_,rfl⟩
  have hX8:EnAt w8 gx { x2 with p:=p }:=by rw [← hw8];exact en_setp hX7 p
  have hfe:FrT [89] w7 w8:=by rw [← hw8];exact (FrT.refl _ _).setCell hX7 (by decide) _ _
  have hF8:FrT vT w w8:=by rw [← hw8];exact hF7.setNew HGX.out _ _
  have hb8:BaseAt w8 b d N s m vB op false:=hfe.blk hb7 (by decide)
  have ht8:TxnAt w8 t b v a q false:=hfe.blk ht2 (by decide)
  have hR8:=R_frT hR7 hfe (by decide)
  have hn1:=HV.out.2.2.2.1
  have hn2:=HV.out.2.2.2.2.1
  have hnc:=(Kd.R_reads' hR8).2.1
  have e1:(n+255) / 256=1:=by omega
  have hwr:=writeraw_calls (hD7.frT hfe (by decide)) p n A c bs HV.out.2.2.1 (by omega) (by have:=HV.out.2.2.1;omega) (Kd.R_reads' hR8).2.2 HV.out.2.2.2.2.2 (by rw [e1];exact HM2.out.2.2.1) (by have:=H6.out.2.2.2.1.hw;omega) (by omega)
  rw [e1] at hwr
  have HWR:=Aside0.mk hwr
  have H8:=Aside0.mk (And.intro hX8 (And.intro hb8 (And.intro ht8 (And.intro hF8 (And.intro (hv7.setE hfe) trivial)))))
  clear hwr hn1 hn2 hnc e1 hR8 hF8 hfe hF7 hD7 hR7 hb7 hX7 hbd hX8 ht1 hx1 hx2 hv7 hf7 ht2 hlm
  go_wp2_with (go_at_call 62;(with_reducible refine HWR.out.mono ?_);rintro r w9 ⟨rfl,hf9,hd9⟩;refine hold ?_)
  unfold Hold
  have hX9:EnAt w9 gx { x2 with p:=p }:=hf9.blk H8.out.1 (by decide)
  have hb9:BaseAt w9 b d N s m vB op false:=hf9.blk H8.out.2.1 (by decide)
  have ht9:TxnAt w9 t b v a q false:=hf9.blk H8.out.2.2.1 (by decide)
  have hF9:FrT vT w w9:=H8.out.2.2.2.1.trans (hf9.mono (fun t ht=>List.mem_cons_of_mem _ ht))
  have hv9:ViewAt w9 v d N gen m2 m:=hf9.blk H8.out.2.2.2.2.1 (by decide)
  have hV9:VS w9 v d N gen (nw+4) m2 m (raws f p bs) k:=⟨hv9,hd9,HM2.out.2.1,HV.out.1.oo,HV.out.1.hg,by have:=HV.out.1.hw;omega,by rw [← HM2.out.1];exact HV.out.1.cp.take (by have:=HV.out.1.mm.len;have:=HV.out.1.mm.n5;have:=HM2.out.2.2.1;omega),HV.out.1.gv⟩
  obtain ⟨x3,hx3⟩:∃ e,({ x2 with p:=p }:En)=e:=⟨_,rfl⟩
  rw [hx3] at hX9
  have HINS:Aside0 (∀ W,Below w9.heap.size w9 W→Calls Tryz.prog 116 #[.pointer (some ⟨v,0,none⟩),.agg #[.int .i64 a,.int .i64 q],.agg (enA x3)] W fun r w'=>∃ a' q':Int,r = .returned (.tuple #[.agg #[.int .i64 a',.int .i64 q'],.int .i64 0])∧Post p a' q' w'∧FrT vT W w'):=⟨fun W hW=>by
   rw [← hx3,← HXE.out]
   have:=HI.out W p HM2.out.2.2.1 HM2.out.2.2.2 (by rw [HM2.out.1];exact hV9.below hW) (hF9.below hW)
   exact this⟩
  have H9:=Aside0.mk (And.intro hX9 (And.intro hb9 (And.intro ht9 hF9)))
  clear hV9 hv9 hd9 hf9 hw8 hcx hf3 hb8 ht8 hx3
  go_wp2
  have hS:Below w9.heap.size w9 w9.drew:=below_drew (Below.refl _ _)
  have hle:=ld_en_en (g:=gx) (x:=x3)
  obtain ⟨LF,hLF⟩:∃ L:World→Nat→Int→Int→Prop,L=fun W g a' q'=>∃ wI,Post p a' q' wI∧FrT [198,96] wI W∧FrT vT w W∧W.heap[g]?=some (Obj.cells (rootA a' q') 96)∧TxnAt W t b v a q false∧BaseAt W b d N s m vB op false:=⟨_,rfl⟩
  apply leaf_cut4 LF
  ·intro hkey
   refine start_ (n:=16) (S:=fun w'=>TxnAt w' t b v a q false∧EnAt w' gx x3) (ds:=[14]) (fbB 16 0) (by kernel_rfl) rfl rfl ⟨blkb hS H9.out.2.2.1,H9.out.1.below hS⟩ (fun hHeld=>?_)
   obtain ⟨wt,hwt⟩:∃ W,w9.drew=W:=⟨_,rfl⟩
   rw [hwt] at hHeld hS ⊢
   clear hwt
   refine puR 0 93 (fbB 16 1) (h:=?_)
   refine puR 1 94 (fbB 16 3) (h:=?_)
   refine puR 2 95 (fbB 16 7) (h:=?_)
   refine tkR 3 96 (fbB 16 15) hHeld (h:=?_)
   refine puR 4 97 (fbB 16 31) (h:=?_)
   refine puR 5 98 (fbB 16 63) (h:=?_)
   refine puR 6 99 (fbB 16 127) (h:=?_)
   refine tkR 7 100 (fbB 16 255) hHeld (h:=?_)
   refine tkR 8 101 (fbB 16 511) hHeld (h:=?_)
   refine two_ (i:=9) (j:=13) (Ni:=some 102) (Nj:=some 13) (fbB 16 1023) (fbB 16 8703) rfl rfl rfl rfl (by kernel_rfl) (by simp) (by simp) (fun K hK=>?_) (fun K hK=>?_)
   refine goes_ Tryz.func116 (by kernel_rfl) rfl #[.pointer (some ⟨v,0,none⟩),.agg #[.int .i64 a,.int .i64 q],.agg (enA x3)] (by rfl) rfl rfl (by simp [Act.eval]) ?_
   (with_reducible refine (HINS.out _ hS).mono ?_)
   rintro r w10 ⟨a5,q5,rfl,hpost,hf⟩
   have hT10:TxnAt w10 t b v a q false:=hf.blk (blkb hS H9.out.2.2.1) (by decide)
   have hX10:EnAt w10 gx x3:=hf.blk (H9.out.1.below hS) (by decide)
   have hB10:BaseAt w10 b d N s m vB op false:=hf.blk (blkb hS H9.out.2.1) (by decide)
   have hF10:=(H9.out.2.2.2.below hS).trans hf
   refine ⟨_,rfl,hK.out _ _ ⟨hT10,hX10⟩ (fun hHeld=>?_)⟩
   refine nmR (h:=?_)
   refine puR 10 92 (fbB 16 2047) (h:=?_)
   refine puR 11 103 (fbB 16 4095) (h:=?_)
   refine puR 12 104 (fbB 16 8191) (h:=?_)
   refine one_ (i:=13) (N:=some 13) (fbB 16 16383) rfl rfl (by kernel_rfl) (by simp) (fun K hK=>?_)
   go_simp
   have hbx:(w10.alloc (Obj.cells #[.int .i64 0,.int .i64 0] 96)).heap[w10.heap.size]?=some (Obj.cells #[.int .i64 0,.int .i64 0] 96):=newb rfl
   refine hK.out _ _ ⟨blk_alloc hT10 _,blk_alloc hX10 _⟩ (fun hHeld=>?_)
   have hst:=st_rt a5 q5 hbx rfl
   refine last_ (i:=14) (N:=none) (fbB 16 32767) rfl rfl (by kernel_rfl) (by simp) (fun K hK=>?_)
   go_simp
   refine hK.out _ _ ?_
   refine puR 15 11 (fbB 16 65535) (h:=?_)
   have hL:LF ((w10.alloc (Obj.cells #[.int .i64 0,.int .i64 0] 96)).setRow w10.heap.size (rootA a5 q5)) w10.heap.size a5 q5:=by rw [hLF];exact ⟨w10,hpost,((FrT.refl _ w10).alloc _).setRow hbx (by decide) _,(hF10.alloc _).setRowNew hF10.size _,setRow_heap _ _ _ _ _ _ hbx,((FrT.refl [96] _).setRow hbx (by decide) _).blk (blk_alloc hT10 _) (by decide),((FrT.refl [96] _).setRow hbx (by decide) _).blk (blk_alloc hB10 _) (by decide)⟩
   clear hst hbx
   refine done_ (by kernel_rfl) ?_
   rotate_left
   go_simp
   have hbx:(wt.alloc (Obj.cells #[.int .i64 0,.int .i64 0] 96)).heap[wt.heap.size]?=some (Obj.cells #[.int .i64 0,.int .i64 0] 96):=newb rfl
   have hgB:w.heap.size≤wt.heap.size:=Nat.le_trans H9.out.2.2.2.size hS.size
   replace hS:=below_alloc hS (Obj.cells #[.int .i64 0,.int .i64 0] 96)
   refine hK.out _ _ ⟨blkb hS H9.out.2.2.1,H9.out.1.below hS⟩ (fun hHeld=>?_)
   refine one_ (i:=9) (N:=some 102) (fbB 16 9215) rfl rfl (by kernel_rfl) (by simp) (fun K hK=>?_)
   refine goes_ Tryz.func116 (by kernel_rfl) rfl #[.pointer (some ⟨v,0,none⟩),.agg #[.int .i64 a,.int .i64 q],.agg (enA x3)] (by rfl) rfl rfl (by simp [Act.eval]) ?_
   (with_reducible refine (HINS.out _ hS).mono ?_)
   rintro r w10 ⟨a5,q5,rfl,hpost,hf⟩
   have hT10:TxnAt w10 t b v a q false:=hf.blk (blkb hS H9.out.2.2.1) (by decide)
   have hX10:EnAt w10 gx x3:=hf.blk (H9.out.1.below hS) (by decide)
   have hB10:BaseAt w10 b d N s m vB op false:=hf.blk (blkb hS H9.out.2.1) (by decide)
   have hF10:=(H9.out.2.2.2.below hS).trans hf
   replace hbx:=hf.blk hbx (by decide)
   refine ⟨_,rfl,hK.out _ _ ⟨hT10,hX10⟩ (fun hHeld=>?_)⟩
   refine nmR (h:=?_)
   refine puR 10 92 (fbB 16 10239) (h:=?_)
   refine puR 11 103 (fbB 16 12287) (h:=?_)
   refine puR 12 104 (fbB 16 16383) (h:=?_)
   have hst:=st_rt a5 q5 hbx rfl
   refine last_ (i:=14) (N:=none) (fbB 16 32767) rfl rfl (by kernel_rfl) (by simp) (fun K hK=>?_)
   go_simp
   refine hK.out _ _ ?_
   refine puR 15 11 (fbB 16 65535) (h:=?_)
   have hL:LF (w10.setRow wt.heap.size (rootA a5 q5)) wt.heap.size a5 q5:=by rw [hLF];exact ⟨w10,hpost,(FrT.refl _ w10).setRow hbx (by decide) _,hF10.setRowNew hgB _,setRow_heap _ _ _ _ _ _ hbx,((FrT.refl [96] w10).setRow hbx (by decide) _).blk hT10 (by decide),((FrT.refl [96] w10).setRow hbx (by decide) _).blk hB10 (by decide)⟩
   clear hst hbx
   refine done_ (by kernel_rfl) ?_
   rotate_left
   all_goals
    clear hHeld hK
    obtain ⟨W6,g6,hW6,hg6,hL⟩:=name2 (F:=fun W g=>LF W g a5 q5) hL
    rw [← hW6,← hg6]
    exact hkey W6 g6 a5 q5 hL
  ·intro W6 g7 a5 q5 hL
   rw [hLF] at hL
   obtain ⟨wI,hpost,hfI,hfw,hbx,hT6,hB6⟩:=hL
   have hlr:=ld_rt W6 (rt_range hbx)
   have hst:=st_txn (a':=a5) (q':=q5) hT6
   have HL:=Aside0.mk (And.intro hpost (And.intro hfI (And.intro hfw (And.intro hT6 hB6))))
   clear hpost hfI hfw hT6 hB6 hLF hle hS
   go_wp2
   go_ret
   refine ⟨rfl,p,a5,q5,wI,HL.out.1,HL.out.2.1.setRow HL.out.2.2.2.1 (by decide) _,setRow_heap _ _ _ _ _ _ HL.out.2.2.2.1,?_,(HL.out.2.2.1.mono (fun t ht=>List.mem_cons_of_mem _ ht)).setRow HL.out.2.2.2.1 List.mem_cons_self _⟩
   exact ((FrT.refl [198] _).setRow HL.out.2.2.2.1 (by decide) _).blk HL.out.2.2.2.2 (by decide)
end
section
attribute [local go_sem ↓] Go.wp_at_zero Go.wp_at_succ
def lay (img:List Int) (p:Wt):List Int:=splice img (64*p.1.toNat) p.2.2
theorem lay_len {img:List Int} {p:Wt} {N:Nat} (hl:img.length=256*N) (h0:0≤p.1) (h1:p.1<4*N) (h2:p.2.2.length=64):(lay img p).length=256*N:=by
 unfold lay;rw [length_splice _ _ _ (by rw [hl,h2];omega),hl]
theorem lay_bs {img:List Int} {p:Wt} (h:Bs img) (h2:Bs p.2.2):Bs (lay img p):=(h.take _).append (h2.append (h.drop _))
theorem lay_cut {img:List Int} {p:Wt} {N s:Nat} (hl:img.length=256*N) (h0:0≤p.1) (h1:p.1<4*N) (h2:p.2.2.length=64) (hs:s<4*N):cut64 (lay img p) s=if p.1=(s:Int) then p.2.2 else cut64 img s:=by
 obtain ⟨t,ht⟩:∃ t:Nat,p.1=(t:Int):=⟨p.1.toNat,by omega⟩
 apply List.ext_getElem?
 intro i
 by_cases hi:i<64
 ·have key:(cut64 (lay img p) s)[i]?=(splice img (64*t) p.2.2)[64*s+i]?:=by
   unfold cut64 lay;rw [ht,Int.toNat_natCast,List.getElem?_take,if_pos hi,List.getElem?_drop]
  have key2:(cut64 img s)[i]?=img[64*s+i]?:=by
   unfold cut64;rw [List.getElem?_take,if_pos hi,List.getElem?_drop]
  rw [key]
  unfold splice
  by_cases e:t=s
  ·subst e
   rw [if_pos ht,List.getElem?_append_right (by rw [List.length_take];omega),List.length_take,Nat.min_eq_left (by omega),List.getElem?_append_left (by omega),show 64*t+i-64*t=i by omega]
  ·rw [if_neg (by omega),key2]
   by_cases hlt:s<t
   ·rw [List.getElem?_append_left (by rw [List.length_take];omega),List.getElem?_take,if_pos (by omega)]
   ·rw [List.getElem?_append_right (by rw [List.length_take];omega),List.length_take,Nat.min_eq_left (by omega),List.getElem?_append_right (by omega),List.getElem?_drop,h2]
    congr 1;omega
 ·rw [List.getElem?_eq_none (by unfold cut64;rw [List.length_take];omega)]
  split
  ·rw [List.getElem?_eq_none (by omega)]
  ·rw [List.getElem?_eq_none (by unfold cut64;rw [List.length_take];omega)]
theorem sec_lay {img:List Int} {p:Wt} {N s:Nat} {ps:List Wt} (hl:img.length=256*N) (h0:0≤p.1) (h1:p.1<4*N) (h2:p.2.2.length=64) (hs:s<4*N):sec (lay img p) ps s=sec img (p :: ps) s:=by
 rw [sec_eq,lay_cut hl h0 h1 h2 hs];rfl
def lays (img:List Int) (ps:List Wt):List Int:=ps.foldl lay img
theorem lays_take (img:List Int) (ps:List Wt) {i:Nat} (h:i<ps.length):lays img (ps.take (i+1))=lay (lays img (ps.take i)) ps[i]:=by
 unfold lays;rw [List.take_succ_eq_append_getElem h,List.foldl_append];rfl
theorem lays_ok {N:Nat}:∀ (ps:List Wt) (img:List Int),img.length=256*N→Bs img→(∀ p∈ps,0≤p.1∧p.1<4*N∧p.2.2.length=64∧Bs p.2.2)→(lays img ps).length=256*N∧Bs (lays img ps) ∧ ∀ s,s<4*N→sec (lays img ps) [] s=sec img ps s:=by
 intro ps
 induction ps with
 | nil=>intro img h1 h2 _;exact ⟨h1,h2,fun s _=>rfl⟩
 | cons p ps ih=>
  intro img h1 h2 h3
  obtain ⟨a1,a2,a3,a4⟩:=h3 p (by simp)
  obtain ⟨b1,b2,b3⟩:=ih (lay img p) (lay_len h1 a1 a2 a3) (lay_bs h2 a4) (fun q hq=>h3 q (by simp [hq]))
  exact ⟨b1,b2,fun s hs=>(b3 s hs).trans (sec_lay h1 a1 a2 a3 hs)⟩
theorem nums_splice (k:IntKind) (xs ys:List Int) (o:Nat):splice (nums k xs) o (nums k ys)=nums k (splice xs o ys):=by simp [splice,nums,List.map_take,List.map_drop]
theorem Dk.lay {w:World} {d a N:Nat} {wv:Value} {img img2:List Int} {ps:List Wt} {O:Nat→Prop} (h:Dk w d a wv img ps N O) (h2:img2.length=256*N) (h3:Bs img2):Dk (w.setRow a (nums .u8 img2).toArray) d a wv img2 ps N O where
 hd:=(setRow_other w a d _ (blk_ne h.hd h.ha (by decide))).trans h.hd
 ha:=setRow_heap w a _ _ _ _ h.ha
 hl:=h2
 hb:=h3
 hw:=OwnRow.fr h.hw ((Fr.refl w (fun k=>k=a)).setRow (Or.inl rfl) _) (fun k hk e=>h.hw.ne_block h.ha (by decide) (by rw [hk,e]))
 hp:=fun p hp=>by
  obtain ⟨h1,h2,h3,h4,h5,h6,z,h7⟩:=h.hp p hp
  exact ⟨h1,h2,h3,h4,h5,h6,z,(setRow_other w a _ _ h6).trans h7⟩
 hO:=⟨h.hO.1,h.hO.2.1,h.hO.2.2.1,fun k hk=>by simpa [World.setRow] using h.hO.2.2.2 k hk⟩
 hN:=h.hN
theorem Dk.clear {w:World} {d a N:Nat} {wv:Value} {img:List Int} {ps:List Wt} {O:Nat→Prop} (h:Dk w d a wv img ps N O):Dk (w.setCell ⟨d,1,none⟩ (.slice none 0 0)) d a (.slice none 0 0) img [] N O where
 hd:=by rw [blk_set h.hd 1 _];rfl
 ha:=blk_far h.ha (p:=⟨d,1,none⟩) (blk_ne h.ha h.hd (by decide)) _
 hl:=h.hl
 hb:=h.hb
 hw:=OwnRow.none_ _ _ _ _ _
 hp:=fun p hp=>by simp at hp
 hO:=⟨h.hO.1,h.hO.2.1,fun k hk=>by simp [Value.ownBlock] at hk,fun k hk=>by simpa [World.setCell] using h.hO.2.2.2 k hk⟩
 hN:=h.hN
theorem flush_calls {w:World} {d N n:Nat} {O:Nat→Prop} {f:Nat→List Int} (h:Disk w d O N n f) :
  Calls Tryz.prog 60 #[.pointer (some ⟨d,0,none⟩)] w fun e w'=>e = .returned (.int .i64 0)∧Fr w w' O∧Disk w' d O N 0 f:=by
 obtain ⟨a,wv,img,ps,hk,hf,rfl⟩:=h
 have HK:=Aside0.mk hk
 have HF:=Aside0.mk hf
 have HIMG:=Aside0.mk (And.intro hk.hl hk.hb)
 have hN:=hk.hN.2
 obtain ⟨Aw,cap,rfl,_,hrow⟩:=hk.hw.reads
 have hlen:ps.length≤9223372036854775807:=hrow.2.1
 have c2:=blk_cell hk.hd 2
 simp only [List.getElem?_toArray,List.getElem?_cons_zero,List.getElem?_cons_succ] at c2
 clear hk hf hrow
 go_enter Tryz.func60,Tryz.ntmps60
 go_wp2_with (first
  | (go_at_call 97;(with_reducible refine (stops_calls HK.out.hd).mono ?_);rintro e w1 ⟨rfl,hd1,hfr⟩;have HK1:=Aside0.mk (HK.out.redo hfr hd1);have HFR:=Aside0.mk hfr;have c11:=blk_cell hd1 1;simp only [List.getElem?_toArray,List.getElem?_cons_zero,List.getElem?_cons_succ] at c11;clear hd1 hfr))
 have HR0:Aside0 (Dk w1 d a (.slice Aw ps.length cap) (lays img (ps.take 0)) ps N O):=HK1
 have HFW:Aside0 (Fr w w1 O):=⟨HFR.out.mono (fun k _ hk=>by rw [hk];exact HK.out.hO.1)⟩
 clear HK1 HFR c2 c11
 go_loopw [22] (fun v22 wr=>∃ (i:Nat) (ii:Int),v22 = .int .i64 ii∧Aside0 (ii=(i:Int))∧Aside0 (i≤ps.length)∧Aside0 (Dk wr d a (.slice Aw ps.length cap) (lays img (ps.take i)) ps N O)∧Aside0 (Fr w wr O)) (fun v22 _=>((ps.length:Int)-intOf v22).toNat)
 case atStart=>exact ⟨0,0,rfl,⟨rfl⟩,⟨Nat.zero_le _⟩,HR0,HFW⟩
 case round=>
  clear HR0 HFW
  obtain ⟨i,ii,rfl,HI,HIL,HR,HFW⟩:=hrel
  have hi0:0≤ii:=by have:=HI.out;omega
  by_cases hlt:i<ps.length
  ·have d1:decide (ii<(ps.length:Int))=true:=decide_eq_true (by have:=HI.out;omega)
   have d2:(ii<(ps.length:Int))=True:=eq_true (by have:=HI.out;omega)
   have d3:(0≤ii)=True:=eq_true hi0
   have e5:wrap64 (ii+1)=ii+1:=wrap64_id (by omega) (by have:=HI.out;omega)
   have eii:ii.toNat=i:=by have:=HI.out;omega
   obtain ⟨p,hp⟩:∃ p,ps[i]?=some p:=⟨_,List.getElem?_eq_getElem hlt⟩
   obtain ⟨A2,cap2,eA,_,hrow⟩:=HR.out.hw.reads
   injection eA with eA eB eC
   subst eA
   subst eC
   obtain ⟨ad,hA,hcells⟩:=hrow.2.2 (by omega)
   subst hA
   obtain ⟨cs,_,⟨cq,hcq,rfl⟩,hc⟩:=hcells _ _ hp
   have e1:=hc 0 _ rfl
   have e2:=hc 1 _ rfl
   obtain ⟨p1,p2,p3,p4,p5,p6,p7⟩:=HR.out.hp p (List.mem_of_getElem? hp)
   rw [Nat.add_zero] at e1
   have e3:wr.cell? ⟨(ad.add (i*2)).block,(ad.add (i*2)).off+1,none⟩=some (.slice (some ⟨p.2.1,0,none⟩) 64 cq):=by
    rw [← add_field _ _ 1 (by omega)];exact e2
   have HP:=Aside0.mk hp
   have HP7:=Aside0.mk p7
   have HP3:=Aside0.mk p3
   have HP4:=Aside0.mk p4
   obtain ⟨s,hs⟩:∃ s:Nat,p.1=(s:Int):=⟨p.1.toNat,by omega⟩
   rw [hs] at e1
   have hs4:s<4*N:=by omega
   obtain ⟨X,hX⟩:∃ X,Obj.cells #[Value.int IntKind.i64 (s:Int),Value.slice (some { block:=p.2.1,off:=0 }) 64 cq] 168=X:=⟨_,rfl⟩
   have hnew:(wr.alloc X).drew.heap[wr.heap.size]?=some (Obj.cells #[Value.int IntKind.i64 (s:Int),Value.slice (some { block:=p.2.1,off:=0 }) 64 cq] 168 (0,0)):=by rw [hX];exact heap_alloc_new wr X
   have g0:=blk_cell hnew 0
   have g1:=blk_cell hnew 1
   simp only [List.getElem?_toArray,List.getElem?_cons_zero,List.getElem?_cons_succ] at g0 g1
   have HKd:Aside0 (Dk (wr.alloc X).drew d a (.slice (some ad) ps.length cap) (lays img (ps.take i)) ps N O):=⟨HR.out.fr (((Fr.refl wr (fun _=>False)).alloc X).drew) (fun _ _ h=>h)⟩
   have HFd:Aside0 (Fr w (wr.alloc X).drew O):=⟨(HFW.out.alloc X).drew⟩
   have HSRC:Aside0 (∀ j v,(nums .u8 p.2.2)[j]?=some v→(wr.alloc X).drew.cell? ((⟨p.2.1,0,none⟩:Addr).add j)=some v):=⟨fun j v hv=>by
    rw [add_none,Nat.zero_add]
    exact (HP7.out.fr (((Fr.refl wr (fun _=>False)).alloc X).drew) (fun h=>h)).cell hv⟩
   have HSZ:Aside0 ((Tryz.prog.info? 5).map (·.size)=some 1):=⟨by obtain ⟨i0,hi0,_,hsz0,_⟩:=info_parts info_u8;rw [hi0];simp [hsz0]⟩
   have HLL:=Aside0.mk HR.out.hl
   have g0':(wr.alloc X).cell? ⟨wr.heap.size,0,none⟩=some (.int .i64 (s:Int)):=g0
   have g1':(wr.alloc X).cell? ⟨wr.heap.size,1,none⟩=some (.slice (some ⟨p.2.1,0,none⟩) 64 cq):=g1
   clear hcells hc e2 p1 p2 p3 p4 p5 p6 p7 hp hrow hnew
   go_wp2
   have hset:splice (nums .u8 (lays img (ps.take i))) (64*s) (nums .u8 p.2.2)=nums .u8 (lays img (ps.take (i+1))):=by
    rw [nums_splice,lays_take img ps hlt,(List.getElem?_eq_some_iff.1 HP.out).2]
    unfold lay
    rw [hs,Int.toNat_natCast]
   have hok:=lays_ok (N:=N) (ps.take (i+1)) img HIMG.out.1 HIMG.out.2 (fun q hq=>by
    obtain ⟨h1,h2,h3,h4,_⟩:=HR.out.hp q (List.mem_of_mem_take hq)
    exact ⟨h1,h2,h3,h4⟩)
   have HK8:Aside0 (Dk ((wr.alloc X).drew.setRow a (splice (nums .u8 (lays img (ps.take i))) (64*s) (nums .u8 p.2.2)).toArray) d a (.slice (some ad) ps.length cap) (lays img (ps.take (i+1))) ps N O):=⟨by rw [hset];exact HKd.out.lay hok.1 hok.2.1⟩
   have HF8:Aside0 (Fr w ((wr.alloc X).drew.setRow a (splice (nums .u8 (lays img (ps.take i))) (64*s) (nums .u8 p.2.2)).toArray) O):=⟨HFd.out.setRow (Or.inl HKd.out.hO.2.1) _⟩
   clear HR HFW HP7 hset hok
   go_region_law (first
    | (refine step_copy_row (by rfl) (.tmp 29) (.tmp 31) 46 46 (by rfl) 5 Tryz.underlying46 HSZ.out a (64*s) 64 (256*N-64*s) ⟨p.2.1,0,none⟩ 64 cq (by rfl) (by rfl) (nums .u8 (lays img (ps.take i))) 5 HKd.out.ha (nums .u8 p.2.2) ?hn ?hsrc ?hfit ?h1 ?_;(case hn=>simp [nums,HP3.out]);(case hsrc=>exact HSRC.out);(case hfit=>simp only [nums,List.length_map,HP3.out,HLL.out];omega);(case h1=>intro v hv;simp only [nums,List.mem_map] at hv;obtain ⟨x,_,rfl⟩:=hv;rfl))
    | (go_simp;go_wp2_with (go_at_call 98;(with_reducible refine (sector_calls HKd.out.hd hs4 hN).mono ?_);rintro e w3 ⟨rfl,rfl⟩)))
   all_goals
    go_wp2
    go_roundw
    case rel=>exact ⟨i+1,_,rfl,⟨by have:=HI.out;omega⟩,⟨by omega⟩,HK8,HF8⟩
    case measure=>simp [intOf];have:=HI.out;omega
  ·obtain rfl:i=ps.length:=by have:=HIL.out;omega
   have d1:decide (ii<(ps.length:Int))=false:=decide_eq_false (by have:=HI.out;omega)
   have c1:=blk_cell HR.out.hd 1
   have f1:=blk_frozen HR.out.hd 1
   simp only [List.getElem?_toArray,List.getElem?_cons_zero,List.getElem?_cons_succ] at c1
   have hok:=lays_ok (N:=N) ps img HIMG.out.1 HIMG.out.2 (fun q hq=>by
    obtain ⟨h1,h2,h3,h4,_⟩:=HR.out.hp q hq
    exact ⟨h1,h2,h3,h4⟩)
   have HOK:=Aside0.mk hok
   clear hok hlt
   go_wp2
   go_ret
   have hk:=HR.out.clear
   rw [List.take_length] at hk
   exact ⟨rfl,HFW.out.setCell (p:=⟨d,1,none⟩) (Or.inl HR.out.hO.1) _,a,_,_,_,hk,fun s hs=>(HF.out s hs).trans (HOK.out.2.2 s hs).symm,rfl⟩
end
section
attribute [local go_sem ↓] Go.wp_at_zero Go.wp_at_succ loadKey_eq loadEn_eq storeKey_eq storeEn_eq loadNd_eq storeNd_eq loadMap_eq storeMap_eq loadTab_eq storePg_eq loadRt_eq storeRt_eq eqKy_eq
theorem flush_dt [Inhabited Sanct] {w:World} {d N n:Nat} {f:Nat→List Int} (h:DT w d N n f) :
  Calls Tryz.prog 60 #[.pointer (some ⟨d,0,none⟩)] w fun e w'=>e = .returned (.int .i64 0)∧FrT dT w w'∧DT w' d N 0 f:=by
 obtain ⟨O,h1,h2⟩:=h
 refine (flush_calls h1).mono ?_
 rintro e w' ⟨rfl,k1,k2⟩
 exact ⟨rfl,FrT.of_fr k1 h2,k2.dt (fun k hk=>(h2 k hk).ge)⟩
theorem splice_app [Inhabited Sanct] {l A B:List Value} {o:Nat} (h:o+(A.length+B.length)≤l.length):splice (splice l o A) (o+A.length) B=splice l o (A++B):=by
 unfold splice
 have h1:(l.take o++(A++l.drop (o+A.length))).take (o+A.length)=l.take o++A:=by
  rw [← List.append_assoc,List.take_append_of_le_length (by simp;omega),List.take_of_length_le (by simp;omega)]
 have h2:(l.take o++(A++l.drop (o+A.length))).drop (o+A.length+B.length)=l.drop (o+(A++B).length):=by
  rw [← List.append_assoc,List.drop_append,List.drop_of_length_le (by simp;omega),List.nil_append,List.length_append,List.length_take,Nat.min_eq_left (by omega),List.drop_drop,List.length_append]
  congr 1
  omega
 rw [h1,h2]
 simp
theorem fill_some [Inhabited Sanct] (place:Nat→Option (Nat×Nat)):∀ (vs:List Value) (i off:Nat) (cells:Array Value),
  (∀ k v,vs[k]?=some v→place (i+k)=some (off+((vs.take k).map (fun v=>v.cells.size)).sum,v.cells.size))→off+(vs.map (fun v=>v.cells.size)).sum≤cells.size →
  Instr.fill place cells ((vs.zipIdx i).map fun x=>(x.2,x.1))=some (splice cells.toList off (vs.flatMap (fun v=>v.cells.toList))).toArray
 | [],i,off,cells,_,h=>by
  simp only [List.zipIdx_nil,List.map_nil,Instr.fill,List.flatMap_nil]
  unfold splice
  simp
 | v :: vs,i,off,cells,hp,h=>by
  have h0:=hp 0 v rfl
  simp only [Nat.add_zero,List.take_zero,List.map_nil,List.sum_nil] at h0
  simp only [List.map_cons,List.sum_cons] at h
  have hfl:(vs.flatMap (fun v=>v.cells.toList)).length=(vs.map (fun v=>v.cells.size)).sum:=by
   clear hp h
   induction vs with
   | nil=>rfl
   | cons u us ih=>simp
  rw [List.zipIdx_cons,List.map_cons,Instr.fill,h0]
  simp only
  rw [if_neg (by simp;omega)]
  have hf:v.cells.zipIdx.foldl (fun cs (x:Value×Nat)=>cs.setIfInBounds (off+x.2) x.1) cells=(splice cells.toList off v.cells.toList).toArray:=by
   have:=foldl_set off v.cells.toList 0 cells (by simp;omega)
   rw [Nat.add_zero] at this
   rw [← this]
   rw [← Array.foldl_toList,Array.toList_zipIdx]
  have hf2:Array.foldl (fun (cs:Array Value) (x:Value×Nat)=>match x with | (c,j)=>cs.setIfInBounds (off+j) c) cells v.cells.zipIdx=(splice cells.toList off v.cells.toList).toArray:=hf
  have hsz:(splice cells.toList off v.cells.toList).length=cells.size:=by rw [length_splice _ _ _ (by simp;omega)];simp
  rw [hf2,fill_some place vs (i+1) (off+v.cells.toList.length) _ (fun k u hk=>by
   have:=hp (k+1) u (by simpa using hk)
   rw [show i+(k+1)=i+1+k by omega] at this
   rw [this]
   simp only [List.take_succ_cons,List.map_cons,List.sum_cons,Nat.add_assoc,Array.length_toList]) (by
   have e2:(splice cells.toList off v.cells.toList).toArray.size=cells.size:=by rw [← hsz];simp
   rw [e2,Array.length_toList];omega)]
  rw [List.toList_toArray,splice_app (by rw [hfl];simp;omega),List.flatMap_cons]
theorem built_some [Inhabited Sanct] {P:Program} {t:TypeId} {fields:Array Field} (hu:P.underlying t=some (.struct fields)) {Z:Array Value} (hz:(P.info? t).map (fun i=>i.zero.map (fun z=>z.cells))=some (some Z))
  {pl:List (Nat×Nat)} (hp:fields.toList.mapM (fun f=>(P.info? f.type).map fun i=>(f.offset,i.size))=some pl) (vs:List Value)
  (hs:∀ k v,vs[k]?=some v→pl[k]?=some (((vs.take k).map (fun v=>v.cells.size)).sum,v.cells.size)) (hn:(vs.map (fun v=>v.cells.size)).sum≤Z.size) :
  P.built t ((vs.zipIdx 0).map fun x=>(x.2,x.1))=some (vs.flatMap (fun v=>v.cells.toList)++Z.toList.drop (vs.flatMap (fun v=>v.cells.toList)).length).toArray:=by
 obtain ⟨it,hi,hz2⟩:=Option.map_eq_some_iff.1 hz
 obtain ⟨z,hz3,hz4⟩:=Option.map_eq_some_iff.1 hz2
 unfold Program.built
 rw [hi,hu]
 simp only [hz3,hp]
 rw [fill_some (fun x=>pl.toArray[x]?) vs 0 0 z.cells (fun k v hk=>by
  have:=hs k v hk
  rw [Nat.zero_add,Nat.zero_add]
  simpa using this) (by rw [Nat.zero_add,hz4];exact hn)]
 unfold splice
 simp [hz4]
def buildBaseI (ps:Array (Nat×Value)):Sem Value:=Instr.build 144 ps
theorem buildBase_eq (ps:Array (Nat×Value)):Instr.build 144 ps=buildBaseI ps:=rfl
attribute [local go_sem ↓] buildBase_eq
theorem zbase_ok [Inhabited Sanct]:(Tryz.prog.info? 144).map (fun i=>i.zero.map (fun z=>z.cells))=some (some ((List.replicate 256 (Value.int .u32 0)++([Value.pointer none,.int .u64 0,.int .i64 0,.int .i64 0,.int .i64 0,.int .i64 0,.int .i64 0]++(List.replicate 512 (Value.bool false)++[Value.pointer none,.bool false,.bool false]))).toArray)):=by kernel_rfl
theorem zbaseL_len:(List.replicate 256 (Value.int .u32 0)++([Value.pointer none,.int .u64 0,.int .i64 0,.int .i64 0,.int .i64 0,.int .i64 0,.int .i64 0]++(List.replicate 512 (Value.bool false)++[Value.pointer none,.bool false,.bool false]))).length=778:=by
 rw [List.length_append,List.length_replicate,List.length_append,List.length_append,List.length_replicate]
 rfl
theorem zbaseL_drop:(List.replicate 256 (Value.int .u32 0)++([Value.pointer none,.int .u64 0,.int .i64 0,.int .i64 0,.int .i64 0,.int .i64 0,.int .i64 0]++(List.replicate 512 (Value.bool false)++[Value.pointer none,.bool false,.bool false]))).drop 776=[Value.bool false,.bool false]:=by
 rw [← List.append_assoc,← List.append_assoc,List.drop_append,List.drop_of_length_le (by rw [List.length_append,List.length_append,List.length_replicate,List.length_replicate];decide),List.nil_append,List.length_append,List.length_append,List.length_replicate,List.length_replicate]
 rfl
theorem built_base [Inhabited Sanct] {d N v:Nat} {s:Sup} {m:List Bool} (hm:m.length=512) (W:World) :
  (buildBaseI #[(0,.agg tabA),(1,.pointer (some ⟨d,0,none⟩)),(2,.agg #[.int .u64 (s.gen:Int),.int .i64 (s.ra:Int),.int .i64 (s.rh:Int),.int .i64 (s.bm:Int),.int .i64 (s.N:Int)]),(3,.agg (mapA N m)),(4,.pointer (some ⟨v,0,none⟩))]).run Tryz.prog W = .ok (.agg (baseA d N s m v false false)) W:=by
 have s0:(Value.agg tabA).cells.size=256:=tabA_len
 have s1:(Value.pointer (some ⟨d,0,none⟩)).cells.size=1:=rfl
 have s2:(Value.agg #[.int .u64 (s.gen:Int),.int .i64 (s.ra:Int),.int .i64 (s.rh:Int),.int .i64 (s.bm:Int),.int .i64 (s.N:Int)]).cells.size=5:=rfl
 have s3:(Value.agg (mapA N m)).cells.size=513:=mapA_len N hm
 have s4:(Value.pointer (some ⟨v,0,none⟩)).cells.size=1:=rfl
 refine run_build W 144 _ _ ?_
 have hZl:((List.replicate 256 (Value.int .u32 0)++([Value.pointer none,.int .u64 0,.int .i64 0,.int .i64 0,.int .i64 0,.int .i64 0,.int .i64 0]++(List.replicate 512 (Value.bool false)++[Value.pointer none,.bool false,.bool false])))).length=778:=zbaseL_len
 have:=built_some (P:=Tryz.prog) (t:=144) Tryz.underlying144 zbase_ok (pl:=[(0,256),(256,1),(257,5),(262,513),(775,1),(776,1),(777,1)]) (by kernel_rfl)
  [.agg tabA,.pointer (some ⟨d,0,none⟩),.agg #[.int .u64 (s.gen:Int),.int .i64 (s.ra:Int),.int .i64 (s.rh:Int),.int .i64 (s.bm:Int),.int .i64 (s.N:Int)],.agg (mapA N m),.pointer (some ⟨v,0,none⟩)] (fun k v hk=>by
   rcases k with _ | _ | _ | _ | _ | k
   all_goals simp only [List.getElem?_cons_zero,List.getElem?_cons_succ,Option.some.injEq,List.getElem?_nil,reduceCtorEq] at hk
   all_goals subst hk
   all_goals simp [s0,s1,s2,s3,s4]) (by rw [List.size_toArray,hZl];simp [s0,s1,s2,s3,s4])
 refine this.trans ?_
 have hfl:([Value.agg tabA,.pointer (some ⟨d,0,none⟩),.agg #[.int .u64 (s.gen:Int),.int .i64 (s.ra:Int),.int .i64 (s.rh:Int),.int .i64 (s.bm:Int),.int .i64 (s.N:Int)],.agg (mapA N m),.pointer (some ⟨v,0,none⟩)].flatMap (fun v=>v.cells.toList)).length=776:=by
  have h2:(mapA N m).toList.length=513:=by rw [Array.length_toList,mapA_len N hm]
  simp [Value.cells,h2,tabA_len,mapA_len N hm]
 rw [hfl]
 rw [show ((List.replicate 256 (Value.int .u32 0)++([Value.pointer none,.int .u64 0,.int .i64 0,.int .i64 0,.int .i64 0,.int .i64 0,.int .i64 0]++(List.replicate 512 (Value.bool false)++[Value.pointer none,.bool false,.bool false]))).toArray).toList.drop 776=[Value.bool false,.bool false] from zbaseL_drop]
 simp [baseA,baseL,supC,Value.cells]
theorem based_calls [Inhabited Sanct] {w:World} {d N nw:Nat} {f:Nat→List Int} (hd:DT w d N nw f) {s:Sup} {m:List Bool} (hm:MapOk N m) :
  Calls Tryz.prog 63 #[.agg tabA,.pointer (some ⟨d,0,none⟩),.agg #[.int .u64 (s.gen:Int),.int .i64 (s.ra:Int),.int .i64 (s.rh:Int),.int .i64 (s.bm:Int),.int .i64 (s.N:Int)],.agg (mapA N m)] w fun r w'=>∃ b v,r = .returned (.tuple #[.pointer (some ⟨b,0,none⟩),.int .i64 0])∧BaseAt w' b d N s m v false false∧ViewAt w' v d N s.gen m m∧w.heap.size≤b∧w.heap.size≤v∧Below w.heap.size w w':=by
 have HO:Aside0 (∀ W,Below w.heap.size w W→Calls Tryz.prog 103 #[.agg tabA,.pointer (some ⟨d,0,none⟩),.int .u64 (s.gen:Int),.agg (mapA N m),.agg (mapA N m)] W fun e w'=>∃ v,e = .returned (.tuple #[.pointer (some ⟨v,0,none⟩),.int .i64 0])∧ViewAt w' v d N s.gen m m∧W.heap.size≤v∧Below W.heap.size W w'):=⟨fun W hW=>open_calls (hd.below hW) hm hm s.gen⟩
 obtain ⟨gT,hgT⟩:∃ q,w.heap.size=q:=⟨_,rfl⟩
 obtain ⟨Wa,hWa⟩:∃ W,w.alloc (Obj.cells tabA 74)=W:=⟨_,rfl⟩
 obtain ⟨gS,hgS⟩:∃ q,Wa.heap.size=q:=⟨_,rfl⟩
 obtain ⟨Wb,hWb⟩:∃ W,Wa.alloc (Obj.cells #[.int .u64 (s.gen:Int),.int .i64 (s.ra:Int),.int .i64 (s.rh:Int),.int .i64 (s.bm:Int),.int .i64 (s.N:Int)] 98)=W:=⟨_,rfl⟩
 obtain ⟨gM,hgM⟩:∃ q,Wb.heap.size=q:=⟨_,rfl⟩
 obtain ⟨W0,hW0⟩:∃ W,Wb.alloc (Obj.cells (mapA N m) 120)=W:=⟨_,rfl⟩
 have HB0:Aside0 (Below w.heap.size w W0):=⟨by rw [← hW0,← hWb,← hWa];exact below_alloc (below_alloc (below_alloc (Below.refl _ _) _) _) _⟩
 have hT0:W0.heap[gT]?=some (Obj.cells tabA 74):=by rw [← hW0,← hWb,← hWa];exact blk_alloc (blk_alloc (newb hgT) _) _
 have hS0:W0.heap[gS]?=some (Obj.cells #[.int .u64 (s.gen:Int),.int .i64 (s.ra:Int),.int .i64 (s.rh:Int),.int .i64 (s.bm:Int),.int .i64 (s.N:Int)] 98):=by rw [← hW0,← hWb];exact blk_alloc (newb hgS) _
 have hM0:W0.heap[gM]?=some (Obj.cells (mapA N m) 120):=by rw [← hW0];exact newb hgM
 have hlt:=ld_tab (g:=gT)
 have hlm:=ld_map (g:=gM) (N:=N) hm.len
 have hcs:∀ W:World,W.heap[gS]?=some (Obj.cells #[.int .u64 (s.gen:Int),.int .i64 (s.ra:Int),.int .i64 (s.rh:Int),.int .i64 (s.bm:Int),.int .i64 (s.N:Int)] 98)→W.cell? ⟨gS,0,none⟩=some (.int .u64 (s.gen:Int))∧W.cell? ⟨gS,1,none⟩=some (.int .i64 (s.ra:Int))∧W.cell? ⟨gS,2,none⟩=some (.int .i64 (s.rh:Int))∧W.cell? ⟨gS,3,none⟩=some (.int .i64 (s.bm:Int))∧W.cell? ⟨gS,4,none⟩=some (.int .i64 (s.N:Int)):=fun W h=>⟨blk_cell h 0,blk_cell h 1,blk_cell h 2,blk_cell h 3,blk_cell h 4⟩
 have hbb:=fun v W=>built_base (d:=d) (N:=N) (v:=v) (s:=s) hm.len W
 clear hd hm
 go_enter Tryz.func63,Tryz.ntmps63
 go_wp2_with (go_at_call 103;(with_reducible refine (HO.out _ HB0.out).mono ?_);rintro r w1 ⟨v,rfl,hv,hvs,hb⟩;refine hold ?_)
 unfold Hold
 have hT1:=blkb hb hT0
 have hS1:=blkb hb hS0
 have hM1:=blkb hb hM0
 have HV:=Aside0.mk (And.intro hv (And.intro hvs hb))
 clear hv hvs hb hT0 hS0 hM0 hW0 hWa hWb hgT hgS hgM
 go_wp2
 go_ret2
 have hb1:=below_step HB0.out HV.out.2.2
 exact ⟨w1.heap.size,v,rfl,newb rfl,blk_alloc HV.out.1 _,hb1.size,Nat.le_trans HB0.out.size HV.out.2.1,below_alloc hb1 _⟩
end
section
def loadSupI (p:Value):Sem Value:=Instr.loadAt 98 p
theorem loadSup_eq (p:Value):Instr.loadAt 98 p=loadSupI p:=rfl
def storeSupI (p v:Value):Sem Unit:=Instr.storeAt 98 p v
theorem storeSup_eq (p v:Value):Instr.storeAt 98 p v=storeSupI p v:=rfl
def loadBaseI (p:Value):Sem Value:=Instr.loadAt 144 p
theorem loadBase_eq (p:Value):Instr.loadAt 144 p=loadBaseI p:=rfl
def storeBaseI (p v:Value):Sem Unit:=Instr.storeAt 144 p v
theorem storeBase_eq (p v:Value):Instr.storeAt 144 p v=storeBaseI p v:=rfl
attribute [local go_sem ↓] Go.wp_at_zero Go.wp_at_succ loadKey_eq loadEn_eq storeKey_eq storeEn_eq loadNd_eq storeNd_eq loadMap_eq storeMap_eq loadTab_eq storePg_eq loadRt_eq storeRt_eq eqKy_eq loadSup_eq storeSup_eq loadBase_eq storeBase_eq
def supA (s:Sup):Array Value:=#[.int .u64 (s.gen:Int),.int .i64 (s.ra:Int),.int .i64 (s.rh:Int),.int .i64 (s.bm:Int),.int .i64 (s.N:Int)]
def SupAt (W:World) (g:Nat) (s:Sup):Prop:=W.heap[g]?=some (Obj.cells (supA s) 98)
theorem sup_size [Inhabited Sanct]:(Tryz.prog.info? 98).map (·.size)=some 5:=by kernel_rfl
theorem base_size [Inhabited Sanct]:(Tryz.prog.info? 144).map (·.size)=some 778:=by kernel_rfl
theorem ld_sup [Inhabited Sanct] {g:Nat} {s:Sup}:∀ W:World,SupAt W g s→(loadSupI (.pointer (some ⟨g,0,none⟩))).run Tryz.prog W = .ok (.agg (supA s)) W:=fun W h=>by
 have:=run_loadAt_mid (P:=Tryz.prog) W g 0 98 (supA s).toList _ (blk_range h) Tryz.underlying98 rfl sup_size
 exact this
theorem st_sup [Inhabited Sanct] {W:World} {g:Nat} {cs:Array Value} (s:Sup) (h:W.heap[g]?=some (Obj.cells cs 98)) (hs:cs.size=5):(storeSupI (.pointer (some ⟨g,0,none⟩)) (.agg #[.int .u64 (s.gen:Int),.int .i64 (s.ra:Int),.int .i64 (s.rh:Int),.int .i64 (s.bm:Int),.int .i64 (s.N:Int)])).run Tryz.prog W = .ok () (W.setRow g (supA s)):=by
 have:=run_storeVar_row (P:=Tryz.prog) W g 98 98 cs (supA s) h sup_size hs (by simp [supA,Value.oneCell'])
 simp only [storeSupI,Instr.storeAt,Instr.sureAddr,Sem.run_bind,Sem.run_pure,Result.andThen_ok]
 exact this
theorem sup_cell {g:Nat} {s:Sup}:∀ W:World,SupAt W g s→W.cell? ⟨g,0,none⟩=some (.int .u64 (s.gen:Int))∧W.cell? ⟨g,2,none⟩=some (.int .i64 (s.rh:Int)):=fun W h=>⟨blk_cell h 0,blk_cell h 2⟩
section
variable {b d N v:Nat} {s:Sup} {m:List Bool} {op en:Bool}
theorem baseA_len [Inhabited Sanct] (hm:m.length=512):(baseA d N s m v op en).size=778:=by
 have hl:(mapA N m).toList.length=513:=by rw [Array.length_toList,mapA_len N hm]
 unfold baseA baseL
 rw [List.size_toArray,List.length_append,tabL_len,List.length_append,List.length_append,List.length_append,hl]
 simp [supC]
theorem baseA_one:(baseA d N s m v op en).all (·.oneCell')=true:=by
 refine Array.all_eq_true_iff_forall_mem.2 (fun x hx=>?_)
 have h1:∀ y∈(mapA N m).toList,y.oneCell'=true:=fun y hy=>Array.all_eq_true_iff_forall_mem.1 (map_one N m) y (by simpa using hy)
 have h2:∀ y∈tabA.toList,y.oneCell'=true:=fun y hy=>by
  obtain ⟨z,_,rfl⟩:=List.mem_map.1 (show y∈nums .u32 crcTab by simpa [tabA] using hy)
  rfl
 have hx':x∈baseL d N s m v op en:=by simpa [baseA] using hx
 unfold baseL at hx'
 rcases List.mem_append.1 hx' with h | h
 ·exact h2 x h
 ·rcases List.mem_append.1 h with h | h
  ·rcases List.mem_singleton.1 h with rfl;rfl
  ·rcases List.mem_append.1 h with h | h
   ·simp only [supC,List.mem_cons,List.not_mem_nil,or_false] at h
    rcases h with rfl | rfl | rfl | rfl | rfl<;>rfl
   ·rcases List.mem_append.1 h with h | h
    ·exact h1 x h
    ·simp only [List.mem_cons,List.not_mem_nil,or_false] at h
     rcases h with rfl | rfl | rfl<;>rfl
theorem ld_base [Inhabited Sanct] (hm:m.length=512):∀ W:World,BaseAt W b d N s m v op en→(loadBaseI (.pointer (some ⟨b,0,none⟩))).run Tryz.prog W = .ok (.agg (baseA d N s m v op en)) W:=fun W h=>by
 have:=run_loadAt_mid (P:=Tryz.prog) W b 0 144 (baseA d N s m v op en).toList _ (blk_range h) Tryz.underlying144 rfl (by rw [Array.length_toList,baseA_len hm];exact base_size)
 rwa [Array.toArray_toList] at this
theorem st_base [Inhabited Sanct] {W:World} {cs:Array Value} (hm:m.length=512) (h:W.heap[b]?=some (Obj.cells cs 144)) (hs:cs.size=778):(storeBaseI (.pointer (some ⟨b,0,none⟩)) (.agg (baseA d N s m v op en))).run Tryz.prog W = .ok () (W.setRow b (baseA d N s m v op en)):=by
 have:=run_storeVar_row (P:=Tryz.prog) W b 144 144 cs (baseA d N s m v op en) h (by rw [baseA_len hm];exact base_size) (by rw [hs,baseA_len hm]) baseA_one
 simp only [storeBaseI,Instr.storeAt,Instr.sureAddr,Sem.run_bind,Sem.run_pure,Result.andThen_ok,this]
end
end
end Go.Proofs.YtnhkikebfinejaaGreatDoor.Z
