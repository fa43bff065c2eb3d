/- Texts of this claim, laid together. No conditions. -/
import Derived.Test.YtnhkikebfinejaaGreatDoorMRickMany18
import Derived.Test.YtnhkikebfinejaaGreatDoorMRickMany16
import Derived.Test.YtnhkikebfinejaaGreatDoorMRickMany1
import Derived.Test.YtnhkikebfinejaaGreatDoorMRickMany17
import Derived.Test.YtnhkikebfinejaaGreatDoorMRickMany3
set_option linter.unusedVariables false
set_option linter.unusedSimpArgs false
set_option maxRecDepth 100000
set_option maxHeartbeats 16000000
namespace Go.Proofs.YtnhkikebfinejaaGreatDoor.Z
open Go Go.RowKit Go.Proofs.YtnhkikebfinejaaGreatDoorW.PrintWords Go.Proofs.YtnhkikebfinejaaGreatDoorW.PrintLast Go.Proofs.YtnhkikebfinejaaGreatDoorW.PrintMore Go.Proofs.YtnhkikebfinejaaGreatDoor.S Go.Proofs.YtnhkikebfinejaaGreatDoor.X
section
attribute [local go_sem ↓] Go.wp_at_zero Go.wp_at_succ loadKey_eq loadEn_eq storeKey_eq storeEn_eq loadNd_eq storeNd_eq loadMap_eq storeMap_eq loadTab_eq storePg_eq loadRt_eq storeRt_eq
theorem blk_own [Inhabited Sanct] {α:Type} {d:Kd α} {e base:Nat} {ok:Nat→Prop} {v:Value} {xs:List α} {W:World} {k:Nat} (hr:d.R e W base ok v xs) (hk:v.ownBlock=some k):k<W.heap.size:=by
 obtain ⟨cells,hc⟩:=Kd.R_typed hr k hk
 exact blk_lt hc
theorem replaced_calls [Inhabited Sanct] {w:World} {v d N gen nw k base bx i:Nat} {m o:List Bool} {f:Nat→List Int} {lv:Value} {L:List Nd} {x:NV} {nd:Nd} (h:VS w v d N gen nw m o f (k+L.length)) (hx:NdR w bx (nvA x) nd) (hlf:nd.lf=false) (hes:nd.es=[]) (hkt:nd.ks.length=nd.ts.length) (h16:nd.ts.length≤16) (hi:i<nd.ts.length) (hl:NdL w base lv L) (hL:∀ nd∈L,NdOk nd) (h12:L.length=1∨L.length=2) :
  Calls Tryz.prog 212 #[.pointer (some ⟨v,0,none⟩),.agg (nvA x),.int .i64 (i:Int),.int .i64 1,lv] w fun r w'=>∃ (lv':Value) (ts:List Nat) (m':List Bool) (f':Nat→List Int),r = .returned (.tuple #[lv',.int .i64 0])∧NdL w' w.heap.size lv' (splitL ⟨false,[],nd.ks.take i++L.map ndLeast++nd.ks.drop (i+1),nd.ts.take i++ts++nd.ts.drop (i+1)⟩)∧Wrs N o L ts m f m' f'∧VS w' v d N gen (nw+4*L.length) m' o f' k∧FrT vT w w':=by
 obtain ⟨lf,es,ks,tt⟩:=nd
 simp only at hlf hes hkt h16 hi ⊢
 subst hlf hes
 obtain ⟨n,hn⟩:∃ n,tt.length=n:=⟨_,rfl⟩
 obtain ⟨mm,hmm⟩:∃ n,L.length=n:=⟨_,rfl⟩
 obtain ⟨ii,hii⟩:∃ z:Int,(i:Int)=z:=⟨_,rfl⟩
 obtain ⟨jj,hjj⟩:∃ z:Int,ii+1=z:=⟨_,rfl⟩
 have HN:Aside0 (i<n∧n≤100∧ks.length=n∧tt.length=n∧n≤16):=⟨by omega,by omega,by omega,hn,by omega⟩
 have HM:Aside0 ((L.map ndLeast).length=mm∧(mm=1∨mm=2)):=⟨by rw [List.length_map,hmm],by omega⟩
 have HI:Aside0 (ii=(i:Int)∧jj=(i:Int)+1):=⟨hii.symm,by omega⟩
 have e1:wrap64 (ii+1)=jj:=by rw [wrap64_id (by omega) (by omega)];omega
 have e2:IntKind.i64.wrap (ii+1)=jj:=by rw [i64_id (by omega) (by omega)];omega
 have HU:Aside0 (∀ W,Below w.heap.size w W→Calls Tryz.prog 203 #[.pointer (some ⟨v,0,none⟩),lv] W fun r w'=>∃ (x:NV) (ts:List Nat) (m':List Bool) (f':Nat→List Int),r = .returned (.tuple #[.agg (nvA x),.int .i64 0])∧NdR w' W.heap.size (nvA x) ⟨false,[],L.map ndLeast,ts⟩∧Wrs N o L ts m f m' f'∧VS w' v d N gen (nw+4*L.length) m' o f' k∧FrT vT W w'):=⟨fun W hW=>vs_under (h.below hW) (hl.below hW) hL (by omega)⟩
 rw [hii]
 obtain ⟨gN,hgN⟩:∃ q,w.heap.size=q:=⟨_,rfl⟩
 obtain ⟨W0,hW0⟩:∃ W,w.alloc (Obj.cells (nvA x) 175)=W:=⟨_,rfl⟩
 have HB0:Aside0 (Below w.heap.size w W0):=⟨by rw [← hW0];exact below_alloc (Below.refl _ _) _⟩
 have HN0:Aside0 (NbAt W0 gN (nvA x)):=⟨by rw [← hW0];exact nb_new _ hgN⟩
 have HX:=Aside0.mk hx
 clear h hl hx hkt h16 hi hL h12 hn hmm hii hjj
 go_enter Tryz.func212,Tryz.ntmps212
 go_wp2_with (go_at_call 203;(with_reducible refine (HU.out _ HB0.out).mono ?_);rintro r w1 ⟨xu,ts,m1,f1,rfl,hru,hws,hvs,hfr⟩;refine hold ?_)
 unfold Hold
 clear hW0
 have hst:=st_ndnew xu w1
 obtain ⟨gU,hgU⟩:∃ q,w1.heap.size=q:=⟨_,rfl⟩
 obtain ⟨w2,hw2⟩:∃ W,w1.alloc (Obj.cells (nvA xu) 175)=W:=⟨_,rfl⟩
 have hb2:Below w1.heap.size w1 w2:=by rw [← hw2];exact below_alloc (Below.refl _ _) _
 have hk2:NbAt w2 gU (nvA xu):=by rw [← hw2];exact nb_new _ hgU
 rw [hgU,hw2] at hst
 have HWS:=Aside0.mk hws
 have HVS:=Aside0.mk (hvs.below hb2)
 have HF2:=Aside0.mk (((FrT.of_below HB0.out vT).trans hfr).below hb2)
 have hn2:=(HN0.out.frT hfr (by decide)).below hb2
 have hX2:=((HX.out.below HB0.out).frT hfr (by decide) (by decide) (by decide)).below hb2
 have hU2:=hru.below hb2
 have HLT:Aside0 (ts.length=mm):=⟨by have:=HM.out.1;rw [List.length_map] at this;rw [← this];exact hws.len⟩
 have HGE:Aside0 (w.heap.size≤gN∧w.heap.size≤gU∧gN≠gU):=⟨by omega,by rw [← hgU];exact Nat.le_trans HB0.out.size hfr.size,fun e=>by have:=blk_lt HN0.out;have:=hfr.size;omega⟩
 clear hws hvs hfr hru hb2 hgN
 obtain ⟨v1,v2,v3,he,hr1,hr2,hr3⟩:=hX2.e
 obtain ⟨u1,u2,u3,hue,-,hs2,hs3⟩:=hU2.e
 simp only at he hr1 hr2 hr3 hue hs2 hs3
 obtain ⟨A1,c1,rfl⟩:=Kd.R_slice hr1
 obtain ⟨A2,c2,rfl⟩:=Kd.R_slice hr2
 obtain ⟨A3,c3,rfl⟩:=Kd.R_slice hr3
 obtain ⟨U2,q2,rfl⟩:=Kd.R_slice hs2
 obtain ⟨U3,q3,rfl⟩:=Kd.R_slice hs3
 rw [HN.out.2.2.1,HN.out.2.2.2.1,List.length_nil] at he
 rw [HN.out.2.2.1] at hr2
 rw [HN.out.2.2.2.1] at hr3
 rw [List.length_nil] at hr1
 rw [HM.out.1,HLT.out] at hue
 rw [HM.out.1] at hs2
 rw [HLT.out] at hs3
 rw [he] at hn2
 rw [hue] at hk2
 have HR1:=Aside0.mk hr1
 have HR2:=Aside0.mk (R_rw hr2 (by have:=HN.out;omega))
 have HR3:=Aside0.mk hr3
 have HS2:=Aside0.mk hs2
 have HS3:=Aside0.mk hs3
 have HCK:Aside0 (∀ W,Below w2.heap.size w2 W→Calls Tryz.prog 243 #[.slice A2 n c2] W fun e w'=>∃ v,e = .returned v∧kK.R 87 w' W.heap.size (fun _=>True) v ks∧Below W.heap.size W w'):=⟨fun W hW=>clone_ky n c2 HN.out.2.2.1 (HR2.out.below hW)⟩
 clear hr1 hr2 hr3 hs2 hs3 hX2 hU2 he hue
 have HBt:Aside0 (Below w2.heap.size w2 w2.drew):=⟨below_drew (Below.refl _ _)⟩
 have HN1:=Aside0.mk hn2
 have HU1:=Aside0.mk hk2
 clear hn2 hk2
 go_wp2
 clear hst hw2 hgU
 have hnt:=HN1.out.below HBt.out
 have hut:=HU1.out.below HBt.out
 have HS2t:=Aside0.mk (Kd.R_below HS2.out HBt.out)
 have hcn:=nb_cell (g:=gN) (x0:=.bool false) (x1:=.slice A1 0 c1) (x2:=.slice A2 n c2) (x3:=.slice A3 n c3)
 have hcu:=nb_cell (g:=gU) (x0:=.bool false) (x1:=u1) (x2:=.slice U2 mm q2) (x3:=.slice U3 mm q3)
 refine start_ (n:=12) (S:=fun w'=>NbAt w' gN #[.bool false,.slice A1 0 c1,.slice A2 n c2,.slice A3 n c3]∧NbAt w' gU #[.bool false,u1,.slice U2 mm q2,.slice U3 mm q3]) (ds:=[11]) (fbB 12 0) (by kernel_rfl) rfl rfl ⟨hnt,hut⟩ (fun hHeld=>?_)
 obtain ⟨wt,hwt⟩:∃ W,w2.drew=W:=⟨_,rfl⟩
 rw [hwt] at HBt hnt hut HS2t hHeld ⊢
 clear hwt
 refine puR 0 23 (fbB 12 1) (h:=?_)
 refine tkR 1 24 (fbB 12 3) hHeld (h:=?_)
 refine puR 3 26 (fbB 12 11) (h:=?_)
 refine puR 4 27 (fbB 12 27) (h:=?_)
 refine puR 5 28 (fbB 12 59) (h:=?_)
 refine puR 6 29 (fbB 12 123) (h:=?_)
 refine puR 7 30 (fbB 12 251) (h:=?_)
 refine tkR 8 31 (fbB 12 507) hHeld (h:=?_)
 refine one_ (i:=2) (N:=some 25) (fbB 12 511) rfl rfl (by kernel_rfl) (by simp) (fun K hK=>?_)
 refine goes_ Tryz.func243 (by kernel_rfl) rfl #[.slice A2 n c2] (by rfl) rfl rfl (by simp [Act.eval]) ?_
 (with_reducible refine (HCK.out _ HBt.out).mono ?_)
 rintro r wa ⟨va,rfl,hra,hba⟩
 obtain ⟨AK,qK,rfl⟩:=Kd.R_slice hra
 rw [HN.out.2.2.1] at hra ⊢
 have hna:=hnt.below hba
 have hua:=hut.below hba
 have HRA:=Aside0.mk hra
 have HBA:=Aside0.mk hba
 have HUA:=Aside0.mk (Kd.R_below HS2t.out hba)
 have HZA:Aside0 (∀ k,(Value.slice U2 mm q2).ownBlock=some k→(Value.slice AK n qK).ownBlock≠some k):=⟨fun k hk e=>by have h1:=Kd.R_base hra k e;have h2:=blk_own HS2t.out hk;omega⟩
 clear hra hba
 refine ⟨_,rfl,hK.out _ _ ⟨hna,hua⟩ (fun hHeld=>?_)⟩
 refine nmR (h:=?_)
 refine one_ (i:=9) (N:=some 32) (fbB 12 1023) rfl rfl (by kernel_rfl) (by simp) (fun K hK=>?_)
 refine goes_ Tryz.func242 (by kernel_rfl) rfl #[.slice AK n qK,.int .i64 ii,.int .i64 jj,.slice U2 mm q2] (by rfl) rfl rfl (by simp [Act.eval]) ?_
 (with_reducible refine (replK_calls HRA.out HN.out.2.2.1 HN.out.1 HN.out.2.1 HUA.out HM.out.1 HM.out.2 HZA.out (below_size HBA.out) ii jj HI.out.1 HI.out.2).mono ?_)
 rintro r wb ⟨vb,rfl,hrb,hfb⟩
 obtain ⟨AR,qR,rfl⟩:=Kd.R_slice hrb
 obtain ⟨nR,hnR⟩:∃ z,(List.take i ks++L.map ndLeast++List.drop (i+1) ks).length=z:=⟨_,rfl⟩
 rw [hnR] at hrb ⊢
 have hft:FrT [87] wa wb:=FrT.of_fr hfb (fun k hk=>by obtain ⟨cells,hc⟩:=Kd.R_typed HRA.out k hk;exact ⟨cells,_,(0,0),hc,by simp,fun h=>absurd h (by decide)⟩)
 have hnb:=hna.frT hft (by decide)
 have hub:=hua.frT hft (by decide)
 have HRB:=Aside0.mk hrb
 have HFB:=Aside0.mk hft
 have HFR:=Aside0.mk hfb
 clear hrb hfb hft hnR
 refine ⟨_,rfl,hK.out _ _ ⟨hnb,hub⟩ (fun hHeld=>?_)⟩
 refine nmR (h:=?_)
 refine puR 10 33 (fbB 12 2047) (h:=?_)
 refine last_ (i:=11) (N:=none) (fbB 12 4095) rfl rfl (by kernel_rfl) (by simp) (fun K hK=>?_)
 have c2:=blk_cell hnb 2
 have f2:=blk_frozen hnb 2
 simp only [List.getElem?_toArray,List.getElem?_cons_zero,List.getElem?_cons_succ] at c2
 go_simp
 refine hK.out _ _ ?_
 refine done_ (by kernel_rfl) ?_
 go_wp2
 obtain ⟨w5,hw5⟩:∃ W,wb.setCell ⟨gN,2,none⟩ (.slice AR nR qR)=W:=⟨_,rfl⟩
 have hset:FrT [175] wb w5:=by rw [← hw5];exact (FrT.refl _ _).setCell hnb (by decide) _ _
 have HN5:Aside0 (NbAt w5 gN #[.bool false,.slice A1 0 c1,.slice AR nR qR,.slice A3 n c3]):=⟨by rw [← hw5];exact blk_set hnb 2 _⟩
 have HU5:Aside0 (NbAt w5 gU #[.bool false,u1,.slice U2 mm q2,.slice U3 mm q3]):=⟨by rw [← hw5];exact (Below.heap_setCell wb ⟨gN,2,none⟩ _ gU (fun e=>HGE.out.2.2 e.symm)).trans hub⟩
 have HK5:=Aside0.mk (R_frT HRB.out hset (by decide))
 have hf25:FrT [87,175] w2 w5:=(((FrT.of_below HBt.out _).below HBA.out).trans (HFB.out.mono (by simp))).trans (hset.mono (by simp))
 have HR1b:=Aside0.mk (R_frT HR1.out hf25 (by decide))
 have hr3:=R_frT HR3.out hf25 (by decide)
 have HS3b:=Aside0.mk (R_frT HS3.out hf25 (by decide))
 have HVS5:=Aside0.mk (HVS.out.frT hf25 (by decide))
 have HF5:Aside0 (FrT vT w w5):=⟨by
  rw [← hw5]
  refine (((HF2.out.below HBt.out).below HBA.out).newFr HFR.out (fun k hk=>?_)).setNew HGE.out.1 _ _
  have h1:=Kd.R_base HRA.out k hk
  have h2:=HBt.out.size
  have h3:=HF2.out.size
  omega⟩
 have HR3b:=Aside0.mk (R_rw hr3 (by have:=HN.out;omega))
 have HGB:Aside0 (w.heap.size≤w5.heap.size):=⟨HF5.out.size⟩
 have HCN:Aside0 (∀ W,Below w5.heap.size w5 W→Calls Tryz.prog 245 #[.slice A3 n c3] W fun e w'=>∃ v,e = .returned v∧kN.R 3 w' W.heap.size (fun _=>True) v tt∧Below W.heap.size W w'):=⟨fun W hW=>clone_na n c3 HN.out.2.2.2.1 (HR3b.out.below hW)⟩
 rw [hw5]
 clear hset hw5 hf25 hr3 hHeld hnt hut hna hua hnb hub c2 f2 HRB HFB HFR HRA HBA HUA HZA HR2 HCK HS2 HS2t HN1 HU1 HR1 HR3 HS3 HVS HF2 HN0 HX HU hcn hcu HBt
 have HBt:Aside0 (Below w5.heap.size w5 w5.drew):=⟨below_drew (Below.refl _ _)⟩
 have hns:=HN5.out.below HBt.out
 have hus:=HU5.out.below HBt.out
 have HS3t:=Aside0.mk (Kd.R_below HS3b.out HBt.out)
 have hcn:=nb_cell (g:=gN) (x0:=.bool false) (x1:=.slice A1 0 c1) (x2:=.slice AR nR qR) (x3:=.slice A3 n c3)
 have hcu:=nb_cell (g:=gU) (x0:=.bool false) (x1:=u1) (x2:=.slice U2 mm q2) (x3:=.slice U3 mm q3)
 refine start_ (n:=12) (S:=fun w'=>NbAt w' gN #[.bool false,.slice A1 0 c1,.slice AR nR qR,.slice A3 n c3]∧NbAt w' gU #[.bool false,u1,.slice U2 mm q2,.slice U3 mm q3]) (ds:=[11]) (fbB 12 0) (by kernel_rfl) rfl rfl ⟨hns,hus⟩ (fun hHeld=>?_)
 obtain ⟨ws,hws⟩:∃ W,w5.drew=W:=⟨_,rfl⟩
 rw [hws] at HBt hns hus HS3t hHeld ⊢
 clear hws
 refine puR 0 34 (fbB 12 1) (h:=?_)
 refine tkR 1 35 (fbB 12 3) hHeld (h:=?_)
 refine puR 3 37 (fbB 12 11) (h:=?_)
 refine puR 4 38 (fbB 12 27) (h:=?_)
 refine puR 5 39 (fbB 12 59) (h:=?_)
 refine puR 6 40 (fbB 12 123) (h:=?_)
 refine puR 7 41 (fbB 12 251) (h:=?_)
 refine tkR 8 42 (fbB 12 507) hHeld (h:=?_)
 refine one_ (i:=2) (N:=some 36) (fbB 12 511) rfl rfl (by kernel_rfl) (by simp) (fun K hK=>?_)
 refine goes_ Tryz.func245 (by kernel_rfl) rfl #[.slice A3 n c3] (by rfl) rfl rfl (by simp [Act.eval]) ?_
 (with_reducible refine (HCN.out _ HBt.out).mono ?_)
 rintro r wc ⟨va,rfl,hra,hba⟩
 obtain ⟨AK,qK,rfl⟩:=Kd.R_slice hra
 rw [HN.out.2.2.2.1] at hra ⊢
 have hnc:=hns.below hba
 have huc:=hus.below hba
 have HRC:=Aside0.mk hra
 have HBC:=Aside0.mk hba
 have HUC:=Aside0.mk (Kd.R_below HS3t.out hba)
 have HZC:Aside0 (∀ k,(Value.slice U3 mm q3).ownBlock=some k→(Value.slice AK n qK).ownBlock≠some k):=⟨fun k hk e=>by have h1:=Kd.R_base hra k e;have h2:=blk_own HS3t.out hk;omega⟩
 clear hra hba
 refine ⟨_,rfl,hK.out _ _ ⟨hnc,huc⟩ (fun hHeld=>?_)⟩
 refine nmR (h:=?_)
 refine one_ (i:=9) (N:=some 43) (fbB 12 1023) rfl rfl (by kernel_rfl) (by simp) (fun K hK=>?_)
 refine goes_ Tryz.func244 (by kernel_rfl) rfl #[.slice AK n qK,.int .i64 ii,.int .i64 jj,.slice U3 mm q3] (by rfl) rfl rfl (by simp [Act.eval]) ?_
 (with_reducible refine (replN_calls HRC.out HN.out.2.2.2.1 HN.out.1 HN.out.2.1 HUC.out HLT.out HM.out.2 HZC.out (below_size HBC.out) ii jj HI.out.1 HI.out.2).mono ?_)
 rintro r wd ⟨vb,rfl,hrb,hfb⟩
 obtain ⟨BR,pR,rfl⟩:=Kd.R_slice hrb
 obtain ⟨lR,hlR⟩:∃ z,(List.take i tt++ts++List.drop (i+1) tt).length=z:=⟨_,rfl⟩
 rw [hlR] at hrb ⊢
 have hft:FrT [3] wc wd:=FrT.of_fr hfb (fun k hk=>by obtain ⟨cells,hc⟩:=Kd.R_typed HRC.out k hk;exact ⟨cells,_,(0,0),hc,by simp,fun h=>absurd h (by decide)⟩)
 have hnd:=hnc.frT hft (by decide)
 have hud:=huc.frT hft (by decide)
 have HRD:=Aside0.mk hrb
 have HFD:=Aside0.mk hft
 have HFS:=Aside0.mk hfb
 clear hrb hfb hft hlR
 refine ⟨_,rfl,hK.out _ _ ⟨hnd,hud⟩ (fun hHeld=>?_)⟩
 refine nmR (h:=?_)
 refine puR 10 44 (fbB 12 2047) (h:=?_)
 refine last_ (i:=11) (N:=none) (fbB 12 4095) rfl rfl (by kernel_rfl) (by simp) (fun K hK=>?_)
 have c2:=blk_cell hnd 3
 have f2:=blk_frozen hnd 3
 simp only [List.getElem?_toArray,List.getElem?_cons_zero,List.getElem?_cons_succ] at c2
 go_simp
 refine hK.out _ _ ?_
 refine done_ (by kernel_rfl) ?_
 go_wp2
 obtain ⟨w8,hw8⟩:∃ W,wd.setCell ⟨gN,3,none⟩ (.slice BR lR pR)=W:=⟨_,rfl⟩
 have hset:FrT [175] wd w8:=by rw [← hw8];exact (FrT.refl _ _).setCell hnd (by decide) _ _
 have hn8:NbAt w8 gN #[.bool false,.slice A1 0 c1,.slice AR nR qR,.slice BR lR pR]:=by rw [← hw8];exact blk_set hnd 3 _
 have hf58:FrT [3,175] w5 w8:=(((FrT.of_below HBt.out _).below HBC.out).trans (HFD.out.mono (by simp))).trans (hset.mono (by simp))
 have HF8:Aside0 (FrT vT w w8):=⟨by
  rw [← hw8]
  refine (((HF5.out.below HBt.out).below HBC.out).newFr HFS.out (fun k hk=>?_)).setNew HGE.out.1 _ _
  have h1:=Kd.R_base HRC.out k hk
  have h2:=HBt.out.size
  have h3:=HF5.out.size
  omega⟩
 have HVS8:=Aside0.mk (HVS5.out.frT hf58 (by decide))
 have HNR:NdR w8 0 #[.bool false,.slice A1 0 c1,.slice AR nR qR,.slice BR lR pR] ⟨false,[],List.take i ks++L.map ndLeast++List.drop (i+1) ks,List.take i tt++ts++List.drop (i+1) tt⟩:=
  ⟨_,_,_,rfl,Kd.R_lower (R_frT HR1b.out hf58 (by decide)) (Nat.zero_le _),Kd.R_lower (R_frT HK5.out hf58 (by decide)) (Nat.zero_le _),Kd.R_lower (R_frT HRD.out hset (by decide)) (Nat.zero_le _)⟩
 have hlk:(List.take i ks++L.map ndLeast++List.drop (i+1) ks).length=i+mm+(n-(i+1)):=by
  rw [List.length_append,List.length_append,List.length_take,List.length_drop,HM.out.1,HN.out.2.2.1,Nat.min_eq_left (by have:=HN.out;omega)]
 have hlt:(List.take i tt++ts++List.drop (i+1) tt).length=i+mm+(n-(i+1)):=by
  rw [List.length_append,List.length_append,List.length_take,List.length_drop,HLT.out,HN.out.2.2.2.1,Nat.min_eq_left (by have:=HN.out;omega)]
 have HSP:=Aside0.mk (split_calls HNR (.inr ⟨rfl,rfl,hlk.trans hlt.symm⟩) (by show 1≤(List.take i tt++ts++List.drop (i+1) tt).length;rw [hlt];have:=HM.out.2;omega) (by show (List.take i tt++ts++List.drop (i+1) tt).length≤2*16;rw [hlt];have:=HM.out.2;have:=HN.out;omega))
 have hld:=ld_nd (g:=gN) (v:=#[.bool false,.slice A1 0 c1,.slice AR nR qR,.slice BR lR pR]) rfl
 rw [hw8]
 clear hset hw8 hf58 HNR hlk hlt hHeld hns hus hnc huc hnd hud c2 f2 HRD HFD HFS HRC HBC HUC HZC HR3b HCN HS3b HS3t HN5 HU5 HR1b HVS5 HF5 hcn hcu HBt HK5
 go_wp2
 rw [hld w8 hn8]
 clear hld
 go_wp2_with (go_at_call 204;(with_reducible refine HSP.out.mono ?_);rintro r w9 ⟨v9,rfl,hl9,hb9⟩;have H9:=Aside0.mk (And.intro hl9 hb9);clear hl9 hb9)
 go_ret2
 exact ⟨v9,ts,m1,f1,rfl,H9.out.1.lower HF8.out.size,HWS.out,HVS8.out.below H9.out.2,HF8.out.below H9.out.2⟩
end
section
attribute [local go_sem ↓] Go.wp_at_zero Go.wp_at_succ loadKey_eq loadEn_eq storeKey_eq storeEn_eq loadNd_eq storeNd_eq loadMap_eq storeMap_eq loadTab_eq storePg_eq loadRt_eq storeRt_eq
theorem ld_key_en [Inhabited Sanct] {g:Nat} {x:En}:∀ W:World,EnAt W g x→(loadKeyI (.pointer (some ⟨g,0,none⟩))).run Tryz.prog W = .ok (.agg (keyA x.k)) W:=fun W h=>(ld_en W h).2
theorem ld_en_en [Inhabited Sanct] {g:Nat} {x:En}:∀ W:World,EnAt W g x→(loadEnI (.pointer (some ⟨g,0,none⟩))).run Tryz.prog W = .ok (.agg (enA x)) W:=fun W h=>(ld_en W h).1
theorem rna_cell {w:World} {g o2 i kid:Nat} {tt:List Nat} (h:RNa w (some ⟨g,o2,none⟩) tt) (hk:tt[i]?=some kid):w.cell? ⟨g,o2+i,none⟩=some (.int .i64 (kid:Int)):=by
 obtain ⟨g',o',hA,hcc⟩:=h.at_ hk
 injection hA with hA
 injection hA with h1 h2
 subst h1 h2
 have:=hcc 0 _ rfl
 simpa using this
theorem vs_insinner [Inhabited Sanct] {w:World} {v d N gen nw k K h:Nat} {m o:List Bool} {f:Nat→List Int} (hv:VS w v d N gen nw m o f K) {ks:List Ky} {tt:List Nat} (hok:InnOk ks tt) (a:Nat) (ha2:2≤a) (haN:a+1≤N) (hp:PageAt f a 73 (ndB ⟨false,[],ks,tt⟩)) (hu:m[a]?=some true) (x:En) (hh:h≤4) (i kid:Nat) (hi:chIx ks x.k=i) (hkid:tt[i]?=some kid) {Q:List Nd→List Bool→(Nat→List Int)→Nat→Prop}
  (HI:∀ W,VS W v d N gen nw (setN false m a 1) o f K→Calls Tryz.prog 158 #[.pointer (some ⟨v,0,none⟩),.int .i64 (kid:Int),.int .i64 ((h+1:Nat):Int),.agg (enA x)] W fun r w'=>∃ (lv:Value) (L:List Nd) (m1:List Bool) (f1:Nat→List Int) (n1:Nat),r = .returned (.tuple #[lv,.int .i64 0])∧NdL w' W.heap.size lv L∧(L.length=1∨L.length=2)∧(∀ nd∈L,NdOk nd)∧VS w' v d N gen n1 m1 o f1 (k+L.length)∧Q L m1 f1 n1∧FrT vT W w') :
  Calls Tryz.prog 158 #[.pointer (some ⟨v,0,none⟩),.int .i64 (a:Int),.int .i64 ((h+2:Nat):Int),.agg (enA x)] w fun r w'=>∃ (lv:Value) (L:List Nd) (m1:List Bool) (f1:Nat→List Int) (n1:Nat) (ts:List Nat) (m2:List Bool) (f2:Nat→List Int),r = .returned (.tuple #[lv,.int .i64 0])∧Q L m1 f1 n1∧(L.length=1∨L.length=2)∧MapOk N m1∧NdL w' w.heap.size lv (splitL ⟨false,[],ks.take i++L.map ndLeast++ks.drop (i+1),tt.take i++ts++tt.drop (i+1)⟩)∧Wrs N o L ts m1 f1 m2 f2∧VS w' v d N gen (n1+4*L.length) m2 o f2 k∧FrT vT w w':=by
 have hnd:NdOk ⟨false,[],ks,tt⟩:=.inr ⟨rfl,rfl,hok⟩
 have HNC:Aside0 (∀ W,Below w.heap.size w W→Calls Tryz.prog 206 #[.pointer (some ⟨v,0,none⟩),.int .i64 (a:Int),.bool false] W fun r w'=>∃ x,r = .returned (.tuple #[.agg (nvA x),.int .i64 0])∧NdR w' W.heap.size (nvA x) ⟨false,[],ks,tt⟩∧Below W.heap.size W w'):=⟨fun W hW=>vs_node (hv.below hW) hnd a haN hp⟩
 have HGV:Aside0 (∀ W,Below w.heap.size w W→Calls Tryz.prog 207 #[.pointer (some ⟨v,0,none⟩),.int .i64 (a:Int)] W fun e w'=>e = .returned (.int .i64 0)∧VS w' v d N gen nw (setN false m a 1) o f K∧FrT vT W w'):=⟨fun W hW=>vs_give (hv.below hW) a ha2 haN hu⟩
 obtain ⟨n,hn⟩:∃ n,tt.length=n:=⟨_,rfl⟩
 have HOK:=Aside0.mk hok
 have HN:Aside0 (ks.length=n∧tt.length=n∧1≤n∧n≤16∧i<n):=⟨by have:=hok.n;omega,hn,by have:=hok.n1;omega,by have:=hok.n16;omega,by have:=(List.getElem?_eq_some_iff.1 hkid).1;omega⟩
 have HKD:=Aside0.mk (And.intro hi hkid)
 have HII:=Aside0.mk HI
 obtain ⟨q,hq⟩:∃ q:Int,((h+2:Nat):Int)=q:=⟨_,rfl⟩
 obtain ⟨q1,hq1⟩:∃ q:Int,((h+1:Nat):Int)=q:=⟨_,rfl⟩
 have d0:(q == 1)=false:=beq_eq_false_iff_ne.2 (by omega)
 have e1:wrap64 (q-1)=q1:=by rw [wrap64_id (by omega) (by omega)];omega
 have e2:IntKind.i64.wrap (q-1)=q1:=by rw [i64_id (by omega) (by omega)];omega
 rw [hq1] at HII
 rw [hq]
 obtain ⟨ii,hii⟩:∃ z:Int,(i:Int)=z:=⟨_,rfl⟩
 have g1:(0≤ii)=True:=eq_true (by omega)
 have g2:(ii<(n:Int))=True:=eq_true (by have:=HN.out;omega)
 have g3:ii.toNat=i:=by omega
 have HIZ:=Aside0.mk hii
 obtain ⟨gx,hgx⟩:∃ q,w.heap.size=q:=⟨_,rfl⟩
 obtain ⟨W0,hW0⟩:∃ W,w.alloc (Obj.cells (enA x) 89)=W:=⟨_,rfl⟩
 have HB0:Aside0 (Below w.heap.size w W0):=⟨by rw [← hW0];exact below_alloc (Below.refl _ _) _⟩
 have HX0:Aside0 (EnAt W0 gx x):=⟨by rw [← hW0];exact en_new x hgx⟩
 clear hv hok ha2 haN hp hu hn hi hkid HI hq hq1 hii hnd hh
 go_enter Tryz.func158,Tryz.ntmps158
 go_wp2_with (go_at_call 206;(with_reducible refine (HNC.out _ HB0.out).mono ?_);rintro r w1 ⟨xn,rfl,hr,hb⟩;refine hold ?_)
 unfold Hold
 clear hW0
 have HX1:=Aside0.mk (HX0.out.below hb)
 have HB1:=Aside0.mk (below_step HB0.out hb)
 have hst:=st_ndnew xn w1
 obtain ⟨gN,hgN⟩:∃ q,w1.heap.size=q:=⟨_,rfl⟩
 obtain ⟨w2,hw2⟩:∃ W,w1.alloc (Obj.cells (nvA xn) 175)=W:=⟨_,rfl⟩
 have hb2:Below w1.heap.size w1 w2:=by rw [← hw2];exact below_alloc (Below.refl _ _) _
 have hk2:NbAt w2 gN (nvA xn):=by rw [← hw2];exact nb_new _ hgN
 rw [hgN,hw2] at hst
 have HX2:=Aside0.mk (HX1.out.below hb2)
 have HB2:=Aside0.mk (below_step HB1.out hb2)
 have HR2:=Aside0.mk (hr.below hb2)
 clear hr hb hb2
 go_wp2_with (go_at_call 207;(with_reducible refine (HGV.out _ HB2.out).mono ?_);rintro r w3 ⟨rfl,hvs,hfr⟩;refine hold ?_)
 unfold Hold
 have HX3:=Aside0.mk (hfr.blk HX2.out (by decide))
 have HK3:=Aside0.mk (hk2.frT hfr (by decide))
 have HF3:=Aside0.mk ((FrT.of_below HB2.out vT).trans hfr)
 have HR3:=Aside0.mk (HR2.out.frT hfr (by decide) (by decide) (by decide))
 have HVS3:=Aside0.mk hvs
 clear hvs hfr hst hw2 hgN hk2
 have HCC:=Aside0.mk (child_calls (HR3.out.v ⟨by simp,by have:=HN.out;show ks.length≤_;omega,by have:=HN.out;show tt.length≤_;omega⟩) rfl (by have:=HN.out;show 1≤ks.length;omega) (by have:=HN.out;show ks.length≤16;omega) x.k)
 simp only at HCC
 rw [HKD.out.1,HIZ.out] at HCC
 have hk3:=HK3.out
 have hx3:EnAt w3 gx x:=HX3.out
 have hl1:=ld_nd (g:=gN) (v:=nvA xn) rfl
 have hl2:=ld_key_en w3 hx3
 go_wp2_with (go_at_call 211;(with_reducible refine HCC.out.mono ?_);rintro r w4 ⟨rfl,hb⟩;refine hold ?_)
 unfold Hold
 have HB4:=Aside0.mk hb
 have hk4:=hk3.below hb
 have hx4:=hx3.below hb
 have HR4:=Aside0.mk (HR3.out.below hb)
 clear hb hk3 hx3
 go_wp2
 obtain ⟨v1,v2,v3,he,hr1,hr2,hr3⟩:=HR4.out.e
 simp only at he hr1 hr2 hr3
 obtain ⟨A1,c1,rfl⟩:=Kd.R_slice hr1
 obtain ⟨A2,c2,rfl⟩:=Kd.R_slice hr2
 obtain ⟨A3,c3,rfl⟩:=Kd.R_slice hr3
 rw [HN.out.1,HN.out.2.1,List.length_nil] at he
 have hna:=R_rw hr3 (by have:=HN.out;omega)
 obtain ⟨g,o2,hA,hcc⟩:=hna.at_ HKD.out.2
 subst hA
 have HNA:Aside0 (RNa w4.drew (some ⟨g,o2,none⟩) tt):=⟨hna.below (below_drew (Below.refl _ _))⟩
 have hcl:=rna_cell HNA.out HKD.out.2
 have hkd:NbAt w4.drew gN #[.bool false,.slice A1 0 c1,.slice A2 n c2,.slice (some ⟨g,o2,none⟩) n c3]:=by rw [← he];exact hk4
 have hxd:EnAt w4.drew gx x:=hx4
 have hcn:=nb_cell (g:=gN) (x0:=.bool false) (x1:=.slice A1 0 c1) (x2:=.slice A2 n c2) (x3:=.slice (some ⟨g,o2,none⟩) n c3)
 have hl3:=ld_en_en (g:=gx) (x:=x)
 have HIN:=Aside0.mk (HII.out w4.drew (HVS3.out.below (below_drew HB4.out)))
 have HRD:=Aside0.mk (HR4.out.below (below_drew (Below.refl _ _)))
 have HF4:=Aside0.mk (HF3.out.below (below_drew HB4.out))
 have HE:=Aside0.mk he
 clear hr1 hr2 hr3 hna hcc hk4 hx4 hl1 hl2 he
 go_region_held3 (fun w'=>NbAt w' gN #[.bool false,.slice A1 0 c1,.slice A2 n c2,.slice (some ⟨g,o2,none⟩) n c3]∧EnAt w' gx x∧w'.cell? ⟨g,o2+i,none⟩=some (.int .i64 (kid:Int))) (first | exact ⟨hkd,hxd,hcl⟩ | exact ⟨hk5,hx5,hc5⟩)
  ((go_at_call 158;(with_reducible refine HIN.out.mono ?_);rintro r w5 ⟨lv,L,m1,f1,n1,rfl,hL1,hL2,hL3,hL4,hL5,hL6⟩;have hk5:=hkd.frT hL6 (by decide);have hx5:EnAt w5 gx x:=hL6.blk hxd (by decide);have hc5:=rna_cell (HNA.out.frT hL6 (by decide)) HKD.out.2))
 have hrp:=replaced_calls (i:=i) hL4 (HRD.out.frT hL6 (by decide) (by decide) (by decide)) rfl rfl (by show ks.length=tt.length;have:=HN.out;omega) (by show tt.length≤16;have:=HN.out;omega) (by show i<tt.length;have:=HN.out;omega) hL1 hL3 hL2
 rw [HE.out,HIZ.out] at hrp
 have HRP:=Aside0.mk hrp
 have HQ:=Aside0.mk (And.intro hL5 (And.intro hL2 hL4.mm))
 have HF5:=Aside0.mk (HF4.out.trans hL6)
 have hld:=ld_nd (g:=gN) (v:=#[.bool false,.slice A1 0 c1,.slice A2 n c2,.slice (some ⟨g,o2,none⟩) n c3]) rfl w5 hk5
 clear hrp hL1 hL2 hL3 hL4 hL5 hL6 hk5 hx5 hc5 hkd hxd hcl hcn hl3 hgx
 go_wp2_with (go_at_call 212;(with_reducible refine HRP.out.mono ?_);rintro r w6 ⟨lv6,ts,m2,f2,rfl,k1,k2,k3,k4⟩;have HK6:=Aside0.mk (And.intro k1 (And.intro k2 (And.intro k3 k4)));clear k1 k2 k3 k4)
 go_ret2
 exact ⟨lv6,L,m1,f1,n1,ts,m2,f2,rfl,HQ.out.1,HQ.out.2.1,HQ.out.2.2,HK6.out.1.lower HF5.out.size,HK6.out.2.1,HK6.out.2.2.1,HF5.out.trans HK6.out.2.2.2⟩
end
theorem insE_len [Inhabited Sanct] (x:En) (es:List En):(insE x es).length=es.length+1:=by
 have:=(insE_perm x es).length_eq
 simpa using this
theorem EnG.perm {x:En} {es es':List En} (hp:es'.Perm (x :: es)) (hg:∀ e∈es,EnG e) (hx:EnG x):∀ e∈es',EnG e:=fun e he=>by
 rcases List.mem_cons.1 (hp.mem_iff.1 he) with rfl | he
 ·exact hx
 ·exact hg e he
theorem Us.bnd {N:Nat} {m:List Bool} {U V:List Nat} (h:Us N m U) (hN:N≤512) (hs:∀ p∈V,p∈U):∀ p∈V,2≤p∧p≤511:=fun p hp=>by
 have:=h.b p (hs p hp)
 omega
def InsG [Inhabited Sanct] (v d N gen:Nat) (o:List Bool) (h:Nat):Prop:=∀ {w:World} {nw k a:Nat} {m:List Bool} {f:Nat→List Int} {nd:Nd} {es:List En} {ps R:List Nat} {x:En},h≤4→VS w v d N gen nw m o f (k+2*h)→NdT f h nd es ps→NdOk nd→(nd.lf=true∨2≤ndSize nd)→PageAt f a (kindN nd) (ndB nd)→Sp es→(∀ e∈es,EnG e)→EnG x→(∀ y∈es,y.k≠x.k)→Us N m (a :: (ps++R)) →
  Calls Tryz.prog 158 #[.pointer (some ⟨v,0,none⟩),.int .i64 (a:Int),.int .i64 ((h+1:Nat):Int),.agg (enA x)] w fun r w'=>∃ (lv:Value) (P:List Pc) (m':List Bool) (f':Nat→List Int) (nw':Nat),r = .returned (.tuple #[lv,.int .i64 0])∧NdL w' w.heap.size lv (P.map Pc.n)∧Ins f' h nd x es P∧VS w' v d N gen nw' m' o f' k∧Us N m' (P.flatMap Pc.ps++R)∧(∀ p∈R,SameAt f f' p)∧FrT vT w w'
theorem vs_insert0 [Inhabited Sanct] {v d N gen:Nat} {o:List Bool}:InsG v d N gen o 0:=by
 intro w nw k a m f nd es ps R x hh hv ht hok h2 hp hs hg hx hne hu
 obtain ⟨rfl,rfl⟩:=ht
 have hL:LeafOk es:=by
  rcases hok with ⟨_,_,_,h4⟩ | ⟨h1,_⟩
  ·exact h4
  ·cases h1
 have hb:=hu.b a (by simp)
 refine (vs_insleaf hv hL a hb.1 hb.2 hp (hu.at_ (by simp)) x).mono ?_
 rintro r w' ⟨lv,rfl,k1,k2,k3⟩
 obtain ⟨P,p1,p2,p3⟩:=Ins.of (f:=f) (h:=0) (nd:=⟨true,es,[],[]⟩) (nd':=⟨true,insE x es,[],[]⟩) (x:=x) (es:=es) (es':=insE x es) (ps':=[]) ⟨rfl,rfl⟩ rfl (by simp [ndSize,insE_len]) (.inl rfl) (insE_perm x es) (insE_sp hs hne) (EnG.perm (insE_perm x es) hg hx) (by have:=hL.n7;simp [ndSize,mostN,insE_len];omega) (by simp [ndSize,insE_len]) List.nodup_nil (by simp)
 rw [p1] at k1
 refine ⟨lv,P,_,f,nw,rfl,k1,p3,k2,?_,fun p _ s _ _=>rfl,k3⟩
 rw [p2]
 exact hu.give
theorem perm_kid {a:Nat} {ps X Y R:List Nat}:((X++(a :: ps++Y))++R).Perm (a :: (ps++(X++Y++R))):=by
 have h1:(X++(a :: ps++Y)).Perm ((a :: ps)++(X++Y)):=by
  rw [← List.append_assoc,← List.append_assoc]
  exact List.Perm.append_right _ List.perm_append_comm
 rw [show (a :: (ps++(X++Y++R)))=((a :: ps)++(X++Y))++R by simp]
 exact List.Perm.append_right R h1
theorem vs_insertS [Inhabited Sanct] {v d N gen h:Nat} {o:List Bool} (ih:InsG v d N gen o h):InsG v d N gen o (h+1):=by
 intro w nw k a m f nd es ps R x hh hv ht hok h2 hp hs hg hx hne hu
 obtain ⟨L,rfl,rfl,rfl,hk⟩:=ht
 have hI:InnOk (innN L).ks (innN L).ts:=by
  rcases hok with ⟨h1,_⟩ | ⟨_,_,h3⟩
  ·cases h1
  ·exact h3
 have hN5:=hv.mm.n5
 have hL1:1≤L.length:=by have:=hI.n1;simpa [innN] using this
 have hL16:L.length≤16:=by have:=hI.n16;simpa [innN] using this
 have hL2:2≤L.length:=by
  rcases h2 with h2 | h2
  ·cases h2
  ·simpa [ndSize,innN] using h2
 obtain ⟨c,hc,hlo,hhi⟩:=ins_mid (f:=f) (h:=h) hk hs hL1 hne
 obtain ⟨i,hi⟩:∃ i,chIx (innN L).ks x.k=i:=⟨_,rfl⟩
 rw [hi] at hc hlo hhi
 have hcm:c∈L:=List.mem_of_getElem? hc
 have hck:=hk c hcm
 have hb:=hu.b a (by simp)
 have hes:=kidEs_split L i hc
 have hps:=kidPs_split L i hc
 obtain ⟨X,hX⟩:∃ X,kidPs (L.take i)=X:=⟨_,rfl⟩
 obtain ⟨Y,hY⟩:∃ Y,kidPs (L.drop (i+1))=Y:=⟨_,rfl⟩
 rw [hX,hY] at hps
 have hsp:=hs
 rw [hes] at hsp
 have hec:∀ e∈c.es,e∈kidEs L:=fun e he=>by rw [hes];exact List.mem_append_right _ (List.mem_append_left _ he)
 have hu1:Us N (setN false m a 1) (c.a :: (c.ps++(X++Y++R))):=hu.give.perm (by rw [hps];exact perm_kid)
 have hsc:Sp c.es:=(List.pairwise_append.1 (List.pairwise_append.1 hsp).2.1).1
 have h2c:c.n.lf=true∨2≤ndSize c.n:=by
  have:=hck.2.1
  unfold leastN at this
  cases hlf:c.n.lf with
  | true=>exact .inl rfl
  | false=>rw [hlf] at this;simp at this;exact .inr (by omega)
 refine (vs_insinner (k:=k) (h:=h) (i:=i) (kid:=c.a) hv hI a hb.1 hb.2 hp (hu.at_ (by simp)) x (by omega) hi (by simp [innN,hc])
  (Q:=fun L' m1 f1 n1=>∃ P:List Pc,L'=P.map Pc.n∧Ins f1 h c.n x c.es P∧Us N m1 (P.flatMap Pc.ps++(X++Y++R)) ∧ ∀ p∈X++Y++R,SameAt f f1 p) (fun W hW=>?_)).mono ?_
 ·refine (ih (k:=k+2) (by omega) (by rw [show k+2+2*h=k+2*(h+1) by omega];exact hW) hck.2.2.2 hck.1 h2c hck.2.2.1 hsc (fun e he=>hg e (hec e he)) hx (fun y hy=>hne y (hec y hy)) hu1).mono ?_
  rintro r w' ⟨lv,P,m1,f1,n1,rfl,q1,q2,q3,q4,q5,q6⟩
  have hlen:=q2.len
  refine ⟨lv,P.map Pc.n,m1,f1,n1,rfl,q1,by rw [List.length_map];omega,fun nd hnd=>?_,q3.mono (by rw [List.length_map];omega),⟨P,rfl,q2,q4,q5⟩,q6⟩
  obtain ⟨p,hp',rfl⟩:=List.mem_map.1 hnd
  exact (q2.ok p hp').2.1
 ·rintro r w' ⟨lv,L',m1,f1,n1,ts,m2,f2,rfl,⟨P,rfl,q2,q4,q5⟩,hl12,hm1,q1,hws,q3,q6⟩
  obtain ⟨d1,d2,d3⟩:=hws.done hm1 q4
  have hPl:P.length=ts.length:=by have:=hws.len;rw [List.length_map] at this;omega
  have hPlen:P.length=1∨P.length=2:=by rw [List.length_map] at hl12;exact hl12
  obtain ⟨g1,g2,g3,g4,g5⟩:=NdT.grow (P:=P) (ts:=ts) hc hPl
  rw [hX,hY] at g5
  obtain ⟨M,hM⟩:∃ M,L.take i++(kidsOf P ts++L.drop (i+1))=M:=⟨_,rfl⟩
  rw [hM] at g1 g2 g3 g4 g5
  have hsame:∀ p∈X++Y++R,SameAt f f2 p:=fun p hp'=>(q5 p hp').trans (d2 p (List.mem_append_right _ hp'))
  have hKM:∀ q∈M,KidOk f2 h q:=by
   intro q hq
   rw [← hM] at hq
   rcases List.mem_append.1 hq with hq | hq
   ·refine KidOk.same (hk q (List.mem_of_mem_take hq)) (fun p hp'=>hsame p ?_)
    rw [← hX]
    exact List.mem_append_left _ (List.mem_append_left _ (List.mem_flatMap.2 ⟨q,hq,hp'⟩))
   ·rcases List.mem_append.1 hq with hq | hq
    ·obtain ⟨z,hz,rfl⟩:=List.mem_map.1 hq
     obtain ⟨j,hj⟩:=List.mem_iff_getElem?.1 hz
     obtain ⟨j1,j2⟩:=List.getElem?_zip_eq_some.1 hj
     have hzm:z.1∈P:=List.mem_of_getElem? j1
     obtain ⟨o1,o2,o3,-⟩:=q2.ok z.1 hzm
     refine ⟨o2,o3 hck.2.1,d3 j _ _ (by rw [List.getElem?_map,j1];rfl) j2,o1.same (fun p hp'=>d2 p (List.mem_append_left _ (List.mem_flatMap.2 ⟨z.1,hzm,hp'⟩)))⟩
    ·refine KidOk.same (hk q (List.mem_of_mem_drop hq)) (fun p hp'=>hsame p ?_)
     rw [← hY]
     exact List.mem_append_left _ (List.mem_append_right _ (List.mem_flatMap.2 ⟨q,hq,hp'⟩))
  have hpm:(kidEs M).Perm (x :: kidEs L):=by
   rw [g4,hes]
   refine (List.Perm.append_left _ (List.Perm.append_right _ q2.es)).trans ?_
   exact List.perm_middle
  have hsM:Sp (kidEs M):=by rw [g4];exact sp_mid hsp q2.es q2.sp hlo hhi
  have hUM:Us N m2 (kidPs M++R):=d1.perm (by
   refine List.Perm.trans ?_ (List.Perm.append_right R g5.symm)
   simp only [List.append_assoc]
   exact List.Perm.refl _)
  obtain ⟨P2,p1,p2,p3⟩:=Ins.of (f:=f2) (h:=h+1) (nd:=innN L) (nd':=innN M) (x:=x) (es:=kidEs L) (es':=kidEs M) (ps':=kidPs M) ⟨M,rfl,rfl,rfl,hKM⟩ rfl (by simp [ndSize,innN];omega) (.inr (by simpa [ndSize,innN] using hL2)) hpm hsM (EnG.perm hpm hg hx) (by simp [ndSize,mostN,innN];omega) (by simp [ndSize,innN];omega) (List.nodup_append.1 hUM.n).1 (hUM.bnd hN5 (fun p hp'=>List.mem_append_left _ hp'))
  have e1:(⟨false,[],(innN L).ks.take i++(P.map Pc.n).map ndLeast++(innN L).ks.drop (i+1),(innN L).ts.take i++ts++(innN L).ts.drop (i+1)⟩:Nd)=innN M:=by rw [← g1,← g2];rfl
  rw [e1,p1] at q1
  exact ⟨lv,P2,m2,f2,_,rfl,q1,p3,q3,by rw [p2];exact hUM,fun p hp'=>hsame p (List.mem_append_right _ hp'),q6⟩
theorem vs_insert [Inhabited Sanct] {v d N gen:Nat} {o:List Bool}:∀ h,InsG v d N gen o h
 | 0=>vs_insert0
 | h+1=>vs_insertS (vs_insert h)
section
attribute [local go_sem ↓] Go.wp_at_zero Go.wp_at_succ loadKey_eq loadEn_eq storeKey_eq storeEn_eq loadNd_eq storeNd_eq loadMap_eq storeMap_eq loadTab_eq storePg_eq loadRt_eq storeRt_eq
theorem vmay_calls [Inhabited Sanct] {w:World} (v:Nat) (a t:Int) (h0:0≤t) (h5:t≤5) :
  Calls Tryz.prog 155 #[.pointer (some ⟨v,0,none⟩),.agg #[.int .i64 a,.int .i64 t]] w fun r w'=>r = .returned (.int .i64 0)∧Below w.heap.size w w':=by
 have HB:Aside0 (∀ o:Obj,Below w.heap.size w (w.alloc o)):=⟨fun o=>below_alloc (Below.refl _ _) o⟩
 have d1:decide (t<0)=false:=decide_eq_false (by omega)
 have d2:decide (5<t)=false:=decide_eq_false (by omega)
 clear h0 h5
 go_enter Tryz.func155,Tryz.ntmps155
 go_wp2
 go_ret
 exact ⟨rfl,HB.out _⟩
def meetB (a b:En):Bool:=decide (a.k.s=b.k.s) && decide (a.k.a≤b.z) && decide (b.k.a≤a.z)
theorem tmeets_calls [Inhabited Sanct] {w:World} (a b:En) (hm:meetB a b=false) :
  Calls Tryz.prog 156 #[.agg (enA a),.agg (enA b)] w fun r w'=>r = .returned (.bool false)∧Below w.heap.size w w':=by
 obtain ⟨W1,hW1⟩:∃ W,(w.alloc (Obj.cells (enA a) 89)).alloc (Obj.cells (enA b) 89)=W:=⟨_,rfl⟩
 have ha:EnAt W1 w.heap.size a:=by rw [← hW1];exact (en_new a rfl).alloc _
 have hb:EnAt W1 (w.heap.size+1) b:=by rw [← hW1];exact en_new b (by simp)
 have HB:Aside0 (Below w.heap.size w W1):=⟨by rw [← hW1];exact below_alloc (below_alloc (Below.refl _ _) _) _⟩
 have ca:=en_cell (g:=w.heap.size) (e:=a) W1 ha
 have cb:=en_cell (g:=w.heap.size+1) (e:=b) W1 hb
 by_cases h1:a.k.s=b.k.s
 ·have d1:(a.k.s == b.k.s)=true:=beq_iff_eq.mpr h1
  by_cases h2:a.k.a≤b.z
  ·have d2:decide (a.k.a≤b.z)=true:=decide_eq_true h2
   have d3:decide (b.k.a≤a.z)=false:=by simpa [meetB,h1,h2] using hm
   clear h1 h2 hm
   go_enter Tryz.func156,Tryz.ntmps156
   go_wp2
   go_ret
   exact ⟨rfl,HB.out⟩
  ·have d2:decide (a.k.a≤b.z)=false:=decide_eq_false h2
   clear h1 h2 hm
   go_enter Tryz.func156,Tryz.ntmps156
   go_wp2
   go_ret
   exact ⟨rfl,HB.out⟩
 ·have d1:(a.k.s == b.k.s)=false:=beq_eq_false_iff_ne.mpr h1
  clear h1 hm
  go_enter Tryz.func156,Tryz.ntmps156
  go_wp2
  go_ret
  exact ⟨rfl,HB.out⟩
end
section
attribute [local go_sem ↓] Go.wp_at_zero Go.wp_at_succ loadKey_eq loadEn_eq storeKey_eq storeEn_eq loadNd_eq storeNd_eq loadMap_eq storeMap_eq loadTab_eq storePg_eq loadRt_eq storeRt_eq
def oT:List Nat:=[159,89]
structure OutE (W:World) (base ob:Nat) (vo:Value) (xs:List En):Prop where
 b:W.heap[ob]?=some (Obj.cells #[vo] 159)
 r:kE.R 89 W base (fun _=>True) vo xs
theorem OutE.frT [Inhabited Sanct] {T:List Nat} {W W2:World} {base ob:Nat} {vo:Value} {xs:List En} (h:OutE W base ob vo xs) (hf:FrT T W W2) (h1:∀ t,t∈T→t ∉ oT):OutE W2 base ob vo xs:=
 ⟨hf.blk h.b (fun ht=>h1 _ ht (by decide)),R_frT h.r hf (fun q hq ht=>by
  rcases List.mem_cons.1 hq with rfl | hq
  ·exact h1 _ ht (by decide)
  ·simp [kE,flat] at hq)⟩
theorem OutE.below [Inhabited Sanct] {W W2:World} {base ob:Nat} {vo:Value} {xs:List En} (h:OutE W base ob vo xs) (hb:Below W.heap.size W W2):OutE W2 base ob vo xs:=h.frT (FrT.of_below hb []) (by simp)
theorem alls_calls [Inhabited Sanct] {w:World} {base ob:Nat} {vo:Value} {xs:List En} {x:Array Value} {nd:Nd} (hx:NdV w x nd) (hO:OutE w base ob vo xs) (hbase:base≤w.heap.size) (hob0:base≤ob) (hl:xs.length+nd.es.length≤1000000) (a:Int) :
  Calls Tryz.prog 170 #[.int .i64 a,.agg x,.pointer (some ⟨ob,0,none⟩)] w fun r w'=>(∃ u,r = .returned u) ∧ ∃ vo',OutE w' base ob vo' (xs++nd.es)∧FrT oT w w'∧Below base w w':=by
 obtain ⟨A1,c1,A2,c2,A3,c3,rfl,h1,h2,h3,r1,r2,r3⟩:=hx.e
 obtain ⟨n,hn⟩:∃ n,nd.es.length=n:=⟨_,rfl⟩
 obtain ⟨n2,hn2⟩:∃ n,nd.ks.length=n:=⟨_,rfl⟩
 obtain ⟨n3,hn3⟩:∃ n,nd.ts.length=n:=⟨_,rfl⟩
 obtain ⟨lf,hlf⟩:∃ b,nd.lf=b:=⟨_,rfl⟩
 rw [hn,hn2,hn3,hlf]
 obtain ⟨gB,hgB⟩:∃ q,w.heap.size=q:=⟨_,rfl⟩
 obtain ⟨W0,hW0⟩:∃ W,w.alloc (Obj.cells #[.bool lf,.slice A1 n c1,.slice A2 n2 c2,.slice A3 n3 c3] 175)=W:=⟨_,rfl⟩
 have hb0:Below w.heap.size w W0:=by rw [← hW0];exact below_alloc (Below.refl _ _) _
 have hk:=nb_cell (g:=gB) (x0:=.bool lf) (x1:=.slice A1 n c1) (x2:=.slice A2 n2 c2) (x3:=.slice A3 n3 c3) W0 (by rw [← hW0];exact nb_new _ hgB)
 have hO0:=hO.below hb0
 have hob:=blk_cell hO0.b 0
 have HO:=Aside0.mk hO0
 have HB:=Aside0.mk (And.intro hb0 (And.intro (r1.below hb0) (And.intro hn (And.intro hbase (And.intro hl hob0)))))
 simp only [List.getElem?_toArray,List.getElem?_cons_zero] at hob
 clear hx hO hbase hl hob0 h1 h2 h3 r1 r2 r3 hn hn2 hn3 hlf hb0 hO0
 go_enter Tryz.func170,Tryz.ntmps170
 go_wp2_with ((with_reducible refine gate_builtin (b:=.append) (xs:=#[.tmp 5,.tmp 7]) rfl ?_);at_builtin;refine hold ?_)
 unfold Hold
 clear hW0
 refine Kd.R_append_rows kE (Rr:=fun x (cs:List Value)=>cs=enC x) (w0:=W0) base rfl (.tmp 5) (.tmp 7) 159 89 (.agg zEn) 64 rfl Tryz.underlying159 info_en rfl (by decide) (by decide) _ xs nd.es A1 n c1 (fun _=>True) (fun _=>False) rfl rfl HO.out.r (HB.out.2.1.reads en_len n HB.out.2.2.1) (fun _ _ h=>h) (fun _ hk=>hk.elim) (fun _ _=>trivial) (Below.refl _ _) (Nat.le_trans HB.out.2.2.2.1 HB.out.1.size) (by have:=HB.out.2.2.2.2.1;have:=HB.out.2.2.1;omega) ?_
 intro v9 w9 ho hb hg hat
 have hf9:FrT [89] W0 w9:=(FrT.refl _ _).app HO.out.r (by simp) hg
 have hob9:=hf9.blk HO.out.b (by decide)
 have hc9:=blk_cell hob9 0
 have hz9:=blk_frozen hob9 0
 obtain ⟨A9,q9,rfl⟩:=Kd.R_slice ho
 obtain ⟨n9,hn9⟩:∃ z,(xs++nd.es).length=z:=⟨_,rfl⟩
 rw [hn9] at ho ⊢
 have hs9:=(FrT.refl [159] w9).setCell hob9 (by decide) 0 (.slice A9 n9 q9)
 have HO9:=Aside0.mk (OutE.mk (ob:=ob) (blk_set hob9 0 (.slice A9 n9 q9)) (R_frT ho hs9 (by decide)))
 have HF9:=Aside0.mk ((((FrT.of_below HB.out.1 oT).trans (hf9.mono (by decide)))).trans (hs9.mono (T2:=oT) (by decide)))
 have HBB:=Aside0.mk (((HB.out.1.mono HB.out.2.2.2.1).trans hb).setCell (p:=⟨ob,0,none⟩) HB.out.2.2.2.2.2 (.slice A9 n9 q9))
 simp only [List.getElem?_toArray,List.getElem?_cons_zero] at hc9
 clear ho hb hg hat hf9 hob9 hs9 hob hn9
 go_wp2
 refine bodyPost_end (results_none rfl _ _ _) rfl ?_
 exact ⟨⟨_,rfl⟩,_,HO9.out,HF9.out,HBB.out⟩
end
section
attribute [local go_sem ↓] Go.wp_at_zero Go.wp_at_succ loadKey_eq loadEn_eq storeKey_eq storeEn_eq loadNd_eq storeNd_eq loadMap_eq storeMap_eq loadTab_eq storePg_eq loadRt_eq storeRt_eq
def allF (ob:Nat):Value:=.func (Fn.func 170) #[] #[.pointer (some ⟨ob,0,none⟩)]
theorem kidEs_take [Inhabited Sanct] {L:List Kid} {i:Nat} {k:Kid} (h:L[i]?=some k):kidEs (L.take (i+1))=kidEs (L.take i)++k.es:=by
 rw [List.take_add_one,h];simp [kidEs]
theorem kidEs_len [Inhabited Sanct] {L:List Kid} {i:Nat} {k:Kid} (h:L[i]?=some k):(kidEs (L.take i)).length+k.es.length≤(kidEs L).length:=by
 have:=congrArg List.length (kidEs_split L i h)
 simp only [List.length_append] at this
 omega
theorem FrT.seq [Inhabited Sanct] {T:List Nat} {w W W2:World} (h:FrT T w W) (k:FrT T W W2):FrT T w W2:=h.trans k
theorem teach_step [Inhabited Sanct] {w:World} {v d N gen nw k base ob h:Nat} {m o:List Bool} {f:Nat→List Int} {vo:Value} {xs:List En} {nd:Nd} {L:List Kid} (hh:h≤4) (hv:VS w v d N gen nw m o f k) (a:Nat) (ha:a<N) (hok:NdOk nd) (hlf:nd.lf=decide (h=0)) (hp:PageAt f a (kindN nd) (ndB nd)) (hts:nd.ts=L.map Kid.a) (hO:OutE w base ob vo xs) (hbase:base≤w.heap.size) (hob:base≤ob) (hl:xs.length+(nd.es++kidEs L).length≤100000)
  (hkid:∀ c∈L,∀ (W:World) (vo':Value) (ys:List En),FrT oT w W→OutE W base ob vo' ys→ys.length+c.es.length≤100000→Calls Tryz.prog 169 #[.pointer (some ⟨v,0,none⟩),.int .i64 (c.a:Int),.int .i64 (h:Int),allF ob] W fun r w'=>r = .returned (.int .i64 0) ∧ ∃ vo',OutE w' base ob vo' (ys++c.es)∧FrT oT W w'∧Below base W w') :
  Calls Tryz.prog 169 #[.pointer (some ⟨v,0,none⟩),.int .i64 (a:Int),.int .i64 ((h+1:Nat):Int),allF ob] w fun r w'=>r = .returned (.int .i64 0) ∧ ∃ vo',OutE w' base ob vo' (xs++(nd.es++kidEs L))∧FrT oT w w'∧Below base w w':=by
 obtain ⟨bl,hbl⟩:∃ b,nd.lf=b:=⟨_,rfl⟩
 have HNC:=Aside0.mk (vs_node hv hok a ha hp)
 have hsm:=hok.small
 have HL:=Aside0.mk hl
 have HK:=Aside0.mk hkid
 have HO:=Aside0.mk (And.intro hO (And.intro hbase hob))
 obtain ⟨q,hq⟩:∃ q:Int,((h+1:Nat):Int)=q:=⟨_,rfl⟩
 have d0:(q == 1)=bl:=by
  rw [← hbl,hlf]
  by_cases e:h=0
  ·rw [decide_eq_true e];exact beq_iff_eq.2 (by omega)
  ·rw [decide_eq_false e];exact beq_eq_false_iff_ne.2 (by omega)
 have e1:wrap64 (q-1)=(h:Int):=by rw [wrap64_id (by omega) (by omega)];omega
 have e2:IntKind.i64.wrap (q-1)=(h:Int):=by rw [i64_id (by omega) (by omega)];omega
 obtain ⟨n,hn⟩:∃ n,nd.ts.length=n:=⟨_,rfl⟩
 have hnL:L.length=n:=by rw [← hn,hts,List.length_map]
 have hn16:n≤16:=by
  rcases hok with ⟨_,_,h3,_⟩ | ⟨_,_,h3⟩
  ·rw [h3] at hn;simp at hn;omega
  ·have:=h3.n16;omega
 rw [hq]
 rw [hbl] at HNC
 clear hv hp hok hO hbase hob hl hkid hq hh hlf hbl
 unfold allF at HK ⊢
 go_enter Tryz.func169,Tryz.ntmps169
 go_wp2_with (go_at_call 206;(with_reducible refine HNC.out.mono ?_);rintro r w1 ⟨xn,rfl,hr,hb⟩;refine hold ?_)
 unfold Hold
 have hst:=st_ndnew xn w1
 obtain ⟨gN,hgN⟩:∃ q,w1.heap.size=q:=⟨_,rfl⟩
 obtain ⟨w2,hw2⟩:∃ W,w1.alloc (Obj.cells (nvA xn) 175)=W:=⟨_,rfl⟩
 have hb2:Below w1.heap.size w1 w2:=by rw [← hw2];exact below_alloc (Below.refl _ _) _
 have hk2:NbAt w2 gN (nvA xn):=by rw [← hw2];exact nb_new _ hgN
 rw [hgN,hw2] at hst
 have hB2:=below_step hb hb2
 have hO2:=HO.out.1.below hB2
 have hV2:=(hr.v hsm).below hb2
 have HX:=Aside0.mk (And.intro hB2 (And.intro hO2 hV2))
 have HAL:=Aside0.mk (alls_calls hV2 hO2 (Nat.le_trans HO.out.2.1 hB2.size) HO.out.2.2 (by have:=HL.out;rw [List.length_append] at this;omega) (a:Int))
 have hld:=ld_nd (g:=gN) (v:=nvA xn) rfl w2 hk2
 clear hr hb hb2 hsm hB2 hO2 hV2
 go_wp2_with (go_at_call 170;(with_reducible refine HAL.out.mono ?_);rintro r w3 ⟨⟨u,rfl⟩,vo3,ho3,hf3,hbb3⟩;refine hold ?_)
 unfold Hold
 obtain ⟨A1,c1,A2,c2,A3,c3,he,-,-,-,-,-,r3⟩:=HX.out.2.2.e
 have hk3:=hk2.frT hf3 (by decide)
 rw [he,hn] at hk3
 have hc3:=nb_cell w3 hk3
 have HR:=Aside0.mk (r3.frT hf3 (by decide))
 have HO3:=Aside0.mk ho3
 have HF3:=Aside0.mk (And.intro ((FrT.of_below HX.out.1 oT).trans hf3) ((HX.out.1.mono HO.out.2.1).trans hbb3))
 have HTS:=Aside0.mk hts
 have HNL:=Aside0.mk (And.intro hnL hn16)
 clear ho3 hf3 hbb3 he r3 hk2 hk3 hst hw2 hgN hld HAL HX HO hts hn hnL hn16 HNC
 go_wp2
 go_loopw [32] (fun v32 wr=>∃ (i:Nat) (ii:Int) (vo':Value),v32 = .int .i64 ii∧Aside0 (ii=(i:Int)∧i≤n)∧Aside0 (OutE wr base ob vo' (xs++(nd.es++kidEs (L.take i))))∧Aside0 (FrT oT w wr∧FrT oT w3 wr∧Below base w wr)) (fun v32 _=>((n:Int)-intOf v32).toNat)
 case atStart=>exact ⟨0,0,vo3,rfl,⟨rfl,Nat.zero_le _⟩,⟨by simpa [kidEs] using HO3.out⟩,⟨HF3.out.1,FrT.refl _ _,HF3.out.2⟩⟩
 case round=>
  clear HO3 HF3
  obtain ⟨i,ii,vo4,rfl,HI,HO4,HF4⟩:=hrel
  have hi0:0≤ii∧ii≤16:=by have:=HI.out;have:=HNL.out;omega
  have e5:wrap64 (ii+1)=ii+1:=wrap64_id (by omega) (by omega)
  have e6:IntKind.i64.wrap (ii+1)=ii+1:=i64_id (by omega) (by omega)
  by_cases hlt:i<n
  ·have d1:decide (ii<(n:Int))=true:=decide_eq_true (by have:=HI.out;omega)
   have d2:(ii<(n:Int))=True:=eq_true (by have:=HI.out;omega)
   have d3:(0≤ii)=True:=eq_true (by omega)
   have d4:ii.toNat=i:=by have:=HI.out;omega
   obtain ⟨c,hc⟩:∃ c,L[i]?=some c:=⟨_,List.getElem?_eq_getElem (by rw [HNL.out.1];exact hlt)⟩
   obtain ⟨g,o2,hA,hcc⟩:=(HR.out.frT HF4.out.2.1 (by decide)).at_ (j:=i) (x:=c.a) (by rw [HTS.out,List.getElem?_map,hc];rfl)
   have hcl:wr.cell? ⟨g,o2+i,none⟩=some (.int .i64 (c.a:Int)):=by have:=hcc 0 _ rfl;simpa using this
   subst hA
   have HKC:=Aside0.mk (HK.out c (List.mem_of_getElem? hc) wr vo4 _ HF4.out.1 HO4.out (by
    have h1:=kidEs_len hc
    have h2:=HL.out
    rw [List.length_append] at h2 ⊢
    rw [List.length_append]
    omega))
   have HC:=Aside0.mk hc
   clear hcc hc
   go_wp2_with (go_at_call 169;(with_reducible refine HKC.out.mono ?_);rintro r w5 ⟨rfl,vo5,ho5,hf5,hbb5⟩;have HO5:=Aside0.mk ho5;have HF5:=Aside0.mk (And.intro (HF4.out.1.trans hf5) (And.intro (HF4.out.2.1.trans hf5) (HF4.out.2.2.trans hbb5)));clear ho5 hf5 hbb5)
   go_roundw
   case rel=>exact ⟨i+1,_,vo5,rfl,⟨by have:=HI.out;omega,hlt⟩,⟨by have:=HO5.out;rw [List.append_assoc,List.append_assoc] at this;rw [kidEs_take HC.out];exact this⟩,HF5⟩
   case measure=>simp [intOf];have:=HI.out;omega
  ·have d1:decide (ii<(n:Int))=false:=decide_eq_false (by have:=HI.out;omega)
   have HE:Aside0 (L.take i=L):=⟨List.take_of_length_le (by have:=HNL.out;omega)⟩
   go_wp2
   go_ret
   exact ⟨rfl,vo4,by have:=HO4.out;rw [HE.out] at this;exact this,HF4.out.1,HF4.out.2.2⟩
theorem teach [Inhabited Sanct] {v d N gen nw k base ob:Nat} {m o:List Bool} {f:Nat→List Int}:∀ (h:Nat) {w:World} {a:Nat} {nd:Nd} {es xs:List En} {ps:List Nat} {vo:Value},h≤4→VS w v d N gen nw m o f k→NdT f h nd es ps→NdOk nd→PageAt f a (kindN nd) (ndB nd)→(∀ p∈a :: ps,p+1≤N)→OutE w base ob vo xs→base≤w.heap.size→base≤ob→xs.length+es.length≤100000 →
  Calls Tryz.prog 169 #[.pointer (some ⟨v,0,none⟩),.int .i64 (a:Int),.int .i64 ((h+1:Nat):Int),allF ob] w fun r w'=>r = .returned (.int .i64 0) ∧ ∃ vo',OutE w' base ob vo' (xs++es)∧FrT oT w w'∧Below base w w'
 | 0,w,a,nd,es,xs,ps,vo,hh,hv,⟨h1,_⟩,hok,hp,hN,hO,hbase,hob,hl=>by
  subst h1
  have:=teach_step (h:=0) (L:=[]) hh hv a (hN a List.mem_cons_self) hok rfl hp rfl hO hbase hob (by simpa [kidEs] using hl) (fun c hc=>by cases hc)
  simpa [kidEs] using this
 | h+1,w,a,nd,es,xs,ps,vo,hh,hv,⟨L,h1,h2,h3,h4⟩,hok,hp,hN,hO,hbase,hob,hl=>by
  subst h1 h2 h3
  have:=teach_step (h:=h+1) (L:=L) hh hv a (hN a List.mem_cons_self) hok rfl hp rfl hO hbase hob (by simpa [innN] using hl) (fun c hc W vo' ys hf hO' hl'=>
   teach h (by omega) (hv.frT hf (by decide)) (h4 c hc).2.2.2 (h4 c hc).1 (h4 c hc).2.2.1 (fun p hp'=>hN p (List.mem_cons_of_mem _ (List.mem_flatMap.2 ⟨c,hc,hp'⟩))) hO' (Nat.le_trans hbase hf.size) hob hl')
  simpa [innN] using this
theorem all_calls [Inhabited Sanct] {w:World} {v d N gen nw k h a:Nat} {m o:List Bool} {f:Nat→List Int} {nd:Nd} {es:List En} {ps:List Nat} (hh:h≤4) (hv:VS w v d N gen nw m o f k) (ht:NdT f h nd es ps) (hok:NdOk nd) (hp:PageAt f a (kindN nd) (ndB nd)) (hN:∀ p∈a :: ps,p+1≤N) (hl:es.length≤100000) :
  Calls Tryz.prog 126 #[.pointer (some ⟨v,0,none⟩),.agg #[.int .i64 (a:Int),.int .i64 ((h+1:Nat):Int)]] w fun r w'=>∃ vo,r = .returned (.tuple #[vo,.int .i64 0])∧kE.R 89 w' w.heap.size (fun _=>True) vo es∧Below w.heap.size w w':=by
 obtain ⟨q,hq⟩:∃ q:Int,((h+1:Nat):Int)=q:=⟨_,rfl⟩
 have HM:Aside0 (∀ W,Calls Tryz.prog 155 #[.pointer (some ⟨v,0,none⟩),.agg #[.int .i64 (a:Int),.int .i64 q]] W fun r w'=>r = .returned (.int .i64 0)∧Below W.heap.size W w'):=⟨fun W=>vmay_calls v _ _ (by omega) (by omega)⟩
 have HE:Aside0 (∀ (W:World) (ob:Nat),Below w.heap.size w W→w.heap.size≤ob→W.heap[ob]?=some (Obj.cells #[.slice none 0 0] 159)→Calls Tryz.prog 169 #[.pointer (some ⟨v,0,none⟩),.int .i64 (a:Int),.int .i64 q,allF ob] W fun r w'=>r = .returned (.int .i64 0) ∧ ∃ vo',OutE w' w.heap.size ob vo' es∧FrT oT W w'∧Below w.heap.size W w'):=⟨fun W ob hW hob hbx=>by
  have:=teach h hh (hv.below hW) ht hok hp hN (xs:=[]) (base:=w.heap.size) ⟨hbx,Kd.R_nil _ _ _ _ _⟩ hW.size hob (by simpa using hl)
  rw [hq] at this
  simpa using this⟩
 have d1:(q == 0)=false:=beq_eq_false_iff_ne.2 (by omega)
 rw [hq]
 unfold allF at HE
 obtain ⟨gR,hgR⟩:∃ q,w.heap.size=q:=⟨_,rfl⟩
 obtain ⟨W0,hW0⟩:∃ W,w.alloc (Obj.cells #[.int .i64 (a:Int),.int .i64 q] 96)=W:=⟨_,rfl⟩
 have hb0:Below w.heap.size w W0:=by rw [← hW0];exact below_alloc (Below.refl _ _) _
 have hx0:W0.heap[gR]?=some (Obj.cells #[.int .i64 (a:Int),.int .i64 q] 96):=by rw [← hW0];exact newb hgR
 have HR0:Aside0 (W0.heap[gR]?=some (Obj.cells #[.int .i64 (a:Int),.int .i64 q] 96)):=⟨hx0⟩
 have hlr:=ld_rt (g:=gR) (o:=0) (a:=(a:Int)) (t:=q) W0 (by intro j y hy;rw [blk_cell hx0];simpa using hy)
 have HB0:=Aside0.mk hb0
 clear hh hv ht hok hp hN hl hq hb0 hx0
 go_enter Tryz.func126,Tryz.ntmps126
 go_wp2_with (go_at_call 155;(with_reducible refine (HM.out _).mono ?_);rintro r w1 ⟨rfl,hb⟩;refine hold ?_)
 unfold Hold
 clear hW0 hlr
 have hx1:=blkb hb HR0.out
 have hc1:=blk_cell hx1 1
 have hc0:=blk_cell hx1 0
 simp only [List.getElem?_toArray,List.getElem?_cons_zero,List.getElem?_cons_succ] at hc0 hc1
 have HB1:=Aside0.mk (below_step HB0.out hb)
 obtain ⟨gO,hgO⟩:∃ q,w1.heap.size=q:=⟨_,rfl⟩
 obtain ⟨w2,hw2⟩:∃ W,w1.alloc (Obj.cells #[.slice none 0 0] 159)=W:=⟨_,rfl⟩
 have hnb:w2.heap[gO]?=some (Obj.cells #[.slice none 0 0] 159):=by rw [← hw2];exact newb hgO
 have HB2:Aside0 (Below w.heap.size w w2):=⟨by rw [← hw2];exact below_alloc HB1.out _⟩
 have hx2:w2.heap[gR]?=some (Obj.cells #[.int .i64 (a:Int),.int .i64 q] 96):=by rw [← hw2];exact blk_alloc hx1 _
 have HEC:=Aside0.mk (HE.out w2 gO HB2.out (by rw [← hgO];exact HB1.out.size) hnb)
 have hd1:=blk_cell hx2 1
 have hd0:=blk_cell hx2 0
 simp only [List.getElem?_toArray,List.getElem?_cons_zero,List.getElem?_cons_succ] at hd0 hd1
 clear hb hx1 hx2 hnb HE
 go_wp2_with (go_at_call 169;refine hold ?_)
 unfold Hold
 refine HEC.out.mono ?_
 rintro r w5 ⟨rfl,vo,ho,hf,hb⟩
 have hc5:=blk_cell ho.b 0
 simp only [List.getElem?_toArray,List.getElem?_cons_zero] at hc5
 have HO:=Aside0.mk ho.r
 have HB5:=Aside0.mk (HB2.out.trans hb)
 clear ho hf hb hc0 hc1 hd0 hd1 hw2
 go_wp2
 go_ret2
 exact ⟨vo,rfl,HO.out,HB5.out⟩
end
theorem key_in [Inhabited Sanct] (d:Nat) (w:World) (x0 x1 y0 y1:Int):(Op.equalIn (d+2) 87 (.agg #[.int .i64 x0,.int .i64 x1]) (.agg #[.int .i64 y0,.int .i64 y1])).run Tryz.prog w = .ok (x0 == y0 && (x1 == y1)) w:=by
 refine eqA_of Tryz.underlying87 (by kernel_rfl) ?_
 refine eqf_cons (by rfl) (by go_simp;rfl) (by go_simp;rfl) (by go_simp) ?_
 exact eqf_last (by rfl) (by go_simp;rfl) (by go_simp;rfl) (by go_simp)
def eqKyI (a b:Value):Sem Value:=binOp .eql 87 a b
theorem eqKy_eq (a b:Value):binOp .eql 87 a b=eqKyI a b:=rfl
theorem key_ne [Inhabited Sanct] {a b:Ky} (h:a≠b) (w:World):(eqKyI (.agg (keyA a)) (.agg (keyA b))).run Tryz.prog w = .ok (.bool false) w:=by
 have hb:(a.s == b.s && (a.a == b.a))=false:=by
  cases h1:(a.s == b.s && (a.a == b.a)) with
  | false=>rfl
  | true=>
   simp at h1
   exact absurd (by cases a;cases b;simp_all) h
 have:=fun d=>key_in d w a.s a.a b.s b.a
 rw [hb] at this
 show (binOp .eql 87 (.agg #[.int .i64 a.s,.int .i64 a.a]) (.agg #[.int .i64 b.s,.int .i64 b.a])).run Tryz.prog w=_
 have h2:(Op.equal 87 (.agg #[.int .i64 a.s,.int .i64 a.a]) (.agg #[.int .i64 b.s,.int .i64 b.a])).run Tryz.prog w = .ok false w:=this (Op.maxDepth-2)
 simp only [binOp,Sem.run_bind,h2,Result.andThen_ok,Sem.run_pure]
end Go.Proofs.YtnhkikebfinejaaGreatDoor.Z
