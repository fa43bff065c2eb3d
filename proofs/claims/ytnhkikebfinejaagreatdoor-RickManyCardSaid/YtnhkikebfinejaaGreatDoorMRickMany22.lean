/- Texts of this claim, laid together. No conditions. -/
import Derived.Test.YtnhkikebfinejaaGreatDoorMRickMany21
import Derived.Test.YtnhkikebfinejaaGreatDoorMRickMany1
set_option linter.unusedVariables false
set_option linter.unusedSimpArgs false
set_option maxRecDepth 100000
set_option maxHeartbeats 16000000
namespace Go.Proofs.YtnhkikebfinejaaGreatDoor.Z
open Go Go.RowKit Go.Proofs.YtnhkikebfinejaaGreatDoorW.PrintWords Go.Proofs.YtnhkikebfinejaaGreatDoorW.PrintLast Go.Proofs.YtnhkikebfinejaaGreatDoorW.PrintMore Go.Proofs.YtnhkikebfinejaaGreatDoor.S Go.Proofs.YtnhkikebfinejaaGreatDoor.X
section
attribute [local go_sem ↓] Go.wp_at_zero Go.wp_at_succ loadKey_eq loadEn_eq storeKey_eq storeEn_eq loadNd_eq storeNd_eq loadMap_eq storeMap_eq loadTab_eq storePg_eq loadRt_eq storeRt_eq eqKy_eq loadSup_eq storeSup_eq loadBase_eq storeBase_eq
theorem leaf_cut2 {M:World→Nat→Prop} {G:Prop} (F:World→Nat→Prop) (h:(∀ W g,F W g→M W g)→G) (k:∀ W g,F W g→M W g):G:=h k
structure CmOut [Inhabited Sanct] (w w':World) (b t d N:Nat) (s:Sup) (ra rh v:Nat) (m mV:List Bool) (f:Nat→List Int):Prop where
 e:∃ (p v2:Nat) (f2:Nat→List Int),p+1≤N∧FreeRun (setN false mV s.bm 1) m p 1∧BaseAt w' b d N ⟨s.gen+1,ra,rh,p,N⟩ (setN true (setN false mV s.bm 1) p 1) v2 false false∧ViewAt w' v2 d N (s.gen+1) (setN true (setN false mV s.bm 1) p 1) (setN true (setN false mV s.bm 1) p 1)∧DT w' d N 0 f2∧MapOk N (setN true (setN false mV s.bm 1) p 1)∧(∀ r,2≤r→r≠p→SameAt f f2 r)∧FrT (144 :: 198 :: dT) w w'∧sB≤v2
theorem commit_calls [Inhabited Sanct] {w:World} {t b v d N nw k:Nat} {s:Sup} {m mV:List Bool} {vB ra rh:Nat} {f:Nat→List Int}
  (hb:BaseAt w b d N s m vB true false) (ht:TxnAt w t b v (ra:Int) (rh:Int) false) (hv:VS w v d N (s.gen+1) nw mV m f (k+1)) (hs2:2≤s.bm) (hsN:s.bm+1≤N) (hsu:mV[s.bm]?=some true) (hso:m[s.bm]?=some true) (hN:s.N=N) (hrh:rh≠0) (hr:rh≤5∧2≤ra∧ra<N) (hra:mV[ra]?=some true) (hrs:ra≠s.bm) (gb:sB≤b:=by assumption) (gt:sB≤t:=by assumption) :
  Calls Tryz.prog 67 #[.pointer (some ⟨t,0,none⟩)] w fun r w'=>r = .returned (.int .i64 0)∧CmOut w w' b t d N s ra rh v m mV f:=by
 have hml:=hv.oo.len
 have HTM:=Aside0.mk (tmay_calls hb hml ht)
 have htc:=txn_cell (t:=t) (b:=b) (v:=v) (a:=(ra:Int)) (q:=(rh:Int)) (ov:=false)
 have htr:=txn_rt (t:=t) (b:=b) (v:=v) (a:=(ra:Int)) (q:=(rh:Int)) (ov:=false)
 have hbc:=cellb (b:=b) (d:=d) (N:=N) (s:=s) (v:=vB) (op:=true) (en:=false) hml
 have hbt:=ldb_tab (b:=b) (d:=d) (N:=N) (s:=s) (m:=m) (v:=vB) (op:=true) (en:=false)
 have hbm:=ldb_m (b:=b) (d:=d) (N:=N) (s:=s) (v:=vB) (op:=true) (en:=false) hml
 have HV:=Aside0.mk hv
 have HBT:=Aside0.mk (And.intro hb ht)
 obtain ⟨m1,hm1⟩:∃ M,setN false mV s.bm 1=M:=⟨_,rfl⟩
 have hM1:MapOk N m1:=by rw [← hm1];exact hv.mm.set _ hs2 hsN
 have HMP:Aside0 (∀ W,Below w.heap.size w W→Calls Tryz.prog 106 #[.pointer (some ⟨v,0,none⟩)] W fun e w'=>e = .returned (.agg (mapA N mV))∧Below W.heap.size W w'):=⟨fun W h=>viewmap_calls (hv.below h).va hv.mm.len⟩
 have HGV:Aside0 (∀ W,Calls Tryz.prog 105 #[.agg (mapA N mV),.int .i64 (s.bm:Int),.int .i64 1] W fun e w'=>e = .returned (.tuple #[.agg (mapA N m1),.int .i64 0])∧Below W.heap.size W w'):=⟨fun W=>by
  rw [← hm1]
  exact give_calls hv.mm s.bm 1 hs2 hsN (fun i h1 h2=>by rw [show i=s.bm by omega];exact hsu)⟩
 have hcp:Cap N m1 m (k+1):=by rw [← hm1];exact hv.cp.give (by have:=hv.mm.len;have:=hv.mm.n5;omega)
 obtain ⟨b1,hb1,hf1⟩:=hcp.one
 have HTK:Aside0 (∀ W,Calls Tryz.prog 56 #[.agg (mapA N m1),.agg (mapA N m),.int .i64 1] W fun e w'=>∃ a:Nat,e = .returned (.tuple #[.agg (mapA N (setN true m1 a 1)),.int .i64 (a:Int),.int .i64 0])∧a+1≤N∧FreeRun m1 m a 1∧Below W.heap.size W w'):=⟨fun W=>take_calls hM1 hv.oo 1 b1 (by decide) hb1 hf1⟩
 have HPO:Aside0 (∀ W,Below w.heap.size w W→TxnAt W t b v (ra:Int) (rh:Int) false∧BaseAt W b d N s m vB true false):=⟨fun W h=>⟨blkb h ht,blkb h hb⟩⟩
 obtain ⟨g1,hg1⟩:∃ z:Int,((s.gen+1:Nat):Int)=z:=⟨_,rfl⟩
 have e1:IntKind.u64.wrap ((s.gen:Int)+1)=g1:=by rw [← hg1];exact u64_nat hv.hg
 have HG1:=Aside0.mk hg1
 have d1:((rh:Int) == 0)=false:=beq_eq_false_iff_ne.2 (by omega)
 have HR:=Aside0.mk (And.intro hs2 (And.intro hsN (And.intro hso (And.intro hN (And.intro hrh (And.intro hr (And.intro hra (And.intro hrs (And.intro hm1 hM1)))))))))
 have HL1:=Aside0.mk hM1.len
 have HM:=Aside0.mk hml
 obtain ⟨Z0,hZ0⟩:∃ Z,mapA 0 (List.replicate 512 false)=Z:=⟨_,rfl⟩
 have hsz:Z0.size=513:=by rw [← hZ0];exact mapA_len _ (by rw [List.length_replicate])
 have hz:=zero_map
 rw [hZ0] at hz
 have HSZ:=Aside0.mk hsz
 have hu74:Tryz.prog.underlying 74=some (.array 256 71):=Tryz.underlying74
 have hs74:=tab_size
 clear hv hm1 hcp hb1 hf1 hM1 hg1 hs2 hsN hsu hso hN hrh hr hra hrs hZ0 hsz
 go_enter Tryz.func67,Tryz.ntmps67
 go_wp2_with (go_at_call 104;(with_reducible refine HTM.out.mono ?_);rintro r w1 ⟨rfl,rfl⟩;refine hold ?_)
 unfold Hold
 go_wp2
 have hS:=Bx.start w 120 Z0
 apply leaf_cut2 (fun W g=>Bx w 120 (mapA N m1) W (some g))
 ·intro hkey
  refine start_ (n:=17) (S:=fun w'=>TxnAt w' t b v (ra:Int) (rh:Int) false∧BaseAt w' b d N s m vB true false) (ds:=[15]) (fbB 17 0) (by kernel_rfl) rfl rfl (HPO.out _ hS.f) (fun hHeld=>?_)
  obtain ⟨wt,hwt⟩:∃ W,w.drew=W:=⟨_,rfl⟩
  rw [hwt] at hHeld hS ⊢
  clear hwt
  refine puR 0 24 (fbB 17 1) (h:=?_)
  refine puR 1 25 (fbB 17 3) (h:=?_)
  refine puR 2 26 (fbB 17 7) (h:=?_)
  refine tkR 3 27 (fbB 17 15) hHeld (h:=?_)
  refine puR 5 29 (fbB 17 47) (h:=?_)
  refine puR 6 30 (fbB 17 111) (h:=?_)
  refine puR 7 31 (fbB 17 239) (h:=?_)
  refine puR 8 32 (fbB 17 495) (h:=?_)
  refine tkR 9 33 (fbB 17 1007) hHeld (h:=?_)
  refine two_ (i:=4) (j:=14) (Ni:=some 28) (Nj:=some 5) (fbB 17 1023) (fbB 17 17391) rfl rfl rfl rfl (by kernel_rfl) (by simp) (by simp) (fun K hK=>?_) (fun K hK=>?_)
  refine goes_ Tryz.func106 (by kernel_rfl) rfl #[.pointer (some ⟨v,0,none⟩)] (by rfl) rfl rfl (by simp [Act.eval]) ?_
  (with_reducible refine (HMP.out _ hS.f).mono ?_)
  rintro r w6 ⟨rfl,hb⟩
  replace hS:=hS.below hb
  clear hb
  refine ⟨_,rfl,hK.out _ _ (HPO.out _ hS.f) (fun hHeld=>?_)⟩
  refine nmR (h:=?_)
  refine two_ (i:=10) (j:=14) (Ni:=some 34) (Nj:=some 5) (fbB 17 2047) (fbB 17 17407) rfl rfl rfl rfl (by kernel_rfl) (by simp) (by simp) (fun K hK=>?_) (fun K hK=>?_)
  refine goes_ Tryz.func105 (by kernel_rfl) rfl #[.agg (mapA N mV),.int .i64 (s.bm:Int),.int .i64 1] (by rfl) rfl rfl (by simp [Act.eval]) ?_
  (with_reducible refine (HGV.out _).mono ?_)
  rintro r w6 ⟨rfl,hb⟩
  replace hS:=hS.below hb
  clear hb
  refine ⟨_,rfl,hK.out _ _ (HPO.out _ hS.f) (fun hHeld=>?_)⟩
  refine nmR (h:=?_)
  refine puR 11 23 (fbB 17 4095) (h:=?_)
  refine puR 12 35 (fbB 17 8191) (h:=?_)
  refine puR 13 36 (fbB 17 16383) (h:=?_)
  refine one_ (i:=14) (N:=some 5) (fbB 17 32767) rfl rfl (by kernel_rfl) (by simp) (fun K hK=>?_)
  go_simp
  replace hS:=hS.alloc
  refine hK.out _ _ (HPO.out _ hS.f) (fun hHeld=>?_)
  have hst:=st_map (N:=N) (m:=m1) (Z:=Z0) HL1.out HSZ.out _ (hS.x _ rfl).1
  refine last_ (i:=15) (N:=none) (fbB 17 65535) rfl rfl (by kernel_rfl) (by simp) (fun K hK=>?_)
  go_simp
  refine hK.out _ _ ?_
  refine puR 16 6 (fbB 17 131071) (h:=?_)
  replace hS:=hS.store (mapA N m1)
  clear hst
  refine done_ (by kernel_rfl) ?_
  rotate_left
  go_simp
  replace hS:=hS.alloc
  refine hK.out _ _ (HPO.out _ hS.f) (fun hHeld=>?_)
  refine one_ (i:=10) (N:=some 34) (fbB 17 18431) rfl rfl (by kernel_rfl) (by simp) (fun K hK=>?_)
  refine goes_ Tryz.func105 (by kernel_rfl) rfl #[.agg (mapA N mV),.int .i64 (s.bm:Int),.int .i64 1] (by rfl) rfl rfl (by simp [Act.eval]) ?_
  (with_reducible refine (HGV.out _).mono ?_)
  rintro r w6 ⟨rfl,hb⟩
  replace hS:=hS.below hb
  clear hb
  refine ⟨_,rfl,hK.out _ _ (HPO.out _ hS.f) (fun hHeld=>?_)⟩
  refine nmR (h:=?_)
  refine puR 11 23 (fbB 17 20479) (h:=?_)
  refine puR 12 35 (fbB 17 24575) (h:=?_)
  refine puR 13 36 (fbB 17 32767) (h:=?_)
  have hst:=st_map (N:=N) (m:=m1) (Z:=Z0) HL1.out HSZ.out _ (hS.x _ rfl).1
  refine last_ (i:=15) (N:=none) (fbB 17 65535) rfl rfl (by kernel_rfl) (by simp) (fun K hK=>?_)
  go_simp
  refine hK.out _ _ ?_
  refine puR 16 6 (fbB 17 131071) (h:=?_)
  replace hS:=hS.store (mapA N m1)
  clear hst
  refine done_ (by kernel_rfl) ?_
  rotate_left
  go_simp
  replace hS:=hS.alloc
  refine hK.out _ _ (HPO.out _ hS.f) (fun hHeld=>?_)
  refine one_ (i:=4) (N:=some 28) (fbB 17 17407) rfl rfl (by kernel_rfl) (by simp) (fun K hK=>?_)
  refine goes_ Tryz.func106 (by kernel_rfl) rfl #[.pointer (some ⟨v,0,none⟩)] (by rfl) rfl rfl (by simp [Act.eval]) ?_
  (with_reducible refine (HMP.out _ hS.f).mono ?_)
  rintro r w6 ⟨rfl,hb⟩
  replace hS:=hS.below hb
  clear hb
  refine ⟨_,rfl,hK.out _ _ (HPO.out _ hS.f) (fun hHeld=>?_)⟩
  refine nmR (h:=?_)
  refine one_ (i:=10) (N:=some 34) (fbB 17 18431) rfl rfl (by kernel_rfl) (by simp) (fun K hK=>?_)
  refine goes_ Tryz.func105 (by kernel_rfl) rfl #[.agg (mapA N mV),.int .i64 (s.bm:Int),.int .i64 1] (by rfl) rfl rfl (by simp [Act.eval]) ?_
  (with_reducible refine (HGV.out _).mono ?_)
  rintro r w6 ⟨rfl,hb⟩
  replace hS:=hS.below hb
  clear hb
  refine ⟨_,rfl,hK.out _ _ (HPO.out _ hS.f) (fun hHeld=>?_)⟩
  refine nmR (h:=?_)
  refine puR 11 23 (fbB 17 20479) (h:=?_)
  refine puR 12 35 (fbB 17 24575) (h:=?_)
  refine puR 13 36 (fbB 17 32767) (h:=?_)
  have hst:=st_map (N:=N) (m:=m1) (Z:=Z0) HL1.out HSZ.out _ (hS.x _ rfl).1
  refine last_ (i:=15) (N:=none) (fbB 17 65535) rfl rfl (by kernel_rfl) (by simp) (fun K hK=>?_)
  go_simp
  refine hK.out _ _ ?_
  refine puR 16 6 (fbB 17 131071) (h:=?_)
  replace hS:=hS.store (mapA N m1)
  clear hst
  refine done_ (by kernel_rfl) ?_
  rotate_left
  all_goals
   clear hHeld hK
   obtain ⟨W6,g6,hW6,hg6,hS⟩:=hS.name
   rw [← hW6,← hg6]
   exact hkey W6 g6 hS
 ·intro W5 g5 hS
  go_wp2
  have hS8:Bx w 120 (mapA N m1) W5.drew (some g5):=hS.below (below_drew (Below.refl _ _))
  have hlm:=ld_map (g:=g5) (N:=N) HL1.out
  clear hS
  apply leaf_cut2 (fun W p=>Bx w 120 (mapA N (setN true m1 p 1)) W (some g5)∧p+1≤N∧FreeRun m1 m p 1)
  ·intro hkey
   refine start_ (n:=13) (S:=fun w'=>BaseAt w' b d N s m vB true false∧w'.heap[g5]?=some (Obj.cells (mapA N m1) 120)) (ds:=[10]) (fbB 13 0) (by kernel_rfl) rfl rfl ⟨(HPO.out _ hS8.f).2,(hS8.x _ rfl).1⟩ (fun hHeld=>?_)
   obtain ⟨wt,hwt⟩:∃ W,W5.drew=W:=⟨_,rfl⟩
   rw [hwt] at hHeld hS8 ⊢
   clear hwt
   refine tkR 0 41 (fbB 13 1) hHeld (h:=?_)
   refine puR 1 42 (fbB 13 3) (h:=?_)
   refine puR 2 43 (fbB 13 7) (h:=?_)
   refine puR 3 44 (fbB 13 15) (h:=?_)
   refine tkR 4 45 (fbB 13 31) hHeld (h:=?_)
   refine one_ (i:=5) (N:=some 46) (fbB 13 63) rfl rfl (by kernel_rfl) (by simp) (fun K hK=>?_)
   refine goes_ Tryz.func56 (by kernel_rfl) rfl #[.agg (mapA N m1),.agg (mapA N m),.int .i64 1] (by rfl) rfl rfl (by simp [Act.eval]) ?_
   (with_reducible refine (HTK.out _).mono ?_)
   rintro r w6 ⟨p,rfl,hpN,hpf,hb⟩
   replace hS8:=hS8.below hb
   clear hb
   refine ⟨_,rfl,hK.out _ _ ⟨(HPO.out _ hS8.f).2,(hS8.x _ rfl).1⟩ (fun hHeld=>?_)⟩
   refine nmR (h:=?_)
   refine puR 6 40 (fbB 13 127) (h:=?_)
   refine puR 7 47 (fbB 13 255) (h:=?_)
   refine puR 8 48 (fbB 13 511) (h:=?_)
   refine puR 9 49 (fbB 13 1023) (h:=?_)
   have hst:=st_map (N:=N) (m:=setN true m1 p 1) (Z:=mapA N m1) (by rw [setN_len,HL1.out]) (mapA_len N HL1.out) _ (hS8.x _ rfl).1
   refine last_ (i:=10) (N:=none) (fbB 13 2047) rfl rfl (by kernel_rfl) (by simp) (fun K hK=>?_)
   go_simp
   refine hK.out _ _ ?_
   refine puR 11 7 (fbB 13 4095) (h:=?_)
   refine puR 12 6 (fbB 13 8191) (h:=?_)
   replace hS8:=hS8.store (mapA N (setN true m1 p 1))
   clear hst
   refine done_ (by kernel_rfl) ?_
   rotate_left
   all_goals
    clear hHeld hK
    obtain ⟨W6,g6,hW6,hg6,hS⟩:=hS8.name
    rw [← hW6]
    exact hkey W6 p ⟨by rw [← hg6];exact hS,hpN,hpf⟩
  ·rintro W8 p ⟨hS,hpN,hpf⟩
   clear hS8 hlm hz
   obtain ⟨m2,hm2⟩:∃ M,setN true m1 p 1=M:=⟨_,rfl⟩
   have hM1:=HR.out.2.2.2.2.2.2.2.2.2
   have hp2:=hM1.free_ge hpf
   have hM2:MapOk N m2:=by rw [← hm2];exact hM1.set _ hp2 hpN
   rw [hm2] at hS
   have HP:=Aside0.mk (And.intro hm2 (And.intro hpN (And.intro hpf (And.intro hp2 hM2))))
   obtain ⟨s2,hs2⟩:∃ e:Sup,(⟨s.gen+1,ra,rh,p,s.N⟩:Sup)=e:=⟨_,rfl⟩
   go_wp2
   have hS11:Bx w 120 (mapA N m2) W8.drew (some g5):=hS.below (below_drew (Below.refl _ _))
   clear hS hm2 hpN hpf hp2 hM1
   apply leaf_cut2 (fun W g=>Bx w 120 (mapA N m2) W (some g5)∧SupAt W g s2∧w.heap.size≤g)
   ·intro hkey
    refine start_ (n:=19) (S:=fun w'=>TxnAt w' t b v (ra:Int) (rh:Int) false∧BaseAt w' b d N s m vB true false) (ds:=[18]) (fbB 19 0) (by kernel_rfl) rfl rfl (HPO.out _ hS11.f) (fun hHeld=>?_)
    obtain ⟨wt,hwt⟩:∃ W,W8.drew=W:=⟨_,rfl⟩
    rw [hwt] at hHeld hS11 ⊢
    clear hwt
    refine puR 0 55 (fbB 19 1) (h:=?_)
    refine puR 1 56 (fbB 19 3) (h:=?_)
    refine puR 2 57 (fbB 19 7) (h:=?_)
    refine puR 3 58 (fbB 19 15) (h:=?_)
    refine tkR 4 59 (fbB 19 31) hHeld (h:=?_)
    refine puR 5 60 (fbB 19 63) (h:=?_)
    refine puR 6 61 (fbB 19 127) (h:=?_)
    refine puR 7 62 (fbB 19 255) (h:=?_)
    refine puR 8 63 (fbB 19 511) (h:=?_)
    refine tkR 9 64 (fbB 19 1023) hHeld (h:=?_)
    refine puR 10 65 (fbB 19 2047) (h:=?_)
    refine puR 11 66 (fbB 19 4095) (h:=?_)
    refine puR 12 67 (fbB 19 8191) (h:=?_)
    refine puR 13 68 (fbB 19 16383) (h:=?_)
    refine puR 14 69 (fbB 19 32767) (h:=?_)
    refine tkR 15 70 (fbB 19 65535) hHeld (h:=?_)
    refine puR 16 71 (fbB 19 131071) (h:=?_)
    refine one_ (i:=17) (N:=some 8) (fbB 19 262143) rfl rfl (by kernel_rfl) (by simp) (fun K hK=>?_)
    go_simp
    have hbx:(wt.alloc (Obj.cells #[.int .u64 0,.int .i64 0,.int .i64 0,.int .i64 0,.int .i64 0] 98)).heap[wt.heap.size]?=some (Obj.cells #[.int .u64 0,.int .i64 0,.int .i64 0,.int .i64 0,.int .i64 0] 98):=newb rfl
    have hgB:=hS11.f.size
    have hS11x:=hS11
    replace hS11:=hS11.below (below_alloc (Below.refl _ _) (Obj.cells #[.int .u64 0,.int .i64 0,.int .i64 0,.int .i64 0,.int .i64 0] 98))
    refine hK.out _ _ (HPO.out _ hS11.f) (fun hHeld=>?_)
    have hst:=st_sup ⟨s.gen+1,ra,rh,p,s.N⟩ hbx rfl
    simp only at hst
    rw [HG1.out,hs2] at hst
    refine last_ (i:=18) (N:=none) (fbB 19 524287) rfl rfl (by kernel_rfl) (by simp) (fun K hK=>?_)
    go_simp
    refine hK.out _ _ ?_
    have hL:Bx w 120 (mapA N m2) ((wt.alloc (Obj.cells #[.int .u64 0,.int .i64 0,.int .i64 0,.int .i64 0,.int .i64 0] 98)).setRow wt.heap.size (supA s2)) (some g5)∧SupAt ((wt.alloc (Obj.cells #[.int .u64 0,.int .i64 0,.int .i64 0,.int .i64 0,.int .i64 0] 98)).setRow wt.heap.size (supA s2)) wt.heap.size s2∧w.heap.size≤wt.heap.size:=⟨hS11.setOther hgB (by have:=blk_lt (hS11x.x _ rfl).1;omega) _,setRow_heap _ _ _ _ _ _ hbx,hgB⟩
    clear hst hbx
    refine done_ (by kernel_rfl) ?_
    rotate_left
    all_goals
     clear hHeld hK
     obtain ⟨W6,g6,hW6,hg6,hL⟩:=name2 (F:=fun W g=>Bx w 120 (mapA N m2) W (some g5)∧SupAt W g s2∧w.heap.size≤g) hL
     rw [← hW6,← hg6]
     exact hkey W6 g6 hL
   ·rintro W11 g8 ⟨hS,hsp,hg8⟩
    have hb11:=(HPO.out _ hS.f).2
    have hx11:=(hS.x _ rfl).1
    have hg5:=(hS.x _ rfl).2
    have hv11:=HV.out.below hS.f
    have hsg:∀ W:World,SupAt W g8 s2→W.cell? ⟨g8,0,none⟩=some (.int .u64 g1)∧W.cell? ⟨g8,2,none⟩=some (.int .i64 (rh:Int)):=fun W h=>by
     have h1:=sup_cell W h
     rw [← hs2] at h1
     rw [← HG1.out]
     exact h1
    have HD11:=Aside0.mk (hv11.dt.below (below_drew (Below.refl _ _)))
    have HF11:=Aside0.mk (below_drew hS.f)
    have HS2:=Aside0.mk hs2
    have HWM:Aside0 (Calls Tryz.prog 59 #[.agg tabA,.pointer (some ⟨d,0,none⟩),.int .i64 (p:Int),.int .u64 g1,.agg (mapA N m2)] W11.drew fun e w'=>e = .returned (.int .i64 0)∧FrT dT W11.drew w' ∧ ∃ f',DT w' d N (nw+4) f'∧Wrote f f' p 66 (mapB N m2)):=⟨by
     rw [← HG1.out]
     exact writemap_calls HD11.out HP.out.2.2.2.2 p (s.gen+1) (by have:=HP.out.2.1;omega) HV.out.hg (by have:=HV.out.hw;omega)⟩
    have hok:SupOk s2:=by
     rw [← hs2]
     obtain ⟨q2,qN,qo,qe,qr,⟨r5,r2,rN⟩,qa,qs,qm,qM⟩:=HR.out
     have hne:ra≠p:=fun e=>by
      have h1:=(free1.1 HP.out.2.2.1).1
      rw [← qm,set_get p (by have:=HV.out.mm.len;have:=HV.out.mm.n5;have:=HP.out.2.1;omega),← e,if_neg qs,qa] at h1
      cases h1
     exact ⟨Nat.succ_pos _,HV.out.hg,by rw [qe];exact HV.out.mm.n8,by rw [qe];exact HV.out.mm.n5,HP.out.2.2.2.1,by show p<s.N;rw [qe];exact HP.out.2.1,fun h=>absurd h qr,fun _=>⟨r5,r2,by show ra<s.N;rw [qe];exact rN,hne⟩⟩
    have HOK:=Aside0.mk hok
    have hsl:=ld_sup (g:=g8) (s:=s2)
    have hlm:=ld_map (g:=g5) (N:=N) hM2.len
    have hc8:=hsg W11 hsp
    clear hS11 hv11 hs2 hok
    go_wp2
    clear hc8
    have hb1:BaseAt W11.drew b d N s m vB true false:=hb11
    have hr1:=base_range hb1
    have hp1:SupAt W11.drew g8 s2:=hsp
    have hx1:W11.drew.heap[g5]?=some (Obj.cells (mapA N m2) 120):=hx11
    have HT11:Aside0 (TxnAt W11.drew t b v (ra:Int) (rh:Int) false):=⟨(HPO.out _ hS.f).1⟩
    clear hS hb11 hx11 hsp
    go_region_held3 (fun w'=>BaseAt w' b d N s m vB true false∧w'.rangeAt b 0 tabA.toList∧SupAt w' g8 s2∧w'.heap[g5]?=some (Obj.cells (mapA N m2) 120)) (first | exact ⟨hb1,hr1,hp1,hx1⟩ | exact ⟨hb12,hr12,hp12,hx12⟩)
     ((go_at_call 59;(with_reducible refine HWM.out.mono ?_);rintro r w12 ⟨rfl,hf12,f1,hd12,hw12⟩;have hb12:BaseAt w12 b d N s m vB true false:=hf12.blk hb1 (by decide);have hr12:=base_range hb12;have hp12:SupAt w12 g8 s2:=hf12.blk hp1 (by decide);have hx12:=hf12.blk hx1 (by decide)))
    have HFL:=Aside0.mk (flush_dt hd12)
    have H12:=Aside0.mk (And.intro hf12 hw12)
    clear hf12 hd12 hw12 hb1 hr1 hp1 hx1
    go_wp2_with (go_at_call 60;(with_reducible refine HFL.out.mono ?_);rintro r w13 ⟨rfl,hf13,hd13⟩;refine hold ?_)
    unfold Hold
    have hb13:BaseAt w13 b d N s m vB true false:=hf13.blk hb12 (by decide)
    have hp13:SupAt w13 g8 s2:=hf13.blk hp12 (by decide)
    have hx13:=hf13.blk hx12 (by decide)
    have HSW:Aside0 (Calls Tryz.prog 61 #[.agg tabA,.pointer (some ⟨d,0,none⟩),.agg (supA s2)] w13.drew fun e w'=>e = .returned (.int .i64 0)∧FrT dT w13.drew w' ∧ ∃ f',DT w' d N (0+4) f'∧Wrote f1 f' (s2.gen % 2) 83 (supB s2)):=⟨superwrite_calls (hd13.below (below_drew (Below.refl _ _))) HOK.out (by rw [← HS2.out];exact HR.out.2.2.2.1) (by decide)⟩
    have H13:=Aside0.mk hf13
    clear hf13 hd13 hb12 hr12 hp12 hx12 HFL
    go_wp2
    have hb1:BaseAt w13.drew b d N s m vB true false:=hb13
    have hr1:=base_range hb1
    have hp1:SupAt w13.drew g8 s2:=hp13
    have hx1:w13.drew.heap[g5]?=some (Obj.cells (mapA N m2) 120):=hx13
    clear hb13 hp13 hx13
    go_region_held3 (fun w'=>BaseAt w' b d N s m vB true false∧w'.rangeAt b 0 tabA.toList∧SupAt w' g8 s2) (first | exact ⟨hb1,hr1,hp1⟩ | exact ⟨hb14,hr14,hp14⟩)
     ((go_at_call 61;(with_reducible refine HSW.out.mono ?_);rintro r w14 ⟨rfl,hf14,f2,hd14,hw14⟩;have hb14:BaseAt w14 b d N s m vB true false:=hf14.blk hb1 (by decide);have hr14:=base_range hb14;have hp14:SupAt w14 g8 s2:=hf14.blk hp1 (by decide)))
    have hx14:=hf14.blk hx1 (by decide)
    have HFL:=Aside0.mk (flush_dt hd14)
    have H14:=Aside0.mk (And.intro hf14 hw14)
    clear hf14 hd14 hw14 hb1 hr1 hp1 hx1
    go_wp2_with (go_at_call 60;(with_reducible refine HFL.out.mono ?_);rintro r w15 ⟨rfl,hf15,hd15⟩;refine hold ?_)
    unfold Hold
    have hb15:BaseAt w15 b d N s m vB true false:=hf15.blk hb14 (by decide)
    have hp15:SupAt w15 g8 s2:=hf15.blk hp14 (by decide)
    have hx15:=hf15.blk hx14 (by decide)
    have HBS:Aside0 (Calls Tryz.prog 63 #[.agg tabA,.pointer (some ⟨d,0,none⟩),.agg (supA s2),.agg (mapA N m2)] w15.drew fun r w'=>∃ b v,r = .returned (.tuple #[.pointer (some ⟨b,0,none⟩),.int .i64 0])∧BaseAt w' b d N s2 m2 v false false∧ViewAt w' v d N s2.gen m2 m2∧w15.drew.heap.size≤b∧w15.drew.heap.size≤v∧Below w15.drew.heap.size w15.drew w'):=⟨based_calls (hd15.below (below_drew (Below.refl _ _))) HP.out.2.2.2.2⟩
    have H15:=Aside0.mk (And.intro hf15 hd15)
    clear hf15 hd15 hb14 hr14 hp14 hx14 HFL
    go_wp2
    have hb1:BaseAt w15.drew b d N s m vB true false:=hb15
    have hr1:=base_range hb1
    have hp1:SupAt w15.drew g8 s2:=hp15
    have hx1:w15.drew.heap[g5]?=some (Obj.cells (mapA N m2) 120):=hx15
    clear hb15 hp15 hx15
    go_region_held3 (fun w'=>BaseAt w' b d N s m vB true false∧w'.rangeAt b 0 tabA.toList∧SupAt w' g8 s2∧w'.heap[g5]?=some (Obj.cells (mapA N m2) 120)) (first | exact ⟨hb1,hr1,hp1,hx1⟩ | exact ⟨hb16,hr16,hp16,hx16⟩)
     ((go_at_call 63;(with_reducible refine HBS.out.mono ?_);rintro r w16 ⟨b2,v2,rfl,hn16,hv16,hsb,hsv,hf16⟩;have hb16:BaseAt w16 b d N s m vB true false:=blkb hf16 hb1;have hr16:=base_range hb16;have hp16:SupAt w16 g8 s2:=blkb hf16 hp1;have hx16:=blkb hf16 hx1))
    have HGV:Aside0 (sB≤v2):=⟨Nat.le_trans H15.out.2.sb hsv⟩
    have hlb:=ld_base HP.out.2.2.2.2.len w16 hn16
    have hsb2:=st_base (s:=s2) (v:=v2) (op:=false) (en:=false) (d:=d) (N:=N) (m:=m2) HP.out.2.2.2.2.len hb16 (baseA_len HM.out)
    have HF16:Aside0 (FrT dT w w16):=⟨((((FrT.of_below HF11.out dT).trans H12.out.1).trans H13.out).below (below_drew (Below.refl _ _))).trans H14.out.1 |>.trans H15.out.1 |>.below (below_drew (Below.refl _ _)) |>.below hf16⟩
    have ht16:TxnAt w16 t b v (ra:Int) (rh:Int) false:=HF16.out.blk HBT.out.2 (by decide)
    have H16:=Aside0.mk (And.intro hb16 (And.intro hv16 (And.intro hf16 (And.intro ht16 hn16))))
    obtain ⟨w17,hw17⟩:∃ W,w16.setRow b (baseA d N s2 m2 v2 false false)=W:=⟨_,rfl⟩
    have hF17:FrT [144] w16 w17:=by rw [← hw17];exact (FrT.refl _ _).setRow hb16 (by decide) _
    have hb17:BaseAt w17 b d N s2 m2 v2 false false:=by rw [← hw17];exact setRow_heap _ _ _ _ _ _ hb16
    have ht17:TxnAt w17 t b v (ra:Int) (rh:Int) false:=hF17.blk ht16 (by decide)
    have hc17:=txn_cell w17 ht17
    have hf17:=blk_frozen ht17 4
    rw [hw17] at hsb2
    have H17:=Aside0.mk (And.intro hF17 (And.intro hb17 ht17))
    clear hb16 hr16 hp16 hx16 hb1 hr1 hp1 hx1 hn16 hv16 hsb hsv hf16 ht16 hw17 hF17 hb17 ht17
    go_wp2
    go_ret
    have hFt:FrT [198] w17 (w17.setCell ⟨t,4,none⟩ (.bool true)):=(FrT.refl _ _).setCell H17.out.2.2 (by decide) _ _
    have eN:=HR.out.2.2.2.1
    have em:=HR.out.2.2.2.2.2.2.2.2.1
    have es:s2=⟨s.gen+1,ra,rh,p,N⟩:=by rw [← HS2.out,eN]
    refine ⟨rfl,p,v2,f2,HP.out.2.1,by rw [em];exact HP.out.2.2.1,?_,?_,?_,?_,?_,?_,HGV.out⟩
    ·rw [em,HP.out.1,← es];exact hFt.blk H17.out.2.1 (by decide)
    ·rw [em,HP.out.1]
     have h1:=(H17.out.1.blk H16.out.2.1 (by decide))
     rw [show s2.gen=s.gen+1 by rw [es]] at h1
     exact hFt.blk h1 (by decide)
    ·exact ((((H15.out.2.below (below_drew (Below.refl _ _))).below H16.out.2.2.1).frT H17.out.1 (by decide)).frT hFt (by decide))
    ·rw [em,HP.out.1];exact HP.out.2.2.2.2
    ·intro r h2 hne
     refine (H12.out.2.2 r hne).trans (H14.out.2.2 r ?_)
     have:s2.gen % 2<2:=Nat.mod_lt _ (by decide)
     omega
    ·exact ((HF16.out.mono (fun t ht=>List.mem_cons_of_mem _ (List.mem_cons_of_mem _ ht))).trans (H17.out.1.mono (fun t ht=>by rcases List.mem_singleton.1 ht with rfl;exact List.mem_cons_self))).trans (hFt.mono (fun t ht=>by rcases List.mem_singleton.1 ht with rfl;exact List.mem_cons_of_mem _ List.mem_cons_self))
end
section
def storeTabI (p v:Value):Sem Unit:=Instr.storeAt 74 p v
theorem storeTab_eq (p v:Value):Instr.storeAt 74 p v=storeTabI p v:=rfl
attribute [local go_sem ↓] Go.wp_at_zero Go.wp_at_succ loadKey_eq loadEn_eq storeKey_eq storeEn_eq loadNd_eq storeNd_eq loadMap_eq storeMap_eq loadTab_eq storePg_eq loadRt_eq storeRt_eq eqKy_eq loadSup_eq storeSup_eq loadBase_eq storeBase_eq storeTab_eq
theorem st_tab [Inhabited Sanct] {g:Nat} {Z:Array Value} (hz:Z.size=256):∀ W:World,W.heap[g]?=some (Obj.cells Z 74)→(storeTabI (.pointer (some ⟨g,0,none⟩)) (.agg tabA)).run Tryz.prog W = .ok () (W.setRow g tabA):=fun W h=>by
 have:=run_storeVar_row (P:=Tryz.prog) W g 74 74 Z tabA h tabA_size (by rw [hz,tabA_len]) (Array.all_eq_true_iff_forall_mem.2 (fun y hy=>by
  obtain ⟨z,_,rfl⟩:=List.mem_map.1 (show y∈nums .u32 crcTab by simpa [tabA] using hy)
  rfl))
 simp only [storeTabI,Instr.storeAt,Instr.sureAddr,Sem.run_bind,Sem.run_pure,Result.andThen_ok,this]
theorem below_new [Inhabited Sanct] {w:World} (o:Obj) {g:Nat} (hg:w.heap.size=g) (Q:Array Value):Below w.heap.size w ((w.alloc o).setRow g Q):=
 (below_alloc (Below.refl _ _) o).trans ⟨rfl,rfl,rfl,by simp [World.setRow],fun k hk=>setRow_other _ _ _ _ (by omega)⟩
theorem tformat_calls [Inhabited Sanct] {w:World} {d N:Nat} {f:Nat→List Int} (hd:DT w d N 0 f) :
  Calls Tryz.prog 25 #[.pointer (some ⟨d,0,none⟩)] w fun r w'=>∃ (b v p:Nat) (f2:Nat→List Int),r = .returned (.tuple #[.pointer (some ⟨b,0,none⟩),.int .i64 0])∧BaseAt w' b d N ⟨1,0,0,p,N⟩ (setN true newM p 1) v false false∧ViewAt w' v d N 1 (setN true newM p 1) (setN true newM p 1)∧DT w' d N 0 f2∧MapOk N (setN true newM p 1)∧p+1≤N∧FreeRun newM newM p 1∧FrT dT w w'∧sB≤b∧sB≤v:=by
 have hN:=hd.hN
 have hM:MapOk N newM:=newM_ok hN.1 hN.2
 have HNW:Aside0 (∀ W,Calls Tryz.prog 57 #[.int .i64 (N:Int)] W fun e w'=>e = .returned (.agg (mapA N newM))∧Below W.heap.size W w'):=⟨fun W=>mapnew_calls hN.1 hN.2⟩
 have HPG:Aside0 (∀ W,Below w.heap.size w W→Calls Tryz.prog 58 #[.pointer (some ⟨d,0,none⟩)] W fun e w'=>e = .returned (.int .i64 (N:Int))∧W=w'):=⟨fun W hW=>pages_dt (hd.below hW)⟩
 have hfree:FreeRun newM newM 2 1:=by
  have hg:newM[2]?=some false:=by decide
  exact free1.2 ⟨hg,hg⟩
 have HTK:Aside0 (∀ W,Calls Tryz.prog 56 #[.agg (mapA N newM),.agg (mapA N newM),.int .i64 1] W fun e w'=>∃ a:Nat,e = .returned (.tuple #[.agg (mapA N (setN true newM a 1)),.int .i64 (a:Int),.int .i64 0])∧a+1≤N∧FreeRun newM newM a 1∧Below W.heap.size W w'):=⟨fun W=>take_calls hM hM 1 2 (by decide) (by omega) hfree⟩
 have HCN:Aside0 (Calls Tryz.prog 27 #[] w fun e w'=>e = .returned (.agg tabA)∧Below w.heap.size w w'):=⟨crcnew_calls⟩
 have HD:=Aside0.mk (And.intro hd (And.intro hM hN))
 obtain ⟨Z0,hZ0⟩:∃ Z,mapA 0 (List.replicate 512 false)=Z:=⟨_,rfl⟩
 have hsz:Z0.size=513:=by rw [← hZ0];exact mapA_len _ (by rw [List.length_replicate])
 have hz:=zero_map
 rw [hZ0] at hz
 have HSZ:=Aside0.mk hsz
 obtain ⟨Z1,hZ1⟩:∃ Z,(nums .u32 z256).toArray=Z:=⟨_,rfl⟩
 have hsz1:Z1.size=256:=by rw [← hZ1];simp [nums,z256]
 have hz1:=zero_tab
 rw [hZ1] at hz1
 have HSZ1:=Aside0.mk hsz1
 clear hd hN hM hfree hZ0 hsz hZ1 hsz1
 go_enter Tryz.func25,Tryz.ntmps25
 go_wp2_with (go_at_call 27;(with_reducible refine HCN.out.mono ?_);rintro r w1 ⟨rfl,hb⟩;refine hold ?_)
 unfold Hold
 obtain ⟨gT,hgT⟩:∃ q,w1.heap.size=q:=⟨_,rfl⟩
 have hst:=st_tab HSZ1.out (w1.alloc (Obj.cells Z1 74)) (newb hgT)
 obtain ⟨w2,hw2⟩:∃ W,(w1.alloc (Obj.cells Z1 74)).setRow gT tabA=W:=⟨_,rfl⟩
 have hT2:w2.heap[gT]?=some (Obj.cells tabA 74):=by rw [← hw2];exact setRow_heap _ _ _ _ _ _ (newb hgT)
 have hB2:Below w.heap.size w w2:=below_step hb (by rw [← hw2];exact below_new _ hgT _)
 have HB2:=Aside0.mk hB2
 rw [hw2] at hst
 clear hb
 clear HB2
 go_wp2_with (first
  | (go_at_call 58;(with_reducible refine (HPG.out _ hB2).mono ?_);rintro r wx ⟨rfl,rfl⟩)
  | (go_at_call 57;(with_reducible refine (HNW.out _).mono ?_);rintro r w3 ⟨rfl,hb⟩;replace hT2:=blkb hb hT2;replace hB2:=below_step hB2 hb;clear hb)
  | (go_at_call 56;(with_reducible refine (HTK.out _).mono ?_);rintro r w4 ⟨p,rfl,hpN,hpf,hb⟩;refine hold ?_))
 unfold Hold
 replace hT2:=blkb hb hT2
 replace hB2:=below_step hB2 hb
 clear hb hst hw2 hgT
 obtain ⟨m2,hm2⟩:∃ M,setN true newM p 1=M:=⟨_,rfl⟩
 have hp2:=HD.out.2.1.free_ge hpf
 have hM2:MapOk N m2:=by rw [← hm2];exact HD.out.2.1.set _ hp2 hpN
 have HP:=Aside0.mk (And.intro hm2 (And.intro hpN (And.intro hpf (And.intro hp2 hM2))))
 rw [hm2]
 obtain ⟨gM,hgM⟩:∃ q,w4.heap.size=q:=⟨_,rfl⟩
 have hst:=st_map (N:=N) (m:=m2) (Z:=Z0) hM2.len HSZ.out (w4.alloc (Obj.cells Z0 120)) (newb hgM)
 obtain ⟨w5,hw5⟩:∃ W,(w4.alloc (Obj.cells Z0 120)).setRow gM (mapA N m2)=W:=⟨_,rfl⟩
 have hM5:w5.heap[gM]?=some (Obj.cells (mapA N m2) 120):=by rw [← hw5];exact setRow_heap _ _ _ _ _ _ (newb hgM)
 have hb5:Below w4.heap.size w4 w5:=by rw [← hw5];exact below_new _ hgM _
 rw [hw5] at hst
 replace hT2:=blkb hb5 hT2
 replace hB2:=below_step hB2 hb5
 obtain ⟨s1,hs1⟩:∃ e:Sup,(⟨1,0,0,p,N⟩:Sup)=e:=⟨_,rfl⟩
 have hok:SupOk s1:=by
  rw [← hs1]
  exact ⟨Nat.one_pos,(by show 1<1000000;decide),HD.out.2.2.1,HD.out.2.2.2,hp2,by show p<N;omega,fun _=>rfl,fun h=>absurd rfl h⟩
 obtain ⟨gS,hgS⟩:∃ q,w5.heap.size=q:=⟨_,rfl⟩
 obtain ⟨w6,hw6⟩:∃ W,(w5.alloc (Obj.cells #[.int .u64 0,.int .i64 0,.int .i64 0,.int .i64 0,.int .i64 0] 98)).setRow gS (supA s1)=W:=⟨_,rfl⟩
 have hS6:SupAt w6 gS s1:=by rw [← hw6];exact setRow_heap _ _ _ _ _ _ (newb hgS)
 have hb6:Below w5.heap.size w5 w6:=by rw [← hw6];exact below_new _ hgS _
 have hst2:(storeSupI (.pointer (some ⟨gS,0,none⟩)) (.agg #[.int .u64 1,.int .i64 0,.int .i64 0,.int .i64 (p:Int),.int .i64 (N:Int)])).run Tryz.prog (w5.alloc (Obj.cells #[.int .u64 0,.int .i64 0,.int .i64 0,.int .i64 0,.int .i64 0] 98)) = .ok () w6:=by
  have h:=st_sup ⟨1,0,0,p,N⟩ (newb (w:=w5) (o:=Obj.cells #[.int .u64 0,.int .i64 0,.int .i64 0,.int .i64 0,.int .i64 0] 98) hgS) rfl
  rw [← hw6,← hs1]
  exact h
 have hT6:=blkb hb6 hT2
 have hM6:=blkb hb6 hM5
 have hB6:=below_step hB2 hb6
 have hlt:=ld_tab (g:=gT)
 have hlm:=ld_map (g:=gM) (N:=N) hM2.len
 have hsl:=ld_sup (g:=gS) (s:=s1)
 have hsg:∀ W:World,SupAt W gS s1→W.cell? ⟨gS,0,none⟩=some (.int .u64 1):=fun W h=>by
  have h1:=(sup_cell W h).1
  rw [← hs1] at h1
  exact h1
 have HOK:=Aside0.mk (And.intro hok hs1)
 have HWM:Aside0 (Calls Tryz.prog 59 #[.agg tabA,.pointer (some ⟨d,0,none⟩),.int .i64 (p:Int),.int .u64 1,.agg (mapA N m2)] w6 fun e w'=>e = .returned (.int .i64 0)∧FrT dT w6 w' ∧ ∃ f',DT w' d N (0+4) f'∧Wrote f f' p 66 (mapB N m2)):=⟨writemap_calls (HD.out.1.below hB6) hM2 p 1 (by omega) (by decide) (by decide)⟩
 clear hm2 hp2 hM2 hok hs1 hb5 hb6 hM5 hT2 hpN hpf
 go_wp2_with (first
  | (go_at_call 58;(with_reducible refine (HPG.out _ hB2).mono ?_);rintro r wx ⟨rfl,rfl⟩)
  | (go_at_call 59;(with_reducible refine HWM.out.mono ?_);rintro r w7 ⟨rfl,hf7,f1,hd7,hw7⟩;refine hold ?_))
 unfold Hold
 have hS7:SupAt w7 gS s1:=hf7.blk hS6 (by decide)
 have hT7:=hf7.blk hT6 (by decide)
 have hM7:=hf7.blk hM6 (by decide)
 have HF7:=Aside0.mk ((FrT.of_below hB6 dT).trans hf7)
 have HFL:=Aside0.mk (flush_dt hd7)
 clear hf7 hd7 hw7 hS6 hT6 hM6 hB6 hst hst2 hw5 hw6 hgM hgS hz hz1 HWM
 go_wp2_with (go_at_call 60;(with_reducible refine HFL.out.mono ?_);rintro r w8 ⟨rfl,hf8,hd8⟩;refine hold ?_)
 unfold Hold
 have hS8:SupAt w8 gS s1:=hf8.blk hS7 (by decide)
 have hT8:=hf8.blk hT7 (by decide)
 have hM8:=hf8.blk hM7 (by decide)
 have HF8:=Aside0.mk (HF7.out.trans hf8)
 have HSW:Aside0 (Calls Tryz.prog 61 #[.agg tabA,.pointer (some ⟨d,0,none⟩),.agg (supA s1)] w8 fun e w'=>e = .returned (.int .i64 0)∧FrT dT w8 w' ∧ ∃ f',DT w' d N (0+4) f'∧Wrote f1 f' (s1.gen % 2) 83 (supB s1)):=⟨superwrite_calls hd8 HOK.out.1 (by rw [← HOK.out.2]) (by decide)⟩
 clear hf8 hd8 hS7 hT7 hM7 HFL HF7
 go_wp2_with (go_at_call 61;(with_reducible refine HSW.out.mono ?_);rintro r w9 ⟨rfl,hf9,f2,hd9,hw9⟩;refine hold ?_)
 unfold Hold
 have hS9:SupAt w9 gS s1:=hf9.blk hS8 (by decide)
 have hT9:=hf9.blk hT8 (by decide)
 have hM9:=hf9.blk hM8 (by decide)
 have HF9:=Aside0.mk (HF8.out.trans hf9)
 obtain ⟨ZR,hZR⟩:∃ l:List Int,List.replicate 256 0=l:=⟨_,rfl⟩
 have hmk:=fun W=>make_u8 W 256 256 rfl (by decide)
 have hzl:ZR.length=256:=by rw [← hZR];simp
 have hzb:Bs ZR:=by rw [← hZR];exact fun x hx=>by rw [(List.mem_replicate.1 hx).2];omega
 rw [hZR] at hmk
 obtain ⟨gR,hgR⟩:∃ q,w9.heap.size=q:=⟨_,rfl⟩
 obtain ⟨w10,hw10⟩:∃ W,w9.alloc (Obj.cells (nums .u8 ZR).toArray 5)=W:=⟨_,rfl⟩
 have hb10:Below w9.heap.size w9 w10:=by rw [← hw10];exact below_alloc (Below.refl _ _) _
 have hC10:Kd.C (Kd.int .u8) w10 (some ⟨gR,0,none⟩) ZR.length ZR:=Row.C (e:=5) (bs:=ZR) ⟨[],by rw [List.append_nil,← hw10];exact newb hgR⟩ 0 ZR (fun i x hi=>by rw [Nat.zero_add];exact hi) (by rw [hzl];decide)
 have hwr:=writeraw_calls (hd9.below hb10) 0 256 (some ⟨gR,0,none⟩) 256 ZR hzl (by decide) (by decide) hC10 hzb (by have:=HD.out.2.2.1;omega) (by decide) (by decide)
 clear hZR hzb hC10
 have HWR:Aside0 (Calls Tryz.prog 62 #[.pointer (some ⟨d,0,none⟩),.int .i64 0,.slice (some ⟨gR,0,none⟩) 256 256] w10 fun e w'=>e = .returned (.int .i64 0)∧FrT dT w10 w'∧DT w' d N (0+4+4*((256+255) / 256)) (raws f2 0 ZR)):=⟨hwr⟩
 have hS10:SupAt w10 gS s1:=blkb hb10 hS9
 have hT10:=blkb hb10 hT9
 have hM10:=blkb hb10 hM9
 have HF10:=Aside0.mk (HF9.out.below hb10)
 clear hf9 hd9 hw9 hS8 hT8 hM8 hS9 hT9 hM9 hb10 hwr HSW HF8 HF9 hzl
 go_wp2_with (go_at_call 62;(with_reducible refine HWR.out.mono ?_);rintro r w11 ⟨rfl,hf11,hd11⟩;refine hold ?_)
 unfold Hold
 have hS11:SupAt w11 gS s1:=hf11.blk hS10 (by decide)
 have hT11:=hf11.blk hT10 (by decide)
 have hM11:=hf11.blk hM10 (by decide)
 have HF11:=Aside0.mk (HF10.out.trans hf11)
 have HFL:=Aside0.mk (flush_dt hd11)
 clear hf11 hd11 hS10 hT10 hM10 hw10 hgR hmk HWR HF10
 go_wp2_with (go_at_call 60;(with_reducible refine HFL.out.mono ?_);rintro r w12 ⟨rfl,hf12,hd12⟩;refine hold ?_)
 unfold Hold
 have hS12:SupAt w12 gS s1:=hf12.blk hS11 (by decide)
 have hT12:=hf12.blk hT11 (by decide)
 have hM12:=hf12.blk hM11 (by decide)
 have HF12:=Aside0.mk (And.intro (HF11.out.trans hf12) hd12)
 have HBS:Aside0 (Calls Tryz.prog 63 #[.agg tabA,.pointer (some ⟨d,0,none⟩),.agg (supA s1),.agg (mapA N m2)] w12 fun r w'=>∃ b v,r = .returned (.tuple #[.pointer (some ⟨b,0,none⟩),.int .i64 0])∧BaseAt w' b d N s1 m2 v false false∧ViewAt w' v d N s1.gen m2 m2∧w12.heap.size≤b∧w12.heap.size≤v∧Below w12.heap.size w12 w'):=⟨based_calls hd12 HP.out.2.2.2.2⟩
 clear hf12 hd12 hS11 hT11 hM11 HFL HF11
 go_wp2_with (go_at_call 63;(with_reducible refine HBS.out.mono ?_);rintro r w13 ⟨b,v,rfl,hb13,hv13,hsb,hsv,hf13⟩;have H13:=Aside0.mk (And.intro hb13 (And.intro hv13 hf13));have HSB:=Aside0.mk (And.intro hsb hsv);clear hb13 hv13 hf13 hsb hsv)
 go_ret2
 refine ⟨b,v,p,_,rfl,?_,?_,HF12.out.2.below H13.out.2.2,?_,HP.out.2.1,HP.out.2.2.1,HF12.out.1.below H13.out.2.2,Nat.le_trans HF12.out.2.sb HSB.out.1,Nat.le_trans HF12.out.2.sb HSB.out.2⟩
 ·rw [HP.out.1,HOK.out.2];exact H13.out.1
 ·rw [HP.out.1]
  have h1:=H13.out.2.1
  rw [← HOK.out.2] at h1
  exact h1
 ·rw [HP.out.1];exact HP.out.2.2.2.2
end
theorem nodup_le:∀ {l k:List Nat},l.Nodup→(∀ x∈l,x∈k)→l.length≤k.length
 | [],_,_,_=>Nat.zero_le _
 | a :: l,k,h,hs=>by
  obtain ⟨h1,h2⟩:=List.nodup_cons.1 h
  have ha:=hs a List.mem_cons_self
  have:=nodup_le (k:=k.erase a) h2 (fun x hx=>by
   have hne:x≠a:=fun e=>h1 (e▸hx)
   exact (List.mem_erase_of_ne hne).2 (hs x (List.mem_cons_of_mem _ hx)))
  rw [List.length_erase_of_mem ha] at this
  have:=List.length_pos_of_mem ha
  simp only [List.length_cons]
  omega
theorem filter_add (q:Nat→Bool):∀ l:List Nat,(l.filter q).length+(l.filter (fun x=>!q x)).length=l.length
 | []=>rfl
 | a :: l=>by
  have:=filter_add q l
  rw [List.filter_cons,List.filter_cons]
  cases q a<;>simp<;>omega
theorem Us.cap [Inhabited Sanct] {N:Nat} {m:List Bool} {U:List Nat} {k:Nat} (h:Us N m U) (hm:MapOk N m) (hk:U.length+2+k≤N):Cap N m m k:=by
 have hml:=hm.len
 have hn5:=hm.n5
 obtain ⟨l1,hl1⟩:∃ l,(List.range N).filter (fun p=>m[p]? == some true)=l:=⟨_,rfl⟩
 obtain ⟨l2,hl2⟩:∃ l,(List.range N).filter (fun p=>!(m[p]? == some true))=l:=⟨_,rfl⟩
 have hnd:(List.range N).Nodup:=List.nodup_range
 have e1:l1.length≤U.length+2:=by
  have:=nodup_le (l:=l1) (k:=0 :: 1 :: U) (by rw [← hl1];exact hnd.filter _) (fun x hx=>by
   rw [← hl1] at hx
   have h2:=(List.mem_filter.1 hx).2
   rcases (h.u x).1 (by simpa using h2) with h3 | h3
   ·rcases x with _ | _ | x
    ·simp
    ·simp
    ·omega
   ·simp [h3])
  simpa using this
 have e2:l1.length+l2.length=N:=by
  rw [← hl1,← hl2]
  have h0:=filter_add (fun p=>m[p]? == some true) (List.range N)
  rw [List.length_range] at h0
  exact h0
 have key:Cap N m m l2.length:=⟨l2,by rw [← hl2];exact hnd.filter _,rfl,fun b hb=>by
  rw [← hl2] at hb
  obtain ⟨h1,h2⟩:=List.mem_filter.1 hb
  have hbN:=List.mem_range.1 h1
  refine ⟨by omega,?_⟩
  have hf:m[b]?=some false:=by
   have:m[b]?=some m[b]:=List.getElem?_eq_getElem (by omega)
   rw [this] at h2 ⊢
   cases hb:m[b] with
   | false=>rfl
   | true=>rw [hb] at h2;simp at h2
  exact free1.2 ⟨hf,hf⟩⟩
 exact key.mono (by omega)
theorem TreeOk.same [Inhabited Sanct] {f g:Nat→List Int} {a q:Int} {es:List En} {ps:List Nat} (h:TreeOk f a q es ps) (hs:∀ p∈ps,SameAt f g p):TreeOk g a q es ps:=by
 rcases h with ⟨h1,h2,h3,h4⟩ | ⟨h,p,nd,ps',h1,h2,h3,h4,h5,h6,h7⟩
 ·exact .inl ⟨h1,h2,h3,h4⟩
 ·subst h3
  exact .inr ⟨h,p,nd,ps',h1,h2,rfl,h4.same (fun r hr=>hs r (List.mem_cons_of_mem _ hr)),h5,h6,(hs p List.mem_cons_self).page h7⟩
theorem TreeOk.cnt {f:Nat→List Int} {a q:Int} {es:List En} {ps:List Nat} (h:TreeOk f a q es ps) (hl:es.length≤90):ps.length≤es.length+1:=by
 rcases h with ⟨_,_,h3,h4⟩ | ⟨h,p,nd,ps',h1,h2,h3,h4,h5,h6,h7⟩
 ·subst h3 h4;simp
 ·subst h3
  have:=(root_low h4 h6 hl).2
  simp only [List.length_cons];omega
theorem txput [Inhabited Sanct] {w:World} {t b v d N gen nw k:Nat} {s:Sup} {m:List Bool} {vB:Nat} {op:Bool} {f:Nat→List Int} {a q:Int} {es:List En} {ps R:List Nat} {x:En} {A:Option Addr} {n c bR:Nat} {bs:List Int}
  (hb:BaseAt w b d N s m vB op false) (ht:TxnAt w t b v a q false) (hv:VS w v d N gen nw m m f (k+12)) (hn:bs.length=n) (h1:1≤n) (h2:n≤256) (hr:Kd.R (Kd.int .u8) 5 w bR (fun _=>True) (.slice A n c) bs) (hbs:Bs bs)
  (hk:KyOk x.k) (hz:x.z=x.k.a) (hxn:1≤x.n∧x.n≤200) (hxc:x.c≤15) (hT:TreeOk f a q es ps) (hsp:Sp es) (hg:∀ e∈es,EnG e) (hl:es.length≤89) (hne:∀ y∈es,y.k≠x.k) (hu:Us N m (ps++R)) (gt:sB≤t:=by assumption) :
  Calls Tryz.prog 69 #[.pointer (some ⟨t,0,none⟩),.agg (enA x),.slice A n c] w fun r w'=>r = .returned (.int .i64 0) ∧ ∃ (p:Nat) (a' q':Int) (es':List En) (ps':List Nat) (m':List Bool) (f':Nat→List Int) (nw':Nat),TreeOk f' a' q' es' ps'∧es'.Perm ({ x with p:=p,l:=n,x:=crcSum bs } :: es)∧EnG { x with p:=p,l:=n,x:=crcSum bs }∧Sp es'∧VS w' v d N gen nw' m' m f' k∧Us N m' (ps'++p :: R)∧(∀ r∈R,SameAt f f' r)∧RawAt f' p bs∧TxnAt w' t b v a' q' false∧BaseAt w' b d N s m vB op false∧FrT (198 :: vT) w w':=by
 have hn5:=hv.mm.n5
 have hEn:∀ p:Nat,2≤p→p+1≤N→EnG { x with p:=p,l:=n,x:=crcSum bs }:=fun p hp hpN=>⟨⟨hk,by show x.k.a≤x.z;omega,by show x.z<_;have:=hk.2.2.2;omega,hp,by show p≤511;omega,h1,by show n≤65535;omega,by show p+(n+255) / 256≤512;omega,hxn.1,hxn.2,hxc,(crcSum_rng bs).1,(crcSum_rng bs).2⟩,hz⟩
 have hx2:EnOk { x with p:=2,l:=n,x:=crcSum bs }:=(hEn 2 (by decide) (by have:=hv.mm.n8;omega)).1
 have hall:∀ W,Below w.heap.size w W→Calls Tryz.prog 126 #[.pointer (some ⟨v,0,none⟩),.agg #[.int .i64 a,.int .i64 q]] W fun r w'=>∃ vo,r = .returned (.tuple #[vo,.int .i64 0])∧kE.R 89 w' W.heap.size (fun _=>True) vo es∧Below W.heap.size W w':=fun W hW=>by
  rcases hT with ⟨rfl,rfl,rfl,rfl⟩ | ⟨h,p,nd,ps',rfl,rfl,rfl,H,hok,h2,hp⟩
  ·refine (all0_calls 0).mono ?_
   rintro r w' ⟨rfl,hb⟩
   exact ⟨_,rfl,Kd.R_nil _ _ _ _ _,hb⟩
  ·exact all_calls (by have:=root_low H h2 (by omega);omega) (hv.below hW) H hok hp (fun r hr=>(hu.b r (List.mem_append_left _ hr)).2) (by omega)
 refine (put_calls (Post:=fun p a' q' W=>2≤p∧p+1≤N∧InsTo w W v d N gen k m (raws f p bs) (p :: R) { x with p:=p,l:=n,x:=crcSum bs } es a' q'∧(∀ r∈ps++R,r≠p)) hb ht (hv.mono (j:=k+11+1) (by omega)) hn h1 h2 hr hbs hx2 (by omega) hne (fun y hy=>?_) hall (fun W p hpN hpf hV hf=>?_)).mono ?_
 ·have:=meet_of (x:={ x with p:=2,l:=n,x:=crcSum bs }) ⟨hx2,hz⟩ (hg y hy) (hne y hy)
  exact this
 ·have hp2:=hv.mm.free_ge hpf
  have hUp:=hu.take hv.mm hpf hpN
  have hnp:∀ r∈ps++R,r≠p:=fun r hr e=>(List.nodup_cons.1 hUp.n).1 (e▸hr)
  have hsm:∀ r,r≠p→SameAt f (raws f p bs) r:=fun r hr=>raws_other f p bs r (by omega)
  refine (vs_Insert (R:=p :: R) hV (hT.same (fun r hr=>hsm r (hnp r (List.mem_append_left _ hr)))) hsp hg hl (hEn p hp2 hpN) hne (hUp.perm (List.perm_middle.symm))).mono ?_
  rintro r w' ⟨a',q',rfl,⟨es',ps',m',f',nw',t1,t2,t3,t4,t5,t6,t7⟩⟩
  exact ⟨a',q',rfl,⟨hp2,hpN,⟨es',ps',m',f',nw',t1,t2,t3,t4,t5,t6,hf.trans t7⟩,hnp⟩,t7⟩
 ·rintro r w' ⟨rfl,p,a',q',wI,⟨hp2,hpN,⟨es',ps',m',f',nw',t1,t2,t3,t4,t5,t6,t7⟩,hnp⟩,hfI,hT',hB',hF'⟩
  have hsm:∀ r,r≠p→SameAt f (raws f p bs) r:=fun r hr=>raws_other f p bs r (by omega)
  refine ⟨rfl,p,a',q',es',ps',m',f',nw',t1,t2,hEn p hp2 hpN,t3,t4.frT hfI (by decide),t5,fun r hr=>?_,(raw_at f p bs (by omega) (by omega)).same (t6 p List.mem_cons_self),hT',hB',hF'⟩
  exact (hsm r (hnp r (List.mem_append_right _ hr))).trans (t6 r (List.mem_cons_of_mem _ hr))
section
attribute [local go_sem ↓] Go.wp_at_zero Go.wp_at_succ loadKey_eq loadEn_eq storeKey_eq storeEn_eq loadNd_eq storeNd_eq loadMap_eq storeMap_eq loadTab_eq storePg_eq loadRt_eq storeRt_eq eqKy_eq loadSup_eq storeSup_eq loadBase_eq storeBase_eq storeTab_eq
structure Sm where
 a:Int
 v:Int
def smC (s:Sm):List Value:=[.int .i64 s.a,.int .u64 s.v]
abbrev RSm (w:World) (A:Option Addr) (l:List Sm):Prop:=Rw 35 smC 2 w A l
def StoAt (W:World) (s b:Nat):Prop:=W.heap[s]?=some (Obj.cells #[.pointer (some ⟨b,0,none⟩),.bool false] 84)
theorem sto_cell {s b:Nat}:∀ W:World,StoAt W s b→W.cell? ⟨s,0,none⟩=some (.pointer (some ⟨b,0,none⟩))∧W.cell? ⟨s,1,none⟩=some (.bool false):=fun W h=>⟨blk_cell h 0,blk_cell h 1⟩
theorem of_calls [Inhabited Sanct] {w:World} (b:Nat):Calls Tryz.prog 24 #[.pointer (some ⟨b,0,none⟩),.int .i64 0] w fun r w'=>∃ s,r = .returned (.tuple #[.pointer (some ⟨s,0,none⟩),.int .i64 0])∧StoAt w' s b∧Below w.heap.size w w':=by
 go_enter Tryz.func24,Tryz.ntmps24
 go_wp2
 go_ret2
 exact ⟨w.heap.size,rfl,newb rfl,below_alloc (Below.refl _ _) _⟩
theorem smay_calls {w:World} {s b:Nat} (h:StoAt w s b):Calls Tryz.prog 31 #[.pointer (some ⟨s,0,none⟩)] w fun r w'=>r = .returned (.int .i64 0)∧w=w':=by
 have hc:=(sto_cell w h).2
 clear h
 go_enter Tryz.func31,Tryz.ntmps31
 go_wp2
 go_ret
 exact ⟨rfl,rfl⟩
theorem known_calls {w:World} (x:Int) (h0:0≤x) (h1:x≤4294967295):Calls Tryz.prog 43 #[.int .i64 x] w fun r w'=>r = .returned (.bool true)∧w=w':=by
 have d1:decide (0≤x)=true:=decide_eq_true h0
 have d2:decide (x≤4294967295)=true:=decide_eq_true h1
 clear h0 h1
 go_enter Tryz.func43,Tryz.ntmps43
 go_wp2
 go_ret
 exact ⟨rfl,rfl⟩
def EncC (sm:Sm) (codec:Int) (bs:List Int):Prop:=∀ (W:World) (A:Option Addr) (c:Nat),RSm W A [sm]→1≤c→Calls Tryz.prog 68 #[.slice A 1 c,.int .i64 codec] W fun r w'=>∃ v,r = .returned (.tuple #[v,.int .i64 0])∧Kd.R (Kd.int .u8) 5 w' W.heap.size (fun _=>True) v bs∧Below W.heap.size W w'
def newE (sr:Int) (a:Int) (codec:Nat):En:=⟨⟨sr,a⟩,a,0,0,1,codec,0⟩
theorem sput_calls [Inhabited Sanct] {w:World} {t c:Nat} {sr:Int} {codec:Nat} {A:Option Addr} {sm:Sm} {bs:List Int} (h0:0≤sr) (h1:sr≤4294967295) (hrow:RSm w A [sm]) (hc:1≤c) (henc:EncC sm (codec:Int) bs) {Post:World→Prop}
  (hput:∀ (W:World) (A':Option Addr) (c':Nat),Below w.heap.size w W→Kd.R (Kd.int .u8) 5 W w.heap.size (fun _=>True) (.slice A' bs.length c') bs→Calls Tryz.prog 69 #[.pointer (some ⟨t,0,none⟩),.agg (enA (newE sr sm.a codec)),.slice A' bs.length c'] W fun r w'=>r = .returned (.int .i64 0)∧Post w') :
  Calls Tryz.prog 30 #[.pointer (some ⟨t,0,none⟩),.int .i64 sr,.int .i64 (codec:Int),.slice A 1 c] w fun r w'=>r = .returned (.int .i64 0)∧Post w':=by
 have HE:=Aside0.mk (henc w A c hrow hc)
 have HK:Aside0 (∀ W,Calls Tryz.prog 43 #[.int .i64 sr] W fun r w'=>r = .returned (.bool true)∧W=w'):=⟨fun W=>known_calls sr h0 h1⟩
 have HP:=Aside0.mk hput
 obtain ⟨g,o,hA,hcc⟩:=hrow.at_ (j:=0) (x:=sm) rfl
 subst hA
 have HC:Aside0 (∀ W,Below w.heap.size w W→W.cell? ⟨g,o,none⟩=some (.int .i64 sm.a)):=⟨fun W hW=>by
  obtain ⟨g2,o2,hA,hc2⟩:=(hrow.below hW).at_ (j:=0) (x:=sm) rfl
  injection hA with hA
  injection hA with e1 e2
  subst e1 e2
  have:=hc2 0 _ rfl
  simpa using this⟩
 obtain ⟨cz,hcz⟩:∃ z:Int,(codec:Int)=z:=⟨_,rfl⟩
 rw [hcz] at HE ⊢
 have d9:(0<(c:Int))=True:=eq_true (by omega)
 have e0:wrap64 0=0:=wrap64_id (by omega) (by omega)
 clear henc h0 h1 hput hrow hcc hc
 go_enter Tryz.func30,Tryz.ntmps30
 go_wp2_with (first
  | (go_at_call 43;(with_reducible refine (HK.out _).mono ?_);rintro r w1 ⟨rfl,rfl⟩)
  | (go_at_call 68;(with_reducible refine HE.out.mono ?_);rintro r w2 ⟨v,rfl,hr,hb⟩;refine hold ?_))
 unfold Hold
 obtain ⟨A2,c2,rfl⟩:=Kd.R_slice hr
 obtain ⟨n,hn⟩:∃ n,bs.length=n:=⟨_,rfl⟩
 rw [hn] at hr ⊢
 have HR:=Aside0.mk (And.intro hr hb)
 have hS:Below w2.heap.size w2 w2.drew:=below_drew (Below.refl _ _)
 clear hr hb
 go_wp2
 apply leaf_cut2 (fun W g=>EnAt W g (newE sr sm.a codec)∧Below w2.heap.size w2 W)
 ·intro hkey
  refine start_ (n:=19) (S:=fun w'=>w'.cell? ⟨g,o,none⟩=some (.int .i64 sm.a)) (ds:=[18]) (fbB 19 0) (by kernel_rfl) rfl rfl (HC.out _ (below_step HR.out.2 hS)) (fun hHeld=>?_)
  obtain ⟨wt,hwt⟩:∃ W,w2.drew=W:=⟨_,rfl⟩
  rw [hwt] at hHeld hS ⊢
  clear hwt
  refine puR 0 24 (fbB 19 1) (h:=?_)
  refine puR 1 25 (fbB 19 3) (h:=?_)
  refine puR 2 26 (fbB 19 7) (h:=?_)
  refine puR 3 27 (fbB 19 15) (h:=?_)
  refine tkR 4 28 (fbB 19 31) hHeld (h:=?_)
  refine puR 5 29 (fbB 19 63) (h:=?_)
  refine puR 6 30 (fbB 19 127) (h:=?_)
  refine puR 7 31 (fbB 19 255) (h:=?_)
  refine puR 8 32 (fbB 19 511) (h:=?_)
  refine puR 9 33 (fbB 19 1023) (h:=?_)
  refine puR 10 34 (fbB 19 2047) (h:=?_)
  refine puR 11 35 (fbB 19 4095) (h:=?_)
  refine tkR 12 36 (fbB 19 8191) hHeld (h:=?_)
  refine puR 13 37 (fbB 19 16383) (h:=?_)
  refine puR 14 38 (fbB 19 32767) (h:=?_)
  refine puR 15 39 (fbB 19 65535) (h:=?_)
  refine puR 16 40 (fbB 19 131071) (h:=?_)
  refine one_ (i:=17) (N:=some 11) (fbB 19 262143) rfl rfl (by kernel_rfl) (by simp) (fun K hK=>?_)
  go_simp
  have hst:(storeEnI (.pointer (some ⟨wt.heap.size,0,none⟩)) (.agg #[.int .i64 sr,.int .i64 sm.a,.int .i64 sm.a,.int .i64 0,.int .i64 0,.int .i64 1,.int .i64 cz,.int .u32 0])).run Tryz.prog (wt.alloc (Obj.cells #[.int .i64 0,.int .i64 0,.int .i64 0,.int .i64 0,.int .i64 0,.int .i64 0,.int .i64 0,.int .u32 0] 89)) = .ok () (wt.alloc (Obj.cells (enA (newE sr sm.a codec)) 89)):=by rw [← hcz];exact st_en (newE sr sm.a codec) wt
  refine hK.out _ _ (HC.out _ (below_alloc (below_step HR.out.2 hS) _)) (fun hHeld=>?_)
  refine last_ (i:=18) (N:=none) (fbB 19 524287) rfl rfl (by kernel_rfl) (by simp) (fun K hK=>?_)
  go_simp
  refine hK.out _ _ ?_
  have hL:EnAt (wt.alloc (Obj.cells (enA (newE sr sm.a codec)) 89)) wt.heap.size (newE sr sm.a codec)∧Below w2.heap.size w2 (wt.alloc (Obj.cells (enA (newE sr sm.a codec)) 89)):=⟨newb rfl,below_alloc hS _⟩
  clear hst
  refine done_ (by kernel_rfl) ?_
  rotate_left
  all_goals
   clear hHeld hK
   obtain ⟨W6,g6,hW6,hg6,hL⟩:=name2 (F:=fun W g=>EnAt W g (newE sr sm.a codec)∧Below w2.heap.size w2 W) hL
   rw [← hW6,← hg6]
   exact hkey W6 g6 hL
 ·rintro W6 g6 ⟨hx,hb6⟩
  have hle:=(ld_en W6 hx).1
  have hpc:=HP.out W6 A2 c2 (below_step HR.out.2 hb6) (by rw [hn];exact Kd.R_below HR.out.1 hb6)
  rw [hn] at hpc
  have HPC:=Aside0.mk hpc
  clear hpc hx hb6
  go_wp2_with (go_at_call 69;(with_reducible refine HPC.out.mono ?_);rintro r w7 ⟨rfl,hp⟩;have HP7:=Aside0.mk hp;clear hp)
  go_ret
  exact ⟨rfl,HP7.out⟩
end
section
attribute [local go_sem ↓] Go.wp_at_zero Go.wp_at_succ loadKey_eq loadEn_eq storeKey_eq storeEn_eq loadNd_eq storeNd_eq loadMap_eq storeMap_eq loadTab_eq storePg_eq loadRt_eq storeRt_eq eqKy_eq loadSup_eq storeSup_eq loadBase_eq storeBase_eq storeTab_eq
structure ApBx (W:World) (g1 g2 g3:Nat) (sr cd:Int) (A:Option Addr) (c:Nat):Prop where
 h1:W.heap[g1]?=some (Obj.cells #[.int .i64 sr] 3)
 h2:W.heap[g2]?=some (Obj.cells #[.int .i64 cd] 3)
 h3:W.heap[g3]?=some (Obj.cells #[.slice A 1 c] 33)
theorem ApBx.frT [Inhabited Sanct] {T:List Nat} {W W2:World} {g1 g2 g3:Nat} {sr cd:Int} {A:Option Addr} {c:Nat} (h:ApBx W g1 g2 g3 sr cd A c) (hf:FrT T W W2) (h1:3 ∉ T) (h2:33 ∉ T):ApBx W2 g1 g2 g3 sr cd A c:=⟨hf.blk h.h1 h1,hf.blk h.h2 h1,hf.blk h.h3 h2⟩
theorem append1_calls [Inhabited Sanct] {w:World} {t g1 g2 g3 c:Nat} {sr cd:Int} {A:Option Addr} (h:ApBx w g1 g2 g3 sr cd A c) {Post:World→Prop}
  (hput:Calls Tryz.prog 30 #[.pointer (some ⟨t,0,none⟩),.int .i64 sr,.int .i64 cd,.slice A 1 c] w fun r w'=>r = .returned (.int .i64 0)∧Post w') :
  Calls Tryz.prog 29 #[.pointer (some ⟨t,0,none⟩),.pointer (some ⟨g1,0,none⟩),.pointer (some ⟨g2,0,none⟩),.pointer (some ⟨g3,0,none⟩)] w fun r w'=>r = .returned (.int .i64 0)∧Post w':=by
 have HP:=Aside0.mk hput
 have c1:=blk_cell h.h1 0
 have c2:=blk_cell h.h2 0
 have c3:=blk_cell h.h3 0
 simp only [List.getElem?_toArray,List.getElem?_cons_zero] at c1 c2 c3
 clear h hput
 go_enter Tryz.func29,Tryz.ntmps29
 go_wp2_with (go_at_call 30;(with_reducible refine HP.out.mono ?_);rintro r w7 ⟨rfl,hp⟩;have HP7:=Aside0.mk hp;clear hp)
 go_ret
 exact ⟨rfl,HP7.out⟩
theorem change_calls [Inhabited Sanct] {w:World} {s b g1 g2 g3:Nat} (hs:StoAt w s b) {P1 P2:Nat→World→Prop} {P3:World→Prop}
  (hb:Calls Tryz.prog 65 #[.pointer (some ⟨b,0,none⟩)] w fun r w'=>∃ t,r = .returned (.tuple #[.pointer (some ⟨t,0,none⟩),.int .i64 0])∧P1 t w')
  (hf:∀ t W,P1 t W→Calls Tryz.prog 29 #[.pointer (some ⟨t,0,none⟩),.pointer (some ⟨g1,0,none⟩),.pointer (some ⟨g2,0,none⟩),.pointer (some ⟨g3,0,none⟩)] W fun r w'=>r = .returned (.int .i64 0)∧P2 t w')
  (hc:∀ t W,P2 t W→Calls Tryz.prog 67 #[.pointer (some ⟨t,0,none⟩)] W fun r w'=>r = .returned (.int .i64 0)∧P3 w') :
  Calls Tryz.prog 28 #[.pointer (some ⟨s,0,none⟩),.func (Fn.func 29) #[] #[.pointer (some ⟨g1,0,none⟩),.pointer (some ⟨g2,0,none⟩),.pointer (some ⟨g3,0,none⟩)]] w fun r w'=>r = .returned (.int .i64 0)∧P3 w':=by
 have HM:=Aside0.mk (smay_calls hs)
 have HB:=Aside0.mk hb
 have HF:=Aside0.mk hf
 have HC:=Aside0.mk hc
 have hc0:=(sto_cell w hs).1
 clear hs hb hf hc
 go_enter Tryz.func28,Tryz.ntmps28
 go_wp2_with (first
  | (go_at_call 31;(with_reducible refine HM.out.mono ?_);rintro r w1 ⟨rfl,rfl⟩)
  | (go_at_call 65;(with_reducible refine HB.out.mono ?_);rintro r w2 ⟨t,rfl,hp⟩;have HP1:=Aside0.mk hp;clear hp)
  | (go_at_call 29;(with_reducible refine (HF.out _ _ HP1.out).mono ?_);rintro r w3 ⟨rfl,hp⟩;have HP2:=Aside0.mk hp;clear hp)
  | (go_at_call 67;(with_reducible refine (HC.out _ _ HP2.out).mono ?_);rintro r w4 ⟨rfl,hp⟩;have HP3:=Aside0.mk hp;clear hp))
 go_ret
 exact ⟨rfl,HP3.out⟩
theorem append_calls [Inhabited Sanct] {w:World} {s b c:Nat} {sr cd:Int} {A:Option Addr} {Post:World→Prop}
  (hch:∀ (W:World) (g1 g2 g3:Nat),Below w.heap.size w W→ApBx W g1 g2 g3 sr cd A c→Calls Tryz.prog 28 #[.pointer (some ⟨s,0,none⟩),.func (Fn.func 29) #[] #[.pointer (some ⟨g1,0,none⟩),.pointer (some ⟨g2,0,none⟩),.pointer (some ⟨g3,0,none⟩)]] W fun r w'=>r = .returned (.int .i64 0)∧Post w') :
  Calls Tryz.prog 9 #[.pointer (some ⟨s,0,none⟩),.int .i64 sr,.int .i64 cd,.slice A 1 c] w fun r w'=>r = .returned (.int .i64 0)∧Post w':=by
 obtain ⟨g1,hg1⟩:∃ q,w.heap.size=q:=⟨_,rfl⟩
 obtain ⟨Wa,hWa⟩:∃ W,w.alloc (Obj.cells #[.int .i64 sr] 3)=W:=⟨_,rfl⟩
 obtain ⟨g2,hg2⟩:∃ q,Wa.heap.size=q:=⟨_,rfl⟩
 obtain ⟨Wb,hWb⟩:∃ W,Wa.alloc (Obj.cells #[.int .i64 cd] 3)=W:=⟨_,rfl⟩
 obtain ⟨g3,hg3⟩:∃ q,Wb.heap.size=q:=⟨_,rfl⟩
 obtain ⟨W0,hW0⟩:∃ W,Wb.alloc (Obj.cells #[.slice A 1 c] 33)=W:=⟨_,rfl⟩
 have hB0:Below w.heap.size w W0:=by rw [← hW0,← hWb,← hWa];exact below_alloc (below_alloc (below_alloc (Below.refl _ _) _) _) _
 have hA0:ApBx W0 g1 g2 g3 sr cd A c:=⟨by rw [← hW0,← hWb,← hWa];exact blk_alloc (blk_alloc (newb hg1) _) _,by rw [← hW0,← hWb];exact blk_alloc (newb hg2) _,by rw [← hW0];exact newb hg3⟩
 have HC:=Aside0.mk (hch W0 g1 g2 g3 hB0 hA0)
 clear hB0 hA0 hch
 go_enter Tryz.func9,Tryz.ntmps9
 go_wp2_with (go_at_call 28;(with_reducible refine HC.out.mono ?_);rintro r w7 ⟨rfl,hp⟩;have HP7:=Aside0.mk hp;clear hp)
 go_ret
 exact ⟨rfl,HP7.out⟩
theorem sformat_calls [Inhabited Sanct] {w:World} {d:Nat} {P:Nat→World→Prop} (hP:∀ b W W',P b W→Below W.heap.size W W'→P b W')
  (hf:Calls Tryz.prog 25 #[.pointer (some ⟨d,0,none⟩)] w fun r w'=>∃ b,r = .returned (.tuple #[.pointer (some ⟨b,0,none⟩),.int .i64 0])∧P b w') :
  Calls Tryz.prog 7 #[.pointer (some ⟨d,0,none⟩)] w fun r w'=>∃ s b,r = .returned (.tuple #[.pointer (some ⟨s,0,none⟩),.int .i64 0])∧StoAt w' s b∧P b w':=by
 have HF:=Aside0.mk hf
 have HP:=Aside0.mk hP
 have HO:Aside0 (∀ W b,Calls Tryz.prog 24 #[.pointer (some ⟨b,0,none⟩),.int .i64 0] W fun r w'=>∃ s,r = .returned (.tuple #[.pointer (some ⟨s,0,none⟩),.int .i64 0])∧StoAt w' s b∧Below W.heap.size W w'):=⟨fun W b=>of_calls b⟩
 clear hf hP
 go_enter Tryz.func7,Tryz.ntmps7
 go_wp2_with (first
  | (go_at_call 25;(with_reducible refine HF.out.mono ?_);rintro r w1 ⟨b,rfl,hp⟩;have HP1:=Aside0.mk hp;clear hp)
  | (go_at_call 24;(with_reducible refine (HO.out _ _).mono ?_);rintro r w2 ⟨s,rfl,hs,hb⟩;have HS:=Aside0.mk (And.intro hs hb);clear hs hb))
 go_ret2
 exact ⟨s,b,rfl,HS.out.1,HP.out _ _ _ HP1.out HS.out.2⟩
end
end Go.Proofs.YtnhkikebfinejaaGreatDoor.Z
