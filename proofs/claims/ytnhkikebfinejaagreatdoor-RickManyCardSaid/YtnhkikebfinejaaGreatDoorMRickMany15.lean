/- Texts of this claim, laid together. No conditions. -/
import Derived.Test.YtnhkikebfinejaaGreatDoorMRickMany14
import Derived.Test.YtnhkikebfinejaaGreatDoorMRickMany1
set_option linter.unusedVariables false
set_option linter.unusedSimpArgs false
set_option maxRecDepth 100000
set_option maxHeartbeats 16000000
namespace Go.Proofs.YtnhkikebfinejaaGreatDoor.Z
open Go Go.RowKit Go.Proofs.YtnhkikebfinejaaGreatDoorW.PrintWords Go.Proofs.YtnhkikebfinejaaGreatDoorW.PrintLast Go.Proofs.YtnhkikebfinejaaGreatDoorW.PrintMore Go.Proofs.YtnhkikebfinejaaGreatDoor.S Go.Proofs.YtnhkikebfinejaaGreatDoor.X
section
attribute [local go_sem ↓] Go.wp_at_zero Go.wp_at_succ loadKey_eq loadEn_eq storeKey_eq storeEn_eq loadNd_eq storeNd_eq loadMap_eq storeMap_eq loadTab_eq storePg_eq
theorem vs_under [Inhabited Sanct] {w:World} {v d N gen nw k base:Nat} {m o:List Bool} {f:Nat→List Int} {lv:Value} {L:List Nd} (h:VS w v d N gen nw m o f (k+L.length)) (hl:NdL w base lv L) (hL:∀ nd∈L,NdOk nd) (hn:L.length≤4) :
  Calls Tryz.prog 203 #[.pointer (some ⟨v,0,none⟩),lv] w fun r w'=>∃ (x:NV) (ts:List Nat) (m':List Bool) (f':Nat→List Int),r = .returned (.tuple #[.agg (nvA x),.int .i64 0])∧NdR w' w.heap.size (nvA x) ⟨false,[],L.map ndLeast,ts⟩∧Wrs N o L ts m f m' f'∧VS w' v d N gen (nw+4*L.length) m' o f' k∧FrT vT w w':=by
 obtain ⟨n,hnn⟩:∃ n,L.length=n:=⟨_,rfl⟩
 obtain ⟨vs,hv1,hv2,hv3⟩:=hl
 obtain ⟨A,c,rfl⟩:=Kd.R_slice hv1
 have hvn:vs.length=n:=hv2.trans hnn
 have HRW:=Aside0.mk (R_rw hv1 (by omega))
 have HV3:=Aside0.mk hv3
 have HVN:=Aside0.mk (And.intro hvn (And.intro hnn hn))
 have HLO:=Aside0.mk hL
 rw [hnn] at h ⊢
 rw [hvn]
 obtain ⟨W1,hW1⟩:∃ W,w.alloc (Obj.cells #[.bool false,.slice none 0 0,.slice none 0 0,.slice none 0 0] 175)=W:=⟨_,rfl⟩
 obtain ⟨gN,hgN⟩:∃ g,W1.heap.size=g:=⟨_,rfl⟩
 obtain ⟨W2,hW2⟩:∃ W,W1.alloc (Obj.cells #[.bool false,.slice none 0 0,.slice none 0 0,.slice none 0 0] 175)=W:=⟨_,rfl⟩
 have hB1:Below w.heap.size w W1:=by rw [← hW1];exact below_alloc (Below.refl _ _) _
 have hs1:W1.heap.size=w.heap.size+1:=by rw [← hW1];simp
 have hB2:Below w.heap.size w W2:=by rw [← hW2];exact below_alloc hB1 _
 have HU0:Aside0 (UnSt w W2 v d N gen (nw+4*0) (k+(n-0)) m o f w.heap.size gN #[.bool false,.slice none 0 0,.slice none 0 0,.slice none 0 0]):=⟨h.below hB2,by rw [← hW2];exact nb_new _ hgN,by rw [← hW2,← hW1];exact (nb_new _ rfl).alloc _,FrT.of_below hB2 _,by omega,by omega⟩
 clear h hv1 hv2 hv3 hvn hnn hn hL hB1 hs1 hB2
 go_enter Tryz.func203,Tryz.ntmps203
 go_wp2
 clear hW1 hW2 hgN
 go_loopw [13] (fun v13 wr=>∃ (i:Nat) (ii:Int) (v2 v3:Value) (ts:List Nat) (mi:List Bool) (fi:Nat→List Int),v13 = .int .i64 ii∧Aside0 (ii=(i:Int))∧Aside0 (i≤n)∧Aside0 (Wrs N o (L.take i) ts m f mi fi)∧Aside0 (UnSt w wr v d N gen (nw+4*i) (k+(n-i)) mi o fi w.heap.size gN #[.bool false,.slice none 0 0,v2,v3])∧Aside0 (kK.R 87 wr w.heap.size (fun _=>True) v2 ((L.take i).map ndLeast))∧Aside0 (kN.R 3 wr w.heap.size (fun _=>True) v3 ts)) (fun v13 _=>((n:Int)-intOf v13).toNat)
 case atStart=>exact ⟨0,0,.slice none 0 0,.slice none 0 0,[],m,f,rfl,⟨rfl⟩,⟨Nat.zero_le _⟩,⟨⟨rfl,rfl⟩⟩,HU0,⟨Kd.R_nil _ _ _ _ _⟩,⟨Kd.R_nil _ _ _ _ _⟩⟩
 case round=>
  clear HU0
  obtain ⟨i,ii,v2,v3,TS,mi,fi,rfl,HI,HIL,HWR,HU,HK,HT⟩:=hrel
  have hi0:0≤ii∧ii≤4:=by have:=HI.out;have:=HIL.out;have:=HVN.out;omega
  have e5:wrap64 (ii+1)=ii+1:=wrap64_id (by omega) (by omega)
  by_cases hlt:i<n
  ·have d1:decide (ii<(n:Int))=true:=decide_eq_true (by have:=HI.out;omega)
   have d2:(ii<(n:Int))=True:=eq_true (by have:=HI.out;omega)
   have d3:(0≤ii)=True:=eq_true (by omega)
   have eii:ii.toNat=i:=by have:=HI.out;omega
   obtain ⟨x,hx⟩:∃ x,vs[i]?=some x:=⟨_,List.getElem?_eq_getElem (by have:=HVN.out;omega)⟩
   obtain ⟨nd,hnd⟩:∃ x,L[i]?=some x:=⟨_,List.getElem?_eq_getElem (by have:=HVN.out;omega)⟩
   have hNR:=HV3.out i x nd hx hnd
   have hok:=HLO.out nd (List.mem_of_getElem? hnd)
   have hms:nd.es.length≤1000000∧nd.ks.length≤1000000∧nd.ts.length≤1000000:=by
    rcases hok with ⟨_,h2,h3,h4⟩ | ⟨_,h2,h3⟩
    ·have:=h4.n7;rw [h2,h3];simp;omega
    ·have:=h3.n;have:=h3.n16;rw [h2];simp;omega
   have HNV:Aside0 (∀ W,FrT vT w W→NdV W (nvA x) nd):=⟨fun W hW=>(hNR.frT hW (by decide) (by decide) (by decide)).v hms⟩
   obtain ⟨g,og,hA,hcc⟩:=(HRW.out.frT HU.out.fr (by decide)).at_ hx
   have hld:(loadNdI (.pointer (some ⟨g,og+i*4,none⟩))).run Tryz.prog wr = .ok (.agg (nvA x)) wr:=run_loadNd hcc
   subst hA
   have hst:=st_ndnew x wr
   obtain ⟨gX,hgX⟩:∃ g,wr.heap.size=g:=⟨_,rfl⟩
   obtain ⟨w0,hw0⟩:∃ W,wr.alloc (Obj.cells (nvA x) 175)=W:=⟨_,rfl⟩
   have hb0:Below wr.heap.size wr w0:=by rw [← hw0];exact below_alloc (Below.refl _ _) _
   have HU0:=Aside0.mk (HU.out.below hb0)
   have hx0:NbAt w0 gX (nvA x):=by rw [← hw0];exact nb_new _ hgX
   have HK0:=Aside0.mk (Kd.R_below HK.out hb0)
   have HT0:=Aside0.mk (Kd.R_below HT.out hb0)
   rw [hw0,hgX] at hst
   have hlx:=ld_nd (g:=gX) (v:=nvA x) rfl
   obtain ⟨s,a,hsa⟩:∃ s a,ndLeast nd=⟨s,a⟩:=⟨_,_,rfl⟩
   have HLE:Aside0 (∀ W,FrT vT w W→Calls Tryz.prog 87 #[.agg (nvA x)] W fun r w'=>r = .returned (.agg #[.int .i64 s,.int .i64 a])∧Below W.heap.size W w'):=⟨fun W hW=>by
    have:=least_calls (HNV.out W hW) hok
    rw [hsa] at this
    exact this⟩
   have HWC:Aside0 (Calls Tryz.prog 237 #[.pointer (some ⟨v,0,none⟩),.agg (nvA x)] w0 fun r w'=>∃ (a:Nat) (f':Nat→List Int),r = .returned (.tuple #[.int .i64 (a:Int),.int .i64 0])∧a+1≤N∧FreeRun mi o a 1∧VS w' v d N gen (nw+4*i+4) (setN true mi a 1) o f' (k+(n-(i+1)))∧Wrote fi f' a (kindN nd) (ndB nd)∧FrT vT w0 w'):=⟨by
    have h1:=HU0.out.vs
    rw [show k+(n-i)=k+(n-(i+1))+1 by omega] at h1
    exact vs_write h1 (HNV.out w0 HU0.out.fr) hok⟩
   have htk:L.take (i+1)=L.take i++[nd]:=by rw [List.take_add_one,hnd];rfl
   have HTK:=Aside0.mk (And.intro htk hsa)
   clear hNR hok hms hcc hx hnd hb0 HK HT hsa htk
   go_wp2_with (go_at_call 237;(with_reducible refine HWC.out.mono ?_);rintro r wt ⟨t,ft,rfl,ht,hft,hvs,hwr,hfr⟩;refine hold ?_)
   unfold Hold
   have HWZ:Aside0 (Wrs N o (L.take (i+1)) (TS++[t]) m f (setN true mi t 1) ft):=⟨by rw [HTK.out.1];exact HWR.out.snoc ht hft hwr⟩
   have HUT:Aside0 (UnSt w wt v d N gen (nw+4*(i+1)) (k+(n-(i+1))) (setN true mi t 1) o ft w.heap.size gN #[.bool false,.slice none 0 0,v2,v3]):=⟨by
    refine ⟨?_,HU0.out.n.frT hfr (by decide),HU0.out.z.frT hfr (by decide),HU0.out.fr.trans hfr,HU0.out.gn,HU0.out.ne⟩
    rw [show nw+4*(i+1)=nw+4*i+4 by omega]
    exact hvs⟩
   have hxt:=hx0.frT hfr (by decide)
   have HKT:=Aside0.mk (R_frT HK0.out hfr (by decide))
   have HTT:=Aside0.mk (R_frT HT0.out hfr (by decide))
   clear hx0 hvs hwr hfr hw0 hgX hst hld HK0 HT0 HU0 HWC ht hft HWR HU
   obtain ⟨tt,htt⟩:∃ z:Int,(t:Int)=z:=⟨_,rfl⟩
   have HTC:Aside0 (tt=(t:Int)):=⟨htt.symm⟩
   rw [htt]
   clear htt
   go_wp2
   obtain ⟨KS,hKS⟩:∃ K,(L.take i).map ndLeast=K:=⟨_,rfl⟩
   have hbd:Below wt.heap.size wt wt.drew:=below_drew (Below.refl _ _)
   have HU1:=Aside0.mk (HUT.out.below hbd)
   have HX1:=Aside0.mk (hxt.below hbd)
   have HK1:=Aside0.mk (Kd.R_below HKT.out hbd)
   have HT1:=Aside0.mk (Kd.R_below HTT.out hbd)
   rw [hKS] at HK1
   have HKZ0:Aside0 ((L.take (i+1)).map ndLeast=KS++[⟨s,a⟩]):=⟨by rw [HTK.out.1,List.map_append,hKS,List.map_cons,HTK.out.2];rfl⟩
   have HLN:Aside0 ((KS.length+1)*16≤140737488355328∧(TS.length+1)*8≤140737488355328):=⟨by
    have h1:KS.length≤i:=by rw [← hKS,List.length_map,List.length_take];omega
    have h2:TS.length≤4:=by
     have h3:=HWZ.out.len
     rw [List.length_append,List.length_take] at h3
     have:=HVN.out
     simp at h3
     omega
    have:=HVN.out
    omega⟩
   clear hKS hbd HUT hxt HKT HTT
   have hcn:=nb_cell (g:=gN) (x0:=.bool false) (x1:=.slice none 0 0) (x2:=v2) (x3:=v3)
   refine start_ (n:=15) (S:=fun w'=>NbAt w' gN #[.bool false,.slice none 0 0,v2,v3]∧NbAt w' gX (nvA x)) (ds:=[12,14]) (fbB 15 0) (by kernel_rfl) rfl rfl ⟨HU1.out.n,HX1.out⟩ (fun hHeld=>?_)
   obtain ⟨w1,hw1⟩:∃ W,wt.drew=W:=⟨_,rfl⟩
   rw [hw1] at hHeld HU1 HX1 HK1 HT1 ⊢
   clear hw1
   refine puR 0 27 (fbB 15 1) (h:=?_)
   refine tkR 1 28 (fbB 15 3) hHeld (h:=?_)
   refine tkR 2 29 (fbB 15 7) hHeld (h:=?_)
   refine puR 6 33 (fbB 15 71) (h:=?_)
   refine tkR 7 34 (fbB 15 199) hHeld (h:=?_)
   refine puR 8 35 (fbB 15 455) (h:=?_)
   refine two_ (i:=3) (j:=9) (Ni:=some 30) (Nj:=some 36) (fbB 15 463) (fbB 15 967) rfl rfl rfl rfl (by kernel_rfl) (by simp) (by simp) (fun K hK=>?_) (fun K hK=>?_)
   ·refine goes_ Tryz.func87 (by kernel_rfl) rfl #[.agg (nvA x)] (by rfl) rfl rfl (by simp [Act.eval]) ?_
    (with_reducible refine (HLE.out _ HU1.out.fr).mono ?_)
    rintro r w2 ⟨rfl,hb⟩
    have HU2:=Aside0.mk (HU1.out.below hb)
    have HX2:=Aside0.mk (HX1.out.below hb)
    have HK2:=Aside0.mk (Kd.R_below HK1.out hb)
    have HT2:=Aside0.mk (Kd.R_below HT1.out hb)
    clear hb
    refine ⟨_,rfl,hK.out _ _ ⟨HU2.out.n,HX2.out⟩ (fun hHeld=>?_)⟩
    refine nmR (h:=?_)
    refine two_ (i:=4) (j:=9) (Ni:=some 31) (Nj:=some 36) (fbB 15 479) (fbB 15 975) rfl rfl rfl rfl (by kernel_rfl) (by simp) (by simp) (fun K hK=>?_) (fun K hK=>?_)
    ·go_simp
     obtain ⟨w3,hw3⟩:∃ W,w2.alloc (Obj.cells #[.int .i64 s,.int .i64 a] 87)=W:=⟨_,rfl⟩
     obtain ⟨g3,hg3⟩:∃ g,w2.heap.size=g:=⟨_,rfl⟩
     have hb:Below w2.heap.size w2 w3:=by rw [← hw3];exact below_alloc (Below.refl _ _) _
     have HU3:=Aside0.mk (HU2.out.below hb)
     have HX3:=Aside0.mk (HX2.out.below hb)
     have HK3:=Aside0.mk (Kd.R_below HK2.out hb)
     have HT3:=Aside0.mk (Kd.R_below HT2.out hb)
     have HB3:Aside0 (RKy w3 (some ⟨g3,0,none⟩) [⟨s,a⟩]):=⟨by rw [← hw3];exact rw_new (enc:=keyC) hg3 rfl⟩
     rw [hw3,hg3]
     clear hb hw3 hg3
     refine hK.out _ _ ⟨HU3.out.n,HX3.out⟩ (fun hHeld=>?_)
     refine two_ (i:=5) (j:=9) (Ni:=some 32) (Nj:=some 36) (fbB 15 511) (fbB 15 991) rfl rfl rfl rfl (by kernel_rfl) (by simp) (by simp) (fun K hK=>?_) (fun K hK=>?_)
     ·refine Kd.R_append_rows_step kK (Rr:=fun x (cs:List Value)=>cs=keyC x) (w0:=w3) w.heap.size (by rfl) (.tmp 28) (.tmp 31) 173 87 (.agg zKy) 16 rfl Tryz.underlying173 info_ky rfl (by decide) (by decide) v2 KS [⟨s,a⟩] (some ⟨g3,0,none⟩) 1 1 (fun _=>True) (fun _=>False) rfl rfl HK3.out (HB3.out.reads ky_len 1 rfl) (fun _ _ h=>h) (fun _ hk=>hk.elim) (fun _ _=>trivial) (Below.refl _ w3) HU3.out.fr.size HLN.out.1 ?_
      intro v9 w4 ho hb hg hat
      obtain ⟨A9,q9,rfl⟩:=Kd.R_slice ho
      obtain ⟨n9,hn9⟩:∃ n,(KS++[(⟨s,a⟩:Ky)]).length=n:=⟨_,rfl⟩
      rw [hn9] at ho hat ⊢
      clear hn9
      have hf:FrT [87] w3 w4:=(FrT.refl _ _).app HK3.out (by decide) hg
      have HU4:=Aside0.mk (HU3.out.app HK3.out (by decide) hg)
      have HX4:=Aside0.mk (HX3.out.frT hf (by decide))
      have HK4:=Aside0.mk ho
      have HT4:=Aside0.mk (R_frT HT3.out hf (by decide))
      clear ho hb hg hat hf
      refine hK.out _ _ ⟨HU4.out.n,HX4.out⟩ (fun hHeld=>?_)
      refine nmR (h:=?_)
      refine puR 11 38 (fbB 15 2559) (h:=?_)
      refine one_ (i:=9) (N:=some 36) (fbB 15 3071) rfl rfl (by kernel_rfl) (by simp) (fun K hK=>?_)
      go_simp
      obtain ⟨w5,hw5⟩:∃ W,w4.alloc (Obj.cells #[.int .i64 tt] 3)=W:=⟨_,rfl⟩
      obtain ⟨g5,hg5⟩:∃ g,w4.heap.size=g:=⟨_,rfl⟩
      have hb:Below w4.heap.size w4 w5:=by rw [← hw5];exact below_alloc (Below.refl _ _) _
      have HU5:=Aside0.mk (HU4.out.below hb)
      have HX5:=Aside0.mk (HX4.out.below hb)
      have HK5:=Aside0.mk (Kd.R_below HK4.out hb)
      have HT5:=Aside0.mk (Kd.R_below HT4.out hb)
      have HI5:Aside0 (RNa w5 (some ⟨g5,0,none⟩) [t]):=⟨by rw [← hw5,HTC.out];exact rw_new (enc:=natC) hg5 rfl⟩
      rw [hw5,hg5]
      clear hb hw5 hg5
      refine hK.out _ _ ⟨HU5.out.n,HX5.out⟩ (fun hHeld=>?_)
      refine one_ (i:=10) (N:=some 37) (fbB 15 4095) rfl rfl (by kernel_rfl) (by simp) (fun K hK=>?_)
      refine Kd.R_append_rows_step kN (Rr:=fun x (cs:List Value)=>cs=natC x) (w0:=w5) w.heap.size (by rfl) (.tmp 34) (.tmp 36) 53 3 (.int .i64 0) 8 rfl Tryz.underlying53 info_in rfl (by decide) (by decide) v3 TS [t] (some ⟨g5,0,none⟩) 1 1 (fun _=>True) (fun _=>False) rfl rfl HT5.out (HI5.out.reads (fun _=>rfl) 1 rfl) (fun _ _ h=>h) (fun _ hk=>hk.elim) (fun _ _=>trivial) (Below.refl _ w5) HU5.out.fr.size HLN.out.2 ?_
      intro v10 w6 ho hb hg hat
      obtain ⟨A10,q10,rfl⟩:=Kd.R_slice ho
      obtain ⟨n10,hn10⟩:∃ n,(TS++[t]).length=n:=⟨_,rfl⟩
      rw [hn10] at ho hat ⊢
      clear hn10
      have hf:FrT [3] w5 w6:=(FrT.refl _ _).app HT5.out (by decide) hg
      have HU6:=Aside0.mk (HU5.out.app HT5.out (by decide) hg)
      have HX6:=Aside0.mk (HX5.out.frT hf (by decide))
      have HT6:=Aside0.mk ho
      have HK6:=Aside0.mk (R_frT HK5.out hf (by decide))
      clear ho hb hg hat hf
      refine hK.out _ _ ⟨HU6.out.n,HX6.out⟩ (fun hHeld=>?_)
      refine nmR (h:=?_)
      refine last_ (i:=12) (N:=none) (fbB 15 8191) rfl rfl (by kernel_rfl) (by simp) (fun K hK=>?_)
      have c2:w6.cell? ⟨gN,2,none⟩=some v2:=by rw [blk_cell HU6.out.n 2];rfl
      have f2:=blk_frozen HU6.out.n 2
      have c3:w6.cell? ⟨gN,3,none⟩=some v3:=by rw [blk_cell HU6.out.n 3];rfl
      have f3:=blk_frozen HU6.out.n 3
      go_simp
      refine hK.out _ _ ?_
      refine puR 13 39 (fbB 15 16383) (h:=?_)
      refine last_ (i:=14) (N:=none) (fbB 15 32767) rfl rfl (by kernel_rfl) (by simp) (fun K hK=>?_)
      go_simp
      refine hK.out _ _ ?_
      refine done_ (by kernel_rfl) ?_
      have HUZ:=Aside0.mk ((HU6.out.set 2 (.slice A9 n9 q9)).set 3 (.slice A10 n10 q10))
      have HKZ:=Aside0.mk (R_frT HK6.out ((FrT.refl [175] _).set2 HU6.out.n (by decide) 2 3 (.slice A9 n9 q9) (.slice A10 n10 q10)) (by decide))
      have HTZ:=Aside0.mk (R_frT HT6.out ((FrT.refl [175] _).set2 HU6.out.n (by decide) 2 3 (.slice A9 n9 q9) (.slice A10 n10 q10)) (by decide))
      clear c2 f2 c3 f3 hHeld
      go_wp2
      go_roundw
      case rel=>
       refine ⟨i+1,_,_,_,TS++[t],_,_,rfl,⟨by have:=HI.out;omega⟩,⟨by omega⟩,HWZ,⟨HUZ.out⟩,⟨?_⟩,HTZ⟩
       rw [HKZ0.out]
       exact HKZ.out
      case measure=>simp [intOf];have:=HI.out;omega
     ·go_simp
      obtain ⟨w4,hw4⟩:∃ W,w3.alloc (Obj.cells #[.int .i64 tt] 3)=W:=⟨_,rfl⟩
      obtain ⟨g4,hg4⟩:∃ g,w3.heap.size=g:=⟨_,rfl⟩
      have hb:Below w3.heap.size w3 w4:=by rw [← hw4];exact below_alloc (Below.refl _ _) _
      have HU4:=Aside0.mk (HU3.out.below hb)
      have HX4:=Aside0.mk (HX3.out.below hb)
      have HK4:=Aside0.mk (Kd.R_below HK3.out hb)
      have HT4:=Aside0.mk (Kd.R_below HT3.out hb)
      have HB4:=Aside0.mk (HB3.out.below hb)
      have HI4:Aside0 (RNa w4 (some ⟨g4,0,none⟩) [t]):=⟨by rw [← hw4,HTC.out];exact rw_new (enc:=natC) hg4 rfl⟩
      rw [hw4,hg4]
      clear hb hw4 hg4
      refine hK.out _ _ ⟨HU4.out.n,HX4.out⟩ (fun hHeld=>?_)
      refine one_ (i:=5) (N:=some 32) (fbB 15 1023) rfl rfl (by kernel_rfl) (by simp) (fun K hK=>?_)
      refine Kd.R_append_rows_step kK (Rr:=fun x (cs:List Value)=>cs=keyC x) (w0:=w4) w.heap.size (by rfl) (.tmp 28) (.tmp 31) 173 87 (.agg zKy) 16 rfl Tryz.underlying173 info_ky rfl (by decide) (by decide) v2 KS [⟨s,a⟩] (some ⟨g3,0,none⟩) 1 1 (fun _=>True) (fun _=>False) rfl rfl HK4.out (HB4.out.reads ky_len 1 rfl) (fun _ _ h=>h) (fun _ hk=>hk.elim) (fun _ _=>trivial) (Below.refl _ w4) HU4.out.fr.size HLN.out.1 ?_
      intro v9 w5 ho hb hg hat
      obtain ⟨A9,q9,rfl⟩:=Kd.R_slice ho
      obtain ⟨n9,hn9⟩:∃ n,(KS++[(⟨s,a⟩:Ky)]).length=n:=⟨_,rfl⟩
      rw [hn9] at ho hat ⊢
      clear hn9
      have hf:FrT [87] w4 w5:=(FrT.refl _ _).app HK4.out (by decide) hg
      have HU5:=Aside0.mk (HU4.out.app HK4.out (by decide) hg)
      have HX5:=Aside0.mk (HX4.out.frT hf (by decide))
      have HK5:=Aside0.mk ho
      have HT5:=Aside0.mk (R_frT HT4.out hf (by decide))
      have HI5:=Aside0.mk (HI4.out.frT hf (by decide))
      clear ho hb hg hat hf
      refine hK.out _ _ ⟨HU5.out.n,HX5.out⟩ (fun hHeld=>?_)
      refine nmR (h:=?_)
      refine puR 11 38 (fbB 15 3071) (h:=?_)
      refine one_ (i:=10) (N:=some 37) (fbB 15 4095) rfl rfl (by kernel_rfl) (by simp) (fun K hK=>?_)
      refine Kd.R_append_rows_step kN (Rr:=fun x (cs:List Value)=>cs=natC x) (w0:=w5) w.heap.size (by rfl) (.tmp 34) (.tmp 36) 53 3 (.int .i64 0) 8 rfl Tryz.underlying53 info_in rfl (by decide) (by decide) v3 TS [t] (some ⟨g4,0,none⟩) 1 1 (fun _=>True) (fun _=>False) rfl rfl HT5.out (HI5.out.reads (fun _=>rfl) 1 rfl) (fun _ _ h=>h) (fun _ hk=>hk.elim) (fun _ _=>trivial) (Below.refl _ w5) HU5.out.fr.size HLN.out.2 ?_
      intro v10 w6 ho hb hg hat
      obtain ⟨A10,q10,rfl⟩:=Kd.R_slice ho
      obtain ⟨n10,hn10⟩:∃ n,(TS++[t]).length=n:=⟨_,rfl⟩
      rw [hn10] at ho hat ⊢
      clear hn10
      have hf:FrT [3] w5 w6:=(FrT.refl _ _).app HT5.out (by decide) hg
      have HU6:=Aside0.mk (HU5.out.app HT5.out (by decide) hg)
      have HX6:=Aside0.mk (HX5.out.frT hf (by decide))
      have HT6:=Aside0.mk ho
      have HK6:=Aside0.mk (R_frT HK5.out hf (by decide))
      clear ho hb hg hat hf
      refine hK.out _ _ ⟨HU6.out.n,HX6.out⟩ (fun hHeld=>?_)
      refine nmR (h:=?_)
      refine last_ (i:=12) (N:=none) (fbB 15 8191) rfl rfl (by kernel_rfl) (by simp) (fun K hK=>?_)
      have c2:w6.cell? ⟨gN,2,none⟩=some v2:=by rw [blk_cell HU6.out.n 2];rfl
      have f2:=blk_frozen HU6.out.n 2
      have c3:w6.cell? ⟨gN,3,none⟩=some v3:=by rw [blk_cell HU6.out.n 3];rfl
      have f3:=blk_frozen HU6.out.n 3
      go_simp
      refine hK.out _ _ ?_
      refine puR 13 39 (fbB 15 16383) (h:=?_)
      refine last_ (i:=14) (N:=none) (fbB 15 32767) rfl rfl (by kernel_rfl) (by simp) (fun K hK=>?_)
      go_simp
      refine hK.out _ _ ?_
      refine done_ (by kernel_rfl) ?_
      have HUZ:=Aside0.mk ((HU6.out.set 2 (.slice A9 n9 q9)).set 3 (.slice A10 n10 q10))
      have HKZ:=Aside0.mk (R_frT HK6.out ((FrT.refl [175] _).set2 HU6.out.n (by decide) 2 3 (.slice A9 n9 q9) (.slice A10 n10 q10)) (by decide))
      have HTZ:=Aside0.mk (R_frT HT6.out ((FrT.refl [175] _).set2 HU6.out.n (by decide) 2 3 (.slice A9 n9 q9) (.slice A10 n10 q10)) (by decide))
      clear c2 f2 c3 f3 hHeld
      go_wp2
      go_roundw
      case rel=>
       refine ⟨i+1,_,_,_,TS++[t],_,_,rfl,⟨by have:=HI.out;omega⟩,⟨by omega⟩,HWZ,⟨HUZ.out⟩,⟨?_⟩,HTZ⟩
       rw [HKZ0.out]
       exact HKZ.out
      case measure=>simp [intOf];have:=HI.out;omega
    ·go_simp
     obtain ⟨w3,hw3⟩:∃ W,w2.alloc (Obj.cells #[.int .i64 tt] 3)=W:=⟨_,rfl⟩
     obtain ⟨g3,hg3⟩:∃ g,w2.heap.size=g:=⟨_,rfl⟩
     have hb:Below w2.heap.size w2 w3:=by rw [← hw3];exact below_alloc (Below.refl _ _) _
     have HU3:=Aside0.mk (HU2.out.below hb)
     have HX3:=Aside0.mk (HX2.out.below hb)
     have HK3:=Aside0.mk (Kd.R_below HK2.out hb)
     have HT3:=Aside0.mk (Kd.R_below HT2.out hb)
     have HI3:Aside0 (RNa w3 (some ⟨g3,0,none⟩) [t]):=⟨by rw [← hw3,HTC.out];exact rw_new (enc:=natC) hg3 rfl⟩
     rw [hw3,hg3]
     clear hb hw3 hg3
     refine hK.out _ _ ⟨HU3.out.n,HX3.out⟩ (fun hHeld=>?_)
     refine one_ (i:=4) (N:=some 31) (fbB 15 991) rfl rfl (by kernel_rfl) (by simp) (fun K hK=>?_)
     go_simp
     obtain ⟨w4,hw4⟩:∃ W,w3.alloc (Obj.cells #[.int .i64 s,.int .i64 a] 87)=W:=⟨_,rfl⟩
     obtain ⟨g4,hg4⟩:∃ g,w3.heap.size=g:=⟨_,rfl⟩
     have hb:Below w3.heap.size w3 w4:=by rw [← hw4];exact below_alloc (Below.refl _ _) _
     have HU4:=Aside0.mk (HU3.out.below hb)
     have HX4:=Aside0.mk (HX3.out.below hb)
     have HK4:=Aside0.mk (Kd.R_below HK3.out hb)
     have HT4:=Aside0.mk (Kd.R_below HT3.out hb)
     have HI4:=Aside0.mk (HI3.out.below hb)
     have HB4:Aside0 (RKy w4 (some ⟨g4,0,none⟩) [⟨s,a⟩]):=⟨by rw [← hw4];exact rw_new (enc:=keyC) hg4 rfl⟩
     rw [hw4,hg4]
     clear hb hw4 hg4
     refine hK.out _ _ ⟨HU4.out.n,HX4.out⟩ (fun hHeld=>?_)
     refine one_ (i:=5) (N:=some 32) (fbB 15 1023) rfl rfl (by kernel_rfl) (by simp) (fun K hK=>?_)
     refine Kd.R_append_rows_step kK (Rr:=fun x (cs:List Value)=>cs=keyC x) (w0:=w4) w.heap.size (by rfl) (.tmp 28) (.tmp 31) 173 87 (.agg zKy) 16 rfl Tryz.underlying173 info_ky rfl (by decide) (by decide) v2 KS [⟨s,a⟩] (some ⟨g4,0,none⟩) 1 1 (fun _=>True) (fun _=>False) rfl rfl HK4.out (HB4.out.reads ky_len 1 rfl) (fun _ _ h=>h) (fun _ hk=>hk.elim) (fun _ _=>trivial) (Below.refl _ w4) HU4.out.fr.size HLN.out.1 ?_
     intro v9 w5 ho hb hg hat
     obtain ⟨A9,q9,rfl⟩:=Kd.R_slice ho
     obtain ⟨n9,hn9⟩:∃ n,(KS++[(⟨s,a⟩:Ky)]).length=n:=⟨_,rfl⟩
     rw [hn9] at ho hat ⊢
     clear hn9
     have hf:FrT [87] w4 w5:=(FrT.refl _ _).app HK4.out (by decide) hg
     have HU5:=Aside0.mk (HU4.out.app HK4.out (by decide) hg)
     have HX5:=Aside0.mk (HX4.out.frT hf (by decide))
     have HK5:=Aside0.mk ho
     have HT5:=Aside0.mk (R_frT HT4.out hf (by decide))
     have HI5:=Aside0.mk (HI4.out.frT hf (by decide))
     clear ho hb hg hat hf
     refine hK.out _ _ ⟨HU5.out.n,HX5.out⟩ (fun hHeld=>?_)
     refine nmR (h:=?_)
     refine puR 11 38 (fbB 15 3071) (h:=?_)
     refine one_ (i:=10) (N:=some 37) (fbB 15 4095) rfl rfl (by kernel_rfl) (by simp) (fun K hK=>?_)
     refine Kd.R_append_rows_step kN (Rr:=fun x (cs:List Value)=>cs=natC x) (w0:=w5) w.heap.size (by rfl) (.tmp 34) (.tmp 36) 53 3 (.int .i64 0) 8 rfl Tryz.underlying53 info_in rfl (by decide) (by decide) v3 TS [t] (some ⟨g3,0,none⟩) 1 1 (fun _=>True) (fun _=>False) rfl rfl HT5.out (HI5.out.reads (fun _=>rfl) 1 rfl) (fun _ _ h=>h) (fun _ hk=>hk.elim) (fun _ _=>trivial) (Below.refl _ w5) HU5.out.fr.size HLN.out.2 ?_
     intro v10 w6 ho hb hg hat
     obtain ⟨A10,q10,rfl⟩:=Kd.R_slice ho
     obtain ⟨n10,hn10⟩:∃ n,(TS++[t]).length=n:=⟨_,rfl⟩
     rw [hn10] at ho hat ⊢
     clear hn10
     have hf:FrT [3] w5 w6:=(FrT.refl _ _).app HT5.out (by decide) hg
     have HU6:=Aside0.mk (HU5.out.app HT5.out (by decide) hg)
     have HX6:=Aside0.mk (HX5.out.frT hf (by decide))
     have HT6:=Aside0.mk ho
     have HK6:=Aside0.mk (R_frT HK5.out hf (by decide))
     clear ho hb hg hat hf
     refine hK.out _ _ ⟨HU6.out.n,HX6.out⟩ (fun hHeld=>?_)
     refine nmR (h:=?_)
     refine last_ (i:=12) (N:=none) (fbB 15 8191) rfl rfl (by kernel_rfl) (by simp) (fun K hK=>?_)
     have c2:w6.cell? ⟨gN,2,none⟩=some v2:=by rw [blk_cell HU6.out.n 2];rfl
     have f2:=blk_frozen HU6.out.n 2
     have c3:w6.cell? ⟨gN,3,none⟩=some v3:=by rw [blk_cell HU6.out.n 3];rfl
     have f3:=blk_frozen HU6.out.n 3
     go_simp
     refine hK.out _ _ ?_
     refine puR 13 39 (fbB 15 16383) (h:=?_)
     refine last_ (i:=14) (N:=none) (fbB 15 32767) rfl rfl (by kernel_rfl) (by simp) (fun K hK=>?_)
     go_simp
     refine hK.out _ _ ?_
     refine done_ (by kernel_rfl) ?_
     have HUZ:=Aside0.mk ((HU6.out.set 2 (.slice A9 n9 q9)).set 3 (.slice A10 n10 q10))
     have HKZ:=Aside0.mk (R_frT HK6.out ((FrT.refl [175] _).set2 HU6.out.n (by decide) 2 3 (.slice A9 n9 q9) (.slice A10 n10 q10)) (by decide))
     have HTZ:=Aside0.mk (R_frT HT6.out ((FrT.refl [175] _).set2 HU6.out.n (by decide) 2 3 (.slice A9 n9 q9) (.slice A10 n10 q10)) (by decide))
     clear c2 f2 c3 f3 hHeld
     go_wp2
     go_roundw
     case rel=>
      refine ⟨i+1,_,_,_,TS++[t],_,_,rfl,⟨by have:=HI.out;omega⟩,⟨by omega⟩,HWZ,⟨HUZ.out⟩,⟨?_⟩,HTZ⟩
      rw [HKZ0.out]
      exact HKZ.out
     case measure=>simp [intOf];have:=HI.out;omega
   ·go_simp
    obtain ⟨w2,hw2⟩:∃ W,w1.alloc (Obj.cells #[.int .i64 tt] 3)=W:=⟨_,rfl⟩
    obtain ⟨g2,hg2⟩:∃ g,w1.heap.size=g:=⟨_,rfl⟩
    have hb:Below w1.heap.size w1 w2:=by rw [← hw2];exact below_alloc (Below.refl _ _) _
    have HU2:=Aside0.mk (HU1.out.below hb)
    have HX2:=Aside0.mk (HX1.out.below hb)
    have HK2:=Aside0.mk (Kd.R_below HK1.out hb)
    have HT2:=Aside0.mk (Kd.R_below HT1.out hb)
    have HI2:Aside0 (RNa w2 (some ⟨g2,0,none⟩) [t]):=⟨by rw [← hw2,HTC.out];exact rw_new (enc:=natC) hg2 rfl⟩
    rw [hw2,hg2]
    clear hb hw2 hg2
    refine hK.out _ _ ⟨HU2.out.n,HX2.out⟩ (fun hHeld=>?_)
    refine one_ (i:=3) (N:=some 30) (fbB 15 975) rfl rfl (by kernel_rfl) (by simp) (fun K hK=>?_)
    refine goes_ Tryz.func87 (by kernel_rfl) rfl #[.agg (nvA x)] (by rfl) rfl rfl (by simp [Act.eval]) ?_
    (with_reducible refine (HLE.out _ HU2.out.fr).mono ?_)
    rintro r w3 ⟨rfl,hb⟩
    have HU3:=Aside0.mk (HU2.out.below hb)
    have HX3:=Aside0.mk (HX2.out.below hb)
    have HK3:=Aside0.mk (Kd.R_below HK2.out hb)
    have HT3:=Aside0.mk (Kd.R_below HT2.out hb)
    have HI3:=Aside0.mk (HI2.out.below hb)
    clear hb
    refine ⟨_,rfl,hK.out _ _ ⟨HU3.out.n,HX3.out⟩ (fun hHeld=>?_)⟩
    refine nmR (h:=?_)
    refine one_ (i:=4) (N:=some 31) (fbB 15 991) rfl rfl (by kernel_rfl) (by simp) (fun K hK=>?_)
    go_simp
    obtain ⟨w4,hw4⟩:∃ W,w3.alloc (Obj.cells #[.int .i64 s,.int .i64 a] 87)=W:=⟨_,rfl⟩
    obtain ⟨g4,hg4⟩:∃ g,w3.heap.size=g:=⟨_,rfl⟩
    have hb:Below w3.heap.size w3 w4:=by rw [← hw4];exact below_alloc (Below.refl _ _) _
    have HU4:=Aside0.mk (HU3.out.below hb)
    have HX4:=Aside0.mk (HX3.out.below hb)
    have HK4:=Aside0.mk (Kd.R_below HK3.out hb)
    have HT4:=Aside0.mk (Kd.R_below HT3.out hb)
    have HI4:=Aside0.mk (HI3.out.below hb)
    have HB4:Aside0 (RKy w4 (some ⟨g4,0,none⟩) [⟨s,a⟩]):=⟨by rw [← hw4];exact rw_new (enc:=keyC) hg4 rfl⟩
    rw [hw4,hg4]
    clear hb hw4 hg4
    refine hK.out _ _ ⟨HU4.out.n,HX4.out⟩ (fun hHeld=>?_)
    refine one_ (i:=5) (N:=some 32) (fbB 15 1023) rfl rfl (by kernel_rfl) (by simp) (fun K hK=>?_)
    refine Kd.R_append_rows_step kK (Rr:=fun x (cs:List Value)=>cs=keyC x) (w0:=w4) w.heap.size (by rfl) (.tmp 28) (.tmp 31) 173 87 (.agg zKy) 16 rfl Tryz.underlying173 info_ky rfl (by decide) (by decide) v2 KS [⟨s,a⟩] (some ⟨g4,0,none⟩) 1 1 (fun _=>True) (fun _=>False) rfl rfl HK4.out (HB4.out.reads ky_len 1 rfl) (fun _ _ h=>h) (fun _ hk=>hk.elim) (fun _ _=>trivial) (Below.refl _ w4) HU4.out.fr.size HLN.out.1 ?_
    intro v9 w5 ho hb hg hat
    obtain ⟨A9,q9,rfl⟩:=Kd.R_slice ho
    obtain ⟨n9,hn9⟩:∃ n,(KS++[(⟨s,a⟩:Ky)]).length=n:=⟨_,rfl⟩
    rw [hn9] at ho hat ⊢
    clear hn9
    have hf:FrT [87] w4 w5:=(FrT.refl _ _).app HK4.out (by decide) hg
    have HU5:=Aside0.mk (HU4.out.app HK4.out (by decide) hg)
    have HX5:=Aside0.mk (HX4.out.frT hf (by decide))
    have HK5:=Aside0.mk ho
    have HT5:=Aside0.mk (R_frT HT4.out hf (by decide))
    have HI5:=Aside0.mk (HI4.out.frT hf (by decide))
    clear ho hb hg hat hf
    refine hK.out _ _ ⟨HU5.out.n,HX5.out⟩ (fun hHeld=>?_)
    refine nmR (h:=?_)
    refine puR 11 38 (fbB 15 3071) (h:=?_)
    refine one_ (i:=10) (N:=some 37) (fbB 15 4095) rfl rfl (by kernel_rfl) (by simp) (fun K hK=>?_)
    refine Kd.R_append_rows_step kN (Rr:=fun x (cs:List Value)=>cs=natC x) (w0:=w5) w.heap.size (by rfl) (.tmp 34) (.tmp 36) 53 3 (.int .i64 0) 8 rfl Tryz.underlying53 info_in rfl (by decide) (by decide) v3 TS [t] (some ⟨g2,0,none⟩) 1 1 (fun _=>True) (fun _=>False) rfl rfl HT5.out (HI5.out.reads (fun _=>rfl) 1 rfl) (fun _ _ h=>h) (fun _ hk=>hk.elim) (fun _ _=>trivial) (Below.refl _ w5) HU5.out.fr.size HLN.out.2 ?_
    intro v10 w6 ho hb hg hat
    obtain ⟨A10,q10,rfl⟩:=Kd.R_slice ho
    obtain ⟨n10,hn10⟩:∃ n,(TS++[t]).length=n:=⟨_,rfl⟩
    rw [hn10] at ho hat ⊢
    clear hn10
    have hf:FrT [3] w5 w6:=(FrT.refl _ _).app HT5.out (by decide) hg
    have HU6:=Aside0.mk (HU5.out.app HT5.out (by decide) hg)
    have HX6:=Aside0.mk (HX5.out.frT hf (by decide))
    have HT6:=Aside0.mk ho
    have HK6:=Aside0.mk (R_frT HK5.out hf (by decide))
    clear ho hb hg hat hf
    refine hK.out _ _ ⟨HU6.out.n,HX6.out⟩ (fun hHeld=>?_)
    refine nmR (h:=?_)
    refine last_ (i:=12) (N:=none) (fbB 15 8191) rfl rfl (by kernel_rfl) (by simp) (fun K hK=>?_)
    have c2:w6.cell? ⟨gN,2,none⟩=some v2:=by rw [blk_cell HU6.out.n 2];rfl
    have f2:=blk_frozen HU6.out.n 2
    have c3:w6.cell? ⟨gN,3,none⟩=some v3:=by rw [blk_cell HU6.out.n 3];rfl
    have f3:=blk_frozen HU6.out.n 3
    go_simp
    refine hK.out _ _ ?_
    refine puR 13 39 (fbB 15 16383) (h:=?_)
    refine last_ (i:=14) (N:=none) (fbB 15 32767) rfl rfl (by kernel_rfl) (by simp) (fun K hK=>?_)
    go_simp
    refine hK.out _ _ ?_
    refine done_ (by kernel_rfl) ?_
    have HUZ:=Aside0.mk ((HU6.out.set 2 (.slice A9 n9 q9)).set 3 (.slice A10 n10 q10))
    have HKZ:=Aside0.mk (R_frT HK6.out ((FrT.refl [175] _).set2 HU6.out.n (by decide) 2 3 (.slice A9 n9 q9) (.slice A10 n10 q10)) (by decide))
    have HTZ:=Aside0.mk (R_frT HT6.out ((FrT.refl [175] _).set2 HU6.out.n (by decide) 2 3 (.slice A9 n9 q9) (.slice A10 n10 q10)) (by decide))
    clear c2 f2 c3 f3 hHeld
    go_wp2
    go_roundw
    case rel=>
     refine ⟨i+1,_,_,_,TS++[t],_,_,rfl,⟨by have:=HI.out;omega⟩,⟨by omega⟩,HWZ,⟨HUZ.out⟩,⟨?_⟩,HTZ⟩
     rw [HKZ0.out]
     exact HKZ.out
    case measure=>simp [intOf];have:=HI.out;omega
  ·obtain rfl:n=i:=by have:=HIL.out;omega
   have d1:decide (ii<(n:Int))=false:=decide_eq_false (by have:=HI.out;omega)
   have hk:=HK.out
   have ht:=HT.out
   obtain ⟨A2,c2,rfl⟩:=Kd.R_slice hk
   obtain ⟨A3,c3,rfl⟩:=Kd.R_slice ht
   obtain ⟨n2,hn2⟩:∃ q,((L.take n).map ndLeast).length=q:=⟨_,rfl⟩
   obtain ⟨n3,hn3⟩:∃ q,TS.length=q:=⟨_,rfl⟩
   rw [hn2] at HK HU
   rw [hn3] at HT HU
   clear hn2 hn3 hk ht
   have hn:=HU.out.n
   have hld:=ld_nd (g:=gN) (v:=#[.bool false,.slice none 0 0,.slice A2 n2 c2,.slice A3 n3 c3]) rfl
   have hst:=st_nd_at (ds:=#[.bool false,.slice none 0 0,.slice A2 n2 c2,.slice A3 n3 c3]) HU.out.z rfl rfl (by simp [Value.oneCell'])
   have HLT:Aside0 (L.take n=L):=⟨List.take_of_length_le (by have:=HVN.out;omega)⟩
   go_wp2
   refine bodyPost_ret (results_ct rfl _ _ w.heap.size 175 #[.bool false,.slice none 0 0,.slice A2 n2 c2,.slice A3 n3 c3] (0,0) _ rfl (setRow_heap _ _ _ _ _ _ HU.out.z) Tryz.underlying175 rfl nd_size) rfl ?_
   have hf:=(FrT.refl [175] wr).setRow HU.out.z (by decide) #[.bool false,.slice none 0 0,.slice A2 n2 c2,.slice A3 n3 c3]
   have hk:=R_frT HK.out hf (by decide)
   have hw:=HWR.out
   have hv:=HU.out.vs
   rw [HLT.out] at hk hw
   rw [Nat.sub_self,Nat.add_zero] at hv
   exact ⟨⟨false,none,0,0,A2,n2,c2,A3,n3,c3⟩,TS,mi,fi,rfl,⟨_,_,_,rfl,Kd.R_nil _ _ _ _ _,hk,R_frT HT.out hf (by decide)⟩,hw,hv.frT hf (by decide),HU.out.fr.setRowNew (Nat.le_refl _) _⟩
end
section
attribute [local go_sem ↓] Go.wp_at_zero Go.wp_at_succ loadKey_eq loadEn_eq storeKey_eq storeEn_eq loadNd_eq storeNd_eq loadMap_eq storeMap_eq loadTab_eq storePg_eq
def NvAt (W:World) (g o:Nat) (x:NV):Prop:=W.rangeAt g o (nvC x)
theorem ld_nv [Inhabited Sanct] {g o:Nat} {x:NV}:∀ W:World,NvAt W g o x→(loadNdI (.pointer (some ⟨g,o,none⟩))).run Tryz.prog W = .ok (.agg (nvA x)) W∧W.cell? ⟨g,o,none⟩=some (.bool x.b):=
 fun W h=>⟨run_loadNd h,h 0 _ rfl⟩
theorem NdOk.small {nd:Nd} (hok:NdOk nd):nd.es.length≤1000000∧nd.ks.length≤1000000∧nd.ts.length≤1000000:=by
 rcases hok with ⟨_,h2,h3,h4⟩ | ⟨_,h2,h3⟩
 ·have:=h4.n7;rw [h2,h3];simp;omega
 ·have:=h3.n;have:=h3.n16;rw [h2];simp;omega
def rootA (a h:Int):Array Value:=#[.int .i64 a,.int .i64 h]
def loadRtI (p:Value):Sem Value:=Instr.loadAt 96 p
theorem loadRt_eq (p:Value):Instr.loadAt 96 p=loadRtI p:=rfl
def storeRtI (p v:Value):Sem Unit:=Instr.storeAt 96 p v
theorem storeRt_eq (p v:Value):Instr.storeAt 96 p v=storeRtI p v:=rfl
attribute [local go_sem ↓] loadRt_eq storeRt_eq
theorem rt_size [Inhabited Sanct]:(Tryz.prog.info? 96).map (·.size)=some 2:=by kernel_rfl
theorem rootA_one (a h:Int):(rootA a h).all (·.oneCell')=true:=by simp [rootA,Value.oneCell']
theorem st_rt [Inhabited Sanct] {W:World} {g:Nat} {cs:Array Value} (a t:Int) (h:W.heap[g]?=some (Obj.cells cs 96)) (hs:cs.size=2):(storeRtI (.pointer (some ⟨g,0,none⟩)) (.agg #[.int .i64 a,.int .i64 t])).run Tryz.prog W = .ok () (W.setRow g (rootA a t)):=by
 have:=run_storeVar_row (P:=Tryz.prog) W g 96 96 cs (rootA a t) h rt_size (by rw [hs];rfl) (rootA_one a t)
 simp only [storeRtI,Instr.storeAt,Instr.sureAddr,Sem.run_bind,Sem.run_pure,Result.andThen_ok]
 exact this
theorem ld_rt [Inhabited Sanct] {g o:Nat} {a t:Int}:∀ W:World,W.rangeAt g o [.int .i64 a,.int .i64 t]→(loadRtI (.pointer (some ⟨g,o,none⟩))).run Tryz.prog W = .ok (.agg #[.int .i64 a,.int .i64 t]) W:=
 fun W h=>run_loadAt_mid (P:=Tryz.prog) W g o 96 [.int .i64 a,.int .i64 t] _ h Tryz.underlying96 rfl rt_size
theorem vs_single [Inhabited Sanct] {w:World} {v d N gen nw k base:Nat} {m o:List Bool} {f:Nat→List Int} {lv:Value} {nd:Nd} (h:VS w v d N gen nw m o f (k+1)) (hl:NdL w base lv [nd]) (hok:NdOk nd) (h2:nd.lf=true∨2≤nd.ts.length) (ht:Int) :
  Calls Tryz.prog 205 #[.pointer (some ⟨v,0,none⟩),lv,.int .i64 ht] w fun r w'=>∃ (a:Nat) (f':Nat→List Int),r = .returned (.tuple #[.agg #[.int .i64 (a:Int),.int .i64 ht],.int .i64 0])∧a+1≤N∧FreeRun m o a 1∧VS w' v d N gen (nw+4) (setN true m a 1) o f' k∧Wrote f f' a (kindN nd) (ndB nd)∧FrT vT w w':=by
 obtain ⟨vs,hv1,hv2,hv3⟩:=hl
 obtain ⟨A,c,rfl⟩:=Kd.R_slice hv1
 have hvn:vs.length=1:=hv2
 obtain ⟨x,hx⟩:∃ x,vs[0]?=some x:=⟨_,List.getElem?_eq_getElem (by omega)⟩
 have hNR:=hv3 0 x nd hx rfl
 have hrw:=R_rw hv1 (by omega)
 rw [hvn]
 obtain ⟨xs,hxs,hxb⟩:=hNR.nv
 obtain ⟨g,og,hA,-⟩:=hrw.at_ hx
 subst hA
 have HNV:Aside0 (∀ W,Below w.heap.size w W→NdV W (nvA x) nd):=⟨fun W hW=>(hNR.v hok.small).below hW⟩
 have HRG:Aside0 (∀ W,Below w.heap.size w W→NvAt W g og x):=⟨fun W hW=>by
  obtain ⟨g2,o2,hA,hc⟩:=(hrw.below hW).at_ hx
  injection hA with hA;injection hA with h1 h2;subst h1 h2
  rw [Nat.zero_mul,Nat.add_zero] at hc
  exact hc⟩
 have HSZ:Aside0 (∀ W,Below w.heap.size w W→Calls Tryz.prog 224 #[.agg (nvA x)] W fun r w'=>r = .returned (.int .i64 (ndSize nd:Int))∧Below W.heap.size W w'):=⟨fun W hW=>size_calls (HNV.out W hW)⟩
 have hxb2:x.b=nd.lf:=by
  obtain ⟨v1,v2,v3,e,-⟩:=hNR.e
  have:=congrArg (fun a=>a[0]?) e
  simp [nvA,nvC] at this
  exact this
 have hs1:1≤ndSize nd:=by
  unfold ndSize
  rcases hok with ⟨g1,_,_,g4⟩ | ⟨g1,_,g3⟩
  ·rw [g1];exact g4.n1
  ·rw [g1];exact g3.n1
 obtain ⟨W0,hW0⟩:∃ W,w.alloc (Obj.cells #[.int .i64 0,.int .i64 0] 96)=W:=⟨_,rfl⟩
 have hb0:Below w.heap.size w W0:=by rw [← hW0];exact below_alloc (Below.refl _ _) _
 have HB0:=Aside0.mk hb0
 have HZ0:Aside0 (W0.heap[w.heap.size]?=some (Obj.cells #[.int .i64 0,.int .i64 0] 96)):=⟨by rw [← hW0];exact newb rfl⟩
 have hr0:=HRG.out _ hb0
 have HWC:Aside0 (∀ W,Below w.heap.size w W→Calls Tryz.prog 237 #[.pointer (some ⟨v,0,none⟩),.agg (nvA x)] W fun r w'=>∃ (a:Nat) (f':Nat→List Int),r = .returned (.tuple #[.int .i64 (a:Int),.int .i64 0])∧a+1≤N∧FreeRun m o a 1∧VS w' v d N gen (nw+4) (setN true m a 1) o f' k∧Wrote f f' a (kindN nd) (ndB nd)∧FrT vT W w'):=⟨fun W hW=>vs_write (h.below hW) (HNV.out W hW) hok⟩
 obtain ⟨s,hs⟩:∃ s:Int,(ndSize nd:Int)=s:=⟨_,rfl⟩
 rw [hs] at HSZ
 have d1:(s == 0)=false:=beq_eq_false_iff_ne.mpr (by omega)
 have hlv:=ld_nv (g:=g) (o:=og) (x:=x)
 rw [hxb2] at hlv
 have HD2:Aside0 (nd.lf=false→(s == 1)=false):=⟨fun hf=>beq_eq_false_iff_ne.mpr (by
  rcases h2 with h2 | h2
  ·rw [hf] at h2;cases h2
  ·unfold ndSize at hs;rw [hf] at hs;simp at hs;omega)⟩
 clear h hv1 hv2 hv3 hvn hx hNR hrw hxs hxb hxb2 hok h2 hb0 hs hs1
 obtain ⟨lf,es,ks,ts⟩:=nd
 simp only at hlv HD2
 cases lf with
 | true=>
  go_enter Tryz.func205,Tryz.ntmps205
  go_wp2_with (first
   | (go_at_call 224;(with_reducible refine (HSZ.out _ HB0.out).mono ?_);rintro r w2 ⟨rfl,hb⟩;have HB2:=Aside0.mk (below_step HB0.out hb);have hr2:=HRG.out _ HB2.out;have HZ2:=Aside0.mk (blkb hb HZ0.out);clear hb)
   | (go_at_call 224;(with_reducible refine (HSZ.out _ HB2.out).mono ?_);rintro r w4 ⟨rfl,hb⟩;have HB4:=Aside0.mk (below_step HB2.out hb);have hr4:=HRG.out _ HB4.out;have HZ4:=Aside0.mk (blkb hb HZ2.out);clear hb)
   | (go_at_call 237;(with_reducible refine (HWC.out _ HB2.out).mono ?_);rintro r w3 ⟨a,f',rfl,ha,hf,hvs,hwr,hfr⟩;have HZ3:=Aside0.mk (hfr.blk HZ2.out (by decide));have hst:=st_rt (a:Int) ht HZ3.out rfl;have HX:=Aside0.mk (And.intro ha (And.intro hf (And.intro hvs hwr)));have HF3:=Aside0.mk ((FrT.of_below HB2.out vT).trans hfr);clear ha hf hvs hwr hfr))
  refine bodyPost_ret (results_ct rfl _ _ w.heap.size 96 (rootA a ht) (0,0) _ rfl (setRow_heap _ _ _ _ _ _ HZ3.out) Tryz.underlying96 rfl rt_size) rfl ?_
  refine ⟨a,f',rfl,HX.out.1,HX.out.2.1,HX.out.2.2.1.frT ((FrT.refl [96] _).setRow HZ3.out (by decide) _) (by decide),HX.out.2.2.2,HF3.out.setRowNew (Nat.le_refl _) _⟩
 | false=>
  have d2:=HD2.out rfl
  go_enter Tryz.func205,Tryz.ntmps205
  go_wp2_with (first
   | (go_at_call 224;(with_reducible refine (HSZ.out _ HB0.out).mono ?_);rintro r w2 ⟨rfl,hb⟩;have HB2:=Aside0.mk (below_step HB0.out hb);have hr2:=HRG.out _ HB2.out;have HZ2:=Aside0.mk (blkb hb HZ0.out);clear hb)
   | (go_at_call 224;(with_reducible refine (HSZ.out _ HB2.out).mono ?_);rintro r w4 ⟨rfl,hb⟩;have HB4:=Aside0.mk (below_step HB2.out hb);have hr4:=HRG.out _ HB4.out;have HZ4:=Aside0.mk (blkb hb HZ2.out);clear hb)
   | (go_at_call 237;(with_reducible refine (HWC.out _ HB4.out).mono ?_);rintro r w3 ⟨a,f',rfl,ha,hf,hvs,hwr,hfr⟩;have HZ3:=Aside0.mk (hfr.blk HZ4.out (by decide));have hst:=st_rt (a:Int) ht HZ3.out rfl;have HX:=Aside0.mk (And.intro ha (And.intro hf (And.intro hvs hwr)));have HF3:=Aside0.mk ((FrT.of_below HB4.out vT).trans hfr);clear ha hf hvs hwr hfr))
  refine bodyPost_ret (results_ct rfl _ _ w.heap.size 96 (rootA a ht) (0,0) _ rfl (setRow_heap _ _ _ _ _ _ HZ3.out) Tryz.underlying96 rfl rt_size) rfl ?_
  refine ⟨a,f',rfl,HX.out.1,HX.out.2.1,HX.out.2.2.1.frT ((FrT.refl [96] _).setRow HZ3.out (by decide) _) (by decide),HX.out.2.2.2,HF3.out.setRowNew (Nat.le_refl _) _⟩
end
section
attribute [local go_sem ↓] Go.wp_at_zero Go.wp_at_succ loadKey_eq loadEn_eq storeKey_eq storeEn_eq loadNd_eq storeNd_eq loadMap_eq storeMap_eq loadTab_eq storePg_eq loadRt_eq storeRt_eq
theorem free_set {m o:List Bool} {a t:Nat} (ha:a<m.length) (h:FreeRun (setN true m a 1) o t 1):FreeRun m o t 1∧t≠a:=by
 obtain ⟨h1,h2⟩:=free1.1 h
 rw [set_get t ha] at h1
 by_cases e:t=a
 ·rw [if_pos e] at h1;cases h1
 ·rw [if_neg e] at h1;exact ⟨free1.2 ⟨h1,h2⟩,e⟩
theorem Wrs.free [Inhabited Sanct] {N:Nat} {o:List Bool}:∀ {L:List Nd} {ts:List Nat} {m m1:List Bool} {f f1:Nat→List Int},Wrs N o L ts m f m1 f1→MapOk N m→ts.Nodup ∧ ∀ t∈ts,FreeRun m o t 1∧t+1≤N
 | [],[],_,_,_,_,_,_=>⟨List.nodup_nil,fun t ht=>by cases ht⟩
 | x :: L,a :: ts,m,m1,f,f1,h,hm=>by
  obtain ⟨g,k1,k2,k3,k4⟩:=h
  have h2:=hm.free_ge k2
  have hl:a<m.length:=by have:=hm.len;have:=hm.n5;omega
  obtain ⟨g1,g2⟩:=k4.free (hm.set _ h2 k1)
  refine ⟨List.nodup_cons.2 ⟨fun hin=>(free_set hl (g2 a hin).1).2 rfl,g1⟩,fun t ht=>?_⟩
  rcases List.mem_cons.1 ht with rfl | ht
  ·exact ⟨k2,k1⟩
  ·exact ⟨(free_set hl (g2 t ht).1).1,(g2 t ht).2⟩
 | [],_ :: _,_,_,_,_,h,_=>h.elim
 | _ :: _,[],_,_,_,_,h,_=>h.elim
theorem Wrs.map [Inhabited Sanct] {N:Nat} {o:List Bool}:∀ {L:List Nd} {ts:List Nat} {m m1:List Bool} {f f1:Nat→List Int},Wrs N o L ts m f m1 f1→MapOk N m→MapOk N m1
 | [],[],_,_,_,_,h,hm=>by rw [h.1];exact hm
 | x :: L,a :: ts,m,m1,f,f1,h,hm=>by
  obtain ⟨g,k1,k2,k3,k4⟩:=h
  exact k4.map (hm.set _ (hm.free_ge k2) k1)
 | [],_ :: _,_,_,_,_,h,_=>h.elim
 | _ :: _,[],_,_,_,_,h,_=>h.elim
def upper (n1 n2:Nd) (ts:List Nat):Nd:=⟨false,[],[ndLeast n1,ndLeast n2],ts⟩
theorem least_ok {nd:Nd} (h:NdOk nd):KyOk (ndLeast nd):=by
 unfold ndLeast
 rcases h with ⟨h1,_,_,h4⟩ | ⟨h1,_,h3⟩
 ·rw [h1]
  cases he:nd.es with
  | nil=>have:=h4.n1;rw [he] at this;simp at this
  | cons e l=>exact (h4.ok e (by rw [he];simp)).k
 ·rw [h1]
  cases hk:nd.ks with
  | nil=>have:=h3.n1;have:=h3.n;rw [hk] at this;simp at this;omega
  | cons e l=>exact h3.ok e (by rw [hk];simp)
theorem upper_ok [Inhabited Sanct] {N:Nat} {o:List Bool} {n1 n2:Nd} {ts:List Nat} {m m1:List Bool} {f f1:Nat→List Int} (h:Wrs N o [n1,n2] ts m f m1 f1) (hm:MapOk N m) (h1:NdOk n1) (h2:NdOk n2) (hl:lessB (ndLeast n1) (ndLeast n2)=true):NdOk (upper n1 n2 ts):=by
 have hn:=h.len
 obtain ⟨hd,hf⟩:=h.free hm
 refine .inr ⟨rfl,rfl,⟨?_,?_,?_,?_,?_,fun t ht=>?_,hd⟩⟩
 ·rw [show (upper n1 n2 ts).ts.length=2 from hn];rfl
 ·rw [show (upper n1 n2 ts).ts.length=2 from hn];decide
 ·rw [show (upper n1 n2 ts).ts.length=2 from hn];decide
 ·intro k hk
  rcases List.mem_cons.1 hk with rfl | hk
  ·exact least_ok h1
  ·rcases List.mem_singleton.1 hk with rfl
   exact least_ok h2
 ·intro i x y hx hy
  rcases i with _ | i
  ·injection hx with hx
   injection hy with hy
   subst hx hy
   exact hl
  ·simp [upper] at hy
 ·have h2:=hm.free_ge (hf t ht).1
  have:=(hf t ht).2
  have:=hm.n5
  omega
end
section
attribute [local go_sem ↓] Go.wp_at_zero Go.wp_at_succ loadKey_eq loadEn_eq storeKey_eq storeEn_eq loadNd_eq storeNd_eq loadMap_eq storeMap_eq loadTab_eq storePg_eq loadRt_eq storeRt_eq
def sliceLen:Value→Nat
 | .slice _ n _=>n
 | _=>0
theorem vs_root1 [Inhabited Sanct] {w:World} {v d N gen nw k base:Nat} {m o:List Bool} {f:Nat→List Int} {lv:Value} {nd:Nd} (h:VS w v d N gen nw m o f (k+1)) (hl:NdL w base lv [nd]) (hok:NdOk nd) (h2:nd.lf=true∨2≤nd.ts.length) (ht:Int) (hh:ht≤5) :
  Calls Tryz.prog 157 #[.pointer (some ⟨v,0,none⟩),lv,.int .i64 ht] w fun r w'=>∃ (a:Nat) (f':Nat→List Int),r = .returned (.tuple #[.agg #[.int .i64 (a:Int),.int .i64 ht],.int .i64 0])∧VS w' v d N gen (nw+4) (setN true m a 1) o f' k∧Wrs N o [nd] [a] m f (setN true m a 1) f'∧FrT vT w w':=by
 have HS:Aside0 (∀ W,Below w.heap.size w W→Calls Tryz.prog 205 #[.pointer (some ⟨v,0,none⟩),lv,.int .i64 ht] W fun r w'=>∃ (a:Nat) (f':Nat→List Int),r = .returned (.tuple #[.agg #[.int .i64 (a:Int),.int .i64 ht],.int .i64 0])∧a+1≤N∧FreeRun m o a 1∧VS w' v d N gen (nw+4) (setN true m a 1) o f' k∧Wrote f f' a (kindN nd) (ndB nd)∧FrT vT W w'):=⟨fun W hW=>vs_single (h.below hW) (hl.below hW) hok h2 ht⟩
 obtain ⟨vs,hv1,hv2,-⟩:=hl
 obtain ⟨A,c,rfl⟩:=Kd.R_slice hv1
 have hvn:vs.length=1:=hv2
 rw [hvn] at HS ⊢
 obtain ⟨W0,hW0⟩:∃ W,w.alloc (Obj.cells #[.int .i64 0,.int .i64 0] 96)=W:=⟨_,rfl⟩
 have HB0:Aside0 (Below w.heap.size w W0):=⟨by rw [← hW0];exact below_alloc (Below.refl _ _) _⟩
 have HZ0:Aside0 (W0.heap[w.heap.size]?=some (Obj.cells #[.int .i64 0,.int .i64 0] 96)):=⟨by rw [← hW0];exact newb rfl⟩
 have d1:decide (5<ht)=false:=decide_eq_false (by omega)
 clear h hv1 hv2 hvn hok h2 hh
 go_enter Tryz.func157,Tryz.ntmps157
 go_wp2
 clear hW0
 go_loopw [1,2] (fun v1 v2 wr=>v1 = .slice A 1 c∧v2 = .int .i64 ht∧wr=W0) (fun v1 _ _=>sliceLen v1)
 case atStart=>exact ⟨rfl,rfl,rfl⟩
 case round=>
  obtain ⟨rfl,rfl,rfl⟩:=hrel
  go_wp2_with (go_at_call 205;(with_reducible refine (HS.out _ HB0.out).mono ?_);rintro r w3 ⟨a,f',rfl,ha,hf,hvs,hwr,hfr⟩;have HZ3:=Aside0.mk (hfr.blk HZ0.out (by decide));have hst:=st_rt (a:Int) ht HZ3.out rfl;have HX:=Aside0.mk (And.intro ha (And.intro hf (And.intro hvs hwr)));have HF3:=Aside0.mk ((FrT.of_below HB0.out vT).trans hfr);clear ha hf hvs hwr hfr)
  refine bodyPost_ret (results_ct rfl _ _ w.heap.size 96 (rootA a ht) (0,0) _ rfl (setRow_heap _ _ _ _ _ _ HZ3.out) Tryz.underlying96 rfl rt_size) rfl ?_
  exact ⟨a,f',rfl,HX.out.2.2.1.frT ((FrT.refl [96] _).setRow HZ3.out (by decide) _) (by decide),⟨f',HX.out.1,HX.out.2.1,HX.out.2.2.2,rfl,rfl⟩,HF3.out.setRowNew (Nat.le_refl _) _⟩
theorem vs_root2 [Inhabited Sanct] {w:World} {v d N gen nw k base:Nat} {m o:List Bool} {f:Nat→List Int} {lv:Value} {n1 n2:Nd} (h:VS w v d N gen nw m o f (k+3)) (hl:NdL w base lv [n1,n2]) (h1:NdOk n1) (h2:NdOk n2) (hlt:lessB (ndLeast n1) (ndLeast n2)=true) (ht:Int) (h0:0≤ht) (hh:ht≤4) :
  Calls Tryz.prog 157 #[.pointer (some ⟨v,0,none⟩),lv,.int .i64 ht] w fun r w'=>∃ (ts:List Nat) (a:Nat) (m':List Bool) (f':Nat→List Int),r = .returned (.tuple #[.agg #[.int .i64 (a:Int),.int .i64 (ht+1)],.int .i64 0])∧VS w' v d N gen (nw+12) m' o f' k∧Wrs N o [n1,n2,upper n1 n2 ts] (ts++[a]) m f m' f'∧FrT vT w w':=by
 have hall:∀ nd∈[n1,n2],NdOk nd:=by
  intro nd hn
  rcases List.mem_cons.1 hn with rfl | hn
  ·exact h1
  ·rcases List.mem_singleton.1 hn with rfl
   exact h2
 have HU:Aside0 (∀ W,Below w.heap.size w W→Calls Tryz.prog 203 #[.pointer (some ⟨v,0,none⟩),lv] W fun r w'=>∃ (x:NV) (ts:List Nat) (m':List Bool) (f':Nat→List Int),r = .returned (.tuple #[.agg (nvA x),.int .i64 0])∧NdR w' W.heap.size (nvA x) (upper n1 n2 ts)∧Wrs N o [n1,n2] ts m f m' f'∧VS w' v d N gen (nw+8) m' o f' (k+1)∧FrT vT W w'):=⟨fun W hW=>by
  refine (vs_under (L:=[n1,n2]) (k:=k+1) (h.below hW) (hl.below hW) hall (show 2≤4 by decide)).mono ?_
  rintro r w' ⟨x,ts,m',f',rfl,g1,g2,g3,g4⟩
  exact ⟨x,ts,m',f',rfl,g1,g2,g3,g4⟩⟩
 have HOK:=Aside0.mk (And.intro h.mm (And.intro h1 (And.intro h2 hlt)))
 obtain ⟨vs,hv1,hv2,-⟩:=hl
 obtain ⟨A,c,rfl⟩:=Kd.R_slice hv1
 have hvn:vs.length=2:=hv2
 rw [hvn] at HU ⊢
 obtain ⟨W0,hW0⟩:∃ W,w.alloc (Obj.cells #[.int .i64 0,.int .i64 0] 96)=W:=⟨_,rfl⟩
 have HB0:Aside0 (Below w.heap.size w W0):=⟨by rw [← hW0];exact below_alloc (Below.refl _ _) _⟩
 have HZ0:Aside0 (W0.heap[w.heap.size]?=some (Obj.cells #[.int .i64 0,.int .i64 0] 96)):=⟨by rw [← hW0];exact newb rfl⟩
 have HSZ:Aside0 (w.heap.size<W0.heap.size):=⟨by rw [← hW0];simp⟩
 obtain ⟨ht1,hht⟩:∃ q:Int,ht+1=q:=⟨_,rfl⟩
 have e1:wrap64 (ht+1)=ht1:=by rw [hht];exact wrap64_id (by omega) (by omega)
 have d1:decide (5<ht1)=false:=decide_eq_false (by omega)
 have HHT:=Aside0.mk hht
 rw [hht]
 clear h hv1 hv2 hvn h1 h2 hlt h0 hh hht hall
 go_enter Tryz.func157,Tryz.ntmps157
 go_wp2
 clear hW0
 go_loopw [1,2] (fun v1 v2 wr=>(v1 = .slice A 2 c∧v2 = .int .i64 ht∧wr=W0) ∨ ∃ (A':Option Addr) (c':Nat) (ts:List Nat) (m1:List Bool) (f1:Nat→List Int),v1 = .slice A' 1 c'∧v2 = .int .i64 ht1∧Aside0 (NdL wr w.heap.size (.slice A' 1 c') [upper n1 n2 ts])∧Aside0 (Wrs N o [n1,n2] ts m f m1 f1)∧Aside0 (VS wr v d N gen (nw+8) m1 o f1 (k+1))∧Aside0 (FrT vT w wr)∧Aside0 (wr.heap[w.heap.size]?=some (Obj.cells #[.int .i64 0,.int .i64 0] 96))) (fun v1 _ _=>sliceLen v1)
 case atStart=>exact .inl ⟨rfl,rfl,rfl⟩
 case round=>
  rcases hrel with ⟨rfl,rfl,rfl⟩ | ⟨A',c',ts,m1,f1,rfl,rfl,HL,HW,HV,HF,HZ⟩
  ·go_wp2_with (go_at_call 203;(with_reducible refine (HU.out _ HB0.out).mono ?_);rintro r w2 ⟨x,ts,m1,f1,rfl,hr,hwr,hvs,hfr⟩;refine hold ?_)
   unfold Hold
   have hok:=upper_ok hwr HOK.out.1 HOK.out.2.1 HOK.out.2.2.1 HOK.out.2.2.2
   have hst:=st_ndnew x w2
   obtain ⟨w3,hw3⟩:∃ W,w2.alloc (Obj.cells (nvA x) 175)=W:=⟨_,rfl⟩
   obtain ⟨gX,hgX⟩:∃ g,w2.heap.size=g:=⟨_,rfl⟩
   have hb3:Below w2.heap.size w2 w3:=by rw [← hw3];exact below_alloc (Below.refl _ _) _
   have hx3:NbAt w3 gX (nvA x):=by rw [← hw3];exact nb_new _ hgX
   have hlx:=ld_nd (g:=gX) (v:=nvA x) rfl
   rw [hgX,hw3] at hst
   have hn:ndSize (upper n1 n2 ts)=2:=hwr.len
   have HSP:Aside0 (Calls Tryz.prog 204 #[.agg (nvA x)] w3 fun r w'=>∃ v',r = .returned v'∧NdL w' w3.heap.size v' [upper n1 n2 ts]∧Below w3.heap.size w3 w'):=⟨split1_calls (hr.below hb3) hok.fm (by rw [hn];decide) (by rw [hn];show 2≤16;decide)⟩
   have HVS3:=Aside0.mk (hvs.below hb3)
   have HFR3:=Aside0.mk ((FrT.of_below HB0.out vT).trans (hfr.below hb3))
   have HZ3:=Aside0.mk (blkb hb3 (hfr.blk HZ0.out (by decide)))
   have HWR:=Aside0.mk hwr
   clear hr hwr hvs hfr hok hb3 hn hw3
   go_wp2_with (go_at_call 204;(with_reducible refine HSP.out.mono ?_);rintro r w4 ⟨v4,rfl,hl4,hb4⟩;have HL4:=Aside0.mk (hl4.lower HFR3.out.size);have HB4:=Aside0.mk hb4;clear hl4 hb4)
   obtain ⟨us,hu1,hu2,hu3⟩:=HL4.out
   obtain ⟨A4,c4,rfl⟩:=Kd.R_slice hu1
   have hul:us.length=1:=hu2
   rw [hul] at HL4 ⊢
   clear hu1 hu2 hu3 hul
   go_roundw
   case rel=>exact .inr ⟨A4,c4,ts,m1,f1,rfl,by rw [e1],HL4,HWR,⟨HVS3.out.below HB4.out⟩,⟨HFR3.out.below HB4.out⟩,⟨blkb HB4.out HZ3.out⟩⟩
   case measure=>show 1<2;decide
  ·have hok:=upper_ok HW.out HOK.out.1 HOK.out.2.1 HOK.out.2.2.1 HOK.out.2.2.2
   have hln:2≤(upper n1 n2 ts).ts.length:=by rw [show (upper n1 n2 ts).ts.length=2 from HW.out.len];exact Nat.le_refl _
   have HS:Aside0 (Calls Tryz.prog 205 #[.pointer (some ⟨v,0,none⟩),.slice A' 1 c',.int .i64 ht1] wr fun r w'=>∃ (a:Nat) (f':Nat→List Int),r = .returned (.tuple #[.agg #[.int .i64 (a:Int),.int .i64 ht1],.int .i64 0])∧a+1≤N∧FreeRun m1 o a 1∧VS w' v d N gen (nw+8+4) (setN true m1 a 1) o f' k∧Wrote f1 f' a (kindN (upper n1 n2 ts)) (ndB (upper n1 n2 ts))∧FrT vT wr w'):=⟨vs_single HV.out HL.out hok (.inr hln) ht1⟩
   clear hok hln
   go_wp2_with (go_at_call 205;(with_reducible refine HS.out.mono ?_);rintro r w3 ⟨a,f',rfl,ha,hf,hvs,hwr,hfr⟩;have HZ3:=Aside0.mk (hfr.blk HZ.out (by decide));have hst:=st_rt (a:Int) ht1 HZ3.out rfl;have HX:=Aside0.mk (And.intro ha (And.intro hf (And.intro hvs hwr)));have HF3:=Aside0.mk (HF.out.trans hfr);clear ha hf hvs hwr hfr)
   refine bodyPost_ret (results_ct rfl _ _ w.heap.size 96 (rootA a ht1) (0,0) _ rfl (setRow_heap _ _ _ _ _ _ HZ3.out) Tryz.underlying96 rfl rt_size) rfl ?_
   exact ⟨ts,a,setN true m1 a 1,f',rfl,HX.out.2.2.1.frT ((FrT.refl [96] _).setRow HZ3.out (by decide) _) (by decide),HW.out.snoc HX.out.1 HX.out.2.1 HX.out.2.2.2,HF3.out.setRowNew (Nat.le_refl _) _⟩
end
section
attribute [local go_sem ↓] Go.wp_at_zero Go.wp_at_succ loadKey_eq loadEn_eq storeKey_eq storeEn_eq loadNd_eq storeNd_eq loadMap_eq storeMap_eq loadTab_eq storePg_eq loadRt_eq storeRt_eq
def chIx:List Ky→Ky→Nat
 | a :: b :: l,k=>if lessB k b then 0 else chIx (b :: l) k+1
 | _,_=>0
theorem chIx_last {ks:List Ky} {k:Ky} {i:Nat} (h:∀ j b,j<i→ks[j+1]?=some b→lessB k b=false) (hi:i<ks.length) (he:i+1=ks.length ∨ ∃ b,ks[i+1]?=some b∧lessB k b=true):chIx ks k=i:=by
 induction ks generalizing i with
 | nil=>simp at hi
 | cons a l ih=>
  cases l with
  | nil=>simp at hi;rw [hi];rfl
  | cons b l=>
   cases i with
   | zero=>
    rcases he with he | ⟨c,hc,hl⟩
    ·simp at he
    ·injection hc with hc
     subst hc
     simp [chIx,hl]
   | succ i=>
    have hb:=h 0 b (by omega) rfl
    rw [chIx,hb]
    simp only [Bool.false_eq_true,if_false]
    rw [ih (i:=i) (fun j c hj hc=>h (j+1) c (by omega) hc) (by simp at hi ⊢;omega) (by simpa using he)]
theorem child_calls [Inhabited Sanct] {w:World} {v:Array Value} {nd:Nd} (hv:NdV w v nd) (hlf:nd.lf=false) (h1:1≤nd.ks.length) (h16:nd.ks.length≤16) (k:Ky) :
  Calls Tryz.prog 211 #[.agg v,.agg (keyA k)] w fun r w'=>r = .returned (.int .i64 (chIx nd.ks k:Int))∧Below w.heap.size w w':=by
 obtain ⟨A1,c1,A2,c2,A3,c3,rfl,_,_,_,r1,r2,r3⟩:=hv.e
 obtain ⟨lf,es,ks,ts⟩:=nd
 simp only at hlf h1 h16 r1 r2 r3
 subst hlf
 obtain ⟨g,o,_,_,rfl,_,_⟩:=r2.2 (by omega)
 obtain ⟨n,hn⟩:∃ n,ks.length=n:=⟨_,rfl⟩
 obtain ⟨n1,hn1⟩:∃ n,es.length=n:=⟨_,rfl⟩
 obtain ⟨n3,hn3⟩:∃ n,ts.length=n:=⟨_,rfl⟩
 have HR:=Aside0.mk r2
 have HN:Aside0 (ks.length=n∧1≤n∧n≤16):=⟨hn,by omega,by omega⟩
 simp only
 rw [hn1,hn,hn3]
 obtain ⟨gB,hgB⟩:∃ q,w.heap.size=q:=⟨_,rfl⟩
 obtain ⟨W1,hW1⟩:∃ W,w.alloc (Obj.cells #[.bool false,.slice A1 n1 c1,.slice (some ⟨g,o,none⟩) n c2,.slice A3 n3 c3] 175)=W:=⟨_,rfl⟩
 obtain ⟨gK,hgK⟩:∃ q,W1.heap.size=q:=⟨_,rfl⟩
 obtain ⟨W2,hW2⟩:∃ W,W1.alloc (Obj.cells (keyA k) 87)=W:=⟨_,rfl⟩
 have HK:Aside0 (NbAt W2 gB #[.bool false,.slice A1 n1 c1,.slice (some ⟨g,o,none⟩) n c2,.slice A3 n3 c3]∧KyAt W2 gK k):=⟨by rw [← hW2,← hW1];exact (nb_new _ hgB).alloc _,by rw [← hW2];exact ky_new _ hgK⟩
 have HB:Aside0 (Below w.heap.size w W2):=⟨by rw [← hW2,← hW1];exact below_alloc (below_alloc (Below.refl _ _) _) _⟩
 have hc:=nb_cell (g:=gB) (x0:=.bool false) (x1:=.slice A1 n1 c1) (x2:=.slice (some ⟨g,o,none⟩) n c2) (x3:=.slice A3 n3 c3)
 have hlk:=ld_key (g:=gK) (k:=k)
 clear hv r1 r2 r3 h1 h16 hn hn1 hn3
 go_enter Tryz.func211,Tryz.ntmps211
 go_wp2
 clear hW1 hW2 hgB hgK
 go_loopw [5] (fun v5 wr=>∃ (i:Nat) (ii:Int),v5 = .int .i64 ii∧Aside0 (ii=(i:Int))∧Aside0 (i<n ∧ ∀ j b,j<i→ks[j+1]?=some b→lessB k b=false)∧Aside0 (NbAt wr gB #[.bool false,.slice A1 n1 c1,.slice (some ⟨g,o,none⟩) n c2,.slice A3 n3 c3]∧KyAt wr gK k)∧Aside0 (Below w.heap.size w wr)) (fun v5 _=>((n:Int)-intOf v5).toNat)
 case atStart=>exact ⟨0,0,rfl,⟨rfl⟩,⟨by have:=HN.out;omega,fun j b hj=>by omega⟩,HK,HB⟩
 case round=>
  clear HK HB
  obtain ⟨i,ii,rfl,HI,HIL,HK,HB⟩:=hrel
  obtain ⟨i1,hi1⟩:∃ q:Int,ii+1=q:=⟨_,rfl⟩
  have hii:0≤ii∧ii<16:=by have:=HI.out;have:=HIL.out.1;have:=HN.out;omega
  have e5:wrap64 (ii+1)=i1:=by rw [hi1];exact wrap64_id (by omega) (by omega)
  have e6:IntKind.i64.wrap (ii+1)=i1:=by rw [hi1];exact i64_id (by omega) (by omega)
  have HI1:=Aside0.mk hi1
  by_cases hlt:i+1<n
  ·have d1:decide (i1<(n:Int))=true:=decide_eq_true (by have:=HI.out;omega)
   have d2:(i1<(n:Int))=True:=eq_true (by have:=HI.out;omega)
   have d3:(0≤i1)=True:=eq_true (by omega)
   have d4:i1.toNat=i+1:=by have:=HI.out;omega
   obtain ⟨b,hb⟩:∃ b,ks[i+1]?=some b:=⟨_,List.getElem?_eq_getElem (by have:=HN.out;omega)⟩
   have HRG:Aside0 (∀ W,Below w.heap.size w W→W.rangeAt g (o+(i+1)*2) (keyC b)):=⟨fun W hW=>by
    obtain ⟨g2,o2,hA,hcc⟩:=(HR.out.below hW).at_ hb
    injection hA with hA;injection hA with h1 h2;subst h1 h2
    exact hcc⟩
   have HLS:Aside0 (∀ W,Calls Tryz.prog 134 #[.agg (keyA k),.agg (keyA b)] W fun e w'=>e = .returned (.bool (lessB k b))∧Below W.heap.size W w'):=⟨fun W=>less_calls k b⟩
   have hlb:∀ W:World,W.rangeAt g (o+(i+1)*2) (keyC b)→(loadKeyI (.pointer (some ⟨g,o+(i+1)*2,none⟩))).run Tryz.prog W = .ok (.agg (keyA b)) W:=fun W h=>run_loadKey h
   have HBK:=Aside0.mk hb
   have hk1:NbAt wr.drew gB #[.bool false,.slice A1 n1 c1,.slice (some ⟨g,o,none⟩) n c2,.slice A3 n3 c3]:=HK.out.1
   have hy1:KyAt wr.drew gK k:=HK.out.2
   have hb1:Below w.heap.size w wr.drew:=below_drew HB.out
   have hr1:=HRG.out _ hb1
   clear hi1 hb
   obtain ⟨lb,hlb2⟩:∃ q,lessB k b=q:=⟨_,rfl⟩
   rw [hlb2] at HLS
   have HLB:=Aside0.mk hlb2
   clear hlb2
   go_wp2
   go_region_held3 (fun w'=>NbAt w' gB #[.bool false,.slice A1 n1 c1,.slice (some ⟨g,o,none⟩) n c2,.slice A3 n3 c3]∧KyAt w' gK k∧w'.rangeAt g (o+(i+1)*2) (keyC b)) (first | exact ⟨hk1,hy1,hr1⟩ | exact ⟨hk2,hy2,hr2⟩)
    ((go_at_call 134;(with_reducible refine (HLS.out _).mono ?_);rintro e w2 ⟨rfl,h2⟩;have hk2:=hk1.below h2;have hy2:=hy1.below h2;have hb2:=below_step hb1 h2;have hr2:=HRG.out _ hb2))
   have HK2:=Aside0.mk (And.intro hk2 hy2)
   have HB2:=Aside0.mk hb2
   clear hk1 hy1 hb1 hr1 h2 hk2 hy2 hb2 hr2
   cases lb with
   | true=>
    go_wp2
    go_ret
    refine ⟨?_,HB2.out⟩
    rw [chIx_last HIL.out.2 (by have:=HN.out;have:=HIL.out;omega) (.inr ⟨b,HBK.out,HLB.out⟩),← HI.out]
    rfl
   | false=>
    go_wp2
    go_roundw
    case rel=>
     refine ⟨i+1,i1,rfl,⟨by have:=HI1.out;have:=HI.out;omega⟩,⟨hlt,fun j c hj hc=>?_⟩,HK2,HB2⟩
     rcases Nat.lt_or_ge j i with h | h
     ·exact HIL.out.2 j c h hc
     ·obtain rfl:j=i:=by omega
      have hbk:=HBK.out
      rw [hc] at hbk
      injection hbk with hbk
      rw [hbk]
      exact HLB.out
    case measure=>simp [intOf];have:=HI1.out;have:=HI.out;omega
  ·have d1:decide (i1<(n:Int))=false:=decide_eq_false (by have:=HI.out;omega)
   have hk1:NbAt wr.drew gB #[.bool false,.slice A1 n1 c1,.slice (some ⟨g,o,none⟩) n c2,.slice A3 n3 c3]:=HK.out.1
   clear hi1
   go_wp2
   refine start_ (n:=17) (S:=(fun w'=>NbAt w' gB #[.bool false,.slice A1 n1 c1,.slice (some ⟨g,o,none⟩) n c2,.slice A3 n3 c3])) (ds:=[]) (fbB 17 0) (by kernel_rfl) rfl rfl hk1 (fun hHeld=>?_)
   refine puR 0 6 (fbB 17 1) (h:=?_)
   refine puR 1 7 (fbB 17 3) (h:=?_)
   refine puR 2 8 (fbB 17 7) (h:=?_)
   refine tkR 3 9 (fbB 17 15) hHeld (h:=?_)
   refine puR 4 10 (fbB 17 31) (h:=?_)
   refine puR 5 11 (fbB 17 63) (h:=?_)
   refine puR 6 12 (fbB 17 127) (h:=?_)
   refine unR 7 13 (fbB 17 255) (h:=?_)
   refine unR 8 14 (fbB 17 511) (h:=?_)
   refine unR 9 15 (fbB 17 1023) (h:=?_)
   refine unR 10 16 (fbB 17 2047) (h:=?_)
   refine unR 11 17 (fbB 17 4095) (h:=?_)
   refine unR 12 18 (fbB 17 8191) (h:=?_)
   refine unR 13 19 (fbB 17 16383) (h:=?_)
   refine unR 14 20 (fbB 17 32767) (h:=?_)
   refine unR 15 21 (fbB 17 65535) (h:=?_)
   refine puR 16 22 (fbB 17 131071) (h:=?_)
   refine done_ (by kernel_rfl) ?_
   have HB2:Aside0 (Below w.heap.size w wr.drew):=⟨below_drew HB.out⟩
   go_wp2
   go_ret
   refine ⟨?_,HB2.out⟩
   rw [chIx_last HIL.out.2 (by have:=HN.out;have:=HIL.out;omega) (.inl (by have:=HN.out;have:=HIL.out;omega)),← HI.out]
   rfl
end
end Go.Proofs.YtnhkikebfinejaaGreatDoor.Z
