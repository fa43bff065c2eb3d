/- Texts of this claim, laid together. No conditions. -/
import Derived.Test.YtnhkikebfinejaaGreatDoorMRickMany10
import Derived.Test.YtnhkikebfinejaaGreatDoorMRickMany1
import Derived.Lib.SliceRun
set_option linter.unusedVariables false
set_option linter.unusedSimpArgs false
set_option maxRecDepth 100000
set_option maxHeartbeats 16000000
namespace Go.Proofs.YtnhkikebfinejaaGreatDoor.Z
open Go Go.RowKit Go.Proofs.YtnhkikebfinejaaGreatDoorW.PrintWords Go.Proofs.YtnhkikebfinejaaGreatDoorW.PrintLast Go.Proofs.YtnhkikebfinejaaGreatDoorW.PrintMore Go.Proofs.YtnhkikebfinejaaGreatDoor.S Go.Proofs.YtnhkikebfinejaaGreatDoor.X
section
attribute [local go_sem ↓] Go.wp_at_zero Go.wp_at_succ loadKey_eq loadEn_eq storeKey_eq storeEn_eq loadNd_eq storeNd_eq
theorem nget_inner [Inhabited Sanct] {w:World} {A:Option Addr} {c:Nat} {ks:List Ky} {ts:List Nat} (hL:InnOk ks ts) (hb:RBy w A (ndB ⟨false,[],ks,ts⟩)) (hc:(ndB ⟨false,[],ks,ts⟩).length≤c) (hB:Bs (ndB ⟨false,[],ks,ts⟩)) (hsB:sB≤w.heap.size:=by assumption) :
  Calls Tryz.prog 133 #[.bool false,.slice A (ndB ⟨false,[],ks,ts⟩).length c] w fun r w'=>∃ v,r = .returned (.tuple #[.agg v,.int .i64 0])∧NdR w' w.heap.size v ⟨false,[],ks,ts⟩∧Below w.heap.size w w':=by
 obtain ⟨B,hBq⟩:∃ B,ndB ⟨false,[],ks,ts⟩=B:=⟨_,rfl⟩
 have hBe:B=(ts.length:Int) :: (ks.zip ts).flatMap kdB:=by rw [← hBq];exact ndB_inner rfl rfl
 rw [hBq] at hb hc hB ⊢
 obtain ⟨n1,hn1⟩:∃ n,ts.length=n:=⟨_,rfl⟩
 have h17:1≤n1∧n1≤16:=by have:=hL.n1;have:=hL.n16;omega
 have hzl:(ks.zip ts).length=n1:=by rw [List.length_zip,hL.n,hn1,Nat.min_self]
 obtain ⟨L,hLn⟩:∃ n,B.length=n:=⟨_,rfl⟩
 have hl:L=n1*14+1:=by rw [← hLn,hBe,List.length_cons,flat_len kdB_len,hzl]
 rw [hLn] at hc ⊢
 obtain ⟨g,o,cs,fr,rfl,hcs,hat⟩:=hb.2 (by omega)
 obtain ⟨z,hz⟩:∃ z:Int,(n1:Int)=z:=⟨_,rfl⟩
 have hc0:w.cell? ⟨g,o,none⟩=some (.int .u8 z):=by
  rw [cell_of_row w g _ _ _ _ hcs]
  have:=hat 0 (n1:Int) (by rw [hBe,hn1];rfl) 0 _ rfl
  rw [← hz]
  simpa using this
 have d1:(L == 0)=false:=beq_eq_false_iff_ne.mpr (by omega)
 have d1':((L:Int) == 0)=false:=beq_eq_false_iff_ne.mpr (by omega)
 have d2:(0<(L:Int))=True:=eq_true (by omega)
 have d2':(0<L)=True:=eq_true (by omega)
 have d3:(1≤(c:Int))=True:=eq_true (by omega)
 have d3':(1≤c)=True:=eq_true (by omega)
 have d4:(c=1)=False:=eq_false (by omega)
 have d5:(1≤L)=True:=eq_true (by omega)
 have d5':(1≤(L:Int))=True:=eq_true (by omega)
 obtain ⟨m,hm⟩:∃ m:Int,z*14=m:=⟨_,rfl⟩
 have e1:IntKind.i64.wrap z=z:=i64_id (by omega) (by omega)
 have e1':wrap64 z=z:=wrap64_id (by omega) (by omega)
 have e2:IntKind.i64.wrap (z*14)=m:=by rw [hm];exact i64_id (by omega) (by omega)
 have e2':wrap64 (z*14)=m:=by rw [hm];exact wrap64_id (by omega) (by omega)
 have e3:IntKind.i64.wrap (1+m)=(L:Int):=by rw [i64_id (by omega) (by omega)];omega
 have e3':wrap64 (1+m)=(L:Int):=by rw [wrap64_id (by omega) (by omega)];omega
 obtain ⟨W1,hW1⟩:∃ W,w.alloc (Obj.cells #[.bool false,.slice none 0 0,.slice none 0 0,.slice none 0 0] 175)=W:=⟨_,rfl⟩
 have hB1:Below w.heap.size w W1:=by rw [← hW1];exact below_alloc (Below.refl _ _) _
 have hs1:W1.heap.size=w.heap.size+1:=by rw [← hW1];simp
 have hz1:NbAt W1 w.heap.size zNd:=by rw [← hW1];exact newb rfl
 obtain ⟨gN,hgN⟩:∃ g,W1.heap.size=g:=⟨_,rfl⟩
 obtain ⟨W2,hW2⟩:∃ W,W1.alloc (Obj.cells #[.bool false,.slice none 0 0,.slice none 0 0,.slice none 0 0] 175)=W:=⟨_,rfl⟩
 have hst:(storeNdI (.pointer (some ⟨gN,0,none⟩)) (.agg #[.bool false,.slice none 0 0,.slice none 0 0,.slice none 0 0])).run Tryz.prog W2 = .ok () W2:=by
  have:=st_nd_at (g:=W1.heap.size) (ds:=#[.bool false,.slice none 0 0,.slice none 0 0,.slice none 0 0]) (newb (w:=W1) (o:=Obj.cells #[.bool false,.slice none 0 0,.slice none 0 0,.slice none 0 0] 175) rfl) rfl rfl (by simp [Value.oneCell'])
  rw [World.setRow_alloc_new,hgN,hW2] at this
  exact this
 have hB2:Below w.heap.size w W2:=by rw [← hW2];exact below_alloc hB1 _
 have hs2:W2.heap.size=gN+1:=by rw [← hW2,← hgN];simp
 obtain ⟨rg,hrg⟩:∃ g,W2.heap.size=g:=⟨_,rfl⟩
 obtain ⟨W3,hW3⟩:∃ W,W2.alloc (Obj.cells #[.slice (some ⟨g,o+1,none⟩) (L-1) (c-1)] 273)=W:=⟨_,rfl⟩
 have hB3:Below w.heap.size w W3:=by rw [← hW3];exact below_alloc hB2 _
 have hcW:∀ W,Below w.heap.size w W→W.cell? ⟨g,o,none⟩=some (.int .u8 z):=fun W hW=>pw_cell_below hW hc0
 have c1:=hcW _ hB1
 have c3:=hcW _ hB3
 have HG3:Aside0 (GtSt w W3 gN w.heap.size rg #[.bool false,.slice none 0 0,.slice none 0 0,.slice none 0 0] ((ks.zip ts).flatMap kdB)):=⟨by
  refine ⟨by rw [← hW3,← hW2];exact (nb_new _ hgN).alloc _,by rw [← hW3,← hW2];exact (hz1.alloc _).alloc _,?_,hB3,by omega,by omega,by omega⟩
  refine ⟨some ⟨g,o+1,none⟩,c-1,?_,?_,?_⟩
  ·rw [flat_len kdB_len,hzl,show n1*14=L-1 by omega,← hW3]
   exact newb hrg
  ·rw [flat_len kdB_len,hzl];omega
  ·have:=(hb.drop 1).below hB3
   rw [hBe] at this
   simpa [Addr.add] using this⟩
 have HX:=Aside0.mk (And.intro hb (And.intro hc (And.intro hB (And.intro hBe (And.intro hn1 (And.intro h17 (And.intro hLn (And.intro hl hz))))))))
 have HLO:=Aside0.mk hL
 have HBQ:=Aside0.mk hBq
 clear hzl hb hc hB hBe hn1 h17 hLn hl hcs hat hz hm hL hBq hc0 hcW hB1 hB2 hB3 hs1 hs2 hz1
 go_enter Tryz.func133,Tryz.ntmps133
 go_wp2
 clear c1 c3 hst hW1 hgN hW2 hrg hW3 e1 e1' e2 e2' e3 e3' d1 d1' d2 d2' d3 d3' d4 d5 d5'
 go_loopw [38] (fun v38 wr=>∃ (i:Nat) (ii:Int) (v2 v3:Value),v38 = .int .i64 ii∧Aside0 (ii=(i:Int))∧Aside0 (i≤n1)∧Aside0 (GtSt w wr gN w.heap.size rg #[.bool false,.slice none 0 0,v2,v3] (((ks.zip ts).drop i).flatMap kdB))∧Aside0 (kK.R 87 wr w.heap.size (fun _=>True) v2 (ks.take i))∧Aside0 (kN.R 3 wr w.heap.size (fun _=>True) v3 (ts.take i))) (fun v38 _=>(z-intOf v38).toNat)
 case atStart=>exact ⟨0,0,.slice none 0 0,.slice none 0 0,rfl,⟨rfl⟩,⟨Nat.zero_le _⟩,HG3,⟨Kd.R_nil _ _ _ _ _⟩,⟨Kd.R_nil _ _ _ _ _⟩⟩
 case round=>
  obtain ⟨i,ii,v2,v3,rfl,HI,HIL,HG,HO,HP⟩:=hrel
  have hi0:0≤ii∧ii≤16:=by have:=HI.out;have:=HIL.out;have:=HX.out;omega
  have e5:wrap64 (ii+1)=ii+1:=wrap64_id (by omega) (by omega)
  by_cases hlt:i<n1
  ·have d1:decide (ii<z)=true:=decide_eq_true (by have:=HI.out;have:=HX.out;omega)
   obtain ⟨k,hk⟩:∃ e,ks[i]?=some e:=⟨_,List.getElem?_eq_getElem (by have:=HX.out;have:=HLO.out.n;omega)⟩
   obtain ⟨t,ht⟩:∃ e,ts[i]?=some e:=⟨_,List.getElem?_eq_getElem (by have:=HX.out;omega)⟩
   have hkt:(ks.zip ts)[i]?=some (k,t):=by rw [List.getElem?_zip_eq_some];exact ⟨hk,ht⟩
   obtain ⟨R,hR⟩:∃ R,((ks.zip ts).drop (i+1)).flatMap kdB=R:=⟨_,rfl⟩
   have hdr:((ks.zip ts).drop i).flatMap kdB=keyB k++(low t 2++R):=by
    obtain ⟨h1,h2⟩:=List.getElem?_eq_some_iff.1 hkt
    rw [List.drop_eq_getElem_cons h1,h2,List.flatMap_cons,hR,kdB,List.append_assoc]
   have htk:ks.take (i+1)=ks.take i++[k]:=by rw [List.take_add_one,hk];rfl
   have htt:ts.take (i+1)=ts.take i++[t]:=by rw [List.take_add_one,ht];rfl
   have hRB:Bs R:=by
    intro x hx
    refine HX.out.2.2.1 x ?_
    rw [HX.out.2.2.2.1]
    rw [← hR] at hx
    obtain ⟨y,hy,hxy⟩:=List.mem_flatMap.1 hx
    exact List.mem_cons_of_mem _ (List.mem_flatMap.2 ⟨y,List.mem_of_mem_drop hy,hxy⟩)
   have hgg:=HG.out
   rw [hdr] at hgg
   have HTK:=Aside0.mk (And.intro htk (And.intro htt hR))
   have hKK:=HLO.out.ok k (List.mem_of_getElem? hk)
   have hTT:=HLO.out.pg t (List.mem_of_getElem? ht)
   have HG1:=Aside0.mk (hgg.frT (T:=[]) ((FrT.refl [] _).drew) (below_drew hgg.h) (by decide) (by decide) (by decide))
   have HO1:=Aside0.mk (Kd.R_drew HO.out)
   have HP1:=Aside0.mk (Kd.R_drew HP.out)
   have HKE0:=Aside0.mk (fun W hW=>rkey_calls (w:=W) (rg:=rg) k (low t 2++R) hKK ((low_bs _ _).append hRB) hW)
   obtain ⟨tt,htt2⟩:∃ z:Int,(t:Int)=z:=⟨_,rfl⟩
   have e7:IntKind.i64.wrap tt=tt:=i64_id (by omega) (by omega)
   have e8:wrap64 tt=tt:=wrap64_id (by omega) (by omega)
   have HTC:Aside0 ([Value.int .i64 tt]=natC t):=⟨by rw [← htt2];rfl⟩
   have HTA:Aside0 (∀ W,RdB W rg (low t 2++R)→Calls Tryz.prog 176 #[.pointer (some ⟨rg,0,none⟩),.int .i64 2] W fun e w'=>e = .returned (.int .u64 tt)∧RdB w' rg R∧FrRd rg W w'):=⟨fun W hW=>rtake2 (low t 2) R 2 2 rfl (low_len _ _) (by decide) (by decide) ((low_bs _ _).append hRB) hW (by rw [← htt2];exact num_low2 (by omega) (by omega))⟩
   clear hgg hdr htk htt hR hRB hKK hTT hk ht hkt htt2 HG HO HP
   obtain ⟨s,a⟩:=k
   have HKE:Aside0 (∀ W,RdB W rg (keyB ⟨s,a⟩++(low t 2++R))→Calls Tryz.prog 175 #[.pointer (some ⟨rg,0,none⟩)] W fun r w'=>r = .returned (.agg #[.int .i64 s,.int .i64 a])∧RdB w' rg (low t 2++R)∧FrRd rg W w'):=⟨fun W hW=>HKE0.out W hW⟩
   have hk1:=HG1.out.b
   have hc:=nb_cell (g:=gN) (x0:=.bool false) (x1:=.slice none 0 0) (x2:=v2) (x3:=v3)
   clear HKE0
   go_wp2
   refine start_ (n:=8) (S:=(fun w'=>NbAt w' gN #[.bool false,.slice none 0 0,v2,v3])) (ds:=[7]) (fbB 8 0) (by kernel_rfl) rfl rfl hk1 (fun hHeld=>?_)
   refine puR 0 48 (fbB 8 1) (h:=?_)
   refine tkR 1 49 (fbB 8 3) hHeld (h:=?_)
   refine puR 2 50 (fbB 8 7) (h:=?_)
   refine one_ (i:=3) (N:=some 51) (fbB 8 15) rfl rfl (by kernel_rfl) (by simp) (fun K hK=>?_)
   refine goes_ Tryz.func175 (by kernel_rfl) rfl #[.pointer (some ⟨rg,0,none⟩)] (by rfl) rfl rfl (by simp [Act.eval]) ?_
   (with_reducible refine (HKE.out _ HG1.out.r).mono ?_)
   rintro r w2 ⟨rfl,h2,h3⟩
   have HG2:=Aside0.mk (HG1.out.read h2 h3)
   have HO2:=Aside0.mk (R_frT HO1.out h3.t (by decide))
   have HP2:=Aside0.mk (R_frT HP1.out h3.t (by decide))
   have hk2:=HG2.out.b
   clear h2 h3
   refine ⟨_,rfl,hK.out _ _ hk2 (fun hHeld=>?_)⟩
   refine nmR (h:=?_)
   refine one_ (i:=4) (N:=some 52) (fbB 8 31) rfl rfl (by kernel_rfl) (by simp) (fun K hK=>?_)
   go_simp
   have HG3:=Aside0.mk (HG2.out.frT (T:=[]) ((FrT.refl [] _).alloc (Obj.cells #[.int .i64 s,.int .i64 a] 87)) (below_alloc HG2.out.h _) (by decide) (by decide) (by decide))
   have hk3:=HG3.out.b
   refine hK.out _ _ hk3 (fun hHeld=>?_)
   refine one_ (i:=5) (N:=some 53) (fbB 8 63) rfl rfl (by kernel_rfl) (by simp) (fun K hK=>?_)
   refine Kd.R_append_step kK (w0:=w) w.heap.size (by rfl) (.tmp 49) (.tmp 52) 173 87 (.agg zKy) 16 rfl Tryz.underlying173 info_ky rfl (by decide) (by decide) v2 (ks.take i) ⟨s,a⟩ [.int .i64 s,.int .i64 a] (fun _=>True) (fun _=>False) rfl rfl rfl (fun _ hk=>hk.elim) (fun _ _=>trivial) HO2.out HG2.out.h (below_size HG2.out.h) (by rw [List.length_take];have:=HX.out;omega) ?_
   intro v9 w9 ho hb hg hat
   rw [← HTK.out.1] at ho
   obtain ⟨A9,q9,rfl⟩:=Kd.R_slice ho
   obtain ⟨n9,hn9⟩:∃ n,(ks.take (i+1)).length=n:=⟨_,rfl⟩
   rw [hn9] at ho hat ⊢
   clear hn9
   have hf9:FrT [87] w2 w9:=(FrT.refl _ _).app HO2.out (by decide) hg
   have HG9:=Aside0.mk (HG2.out.frT hf9 hb (by decide) (by decide) (by decide))
   have HP9:=Aside0.mk (R_frT HP2.out hf9 (by decide))
   have HO9:=Aside0.mk ho
   have hk9:=HG9.out.b
   clear ho hb hg hat hf9
   refine hK.out _ _ hk9 (fun hHeld=>?_)
   refine nmR (h:=?_)
   refine puR 6 54 (fbB 8 127) (h:=?_)
   refine last_ (i:=7) (N:=none) (fbB 8 255) rfl rfl (by kernel_rfl) (by simp) (fun K hK=>?_)
   have c9:w9.cell? ⟨gN,2,none⟩=some v2:=by rw [blk_cell hk9 2];rfl
   have f9:=blk_frozen hk9 2
   go_simp
   refine hK.out _ _ ?_
   refine done_ (by kernel_rfl) ?_
   have HG10:=Aside0.mk (HG9.out.set 2 (.slice A9 n9 q9))
   have HO10:=Aside0.mk (R_frT HO9.out ((FrT.refl [175] _).setCell hk9 (by decide) 2 (.slice A9 n9 q9)) (by decide))
   have HP10:=Aside0.mk (R_frT HP9.out ((FrT.refl [175] _).setCell hk9 (by decide) 2 (.slice A9 n9 q9)) (by decide))
   clear hk1 hk2 hk3 hk9 c9 f9 hc hHeld HG1 HO1 HP1 HG2 HO2 HP2 HG3 HG9 HO9 HP9 HKE
   obtain ⟨w10,hw10⟩:∃ W,w9.setCell ⟨gN,2,none⟩ (.slice A9 n9 q9)=W:=⟨_,rfl⟩
   rw [hw10] at HG10 HO10 HP10 ⊢
   clear hw10
   have HG11:Aside0 (GtSt w w10.drew gN w.heap.size rg #[.bool false,.slice none 0 0,.slice A9 n9 q9,v3] (low t 2++R)):=⟨HG10.out.frT (T:=[]) ((FrT.refl [] _).drew) (below_drew HG10.out.h) (by decide) (by decide) (by decide)⟩
   have HO11:=Aside0.mk (Kd.R_drew HO10.out)
   have HP11:=Aside0.mk (Kd.R_drew HP10.out)
   have hk11:=HG11.out.b
   have hc:=nb_cell (g:=gN) (x0:=.bool false) (x1:=.slice none 0 0) (x2:=.slice A9 n9 q9) (x3:=v3)
   go_wp2
   refine start_ (n:=9) (S:=(fun w'=>NbAt w' gN #[.bool false,.slice none 0 0,.slice A9 n9 q9,v3])) (ds:=[8]) (fbB 9 0) (by kernel_rfl) rfl rfl hk11 (fun hHeld=>?_)
   refine puR 0 55 (fbB 9 1) (h:=?_)
   refine tkR 1 56 (fbB 9 3) hHeld (h:=?_)
   refine puR 2 57 (fbB 9 7) (h:=?_)
   refine one_ (i:=3) (N:=some 58) (fbB 9 15) rfl rfl (by kernel_rfl) (by simp) (fun K hK=>?_)
   refine goes_ Tryz.func176 (by kernel_rfl) rfl #[.pointer (some ⟨rg,0,none⟩),.int .i64 2] (by rfl) rfl rfl (by simp [Act.eval]) ?_
   (with_reducible refine (HTA.out _ HG11.out.r).mono ?_)
   rintro r w12 ⟨rfl,h2,h3⟩
   have HG12:=Aside0.mk (HG11.out.read h2 h3)
   have HO12:=Aside0.mk (R_frT HO11.out h3.t (by decide))
   have HP12:=Aside0.mk (R_frT HP11.out h3.t (by decide))
   have hk12:=HG12.out.b
   clear h2 h3
   refine ⟨_,rfl,hK.out _ _ hk12 (fun hHeld=>?_)⟩
   refine nmR (h:=?_)
   refine puR 4 59 (fbB 9 31) (h:=?_)
   refine one_ (i:=5) (N:=some 60) (fbB 9 63) rfl rfl (by kernel_rfl) (by simp) (fun K hK=>?_)
   go_simp
   have HG13:=Aside0.mk (HG12.out.frT (T:=[]) ((FrT.refl [] _).alloc (Obj.cells #[.int .i64 tt] 3)) (below_alloc HG12.out.h _) (by decide) (by decide) (by decide))
   have hk13:=HG13.out.b
   refine hK.out _ _ hk13 (fun hHeld=>?_)
   refine one_ (i:=6) (N:=some 61) (fbB 9 127) rfl rfl (by kernel_rfl) (by simp) (fun K hK=>?_)
   refine Kd.R_append_step kN (w0:=w) w.heap.size (by rfl) (.tmp 56) (.tmp 60) 53 3 (.int .i64 0) 8 rfl Tryz.underlying53 info_in rfl (by decide) (by decide) v3 (ts.take i) t [.int .i64 tt] (fun _=>True) (fun _=>False) rfl rfl HTC.out (fun _ hk=>hk.elim) (fun _ _=>trivial) HP12.out HG12.out.h (below_size HG12.out.h) (by rw [List.length_take];have:=HX.out;omega) ?_
   intro v19 w19 ho hb hg hat
   rw [← HTK.out.2.1] at ho
   obtain ⟨A19,q19,rfl⟩:=Kd.R_slice ho
   obtain ⟨n19,hn19⟩:∃ n,(ts.take (i+1)).length=n:=⟨_,rfl⟩
   rw [hn19] at ho hat ⊢
   clear hn19
   have hf9:FrT [3] w12 w19:=(FrT.refl _ _).app HP12.out (by decide) hg
   have HG19:=Aside0.mk (HG12.out.frT hf9 hb (by decide) (by decide) (by decide))
   have HO19:=Aside0.mk (R_frT HO12.out hf9 (by decide))
   have HP19:=Aside0.mk ho
   have hk19:=HG19.out.b
   clear ho hb hg hat hf9
   refine hK.out _ _ hk19 (fun hHeld=>?_)
   refine nmR (h:=?_)
   refine puR 7 62 (fbB 9 255) (h:=?_)
   refine last_ (i:=8) (N:=none) (fbB 9 511) rfl rfl (by kernel_rfl) (by simp) (fun K hK=>?_)
   have c19:w19.cell? ⟨gN,3,none⟩=some v3:=by rw [blk_cell hk19 3];rfl
   have f19:=blk_frozen hk19 3
   go_simp
   refine hK.out _ _ ?_
   refine done_ (by kernel_rfl) ?_
   have HG20:=Aside0.mk (HG19.out.set 3 (.slice A19 n19 q19))
   have HO20:=Aside0.mk (R_frT HO19.out ((FrT.refl [175] _).setCell hk19 (by decide) 3 (.slice A19 n19 q19)) (by decide))
   have HP20:=Aside0.mk (R_frT HP19.out ((FrT.refl [175] _).setCell hk19 (by decide) 3 (.slice A19 n19 q19)) (by decide))
   clear hk11 hk12 hk13 hk19 c19 f19 hc hHeld
   go_wp2
   go_roundw
   case rel=>
    refine ⟨i+1,_,_,_,rfl,⟨by have:=HI.out;omega⟩,⟨by omega⟩,⟨?_⟩,HO20,HP20⟩
    rw [HTK.out.2.2]
    exact HG20.out
   case measure=>simp [intOf];have:=HI.out;have:=HX.out;omega
  ·obtain rfl:n1=i:=by have:=HIL.out;omega
   have d1:decide (ii<z)=false:=decide_eq_false (by have:=HI.out;have:=HX.out;omega)
   have hoo:=HO.out
   have hpp:=HP.out
   rw [List.take_of_length_le (by have:=HX.out;have:=HLO.out.n;omega)] at hoo
   rw [List.take_of_length_le (by have:=HX.out;omega)] at hpp
   obtain ⟨A9,q9,rfl⟩:=Kd.R_slice hoo
   obtain ⟨A8,q8,rfl⟩:=Kd.R_slice hpp
   have HO2:=Aside0.mk hoo
   have HP2:=Aside0.mk hpp
   have HNR:Aside0 (∀ W,FrT [175] wr W→NdR W w.heap.size #[.bool false,.slice none 0 0,.slice A9 ks.length q9,.slice A8 ts.length q8] ⟨false,[],ks,ts⟩):=⟨fun W hf=>⟨_,_,_,rfl,Kd.R_nil _ _ _ _ _,R_frT HO2.out hf (by decide),R_frT HP2.out hf (by decide)⟩⟩
   have HNV:Aside0 (NdV wr #[.bool false,.slice none 0 0,.slice A9 ks.length q9,.slice A8 ts.length q8] ⟨false,[],ks,ts⟩):=⟨(HNR.out wr (FrT.refl _ _)).v ⟨by simp,by have:=HX.out;have:=HLO.out.n;simp only;omega,by have:=HX.out;simp only;omega⟩⟩
   clear hoo hpp HO HP
   have hn:=HG.out.b
   have hld:=ld_nd (g:=gN) (v:=#[.bool false,.slice none 0 0,.slice A9 ks.length q9,.slice A8 ts.length q8]) rfl
   have HPU:Aside0 (Calls Tryz.prog 177 #[.agg #[.bool false,.slice none 0 0,.slice A9 ks.length q9,.slice A8 ts.length q8]] wr fun r w'=>∃ v',r = .returned (.tuple #[v',.int .i64 0])∧Kd.R (Kd.int .u8) 5 w' wr.heap.size (fun _=>True) v' B∧Below wr.heap.size wr w'):=⟨by rw [← HBQ.out];exact nput_calls HNV.out (Or.inr ⟨rfl,rfl,HLO.out⟩) (Nat.le_trans hsB HG.out.h.size)⟩
   go_wp2_with (go_at_call 177;(with_reducible refine HPU.out.mono ?_);rintro r w5 ⟨v5,rfl,ho,hb⟩;refine hold ?_)
   unfold Hold
   obtain ⟨A5,q5,rfl⟩:=Kd.R_slice ho
   have h1:=Kd.R_reads' ho
   have hBL:B.length=L:=HX.out.2.2.2.2.2.2.1
   have HEQ:Aside0 (Calls Tryz.prog 121 #[.slice A5 L q5,.slice (some ⟨g,o,none⟩) L c] w5 fun e w'=>e = .returned (.bool true)∧Below w5.heap.size w5 w'):=⟨by
    have:=bytes_Equal.calls A5 q5 B (some ⟨g,o,none⟩) c B true w5 h1.2.2 h1.2.1 (RBy.C (HX.out.1.below (below_step HG.out.h hb))) (by rw [hBL];exact HX.out.2.1) (by unfold bytes_Equal.f;simp)
    rw [hBL] at this
    exact this.mono (fun e w' h=>⟨h.1,h.2.below⟩)⟩
   have hn5:=hn.below hb
   have HZ5:=Aside0.mk (HG.out.z.below hb)
   have HB5:=Aside0.mk hb
   rw [hBL]
   clear ho hb h1 hBL hn
   go_wp2_with (go_at_call 121;(with_reducible refine HEQ.out.mono ?_);rintro r w6 ⟨rfl,hb⟩;have hn6:=hn5.below hb;have HZ6:=Aside0.mk (HZ5.out.below hb);have HB6:=Aside0.mk (below_step HB5.out hb);have hst:=st_nd_at (ds:=#[.bool false,.slice none 0 0,.slice A9 ks.length q9,.slice A8 ts.length q8]) HZ6.out rfl rfl (by simp [Value.oneCell']);clear hb)
   have HB7:=Aside0.mk (below_step HG.out.h HB6.out)
   refine bodyPost_ret (results_ct rfl _ _ w.heap.size 175 #[.bool false,.slice none 0 0,.slice A9 ks.length q9,.slice A8 ts.length q8] (0,0) _ rfl (setRow_heap _ _ _ _ _ _ HZ6.out) Tryz.underlying175 rfl nd_size) rfl ?_
   refine ⟨_,rfl,HNR.out _ ((FrT.of_below HB6.out _).setRow HZ6.out (by decide) _),?_⟩
   exact HB7.out.trans ⟨rfl,rfl,rfl,by simp [World.setRow],fun k hk=>setRow_other _ _ _ _ (by omega)⟩
theorem enB_bs {e:En} (h:EnOk e):Bs (enB e):=by
 have h1:Bs [(e.n:Int),(e.c:Int)]:=by
  intro x hx
  have:=h.n2
  have:=h.c
  rcases List.mem_cons.1 hx with rfl | hx
  ·omega
  ·rcases List.mem_cons.1 hx with rfl | hx
   ·omega
   ·cases hx
 exact ((((((low_bs _ _).append (low_bs _ _)).append (low_bs _ _)).append (low_bs _ _)).append (low_bs _ _)).append h1).append (low_bs _ _)
theorem kdB_bs (p:Ky×Nat):Bs (kdB p):=((low_bs _ _).append (low_bs _ _)).append (low_bs _ _)
theorem ndB_bs {nd:Nd} (h:NdOk nd):Bs (ndB nd):=by
 have h3:Bs ((nd.ks.zip nd.ts).flatMap kdB):=fun x hx=>by
  obtain ⟨y,_,hy⟩:=List.mem_flatMap.1 hx
  exact kdB_bs y x hy
 have h2:Bs (nd.es.flatMap enB):=fun x hx=>by
  obtain ⟨y,hm,hy⟩:=List.mem_flatMap.1 hx
  rcases h with ⟨_,_,_,hL⟩ | ⟨_,hes,_⟩
  ·exact enB_bs (hL.ok y hm) x hy
  ·rw [hes] at hm;cases hm
 have h1:(ndSize nd:Int)<256:=by
  unfold ndSize
  rcases h with ⟨hlf,_,_,hL⟩ | ⟨hlf,_,hI⟩
  ·have:=hL.n7;rw [hlf];simp;omega
  ·have:=hI.n16;rw [hlf];simp;omega
 intro x hx
 rcases List.mem_cons.1 hx with rfl | hx
 ·exact ⟨by omega,h1⟩
 ·exact (h2.append h3) x hx
theorem ndB_len {nd:Nd} (h:NdOk nd):(ndB nd).length≤238∧1≤(ndB nd).length:=by
 unfold ndB
 rw [List.length_cons,List.length_append,flat_len enB_len,flat_len kdB_len,List.length_zip]
 rcases h with ⟨hlf,hks,hts,hL⟩ | ⟨hlf,hes,hI⟩
 ·have:=hL.n7;rw [hks,hts];simp;omega
 ·have:=hI.n16;have:=hI.n;rw [hes];simp;omega
theorem nget_calls [Inhabited Sanct] {w:World} {A:Option Addr} {c:Nat} {nd:Nd} (h:NdOk nd) (hb:RBy w A (ndB nd)) (hc:(ndB nd).length≤c) (hsB:sB≤w.heap.size:=by assumption) :
  Calls Tryz.prog 133 #[.bool nd.lf,.slice A (ndB nd).length c] w fun r w'=>∃ v,r = .returned (.tuple #[.agg v,.int .i64 0])∧NdR w' w.heap.size v nd∧Below w.heap.size w w':=by
 have hB:=ndB_bs h
 obtain ⟨lf,es,ks,ts⟩:=nd
 rcases h with ⟨hlf,hks,hts,hL⟩ | ⟨hlf,hes,hI⟩
 ·simp only at hlf hks hts
  subst hlf hks hts
  exact nget_leaf hL hb hc hB
 ·simp only at hlf hes
  subst hlf hes
  exact nget_inner hI hb hc hB
end
section
attribute [local go_sem ↓] Go.wp_at_zero Go.wp_at_succ loadKey_eq loadEn_eq storeKey_eq storeEn_eq loadNd_eq storeNd_eq
theorem Rw.reads {α:Type} {T:TypeId} {enc:α→List Value} {sz:Nat} {w:World} {A:Option Addr} {xs:List α} (h:Rw T enc sz w A xs) (hl:∀ x,(enc x).length=sz) (n:Nat) (hn:xs.length=n):ReadsRow (fun x cs=>cs=enc x) sz w A n xs:=by
 refine ⟨hn,by have:=h.1;omega,fun h0=>?_⟩
 obtain ⟨g,o,cs,fr,h1,h2,h3⟩:=h.2 (by omega)
 refine ⟨_,h1,fun j p hj=>⟨enc p,hl p,rfl,fun i u hi=>?_⟩⟩
 have:=h3 j p hj i u hi
 rw [show (⟨g,o,none⟩:Addr).add (j*sz+i)=⟨g,o+j*sz+i,none⟩ by rw [add_none,Nat.add_assoc],cell_of_row w g _ _ _ _ h2]
 exact this
theorem clone_en [Inhabited Sanct] {w:World} {A:Option Addr} {xs:List En} (n c:Nat) (hn:xs.length=n) (hr:REn w A xs) :
  Calls Tryz.prog 253 #[.slice A n c] w fun e w'=>∃ v,e = .returned v∧kE.R 89 w' w.heap.size (fun _=>True) v xs∧Below w.heap.size w w':=by
 cases A with
 | none=>
  obtain rfl:xs=[]:=by
   cases xs with
   | nil=>rfl
   | cons x l=>obtain ⟨_,_,_,_,h,_⟩:=hr.2 (by simp);cases h
  have hq:∀ (w:World),(binOp .eql 159 (.slice none n c) (.slice none 0 0)).run Tryz.prog w = .ok (.bool true) w:=fun w=>Lib.run_eql_slice_nil w _ _ none n c 0 0 Tryz.underlying159
  clear hr hn
  go_enter Tryz.func253,Tryz.ntmps253
  go_wp2
  go_ret
  exact ⟨_,rfl,Kd.R_nil _ _ _ _ _,Below.refl _ _⟩
 | some ad=>
  have hq:∀ (w:World),(binOp .eql 159 (.slice (some ad) n c) (.slice none 0 0)).run Tryz.prog w = .ok (.bool false) w:=fun w=>Lib.run_eql_slice_nil w _ _ (some ad) n c 0 0 Tryz.underlying159
  have HR:=Aside0.mk hr
  have HN:=Aside0.mk hn
  clear hr hn
  go_enter Tryz.func253,Tryz.ntmps253
  go_wp2_with ((with_reducible refine gate_builtin (b:=.append) (xs:=#[.tmp 5,.tmp 6]) rfl ?_);at_builtin;refine hold ?_)
  unfold Hold
  have hB1:Below w.heap.size w (w.alloc (Obj.cells #[] 89)):=below_alloc (Below.refl _ _) _
  have hR1:kE.R 89 (w.alloc (Obj.cells #[] 89)) w.heap.size (fun _=>True) (.slice (some ⟨w.heap.size,0,none⟩) 0 0) []:=R_fresh kE (inner:=[]) (Nat.le_refl _) (fun _ _=>Reps.none _ _) (by simp)
  refine Kd.R_append_rows kE (Rr:=fun x (cs:List Value)=>cs=enC x) (w0:=w) w.heap.size rfl (.tmp 5) (.tmp 6) 159 89 (.agg zEn) 64 rfl Tryz.underlying159 info_en rfl (by decide) (by decide) _ [] xs (some ad) n c (fun _=>True) (fun _=>False) rfl rfl hR1 ((HR.out.below hB1).reads en_len n HN.out) (fun _ _ h=>h) (fun _ hk=>hk.elim) (fun _ _=>trivial) hB1 (below_size hB1) (by have:=HR.out.1;have:=HN.out;simp;omega) ?_
  intro v9 w9 ho hb hg hat
  have HO:=Aside0.mk ho
  have HB:=Aside0.mk hb
  clear ho hb hg hat
  go_wp2
  go_ret
  exact ⟨v9,rfl,by simpa using HO.out,HB.out⟩
theorem clone_ky [Inhabited Sanct] {w:World} {A:Option Addr} {xs:List Ky} (n c:Nat) (hn:xs.length=n) (hr:RKy w A xs) :
  Calls Tryz.prog 243 #[.slice A n c] w fun e w'=>∃ v,e = .returned v∧kK.R 87 w' w.heap.size (fun _=>True) v xs∧Below w.heap.size w w':=by
 cases A with
 | none=>
  obtain rfl:xs=[]:=by
   cases xs with
   | nil=>rfl
   | cons x l=>obtain ⟨_,_,_,_,h,_⟩:=hr.2 (by simp);cases h
  have hq:∀ (w:World),(binOp .eql 173 (.slice none n c) (.slice none 0 0)).run Tryz.prog w = .ok (.bool true) w:=fun w=>Lib.run_eql_slice_nil w _ _ none n c 0 0 Tryz.underlying173
  clear hr hn
  go_enter Tryz.func243,Tryz.ntmps243
  go_wp2
  go_ret
  exact ⟨_,rfl,Kd.R_nil _ _ _ _ _,Below.refl _ _⟩
 | some ad=>
  have hq:∀ (w:World),(binOp .eql 173 (.slice (some ad) n c) (.slice none 0 0)).run Tryz.prog w = .ok (.bool false) w:=fun w=>Lib.run_eql_slice_nil w _ _ (some ad) n c 0 0 Tryz.underlying173
  have HR:=Aside0.mk hr
  have HN:=Aside0.mk hn
  clear hr hn
  go_enter Tryz.func243,Tryz.ntmps243
  go_wp2_with ((with_reducible refine gate_builtin (b:=.append) (xs:=#[.tmp 5,.tmp 6]) rfl ?_);at_builtin;refine hold ?_)
  unfold Hold
  have hB1:Below w.heap.size w (w.alloc (Obj.cells #[] 87)):=below_alloc (Below.refl _ _) _
  have hR1:kK.R 87 (w.alloc (Obj.cells #[] 87)) w.heap.size (fun _=>True) (.slice (some ⟨w.heap.size,0,none⟩) 0 0) []:=R_fresh kK (inner:=[]) (Nat.le_refl _) (fun _ _=>Reps.none _ _) (by simp)
  refine Kd.R_append_rows kK (Rr:=fun x (cs:List Value)=>cs=keyC x) (w0:=w) w.heap.size rfl (.tmp 5) (.tmp 6) 173 87 (.agg zKy) 16 rfl Tryz.underlying173 info_ky rfl (by decide) (by decide) _ [] xs (some ad) n c (fun _=>True) (fun _=>False) rfl rfl hR1 ((HR.out.below hB1).reads ky_len n HN.out) (fun _ _ h=>h) (fun _ hk=>hk.elim) (fun _ _=>trivial) hB1 (below_size hB1) (by have:=HR.out.1;have:=HN.out;simp;omega) ?_
  intro v9 w9 ho hb hg hat
  have HO:=Aside0.mk ho
  have HB:=Aside0.mk hb
  clear ho hb hg hat
  go_wp2
  go_ret
  exact ⟨v9,rfl,by simpa using HO.out,HB.out⟩
theorem clone_na [Inhabited Sanct] {w:World} {A:Option Addr} {xs:List Nat} (n c:Nat) (hn:xs.length=n) (hr:RNa w A xs) :
  Calls Tryz.prog 245 #[.slice A n c] w fun e w'=>∃ v,e = .returned v∧kN.R 3 w' w.heap.size (fun _=>True) v xs∧Below w.heap.size w w':=by
 cases A with
 | none=>
  obtain rfl:xs=[]:=by
   cases xs with
   | nil=>rfl
   | cons x l=>obtain ⟨_,_,_,_,h,_⟩:=hr.2 (by simp);cases h
  have hq:∀ (w:World),(binOp .eql 53 (.slice none n c) (.slice none 0 0)).run Tryz.prog w = .ok (.bool true) w:=fun w=>Lib.run_eql_slice_nil w _ _ none n c 0 0 Tryz.underlying53
  clear hr hn
  go_enter Tryz.func245,Tryz.ntmps245
  go_wp2
  go_ret
  exact ⟨_,rfl,Kd.R_nil _ _ _ _ _,Below.refl _ _⟩
 | some ad=>
  have hq:∀ (w:World),(binOp .eql 53 (.slice (some ad) n c) (.slice none 0 0)).run Tryz.prog w = .ok (.bool false) w:=fun w=>Lib.run_eql_slice_nil w _ _ (some ad) n c 0 0 Tryz.underlying53
  have HR:=Aside0.mk hr
  have HN:=Aside0.mk hn
  clear hr hn
  go_enter Tryz.func245,Tryz.ntmps245
  go_wp2_with ((with_reducible refine gate_builtin (b:=.append) (xs:=#[.tmp 5,.tmp 6]) rfl ?_);at_builtin;refine hold ?_)
  unfold Hold
  have hB1:Below w.heap.size w (w.alloc (Obj.cells #[] 3)):=below_alloc (Below.refl _ _) _
  have hR1:kN.R 3 (w.alloc (Obj.cells #[] 3)) w.heap.size (fun _=>True) (.slice (some ⟨w.heap.size,0,none⟩) 0 0) []:=R_fresh kN (inner:=[]) (Nat.le_refl _) (fun _ _=>Reps.none _ _) (by simp)
  refine Kd.R_append_rows kN (Rr:=fun x (cs:List Value)=>cs=natC x) (w0:=w) w.heap.size rfl (.tmp 5) (.tmp 6) 53 3 (.int .i64 0) 8 rfl Tryz.underlying53 info_in rfl (by decide) (by decide) _ [] xs (some ad) n c (fun _=>True) (fun _=>False) rfl rfl hR1 ((HR.out.below hB1).reads (fun _=>rfl) n HN.out) (fun _ _ h=>h) (fun _ hk=>hk.elim) (fun _ _=>trivial) hB1 (below_size hB1) (by have:=HR.out.1;have:=HN.out;simp;omega) ?_
  intro v9 w9 ho hb hg hat
  have HO:=Aside0.mk ho
  have HB:=Aside0.mk hb
  clear ho hb hg hat
  go_wp2
  go_ret
  exact ⟨v9,rfl,by simpa using HO.out,HB.out⟩
end
section
attribute [local go_sem ↓] Go.wp_at_zero Go.wp_at_succ loadKey_eq loadEn_eq storeKey_eq storeEn_eq loadNd_eq storeNd_eq
def cutN (nd:Nd) (i j:Nat):Nd:=if nd.lf then ⟨true,(nd.es.drop i).take (j-i),[],[]⟩ else ⟨false,[],(nd.ks.drop i).take (j-i),(nd.ts.drop i).take (j-i)⟩
theorem cut_len {α:Type} {xs:List α} {i j n:Nat} (hn:xs.length=n) (hj:j≤n):((xs.drop i).take (j-i)).length=j-i:=by
 rw [List.length_take,List.length_drop];omega
theorem Rw.slice {α:Type} {T:TypeId} {enc:α→List Value} {sz:Nat} {w:World} {g o:Nat} {xs:List α} (h:Rw T enc sz w (some ⟨g,o,none⟩) xs) (i k:Nat):Rw T enc sz w (some ⟨g,o+i*sz,none⟩) ((xs.drop i).take k):=by
 have:=(h.drop i).take k
 simpa [add_none] using this
theorem part_leaf [Inhabited Sanct] {w:World} {v:Array Value} {nd:Nd} (hv:NdV w v nd) (hlf:nd.lf=true) (hks:nd.ks=[]) (hts:nd.ts=[]) (i j:Nat) (ii jj:Int) (hii:ii=(i:Int)) (hjj:jj=(j:Int)) (hij:i<j) (hj:j≤nd.es.length) :
  Calls Tryz.prog 238 #[.agg v,.int .i64 ii,.int .i64 jj] w fun r w'=>∃ v',r = .returned (.agg v')∧NdR w' w.heap.size v' (cutN nd i j)∧Below w.heap.size w w':=by
 obtain ⟨A1,c1,A2,c2,A3,c3,rfl,h1,h2,h3,r1,r2,r3⟩:=hv.e
 obtain ⟨lf,es,ks,ts⟩:=nd
 simp only at hlf hks hts hj h1 h2 h3 r1 r2 r3
 subst hlf hks hts
 obtain ⟨g,o,_,_,rfl,_,_⟩:=r1.2 (by omega)
 obtain ⟨n1,hn1⟩:∃ n,es.length=n:=⟨_,rfl⟩
 have HC:Aside0 (∀ W,Below w.heap.size w W→Calls Tryz.prog 253 #[.slice (some ⟨g,o+i*8,none⟩) (j-i) (c1-i)] W fun e w'=>∃ v,e = .returned v∧kE.R 89 w' W.heap.size (fun _=>True) v ((es.drop i).take (j-i))∧Below W.heap.size W w'):=⟨fun W hW=>clone_en _ _ (cut_len hn1 (by omega)) ((r1.below hW).slice i (j-i))⟩
 have HX:Aside0 (cutN ⟨true,es,[],[]⟩ i j=⟨true,(es.drop i).take (j-i),[],[]⟩):=⟨rfl⟩
 obtain ⟨W1,hW1⟩:∃ W,w.alloc (Obj.cells #[.bool true,.slice (some ⟨g,o,none⟩) n1 c1,.slice A2 0 c2,.slice A3 0 c3] 175)=W:=⟨_,rfl⟩
 have hB1:Below w.heap.size w W1:=by rw [← hW1];exact below_alloc (Below.refl _ _) _
 obtain ⟨W2,hW2⟩:∃ W,W1.alloc (Obj.cells #[.bool false,.slice none 0 0,.slice none 0 0,.slice none 0 0] 175)=W:=⟨_,rfl⟩
 have HB2:Aside0 (Below w.heap.size w W2):=⟨by rw [← hW2];exact below_alloc hB1 _⟩
 obtain ⟨gZ,hgZ⟩:∃ g,W1.heap.size=g:=⟨_,rfl⟩
 have hk:NbAt W2 w.heap.size #[.bool true,.slice (some ⟨g,o,none⟩) n1 c1,.slice A2 0 c2,.slice A3 0 c3]:=by rw [← hW2,← hW1];exact (nb_new _ rfl).alloc _
 have HZ:Aside0 (NbAt W2 gZ zNd):=⟨by rw [← hW2];exact nb_new _ hgZ⟩
 have HGZ:Aside0 (w.heap.size<gZ):=⟨by rw [← hgZ,← hW1];simp⟩
 have hc:=nb_cell (g:=w.heap.size) (x0:=.bool true) (x1:=.slice (some ⟨g,o,none⟩) n1 c1) (x2:=.slice A2 0 c2) (x3:=.slice A3 0 c3)
 have d0:(0≤ii)=True:=eq_true (by omega)
 have d1:(ii≤jj)=True:=eq_true (by omega)
 have d2:(jj≤(c1:Int))=True:=eq_true (by omega)
 have d3:(c1=i)=False:=eq_false (by omega)
 have d4:ii.toNat=i:=by omega
 have d5:jj.toNat=j:=by omega
 simp only [List.length_nil]
 rw [hn1]
 clear hv h1 h2 h3 r1 r2 r3 hn1 hii hjj hij hj hB1
 go_enter Tryz.func238,Tryz.ntmps238
 go_wp2_with (go_at_call 253;(with_reducible refine (HC.out _ HB2.out).mono ?_);rintro r w3 ⟨v3,rfl,ho,hb⟩;refine hold ?_)
 unfold Hold
 obtain ⟨A9,q9,rfl⟩:=Kd.R_slice ho
 obtain ⟨n9,hn9⟩:∃ n,((es.drop i).take (j-i)).length=n:=⟨_,rfl⟩
 rw [hn9] at ho ⊢
 have HZ3:=Aside0.mk (HZ.out.below hb)
 have hst:=st_nd_at (ds:=#[.bool true,.slice A9 n9 q9,.slice none 0 0,.slice none 0 0]) HZ3.out rfl rfl (by simp [Value.oneCell'])
 have HB3:=Aside0.mk (below_step HB2.out hb)
 have HO3:=Aside0.mk (Kd.R_lower ho (below_size HB2.out))
 clear hn9 ho hb hk hc hW1 hW2 hgZ
 go_wp2
 refine bodyPost_ret (results_cell_row rfl _ _ gZ 175 #[.bool true,.slice A9 n9 q9,.slice none 0 0,.slice none 0 0] (0,0) _ rfl (setRow_heap _ _ _ _ _ _ HZ3.out) Tryz.underlying175 rfl nd_size) rfl ?_
 rw [HX.out]
 exact ⟨_,rfl,⟨_,_,_,rfl,R_frT HO3.out ((FrT.refl [175] _).setRow HZ3.out (by decide) _) (by decide),Kd.R_nil _ _ _ _ _,Kd.R_nil _ _ _ _ _⟩,HB3.out.trans ⟨rfl,rfl,rfl,by simp [World.setRow],fun k hk=>setRow_other _ _ _ _ (by have:=HGZ.out;omega)⟩⟩
theorem part_inner [Inhabited Sanct] {w:World} {v:Array Value} {nd:Nd} (hv:NdV w v nd) (hlf:nd.lf=false) (hes:nd.es=[]) (hkt:nd.ks.length=nd.ts.length) (i j:Nat) (ii jj:Int) (hii:ii=(i:Int)) (hjj:jj=(j:Int)) (hij:i<j) (hj:j≤nd.ts.length) :
  Calls Tryz.prog 238 #[.agg v,.int .i64 ii,.int .i64 jj] w fun r w'=>∃ v',r = .returned (.agg v')∧NdR w' w.heap.size v' (cutN nd i j)∧Below w.heap.size w w':=by
 obtain ⟨A1,c1,A2,c2,A3,c3,rfl,h1,h2,h3,r1,r2,r3⟩:=hv.e
 obtain ⟨lf,es,ks,ts⟩:=nd
 simp only at hlf hes hkt hj h1 h2 h3 r1 r2 r3
 subst hlf hes
 obtain ⟨g,o,_,_,rfl,_,_⟩:=r2.2 (by omega)
 obtain ⟨g',o',_,_,rfl,_,_⟩:=r3.2 (by omega)
 obtain ⟨n,hn⟩:∃ n,ts.length=n:=⟨_,rfl⟩
 have hnk:ks.length=n:=hkt.trans hn
 have HC2:Aside0 (∀ W,Below w.heap.size w W→Calls Tryz.prog 243 #[.slice (some ⟨g,o+i*2,none⟩) (j-i) (c2-i)] W fun e w'=>∃ v,e = .returned v∧kK.R 87 w' W.heap.size (fun _=>True) v ((ks.drop i).take (j-i))∧Below W.heap.size W w'):=⟨fun W hW=>clone_ky _ _ (cut_len hnk (by omega)) ((r2.below hW).slice i (j-i))⟩
 have HC3:Aside0 (∀ W,Below w.heap.size w W→Calls Tryz.prog 245 #[.slice (some ⟨g',o'+i,none⟩) (j-i) (c3-i)] W fun e w'=>∃ v,e = .returned v∧kN.R 3 w' W.heap.size (fun _=>True) v ((ts.drop i).take (j-i))∧Below W.heap.size W w'):=⟨fun W hW=>clone_na _ _ (cut_len hn (by omega)) (by have:=(r3.below hW).slice i (j-i);rwa [Nat.mul_one] at this)⟩
 have HX:Aside0 (cutN ⟨false,[],ks,ts⟩ i j=⟨false,[],(ks.drop i).take (j-i),(ts.drop i).take (j-i)⟩):=⟨rfl⟩
 obtain ⟨n1,hn1⟩:∃ n,([]:List En).length=n:=⟨_,rfl⟩
 simp only
 rw [hn1,hn,hnk]
 obtain ⟨W1,hW1⟩:∃ W,w.alloc (Obj.cells #[.bool false,.slice A1 n1 c1,.slice (some ⟨g,o,none⟩) n c2,.slice (some ⟨g',o',none⟩) n c3] 175)=W:=⟨_,rfl⟩
 have hB1:Below w.heap.size w W1:=by rw [← hW1];exact below_alloc (Below.refl _ _) _
 obtain ⟨W2,hW2⟩:∃ W,W1.alloc (Obj.cells #[.bool false,.slice none 0 0,.slice none 0 0,.slice none 0 0] 175)=W:=⟨_,rfl⟩
 have HB2:Aside0 (Below w.heap.size w W2):=⟨by rw [← hW2];exact below_alloc hB1 _⟩
 obtain ⟨gZ,hgZ⟩:∃ g,W1.heap.size=g:=⟨_,rfl⟩
 obtain ⟨gB,hgB⟩:∃ g,w.heap.size=g:=⟨_,rfl⟩
 have hk:NbAt W2 gB #[.bool false,.slice A1 n1 c1,.slice (some ⟨g,o,none⟩) n c2,.slice (some ⟨g',o',none⟩) n c3]:=by rw [← hW2,← hW1];exact (nb_new _ hgB).alloc _
 have HZ:Aside0 (NbAt W2 gZ zNd):=⟨by rw [← hW2];exact nb_new _ hgZ⟩
 have HGZ:Aside0 (w.heap.size<gZ):=⟨by rw [← hgZ,← hW1];simp⟩
 have hc:=nb_cell (g:=gB) (x0:=.bool false) (x1:=.slice A1 n1 c1) (x2:=.slice (some ⟨g,o,none⟩) n c2) (x3:=.slice (some ⟨g',o',none⟩) n c3)
 have d0:(0≤ii)=True:=eq_true (by omega)
 have d1:(ii≤jj)=True:=eq_true (by omega)
 have d2:(jj≤(c2:Int))=True:=eq_true (by omega)
 have d2':(jj≤(c3:Int))=True:=eq_true (by omega)
 have d3:(c2=i)=False:=eq_false (by omega)
 have d3':(c3=i)=False:=eq_false (by omega)
 have d4:ii.toNat=i:=by omega
 have d5:jj.toNat=j:=by omega
 clear hv h1 h2 h3 r1 r2 r3 hn1 hn hnk hkt hii hjj hij hj hB1
 go_enter Tryz.func238,Tryz.ntmps238
 go_wp2
 clear hW1 hW2 hgZ
 have hb1:Below w.heap.size w W2.drew:=below_drew HB2.out
 have hk1:NbAt W2.drew gB #[.bool false,.slice A1 n1 c1,.slice (some ⟨g,o,none⟩) n c2,.slice (some ⟨g',o',none⟩) n c3]:=hk
 have hz1:NbAt W2.drew gZ zNd:=HZ.out
 refine start_ (n:=14) (S:=(fun w'=>NbAt w' gB #[.bool false,.slice A1 n1 c1,.slice (some ⟨g,o,none⟩) n c2,.slice (some ⟨g',o',none⟩) n c3])) (ds:=[13]) (fbB 14 0) (by kernel_rfl) rfl rfl hk1 (fun hHeld=>?_)
 refine puR 0 16 (fbB 14 1) (h:=?_)
 refine tkR 1 17 (fbB 14 3) hHeld (h:=?_)
 refine puR 2 18 (fbB 14 7) (h:=?_)
 refine puR 3 19 (fbB 14 15) (h:=?_)
 refine puR 4 20 (fbB 14 31) (h:=?_)
 refine puR 6 22 (fbB 14 95) (h:=?_)
 refine tkR 7 23 (fbB 14 223) hHeld (h:=?_)
 refine puR 8 24 (fbB 14 479) (h:=?_)
 refine puR 9 25 (fbB 14 991) (h:=?_)
 refine puR 10 26 (fbB 14 2015) (h:=?_)
 refine one_ (i:=5) (N:=some 21) (fbB 14 2047) rfl rfl (by kernel_rfl) (by simp) (fun K hK=>?_)
 refine goes_ Tryz.func243 (by kernel_rfl) rfl #[.slice (some ⟨g,o+i*2,none⟩) (j-i) (c2-i)] (by rfl) rfl rfl (by simp [Act.eval]) ?_
 (with_reducible refine (HC2.out _ hb1).mono ?_)
 rintro r w2 ⟨v2,rfl,ho2,hb2⟩
 obtain ⟨A9,q9,rfl⟩:=Kd.R_slice ho2
 obtain ⟨n9,hn9⟩:∃ n,((ks.drop i).take (j-i)).length=n:=⟨_,rfl⟩
 rw [hn9] at ho2 ⊢
 clear hn9
 have hk2:=hk1.below hb2
 have hb2':=below_step hb1 hb2
 refine ⟨_,rfl,hK.out _ _ hk2 (fun hHeld=>?_)⟩
 refine nmR (h:=?_)
 refine one_ (i:=11) (N:=some 27) (fbB 14 4095) rfl rfl (by kernel_rfl) (by simp) (fun K hK=>?_)
 refine goes_ Tryz.func245 (by kernel_rfl) rfl #[.slice (some ⟨g',o'+i,none⟩) (j-i) (c3-i)] (by rfl) rfl rfl (by simp [Act.eval]) ?_
 (with_reducible refine (HC3.out _ hb2').mono ?_)
 rintro r w3 ⟨v3,rfl,ho3,hb3⟩
 have hk3:=hk2.below hb3
 have hb3':=below_step hb2' hb3
 obtain ⟨A8,q8,rfl⟩:=Kd.R_slice ho3
 obtain ⟨n8,hn8⟩:∃ n,((ts.drop i).take (j-i)).length=n:=⟨_,rfl⟩
 rw [hn8] at ho3 ⊢
 clear hn8
 have hz3:=(hz1.below hb2).below hb3
 refine ⟨_,rfl,hK.out _ _ hk3 (fun hHeld=>?_)⟩
 refine nmR (h:=?_)
 refine puR 12 28 (fbB 14 8191) (h:=?_)
 refine last_ (i:=13) (N:=none) (fbB 14 16383) rfl rfl (by kernel_rfl) (by simp) (fun K hK=>?_)
 have hst:=st_nd_at (ds:=#[.bool false,.slice none 0 0,.slice A9 n9 q9,.slice A8 n8 q8]) hz3 rfl rfl (by simp [Value.oneCell'])
 go_simp
 refine hK.out _ _ ?_
 refine done_ (by kernel_rfl) ?_
 have HZ3:=Aside0.mk hz3
 have HB3:=Aside0.mk hb3'
 have HO3:=Aside0.mk (Kd.R_lower (Kd.R_below ho2 hb3) (below_size hb1))
 have HP3:=Aside0.mk (Kd.R_lower ho3 (below_size hb2'))
 clear ho2 ho3 hb1 hb2 hb2' hb3 hb3' hk1 hk2 hk3 hz1 hz3 hc hst hk
 go_wp2
 refine bodyPost_ret (results_cell_row rfl _ _ gZ 175 #[.bool false,.slice none 0 0,.slice A9 n9 q9,.slice A8 n8 q8] (0,0) _ rfl (setRow_heap _ _ _ _ _ _ HZ3.out) Tryz.underlying175 rfl nd_size) rfl ?_
 rw [HX.out]
 exact ⟨_,rfl,⟨_,_,_,rfl,Kd.R_nil _ _ _ _ _,R_frT HO3.out ((FrT.refl [175] _).setRow HZ3.out (by decide) _) (by decide),R_frT HP3.out ((FrT.refl [175] _).setRow HZ3.out (by decide) _) (by decide)⟩,HB3.out.trans ⟨rfl,rfl,rfl,by simp [World.setRow],fun k hk=>setRow_other _ _ _ _ (by have:=HGZ.out;omega)⟩⟩
end
section
attribute [local go_sem ↓] Go.wp_at_zero Go.wp_at_succ loadKey_eq loadEn_eq storeKey_eq storeEn_eq loadNd_eq storeNd_eq
def NdFm (nd:Nd):Prop:=(nd.lf=true∧nd.ks=[]∧nd.ts=[])∨(nd.lf=false∧nd.es=[]∧nd.ks.length=nd.ts.length)
theorem NdOk.fm {nd:Nd} (h:NdOk nd):NdFm nd:=by
 rcases h with ⟨h1,h2,h3,_⟩ | ⟨h1,h2,h3⟩
 ·exact .inl ⟨h1,h2,h3⟩
 ·exact .inr ⟨h1,h2,h3.n⟩
theorem NdR.below [Inhabited Sanct] {w W:World} {base:Nat} {v:Array Value} {nd:Nd} (h:NdR w base v nd) (hb:Below w.heap.size w W):NdR W base v nd:=by
 obtain ⟨v1,v2,v3,e,h1,h2,h3⟩:=h.e
 exact ⟨v1,v2,v3,e,Kd.R_below h1 hb,Kd.R_below h2 hb,Kd.R_below h3 hb⟩
theorem NdR.lower {w:World} {base b2:Nat} {v:Array Value} {nd:Nd} (h:NdR w base v nd) (hb:b2≤base):NdR w b2 v nd:=by
 obtain ⟨v1,v2,v3,e,h1,h2,h3⟩:=h.e
 exact ⟨v1,v2,v3,e,Kd.R_lower h1 hb,Kd.R_lower h2 hb,Kd.R_lower h3 hb⟩
theorem NdR.frT [Inhabited Sanct] {T:List Nat} {w W:World} {base:Nat} {v:Array Value} {nd:Nd} (h:NdR w base v nd) (hf:FrT T w W) (h1:89 ∉ T) (h2:87 ∉ T) (h3:3 ∉ T):NdR W base v nd:=by
 obtain ⟨v1,v2,v3,e,k1,k2,k3⟩:=h.e
 exact ⟨v1,v2,v3,e,R_frT k1 hf (by intro q hq;rcases List.mem_singleton.1 hq with rfl;exact h1),R_frT k2 hf (by intro q hq;rcases List.mem_singleton.1 hq with rfl;exact h2),R_frT k3 hf (by intro q hq;rcases List.mem_singleton.1 hq with rfl;exact h3)⟩
structure NV where
 b:Bool
 A1:Option Addr
 n1:Nat
 c1:Nat
 A2:Option Addr
 n2:Nat
 c2:Nat
 A3:Option Addr
 n3:Nat
 c3:Nat
def nvC (x:NV):List Value:=[.bool x.b,.slice x.A1 x.n1 x.c1,.slice x.A2 x.n2 x.c2,.slice x.A3 x.n3 x.c3]
def nvA (x:NV):Array Value:=(nvC x).toArray
theorem nv_len (x:NV):(nvC x).length=4:=rfl
theorem nv_one (x:NV) (u:Value) (h:u∈nvC x):u.oneCell'=true:=by
 simp only [nvC,List.mem_cons,List.mem_nil_iff,or_false] at h
 rcases h with rfl | rfl | rfl | rfl<;>rfl
def kV:Kd NV:=flat nvC 4 nv_len nv_one
theorem info_nd [Inhabited Sanct]:(Tryz.prog.info? 175).map (fun i=>(i.zero,i.size,i.bytes))=some (some (.agg zNd),4,80):=by kernel_rfl
theorem NdR.nv {w:World} {base:Nat} {v:Array Value} {nd:Nd} (h:NdR w base v nd):∃ x:NV,v=nvA x∧x.b=nd.lf:=by
 obtain ⟨v1,v2,v3,rfl,h1,h2,h3⟩:=h.e
 obtain ⟨A1,c1,rfl⟩:=Kd.R_slice h1
 obtain ⟨A2,c2,rfl⟩:=Kd.R_slice h2
 obtain ⟨A3,c3,rfl⟩:=Kd.R_slice h3
 exact ⟨⟨_,_,_,_,_,_,_,_,_,_⟩,rfl,rfl⟩
def NdL (w:World) (base:Nat) (v:Value) (L:List Nd):Prop:=∃ vs:List NV,kV.R 175 w base (fun _=>True) v vs∧vs.length=L.length ∧ ∀ (j:Nat) (x:NV) (nd:Nd),vs[j]?=some x→L[j]?=some nd→NdR w base (nvA x) nd
theorem part_calls [Inhabited Sanct] {w:World} {v:Array Value} {nd:Nd} (hv:NdV w v nd) (hf:NdFm nd) (i j:Nat) (ii jj:Int) (hii:ii=(i:Int)) (hjj:jj=(j:Int)) (hij:i<j) (hj:j≤ndSize nd) :
  Calls Tryz.prog 238 #[.agg v,.int .i64 ii,.int .i64 jj] w fun r w'=>∃ x,r = .returned (.agg (nvA x))∧NdR w' w.heap.size (nvA x) (cutN nd i j)∧Below w.heap.size w w':=by
 have h:Calls Tryz.prog 238 #[.agg v,.int .i64 ii,.int .i64 jj] w fun r w'=>∃ v',r = .returned (.agg v')∧NdR w' w.heap.size v' (cutN nd i j)∧Below w.heap.size w w':=by
  rcases hf with ⟨h1,h2,h3⟩ | ⟨h1,h2,h3⟩
  ·exact part_leaf hv h1 h2 h3 i j ii jj hii hjj hij (by rwa [ndSize,h1] at hj)
  ·exact part_inner hv h1 h2 h3 i j ii jj hii hjj hij (by rwa [ndSize,h1] at hj)
 refine h.mono ?_
 rintro r w' ⟨v',rfl,hr,hb⟩
 obtain ⟨x,rfl,_⟩:=hr.nv
 exact ⟨x,rfl,hr,hb⟩
def mostN (nd:Nd):Nat:=if nd.lf then 7 else 16
theorem split_one [Inhabited Sanct] {w:World} {v:Array Value} {nd:Nd} (hv:NdV w v nd) (hf:NdFm nd) (h1:1≤ndSize nd) (h7:ndSize nd≤mostN nd) :
  Calls Tryz.prog 204 #[.agg v] w fun r w'=>∃ v',r = .returned v'∧NdL w' w.heap.size v' [cutN nd 0 (ndSize nd)]∧Below w.heap.size w w':=by
 have HP:Aside0 (∀ W,Below w.heap.size w W→Calls Tryz.prog 238 #[.agg v,.int .i64 0,.int .i64 (ndSize nd:Int)] W fun r w'=>∃ x,r = .returned (.agg (nvA x))∧NdR w' W.heap.size (nvA x) (cutN nd 0 (ndSize nd))∧Below W.heap.size W w'):=⟨fun W hW=>part_calls (hv.below hW) hf 0 (ndSize nd) 0 _ rfl rfl (by omega) (Nat.le_refl _)⟩
 have HS:Aside0 (∀ W,Below w.heap.size w W→Calls Tryz.prog 224 #[.agg v] W fun r w'=>r = .returned (.int .i64 (ndSize nd:Int))∧Below W.heap.size W w'):=⟨fun W hW=>size_calls (hv.below hW)⟩
 obtain ⟨A1,c1,A2,c2,A3,c3,rfl,-,-,-,-,-,-⟩:=hv.e
 obtain ⟨C,hC⟩:∃ C,cutN nd 0 (ndSize nd)=C:=⟨_,rfl⟩
 obtain ⟨s,hs⟩:∃ s:Int,(ndSize nd:Int)=s:=⟨_,rfl⟩
 obtain ⟨m,hm⟩:∃ m:Int,(mostN nd:Int)=m:=⟨_,rfl⟩
 rw [hs,hC] at HP
 rw [hs] at HS
 rw [hC]
 have d1:(s == 0)=false:=beq_eq_false_iff_ne.mpr (by omega)
 have HM:Aside0 (s≤((if nd.lf then 7 else 16:Nat):Int)):=⟨by unfold mostN at h7;omega⟩
 obtain ⟨lf,es,ks,ts⟩:=nd
 obtain ⟨n1,hn1⟩:∃ n,es.length=n:=⟨_,rfl⟩
 obtain ⟨n2,hn2⟩:∃ n,ks.length=n:=⟨_,rfl⟩
 obtain ⟨n3,hn3⟩:∃ n,ts.length=n:=⟨_,rfl⟩
 simp only at HP HS ⊢
 rw [hn1,hn2,hn3] at HP HS ⊢
 obtain ⟨W1,hW1⟩:∃ W,w.alloc (Obj.cells #[.bool lf,.slice A1 n1 c1,.slice A2 n2 c2,.slice A3 n3 c3] 175)=W:=⟨_,rfl⟩
 have HB1:Aside0 (Below w.heap.size w W1):=⟨by rw [← hW1];exact below_alloc (Below.refl _ _) _⟩
 have hk1:NbAt W1 w.heap.size #[.bool lf,.slice A1 n1 c1,.slice A2 n2 c2,.slice A3 n3 c3]:=by rw [← hW1];exact nb_new _ rfl
 have hc:=nb_cell (g:=w.heap.size) (x0:=.bool lf) (x1:=.slice A1 n1 c1) (x2:=.slice A2 n2 c2) (x3:=.slice A3 n3 c3)
 have hl:=ld_nd (g:=w.heap.size) (v:=#[.bool lf,.slice A1 n1 c1,.slice A2 n2 c2,.slice A3 n3 c3]) rfl
 clear hv hf h1 h7 hs hm hC hn1 hn2 hn3
 cases lf with
 | true=>
  have d2:decide (s≤7)=true:=decide_eq_true HM.out
  go_enter Tryz.func204,Tryz.ntmps204
  go_wp2_with (first
   | (go_at_call 224;(with_reducible refine (HS.out _ HB1.out).mono ?_);rintro r w2 ⟨rfl,hb⟩;have HB2:=Aside0.mk (below_step HB1.out hb);have hk2:=hk1.below hb;clear hb)
   | (go_at_call 238;(with_reducible refine (HP.out _ HB2.out).mono ?_);rintro r w3 ⟨x,rfl,hr,hb⟩;refine hold ?_))
  unfold Hold
  have HX:=Aside0.mk hr
  have HB3:=Aside0.mk (below_step HB2.out hb)
  have HSZ:=Aside0.mk (below_size HB2.out)
  obtain ⟨b,A4,m4,q4,A5,m5,q5,A6,m6,q6⟩:=x
  clear hr hb hk1 hk2 hc hl hW1
  simp only [nvA,nvC]
  go_wp2
  go_ret
  refine ⟨_,rfl,⟨[⟨b,A4,m4,q4,A5,m5,q5,A6,m6,q6⟩],R_fresh kV (inner:=nvC ⟨b,A4,m4,q4,A5,m5,q5,A6,m6,q6⟩) (below_size HB3.out) (fun W' ok=>reps_one rfl rfl) (by simp),rfl,fun j x nd hx hn=>?_⟩,below_alloc HB3.out _⟩
  cases j with
  | zero=>
   injection hx with hx
   injection hn with hn
   subst hx hn
   exact (HX.out.below (below_alloc (Below.refl _ _) _)).lower HSZ.out
  | succ j=>simp at hx
 | false=>
  have d2:decide (s≤16)=true:=decide_eq_true HM.out
  go_enter Tryz.func204,Tryz.ntmps204
  go_wp2_with (first
   | (go_at_call 224;(with_reducible refine (HS.out _ HB1.out).mono ?_);rintro r w2 ⟨rfl,hb⟩;have HB2:=Aside0.mk (below_step HB1.out hb);have hk2:=hk1.below hb;clear hb)
   | (go_at_call 238;(with_reducible refine (HP.out _ HB2.out).mono ?_);rintro r w3 ⟨x,rfl,hr,hb⟩;refine hold ?_))
  unfold Hold
  have HX:=Aside0.mk hr
  have HB3:=Aside0.mk (below_step HB2.out hb)
  have HSZ:=Aside0.mk (below_size HB2.out)
  obtain ⟨b,A4,m4,q4,A5,m5,q5,A6,m6,q6⟩:=x
  clear hr hb hk1 hk2 hc hl hW1
  simp only [nvA,nvC]
  go_wp2
  go_ret
  refine ⟨_,rfl,⟨[⟨b,A4,m4,q4,A5,m5,q5,A6,m6,q6⟩],R_fresh kV (inner:=nvC ⟨b,A4,m4,q4,A5,m5,q5,A6,m6,q6⟩) (below_size HB3.out) (fun W' ok=>reps_one rfl rfl) (by simp),rfl,fun j x nd hx hn=>?_⟩,below_alloc HB3.out _⟩
  cases j with
  | zero=>
   injection hx with hx
   injection hn with hn
   subst hx hn
   exact (HX.out.below (below_alloc (Below.refl _ _) _)).lower HSZ.out
  | succ j=>simp at hx
end
section
attribute [local go_sem ↓] Go.wp_at_zero Go.wp_at_succ loadKey_eq loadEn_eq storeKey_eq storeEn_eq loadNd_eq storeNd_eq
theorem cut_size {nd:Nd} (hf:NdFm nd) {i j:Nat} (hj:j≤ndSize nd):ndSize (cutN nd i j)=j-i:=by
 unfold cutN ndSize
 rcases hf with ⟨h1,h2,h3⟩ | ⟨h1,h2,h3⟩
 ·rw [ndSize,h1] at hj
  rw [h1]
  exact cut_len rfl (by simpa using hj)
 ·rw [ndSize,h1] at hj
  rw [h1]
  exact cut_len rfl (by simpa using hj)
theorem cut_fm {nd:Nd} (hf:NdFm nd) (i j:Nat):NdFm (cutN nd i j):=by
 unfold cutN
 rcases hf with ⟨h1,h2,h3⟩ | ⟨h1,h2,h3⟩
 ·rw [h1];exact .inl ⟨rfl,rfl,rfl⟩
 ·rw [h1];exact .inr ⟨rfl,rfl,by simp only [Bool.false_eq_true,if_false];rw [List.length_take,List.length_take,List.length_drop,List.length_drop,h3]⟩
theorem cut_lf (nd:Nd) (i j:Nat):(cutN nd i j).lf=nd.lf:=by
 unfold cutN
 cases h:nd.lf<;>simp
theorem cut_all {nd:Nd} (hf:NdFm nd):cutN nd 0 (ndSize nd)=nd:=by
 obtain ⟨lf,es,ks,ts⟩:=nd
 unfold cutN ndSize
 rcases hf with ⟨h1,h2,h3⟩ | ⟨h1,h2,h3⟩
 ·simp only at h1 h2 h3
  subst h1 h2 h3
  simp
 ·simp only at h1 h2 h3
  subst h1 h2
  simp [← h3]
  rw [List.take_of_length_le (by omega)]
theorem NdL.below [Inhabited Sanct] {w W:World} {base:Nat} {v:Value} {L:List Nd} (h:NdL w base v L) (hb:Below w.heap.size w W):NdL W base v L:=by
 obtain ⟨vs,h1,h2,h3⟩:=h
 exact ⟨vs,Kd.R_below h1 hb,h2,fun j x nd hx hn=>(h3 j x nd hx hn).below hb⟩
theorem NdL.lower {w:World} {base b2:Nat} {v:Value} {L:List Nd} (h:NdL w base v L) (hb:b2≤base):NdL w b2 v L:=by
 obtain ⟨vs,h1,h2,h3⟩:=h
 exact ⟨vs,Kd.R_lower h1 hb,h2,fun j x nd hx hn=>(h3 j x nd hx hn).lower hb⟩
theorem split1_calls [Inhabited Sanct] {w:World} {base:Nat} {v:Array Value} {nd:Nd} (hv:NdR w base v nd) (hf:NdFm nd) (h1:1≤ndSize nd) (h7:ndSize nd≤mostN nd) :
  Calls Tryz.prog 204 #[.agg v] w fun r w'=>∃ v',r = .returned v'∧NdL w' w.heap.size v' [nd]∧Below w.heap.size w w':=by
 have hm:mostN nd≤16:=by unfold mostN;split<;>omega
 have hs:nd.es.length≤1000000∧nd.ks.length≤1000000∧nd.ts.length≤1000000:=by
  unfold ndSize at h7
  rcases hf with ⟨k1,k2,k3⟩ | ⟨k1,k2,k3⟩
  ·rw [k1] at h7;rw [k2,k3];simp at h7 ⊢;omega
  ·rw [k1] at h7;rw [k2,k3];simp at h7 ⊢;omega
 have:=split_one (hv.v hs) hf h1 h7
 rw [cut_all hf] at this
 exact this
theorem split_two [Inhabited Sanct] {w:World} {v:Array Value} {nd:Nd} (hv:NdV w v nd) (hf:NdFm nd) (h:Nat) (h1:mostN nd<ndSize nd) (h2:ndSize nd≤2*mostN nd) (hh:h=(ndSize nd+1) / 2) :
  Calls Tryz.prog 204 #[.agg v] w fun r w'=>∃ v',r = .returned v'∧NdL w' w.heap.size v' [cutN nd 0 h,cutN nd h (ndSize nd)]∧Below w.heap.size w w':=by
 have hm:mostN nd≤16∧7≤mostN nd:=by unfold mostN;split<;>omega
 have HP1:Aside0 (∀ W,Below w.heap.size w W→Calls Tryz.prog 238 #[.agg v,.int .i64 0,.int .i64 (h:Int)] W fun r w'=>∃ x,r = .returned (.agg (nvA x))∧NdR w' W.heap.size (nvA x) (cutN nd 0 h)∧Below W.heap.size W w'):=⟨fun W hW=>part_calls (hv.below hW) hf 0 h 0 _ rfl rfl (by omega) (by omega)⟩
 have HP2:Aside0 (∀ W,Below w.heap.size w W→Calls Tryz.prog 238 #[.agg v,.int .i64 (h:Int),.int .i64 (ndSize nd:Int)] W fun r w'=>∃ x,r = .returned (.agg (nvA x))∧NdR w' W.heap.size (nvA x) (cutN nd h (ndSize nd))∧Below W.heap.size W w'):=⟨fun W hW=>part_calls (hv.below hW) hf h (ndSize nd) _ _ rfl rfl (by omega) (by omega)⟩
 have HS:Aside0 (∀ W,Below w.heap.size w W→Calls Tryz.prog 224 #[.agg v] W fun r w'=>r = .returned (.int .i64 (ndSize nd:Int))∧Below W.heap.size W w'):=⟨fun W hW=>size_calls (hv.below hW)⟩
 obtain ⟨C1,hC1⟩:∃ C,cutN nd 0 h=C:=⟨_,rfl⟩
 obtain ⟨C2,hC2⟩:∃ C,cutN nd h (ndSize nd)=C:=⟨_,rfl⟩
 have hm1:mostN C1=mostN nd:=by unfold mostN;rw [← hC1,cut_lf]
 have hm2:mostN C2=mostN nd:=by unfold mostN;rw [← hC2,cut_lf]
 have hz1:ndSize C1=h:=by rw [← hC1,cut_size hf (by omega),Nat.sub_zero]
 have hz2:ndSize C2=ndSize nd-h:=by rw [← hC2,cut_size hf (Nat.le_refl _)]
 have hf1:NdFm C1:=by rw [← hC1];exact cut_fm hf _ _
 have hf2:NdFm C2:=by rw [← hC2];exact cut_fm hf _ _
 have HS1:Aside0 (∀ W b x,NdR W b (nvA x) C1→Calls Tryz.prog 204 #[.agg (nvA x)] W fun r w'=>∃ v',r = .returned v'∧NdL w' W.heap.size v' [C1]∧Below W.heap.size W w'):=⟨fun W b x hx=>split1_calls hx hf1 (by omega) (by omega)⟩
 have HS2:Aside0 (∀ W b x,NdR W b (nvA x) C2→Calls Tryz.prog 204 #[.agg (nvA x)] W fun r w'=>∃ v',r = .returned v'∧NdL w' W.heap.size v' [C2]∧Below W.heap.size W w'):=⟨fun W b x hx=>split1_calls hx hf2 (by omega) (by omega)⟩
 rw [hC1] at HP1 ⊢
 rw [hC2] at HP2 ⊢
 obtain ⟨A1,c1,A2,c2,A3,c3,rfl,-,-,-,-,-,-⟩:=hv.e
 obtain ⟨s,hs⟩:∃ s:Int,(ndSize nd:Int)=s:=⟨_,rfl⟩
 obtain ⟨q,hq⟩:∃ q:Int,(h:Int)=q:=⟨_,rfl⟩
 obtain ⟨y,hy⟩:∃ y:Int,s+1=y:=⟨_,rfl⟩
 rw [hs,hq] at HP2
 rw [hq] at HP1
 rw [hs] at HS
 have d1:(s == 0)=false:=beq_eq_false_iff_ne.mpr (by omega)
 have HM:Aside0 (¬ s≤((if nd.lf then 7 else 16:Nat):Int)):=⟨by unfold mostN at h1;omega⟩
 have e1:wrap64 (s+1)=y:=by rw [hy];exact wrap64_id (by omega) (by omega)
 have e2:y.tdiv 2=q:=by
  rw [Int.tdiv_eq_ediv_of_nonneg (by omega)]
  omega
 have e3:wrap64 q=q:=wrap64_id (by omega) (by omega)
 have e2':wrap64 (y.tdiv 2)=q:=by rw [e2,e3]
 obtain ⟨lf,es,ks,ts⟩:=nd
 obtain ⟨n1,hn1⟩:∃ n,es.length=n:=⟨_,rfl⟩
 obtain ⟨n2,hn2⟩:∃ n,ks.length=n:=⟨_,rfl⟩
 obtain ⟨n3,hn3⟩:∃ n,ts.length=n:=⟨_,rfl⟩
 simp only at HP1 HP2 HS ⊢
 rw [hn1,hn2,hn3] at HP1 HP2 HS ⊢
 obtain ⟨W1,hW1⟩:∃ W,w.alloc (Obj.cells #[.bool lf,.slice A1 n1 c1,.slice A2 n2 c2,.slice A3 n3 c3] 175)=W:=⟨_,rfl⟩
 obtain ⟨gB,hgB⟩:∃ g,w.heap.size=g:=⟨_,rfl⟩
 have HB1:Aside0 (Below w.heap.size w W1):=⟨by rw [← hW1];exact below_alloc (Below.refl _ _) _⟩
 have hk1:NbAt W1 gB #[.bool lf,.slice A1 n1 c1,.slice A2 n2 c2,.slice A3 n3 c3]:=by rw [← hW1];exact nb_new _ hgB
 have hc:=nb_cell (g:=gB) (x0:=.bool lf) (x1:=.slice A1 n1 c1) (x2:=.slice A2 n2 c2) (x3:=.slice A3 n3 c3)
 have hl:=ld_nd (g:=gB) (v:=#[.bool lf,.slice A1 n1 c1,.slice A2 n2 c2,.slice A3 n3 c3]) rfl
 clear hv hf h1 h2 hs hm hC1 hC2 hn1 hn2 hn3 hm1 hm2 hz1 hz2 hf1 hf2 hq hy hh
 cases lf with
 | true=>
  have d2:decide (s≤7)=false:=decide_eq_false HM.out
  go_enter Tryz.func204,Tryz.ntmps204
  go_wp2_with (go_at_call 224;(with_reducible refine (HS.out _ HB1.out).mono ?_);rintro r w2 ⟨rfl,hb⟩;have HB2:=Aside0.mk (below_step HB1.out hb);have hk2:=hk1.below hb;clear hb)
  simp only [e1,e3]
  have hb2:Below w.heap.size w w2.drew:=below_drew HB2.out
  have hk2':NbAt w2.drew gB #[.bool true,.slice A1 n1 c1,.slice A2 n2 c2,.slice A3 n3 c3]:=hk2
  clear hW1 hgB hk1
  go_region_held3 (fun w'=>NbAt w' gB #[.bool true,.slice A1 n1 c1,.slice A2 n2 c2,.slice A3 n3 c3]) (first | exact hk2' | exact hk3 | exact hk4 | exact hk5 | exact hk6 | exact hk9)
   (first
    | (go_at_call 238;(with_reducible refine (HP1.out _ hb2).mono ?_);rintro r w3 ⟨x,rfl,hr3,hb3⟩;have hk3:=hk2'.below hb3;have hb3':=below_step hb2 hb3)
    | (go_at_call 204;(with_reducible refine (HS1.out _ _ _ hr3).mono ?_);rintro r w4 ⟨v4,rfl,hl4,hb4⟩;have hk4:=hk3.below hb4;have hb4':=below_step hb3' hb4;obtain ⟨vs,hv4,hvl4,hvn4⟩:=hl4)
    | (go_at_call 238;(with_reducible refine (HP2.out _ hb4').mono ?_);rintro r w5 ⟨z,rfl,hr5,hb5⟩;have hk5:=hk4.below hb5;have hb5':=below_step hb4' hb5;have hv5:=Kd.R_below hv4 hb5)
    | (go_at_call 204;(with_reducible refine (HS2.out _ _ _ hr5).mono ?_);rintro r w6 ⟨v6,rfl,hl6,hb6⟩;have hk6:=hk5.below hb6;have hb6':=below_step hb5' hb6;have hv6:=Kd.R_below hv5 hb6;obtain ⟨us,hu6,hul6,hun6⟩:=hl6;obtain ⟨A7,q7,rfl⟩:=Kd.R_slice hu6;have hl1:us.length=1:=hul6;rw [hl1] at hu6 ⊢;have hC6:ReadsRow (kV.K w6) 4 w6 A7 1 us:=by (have:=(Kd.R_reads' hu6).2.2;rwa [hl1] at this))
    | (refine Kd.R_append_rows_step kV (Rr:=kV.K w6) (w0:=w) w.heap.size (by rfl) (.tmp 27) (.tmp 32) 257 175 (.agg zNd) 80 rfl Tryz.underlying257 info_nd rfl (by decide) (by decide) v4 vs us A7 1 q7 (fun _=>True) (fun _=>False) rfl rfl (Kd.R_lower hv6 (below_size hb3')) hC6 (fun _ _ h=>h) (fun _ hk=>hk.elim) (fun _ _=>trivial) hb6' (below_size hb6') (by rw [hvl4];show (1+1)*80≤140737488355328;decide) ?_;intro v9 w9 ho9 hb9 hg9 hat9;have hf9:FrT [175] w6 w9:=(FrT.refl _ _).app hv6 (by decide) hg9;have hk9:NbAt w9 gB _:=(hg9.block gB (blk_lt hk6) (fun he=>by have h1:=Kd.R_base hv6 gB he.symm;have h2:=blk_lt hk3;omega)).trans hk6))
  have hs1:vs.length=1:=hvl4
  obtain ⟨x1,rfl⟩:∃ x,vs=[x]:=by
   cases vs with
   | nil=>simp at hs1
   | cons x l=>cases l with
    | nil=>exact ⟨x,rfl⟩
    | cons y l=>simp at hs1
  obtain ⟨x2,rfl⟩:∃ x,us=[x]:=by
   cases us with
   | nil=>simp at hl1
   | cons x l=>cases l with
    | nil=>exact ⟨x,rfl⟩
    | cons y l=>simp at hl1
  have g1:=(((hvn4 0 x1 C1 rfl rfl).below (below_step (below_step (Below.refl _ _) hb5) hb6)).lower (below_size hb3')).frT hf9 (by decide) (by decide) (by decide)
  have g2:=((hun6 0 x2 C2 rfl rfl).lower (below_size hb5')).frT hf9 (by decide) (by decide) (by decide)
  have HL9:Aside0 (NdL w9 w.heap.size v9 [C1,C2]):=⟨[x1,x2],ho9,rfl,fun j x nd hx hn=>by
   rcases j with _ | _ | j
   ·injection hx with hx
    injection hn with hn
    subst hx hn
    exact g1
   ·injection hx with hx
    injection hn with hn
    subst hx hn
    exact g2
   ·simp at hx⟩
  have HB9:=Aside0.mk hb9
  clear g1 g2 hf9 hat9 hg9 hb9 ho9 hC6 hu6 hun6 hv6 hb6 hb6' hk6 hv5 hb5 hb5' hr5 hk5 hvn4 hv4 hk4 hb4 hb4' hb3 hb3' hk3 hr3 hb2 hk2 hk2'
  go_wp2
  go_ret
  exact ⟨v9,rfl,HL9.out,HB9.out⟩
 | false=>
  have d2:decide (s≤16)=false:=decide_eq_false HM.out
  go_enter Tryz.func204,Tryz.ntmps204
  go_wp2_with (go_at_call 224;(with_reducible refine (HS.out _ HB1.out).mono ?_);rintro r w2 ⟨rfl,hb⟩;have HB2:=Aside0.mk (below_step HB1.out hb);have hk2:=hk1.below hb;clear hb)
  simp only [e1,e3]
  have hb2:Below w.heap.size w w2.drew:=below_drew HB2.out
  have hk2':NbAt w2.drew gB #[.bool false,.slice A1 n1 c1,.slice A2 n2 c2,.slice A3 n3 c3]:=hk2
  clear hW1 hgB hk1
  go_region_held3 (fun w'=>NbAt w' gB #[.bool false,.slice A1 n1 c1,.slice A2 n2 c2,.slice A3 n3 c3]) (first | exact hk2' | exact hk3 | exact hk4 | exact hk5 | exact hk6 | exact hk9)
   (first
    | (go_at_call 238;(with_reducible refine (HP1.out _ hb2).mono ?_);rintro r w3 ⟨x,rfl,hr3,hb3⟩;have hk3:=hk2'.below hb3;have hb3':=below_step hb2 hb3)
    | (go_at_call 204;(with_reducible refine (HS1.out _ _ _ hr3).mono ?_);rintro r w4 ⟨v4,rfl,hl4,hb4⟩;have hk4:=hk3.below hb4;have hb4':=below_step hb3' hb4;obtain ⟨vs,hv4,hvl4,hvn4⟩:=hl4)
    | (go_at_call 238;(with_reducible refine (HP2.out _ hb4').mono ?_);rintro r w5 ⟨z,rfl,hr5,hb5⟩;have hk5:=hk4.below hb5;have hb5':=below_step hb4' hb5;have hv5:=Kd.R_below hv4 hb5)
    | (go_at_call 204;(with_reducible refine (HS2.out _ _ _ hr5).mono ?_);rintro r w6 ⟨v6,rfl,hl6,hb6⟩;have hk6:=hk5.below hb6;have hb6':=below_step hb5' hb6;have hv6:=Kd.R_below hv5 hb6;obtain ⟨us,hu6,hul6,hun6⟩:=hl6;obtain ⟨A7,q7,rfl⟩:=Kd.R_slice hu6;have hl1:us.length=1:=hul6;rw [hl1] at hu6 ⊢;have hC6:ReadsRow (kV.K w6) 4 w6 A7 1 us:=by (have:=(Kd.R_reads' hu6).2.2;rwa [hl1] at this))
    | (refine Kd.R_append_rows_step kV (Rr:=kV.K w6) (w0:=w) w.heap.size (by rfl) (.tmp 27) (.tmp 32) 257 175 (.agg zNd) 80 rfl Tryz.underlying257 info_nd rfl (by decide) (by decide) v4 vs us A7 1 q7 (fun _=>True) (fun _=>False) rfl rfl (Kd.R_lower hv6 (below_size hb3')) hC6 (fun _ _ h=>h) (fun _ hk=>hk.elim) (fun _ _=>trivial) hb6' (below_size hb6') (by rw [hvl4];show (1+1)*80≤140737488355328;decide) ?_;intro v9 w9 ho9 hb9 hg9 hat9;have hf9:FrT [175] w6 w9:=(FrT.refl _ _).app hv6 (by decide) hg9;have hk9:NbAt w9 gB _:=(hg9.block gB (blk_lt hk6) (fun he=>by have h1:=Kd.R_base hv6 gB he.symm;have h2:=blk_lt hk3;omega)).trans hk6))
  have hs1:vs.length=1:=hvl4
  obtain ⟨x1,rfl⟩:∃ x,vs=[x]:=by
   cases vs with
   | nil=>simp at hs1
   | cons x l=>cases l with
    | nil=>exact ⟨x,rfl⟩
    | cons y l=>simp at hs1
  obtain ⟨x2,rfl⟩:∃ x,us=[x]:=by
   cases us with
   | nil=>simp at hl1
   | cons x l=>cases l with
    | nil=>exact ⟨x,rfl⟩
    | cons y l=>simp at hl1
  have g1:=(((hvn4 0 x1 C1 rfl rfl).below (below_step (below_step (Below.refl _ _) hb5) hb6)).lower (below_size hb3')).frT hf9 (by decide) (by decide) (by decide)
  have g2:=((hun6 0 x2 C2 rfl rfl).lower (below_size hb5')).frT hf9 (by decide) (by decide) (by decide)
  have HL9:Aside0 (NdL w9 w.heap.size v9 [C1,C2]):=⟨[x1,x2],ho9,rfl,fun j x nd hx hn=>by
   rcases j with _ | _ | j
   ·injection hx with hx
    injection hn with hn
    subst hx hn
    exact g1
   ·injection hx with hx
    injection hn with hn
    subst hx hn
    exact g2
   ·simp at hx⟩
  have HB9:=Aside0.mk hb9
  clear g1 g2 hf9 hat9 hg9 hb9 ho9 hC6 hu6 hun6 hv6 hb6 hb6' hk6 hv5 hb5 hb5' hr5 hk5 hvn4 hv4 hk4 hb4 hb4' hb3 hb3' hk3 hr3 hb2 hk2 hk2'
  go_wp2
  go_ret
  exact ⟨v9,rfl,HL9.out,HB9.out⟩
end
end Go.Proofs.YtnhkikebfinejaaGreatDoor.Z
