/- Texts of this claim, laid together. No conditions. -/
import Derived.Test.YtnhkikebfinejaaGreatDoorMRickMany5
set_option linter.unusedVariables false
set_option linter.unusedSimpArgs false
set_option maxRecDepth 100000
set_option maxHeartbeats 16000000
namespace Go.Proofs.YtnhkikebfinejaaGreatDoor.Z
open Go Go.RowKit Go.Proofs.YtnhkikebfinejaaGreatDoorW.PrintWords Go.Proofs.YtnhkikebfinejaaGreatDoorW.PrintLast Go.Proofs.YtnhkikebfinejaaGreatDoorW.PrintMore Go.Proofs.YtnhkikebfinejaaGreatDoor.S Go.Proofs.YtnhkikebfinejaaGreatDoor.X
attribute [local go_sem ↓] Go.wp_at_zero Go.wp_at_succ
theorem mid3 (a b c:List Int) (i j:Nat) (hi:a.length=i) (hj:i+b.length=j):((a++b++c).take j).drop i=b:=by
 subst hj hi
 rw [List.append_assoc,List.take_append,List.drop_append]
 simp
theorem C_part {w:World} {k:IntKind} {ad:Addr} {B xs:List Int} {i j:Nat} (h:Kd.C (Kd.int k) w (some ad) B.length B) (hi:0<i) (hx:(B.take j).drop i=xs):Kd.C (Kd.int k) w (some ⟨ad.block,ad.off+i,none⟩) xs.length xs:=by
 have hlen:xs.length≤B.length:=by rw [← hx,List.length_drop,List.length_take];omega
 refine C_of (fun m x hm=>?_) (by have:=h.2.1;omega)
 rw [← hx,List.getElem?_drop,List.getElem?_take] at hm
 have hB:B[i+m]?=some x:=by
  split at hm
  ·exact hm
  ·cases hm
 have hlt:=(List.getElem?_eq_some_iff.1 hB).1
 obtain ⟨ad',e,hc⟩:=h.2.2 (by omega)
 injection e with e
 subst e
 obtain ⟨cs,_,h3,h4⟩:=hc (i+m) x hB
 have h5:=h4 0 (.int k x) (by rw [show cs=[.int k x] from h3];rfl)
 rw [show ad.add ((i+m)*(Kd.int k).sz+0)=⟨ad.block,ad.off+i+m,none⟩ from by
  show ad.add ((i+m)*1+0)=_
  unfold Addr.add
  rw [if_neg (by omega)]
  simp [Nat.add_assoc]] at h5
 exact h5
theorem blk_by {w w1:World} {g:Nat} {o:Obj} (hb:Below w.heap.size w w1) (h:w.heap[g]?=some o):w1.heap[g]?=some o:=blk_below h hb
theorem new_at {w:World} {g:Nat} {o:Obj} (h:w.heap.size=g):(w.alloc o).heap[g]?=some o:=by subst h;exact blk_new _ _
theorem page_len (kind addr gen:Int) (body:List Int):((pageB kind addr gen body).take 14).drop 12=low (body.length:Int) 2:=by
 unfold pageB pageH
 rw [show [kind,0]++low addr 2++low gen 8++low (body.length:Int) 2++body++List.replicate (238-body.length) 0++le4 (crcSum ([kind,0]++low addr 2++low gen 8++low (body.length:Int) 2++body++List.replicate (238-body.length) 0))=([kind,0]++low addr 2++low gen 8)++low (body.length:Int) 2++(body++List.replicate (238-body.length) 0++le4 (crcSum ([kind,0]++low addr 2++low gen 8++low (body.length:Int) 2++body++List.replicate (238-body.length) 0))) by simp only [List.append_assoc]]
 exact mid3 _ _ _ _ _ (by simp [low_len]) (by simp [low_len])
theorem page_addr (kind addr gen:Int) (body:List Int):((pageB kind addr gen body).take 4).drop 2=low addr 2:=by
 obtain ⟨r,hr⟩:∃ r,pageB kind addr gen body=[kind,0]++low addr 2++r:=by unfold pageB pageH;simp only [List.append_assoc];exact ⟨_,rfl⟩
 rw [hr];exact mid3 _ _ _ _ _ rfl (by simp [low_len])
theorem page_gen (kind addr gen:Int) (body:List Int):((pageB kind addr gen body).take 12).drop 4=low gen 8:=by
 obtain ⟨r,hr⟩:∃ r,pageB kind addr gen body=([kind,0]++low addr 2)++low gen 8++r:=by unfold pageB pageH;simp only [List.append_assoc];exact ⟨_,rfl⟩
 rw [hr];exact mid3 _ _ _ _ _ (by simp [low_len]) (by simp [low_len])
theorem page_body (kind addr gen:Int) (body:List Int):((pageB kind addr gen body).take (14+body.length)).drop 14=body:=by
 obtain ⟨r,hr⟩:∃ r,pageB kind addr gen body=([kind,0]++low addr 2++low gen 8++low (body.length:Int) 2)++body++r:=by unfold pageB pageH;simp only [List.append_assoc];exact ⟨_,rfl⟩
 rw [hr];exact mid3 _ _ _ _ _ (by simp [low_len]) rfl
theorem page_kind (kind addr gen:Int) (body:List Int):(pageB kind addr gen body)[0]?=some kind:=by
 obtain ⟨r,hr⟩:∃ r,pageB kind addr gen body=[kind,0]++r:=by unfold pageB pageH;simp only [List.append_assoc];exact ⟨_,rfl⟩
 rw [hr];rfl
theorem number_calls {w:World} (A:Option Addr) (c:Nat) (n:Nat) (bs:List Int) (x:Int) (hl:bs.length=n) (hr:Kd.C (Kd.int .u8) w A bs.length bs) (hc:n≤c) (hb:Bs bs) (h8:n≤8) (hx:numB bs=x) :
  Calls Tryz.prog 168 #[.slice A n c] w fun e w'=>e = .returned (.int .u64 x)∧Drawn0 w w':=by
 subst hl hx
 exact page_number.calls 20 A c bs _ w hr hc (number_f hb h8)
theorem page_stored {w W0:World} {g base:Nat} {z0 z1 z2 z3:Value} (a b c d:Value) (hz:w.heap[g]?=some (Obj.cells #[z0,z1,z2,z3] 154)) (hB:Below W0.heap.size W0 w) (hg:W0.heap.size≤g) {v:Value} {xs:List Int} (hr:Kd.R (Kd.int .u8) 5 w base (fun _=>True) v xs) :
  ((((w.setCell ⟨g,0,none⟩ a).setCell ⟨g,1,none⟩ b).setCell ⟨g,2,none⟩ c).setCell ⟨g,3,none⟩ d).heap[g]?=some (Obj.cells #[a,b,c,d] 154)∧Below W0.heap.size W0 ((((w.setCell ⟨g,0,none⟩ a).setCell ⟨g,1,none⟩ b).setCell ⟨g,2,none⟩ c).setCell ⟨g,3,none⟩ d)∧Kd.R (Kd.int .u8) 5 ((((w.setCell ⟨g,0,none⟩ a).setCell ⟨g,1,none⟩ b).setCell ⟨g,2,none⟩ c).setCell ⟨g,3,none⟩ d) base (fun _=>True) v xs:=by
 have ht:∀ q,q∈5 :: (Kd.int .u8).E→q≠154:=by decide
 have h0:=blk_set hz 0 a
 have h1:=blk_set h0 1 b
 have h2:=blk_set h1 2 c
 have h3:=blk_set h2 3 d
 exact ⟨h3,(((hB.setCell hg _).setCell hg _).setCell hg _).setCell hg _,Kd.R_set (Kd.R_set (Kd.R_set (Kd.R_set hr hz ht 0 a) h0 ht 1 b) h1 ht 2 c) h2 ht 3 d⟩
theorem pageget_calls {w:World} (kind addr gen:Int) (A:Option Addr) (c:Nat) (body B:List Int) (hB:pageB kind addr gen body=B) (hr:Kd.C (Kd.int .u8) w A B.length B) (hc:256≤c) (hb:Bs body) (hk:kind=83∨kind=76∨kind=73∨kind=66) (h0:0≤addr) (h1:addr<512) (h2:body.length≤238) (hg:0≤gen∧gen<18446744073709551616) :
  Calls Tryz.prog 124 #[tabV crcTab,.slice A 256 c] w fun e w'=>∃ A' c',e = .returned (.tuple #[pageV kind addr gen A' body.length c',.int .i64 0])∧Kd.R (Kd.int .u8) 5 w' w.heap.size (fun _=>True) (.slice A' body.length c') body∧Below w.heap.size w w':=by
 obtain ⟨T,hT⟩:∃ T,(nums .u32 crcTab).toArray=T:=⟨_,rfl⟩
 have hBl:B.length=256:=by rw [← hB];exact pageB_len h2
 have hBb:Bs B:=by rw [← hB];exact pageB_bs (by omega) hb
 have hnl:0≤(body.length:Int):=by omega
 unfold tabV pageV
 rw [hT]
 obtain ⟨X1,hX1⟩:∃ X,Obj.cells T 74=X:=⟨_,rfl⟩
 obtain ⟨ad,rfl⟩:∃ ad,A=some ad:=by
  obtain ⟨ad,h,_⟩:=hr.2.2 (by omega)
  exact ⟨ad,h⟩
 have HT:=Aside0.mk hT
 have HB:=Aside0.mk hB
 have HR:=Aside0.mk hr
 have HBL:=Aside0.mk hBl
 have HBB:=Aside0.mk hBb
 have HK:=Aside0.mk hk
 have HG:=Aside0.mk hg
 clear hT hB hr hBl hBb hk hg hnl
 go_enter Tryz.func124,Tryz.ntmps124
 go_wp2_with (go_at_call 168;refine hold ?_)
 unfold Hold
 obtain ⟨W0,hW0⟩:∃ W,(w.alloc X1).alloc (Obj.cells #[.int .u8 0,.int .i64 0,.int .u64 0,.slice none 0 0] 154)=W:=⟨_,rfl⟩
 have hs0:W0.heap.size=w.heap.size+1+1:=by rw [← hW0];simp
 have HP:Aside0 (W0.heap[w.heap.size+1]?=some (Obj.cells #[.int .u8 0,.int .i64 0,.int .u64 0,.slice none 0 0] 154)):=⟨by rw [← hW0];have:=blk_new (w.alloc X1) (Obj.cells #[.int .u8 0,.int .i64 0,.int .u64 0,.slice none 0 0] 154);rwa [show (w.alloc X1).heap.size=w.heap.size+1 by simp] at this⟩
 have HX:Aside0 (W0.heap[w.heap.size]?=some X1):=⟨by rw [← hW0];exact blk_alloc (blk_new _ _) _⟩
 have HB0:Aside0 (Below w.heap.size w W0):=⟨by rw [← hW0];exact below_alloc (below_alloc (Below.refl _ _) _) _⟩
 simp only [hW0]
 clear hW0
 have HR0:Aside0 (Kd.C (Kd.int .u8) W0 (some ad) B.length B):=⟨Kd.C_below HR.out HB0.out⟩
 have pl:=page_len kind addr gen body
 have pa:=page_addr kind addr gen body
 have pg:=page_gen kind addr gen body
 have pb:=page_body kind addr gen body
 have pk:=page_kind kind addr gen body
 rw [HB.out] at pl pa pg pb pk
 have HNL:Aside0 (numB (low (body.length:Int) 2)=(body.length:Int)):=⟨num_low2 (by omega) (by omega)⟩
 have HNA:Aside0 (numB (low addr 2)=addr):=⟨num_low2 h0 (by omega)⟩
 have HNG:Aside0 (numB (low gen 8)=gen):=⟨num_low8 HG.out.1 HG.out.2⟩
 have HCL:Aside0 (∀ W,Kd.C (Kd.int .u8) W (some ad) B.length B→Kd.C (Kd.int .u8) W (some ⟨ad.block,ad.off+12,none⟩) (low (body.length:Int) 2).length (low (body.length:Int) 2)):=⟨fun W h=>C_part h (by decide) pl⟩
 have HCA:Aside0 (∀ W,Kd.C (Kd.int .u8) W (some ad) B.length B→Kd.C (Kd.int .u8) W (some ⟨ad.block,ad.off+2,none⟩) (low addr 2).length (low addr 2)):=⟨fun W h=>C_part h (by decide) pa⟩
 have HCG:Aside0 (∀ W,Kd.C (Kd.int .u8) W (some ad) B.length B→Kd.C (Kd.int .u8) W (some ⟨ad.block,ad.off+4,none⟩) (low gen 8).length (low gen 8)):=⟨fun W h=>C_part h (by decide) pg⟩
 have HCB:Aside0 (∀ W,Kd.C (Kd.int .u8) W (some ad) B.length B→Kd.C (Kd.int .u8) W (some ⟨ad.block,ad.off+14,none⟩) body.length body):=⟨fun W h=>C_part h (by decide) pb⟩
 have k0:W0.cell? ad=some (.int .u8 kind):=by
  obtain ⟨ad',e,hc⟩:=HR0.out.2.2 (by have:=HBL.out;omega)
  injection e with e
  subst e
  obtain ⟨cs,_,h3,h4⟩:=hc 0 kind pk
  have h5:=h4 0 (.int .u8 kind) (by rw [show cs=[.int .u8 kind] from h3];rfl)
  simpa [Addr.add] using h5
 clear pl pa pg pb pk
 have k6:∀ m,((W0.drewN m).alloc (Obj.cells #[.int .u8 0,.int .i64 0,.int .u64 0,.slice none 0 0] 154)).cell? ad=some (.int .u8 kind):=fun m=>((below_alloc (Below.refl (W0.drewN m).heap.size (W0.drewN m)) _).cell (World.block_lt_of_cell? W0 _ k0)).trans k0
 have e2:IntKind.i64.wrap (body.length:Int)=(body.length:Int):=by simp [IntKind.wrap,IntKind.bits,IntKind.signed];omega
 have e3:IntKind.i64.wrap addr=addr:=by simp [IntKind.wrap,IntKind.bits,IntKind.signed];omega
 have d1:decide (238<(body.length:Int))=false:=decide_eq_false (by omega)
 have d2:decide (238<body.length)=false:=decide_eq_false (by omega)
 (with_reducible refine (number_calls (some ⟨ad.block,ad.off+12,none⟩) (c-12) 2 (low (body.length:Int) 2) (body.length:Int) (low_len _ _) (HCL.out _ HR0.out) (by omega) (low_bs _ _) (by decide) HNL.out).mono ?_)
 rintro e w1 ⟨rfl,⟨m1,rfl⟩⟩
 have t1:((4:Int)≤(c:Int))=True:=eq_true (by omega)
 have t2:((12:Int)≤(c:Int))=True:=eq_true (by omega)
 have t3:(14+(body.length:Int)≤(c:Int))=True:=eq_true (by omega)
 have t4:(c=2)=False:=eq_false (by omega)
 have t5:(c=4)=False:=eq_false (by omega)
 have t6:(c=14)=False:=eq_false (by omega)
 have t7:(14≤14+(body.length:Int))=True:=eq_true (by omega)
 have e4:IntKind.i64.wrap (14+(body.length:Int))=14+(body.length:Int):=by simp [IntKind.wrap,IntKind.bits,IntKind.signed];omega
 have e6:(14+(body.length:Int)).toNat-14=body.length:=by omega
 go_wp2
 go_region_law (go_simp;go_wp2_with (first
  | (go_at_call 168;(with_reducible refine (number_calls (some ⟨ad.block,ad.off+2,none⟩) (c-2) 2 (low addr 2) addr (low_len _ _) (HCA.out _ (by (repeat (first | exact HR0.out | (with_reducible refine Kd.C_drewN ?_ _) | (with_reducible refine Kd.C_alloc ?_ _) | (with_reducible refine Kd.C_drew ?_)));done)) (by omega) (low_bs _ _) (by decide) HNA.out).mono ?_);rintro e w2 ⟨rfl,⟨m2,rfl⟩⟩)
  | (go_at_call 168;(with_reducible refine (number_calls (some ⟨ad.block,ad.off+4,none⟩) (c-4) 8 (low gen 8) gen (low_len _ _) (HCG.out _ (by (repeat (first | exact HR0.out | (with_reducible refine Kd.C_drewN ?_ _) | (with_reducible refine Kd.C_alloc ?_ _) | (with_reducible refine Kd.C_drew ?_)));done)) (by omega) (low_bs _ _) (by decide) HNG.out).mono ?_);rintro e w3 ⟨rfl,⟨m3,rfl⟩⟩)
  | (go_at_call 39;(with_reducible refine (clone_calls rfl (HCB.out _ (by (repeat (first | exact HR0.out | (with_reducible refine Kd.C_drewN ?_ _) | (with_reducible refine Kd.C_alloc ?_ _) | (with_reducible refine Kd.C_drew ?_)));done)) (by omega) (by omega)).mono ?_);rintro e w4 ⟨v4,rfl,ho,hb⟩;obtain ⟨A4,c4,rfl⟩:=Kd.R_slice ho;have HO4:=Aside0.mk ho;have hB4:Below W0.heap.size W0 w4:=below_step (by repeat (first | (with_reducible first | exact Below.refl _ _ | apply below_alloc | apply pw_below_drewN | apply below_drew1))) hb;have k4:=(hB4.cell (World.block_lt_of_cell? W0 _ k0)).trans k0;have k5:=((below_alloc (Below.refl w4.heap.size w4) (Obj.cells #[.int .u8 0,.int .i64 0,.int .u64 0,.slice none 0 0] 154)).cell (World.block_lt_of_cell? w4 _ k4)).trans k4;have HB4:=Aside0.mk hB4;clear hB4;(try (have hz:=blk_by (g:=w.heap.size+1+1) (o:=Obj.cells #[.int .u8 0,.int .i64 0,.int .u64 0,.slice none 0 0] 154) hb (new_at (w:=W0) hs0);have z0:=blk_cell hz 0;have z1:=blk_cell hz 1;have z2:=blk_cell hz 2;have z3:=blk_cell hz 3;simp only [List.getElem?_toArray,List.getElem?_cons_zero,List.getElem?_cons_succ] at z0 z1 z2 z3;have y0:=blk_frozen hz 0;have y1:=blk_frozen hz 1;have y2:=blk_frozen hz 2;have y3:=blk_frozen hz 3;have HZ:=Aside0.mk hz;clear hz));clear ho hb)))
 all_goals
  first
   | (have hf:=page_stored (base:=W0.heap.size) (.int .u8 kind) (.int .i64 addr) (.int .u64 gen) (.slice A4 body.length c4) HZ.out HB4.out (Nat.le_of_eq hs0) (Kd.R_lower HO4.out (by simp));obtain ⟨W5,hW5⟩:∃ W5,(((w4.setCell ⟨w.heap.size+1+1,0,none⟩ (.int .u8 kind)).setCell ⟨w.heap.size+1+1,1,none⟩ (.int .i64 addr)).setCell ⟨w.heap.size+1+1,2,none⟩ (.int .u64 gen)).setCell ⟨w.heap.size+1+1,3,none⟩ (.slice A4 body.length c4)=W5:=⟨_,rfl⟩;rw [hW5] at hf ⊢;obtain ⟨g,hg⟩:∃ g,w.heap.size+1+1=g:=⟨_,rfl⟩;rw [hg] at hf ⊢)
   | (have hf:(w4.alloc (Obj.cells #[.int .u8 kind,.int .i64 addr,.int .u64 gen,.slice A4 body.length c4] 154)).heap[w4.heap.size]?=some (Obj.cells #[.int .u8 kind,.int .i64 addr,.int .u64 gen,.slice A4 body.length c4] 154)∧Below W0.heap.size W0 (w4.alloc (Obj.cells #[.int .u8 kind,.int .i64 addr,.int .u64 gen,.slice A4 body.length c4] 154))∧Kd.R (Kd.int .u8) 5 (w4.alloc (Obj.cells #[.int .u8 kind,.int .i64 addr,.int .u64 gen,.slice A4 body.length c4] 154)) W0.heap.size (fun _=>True) (.slice A4 body.length c4) body:=⟨blk_new _ _,below_alloc HB4.out _,Kd.R_alloc (Kd.R_lower HO4.out (by simp)) _⟩;obtain ⟨W5,hW5⟩:∃ W5,w4.alloc (Obj.cells #[.int .u8 kind,.int .i64 addr,.int .u64 gen,.slice A4 body.length c4] 154)=W5:=⟨_,rfl⟩;rw [hW5] at hf ⊢;obtain ⟨g,hg⟩:∃ g,w4.heap.size=g:=⟨_,rfl⟩;rw [hg] at hf ⊢)
  have HF:=Aside0.mk hf
  have HB5:=Aside0.mk (below_step HB0.out hf.2.1)
  have HX5:=Aside0.mk (blk_by hf.2.1 HX.out)
  have HR5:=Aside0.mk (Kd.C_below HR0.out hf.2.1)
  have q0:=blk_cell hf.1 0
  have q1:=blk_cell hf.1 1
  have q2:=blk_cell hf.1 2
  have q3:=blk_cell hf.1 3
  simp only [List.getElem?_toArray,List.getElem?_cons_zero,List.getElem?_cons_succ] at q0 q1 q2 q3
  clear hf hW5 hg
  try clear z0 z1 z2 z3 y0 y1 y2 y3
  clear k0 k4 k5 k6 t1 t2 t3 t4 t5 t6 t7
  rw [← hX1] at HX5
  have HSZ:Aside0 ((Tryz.prog.info? 74).map (·.size)=some T.size):=⟨by rw [← HT.out,size_tab];simp [nums,crcTab_len]⟩
  go_wp2
  refine wp_load_row 74 (.tmp 2) rfl w.heap.size rfl 74 T (0,0) _ HX5.out Tryz.underlying74 rfl HSZ.out ?_
  have hput:=pageput_calls (w:=W5) kind addr gen A4 body.length c4 body rfl (Kd.R_reads' HF.out.2.2).2.2 HK.out h0 h1 h2 HG.out
  unfold tabV pageV at hput
  rw [HT.out,HB.out] at hput
  have HPUT:=Aside0.mk hput
  clear hput
  go_wp2_with (first
   | (go_at_call 139;refine HPUT.out.mono ?_;rintro e w6 ⟨v6,rfl,ho,hb⟩;refine hold ?_))
  unfold Hold
  obtain ⟨A6,c6,rfl⟩:=Kd.R_slice ho
  have HO6:=Aside0.mk ho
  have HB6:=Aside0.mk hb
  have hz:=blk_by hb HF.out.1
  have hy:=blk_by hb (blk_by HF.out.2.1 HP.out)
  have p0:=blk_cell hz 0
  have p1:=blk_cell hz 1
  have p2:=blk_cell hz 2
  have p3:=blk_cell hz 3
  have o0:=blk_cell hy 0
  have o1:=blk_cell hy 1
  have o2:=blk_cell hy 2
  have o3:=blk_cell hy 3
  have f0:=blk_frozen hy 0
  have f1:=blk_frozen hy 1
  have f2:=blk_frozen hy 2
  have f3:=blk_frozen hy 3
  simp only [List.getElem?_toArray,List.getElem?_cons_zero,List.getElem?_cons_succ] at p0 p1 p2 p3 o0 o1 o2 o3
  have HY:=Aside0.mk hy
  clear ho hb hz hy q0 q1 q2 q3
  have HEQ:Aside0 (Calls Tryz.prog 121 #[.slice A6 B.length c6,.slice (some ad) 256 c] w6 fun e w'=>e = .returned (.bool true)∧Drawn0 w6 w'):=⟨by
   have h:=bytes_Equal.calls A6 c6 B (some ad) c B true w6 (Kd.R_reads' HO6.out).2.2 (Kd.R_reads' HO6.out).2.1 (Kd.C_below HR5.out HB6.out) (by have:=HBL.out;omega) (by unfold bytes_Equal.f;simp)
   rwa [show (Value.slice (some ad) B.length c) = .slice (some ad) 256 c by rw [HBL.out]] at h⟩
  go_wp2_with (first
   | (go_at_call 121;(with_reducible refine HEQ.out.mono ?_);rintro e w7 ⟨rfl,⟨m7,rfl⟩⟩))
  have hfin:=page_stored (w:=w6.drewN m7) (W0:=w) (base:=w.heap.size) (g:=w.heap.size+1) (.int .u8 kind) (.int .i64 addr) (.int .u64 gen) (.slice A4 body.length c4) HY.out (pw_below_drewN (below_step HB5.out HB6.out) _) (by omega) (Kd.R_drewN (Kd.R_lower (Kd.R_below HF.out.2.2 HB6.out) (by omega)) _)
  refine bodyPost_ret (results_ct rfl _ _ (w.heap.size+1) 154 #[.int .u8 kind,.int .i64 addr,.int .u64 gen,.slice A4 body.length c4] (0,0) _ rfl hfin.1 Tryz.underlying154 rfl (by kernel_rfl)) rfl ?_
  exact ⟨A4,c4,rfl,hfin.2.2,hfin.2.1⟩
end Go.Proofs.YtnhkikebfinejaaGreatDoor.Z
