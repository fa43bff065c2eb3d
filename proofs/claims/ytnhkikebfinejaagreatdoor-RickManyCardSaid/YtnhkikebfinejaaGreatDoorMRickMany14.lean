/- Texts of this claim, laid together. No conditions. -/
import Derived.Test.YtnhkikebfinejaaGreatDoorMRickMany13
import Derived.Test.YtnhkikebfinejaaGreatDoorMRickMany5
import Derived.Test.YtnhkikebfinejaaGreatDoorMRickMany12
import Derived.Test.YtnhkikebfinejaaGreatDoorMRickMany6
set_option linter.unusedVariables false
set_option linter.unusedSimpArgs false
set_option maxRecDepth 100000
set_option maxHeartbeats 16000000
namespace Go.Proofs.YtnhkikebfinejaaGreatDoor.Z
open Go Go.RowKit Go.Proofs.YtnhkikebfinejaaGreatDoorW.PrintWords Go.Proofs.YtnhkikebfinejaaGreatDoorW.PrintLast Go.Proofs.YtnhkikebfinejaaGreatDoorW.PrintMore Go.Proofs.YtnhkikebfinejaaGreatDoor.S Go.Proofs.YtnhkikebfinejaaGreatDoor.X
section
attribute [local go_sem ↓] Go.wp_at_zero Go.wp_at_succ
theorem pageread_calls {w:World} {d N nw:Nat} {O:Nat→Prop} {f:Nat→List Int} (h:Disk w d O N nw f) (addr:Nat) (kind gen:Int) (body:List Int) (hB:gath f (4*addr) 4=pageB kind (addr:Int) gen body) (hb:Bs body) (hk:kind=83∨kind=76∨kind=73∨kind=66) (hN:addr<N) (h2:body.length≤238) (hg:0≤gen∧gen<18446744073709551616) :
  Calls Tryz.prog 77 #[tabV crcTab,.pointer (some ⟨d,0,none⟩),.int .i64 (addr:Int),.int .u8 kind] w fun e w'=>∃ A' c',e = .returned (.tuple #[pageV kind (addr:Int) gen A' body.length c',.int .i64 0])∧Kd.R (Kd.int .u8) 5 w' w.heap.size (fun _=>True) (.slice A' body.length c') body∧Below w.heap.size w w':=by
 have hN5:N≤512:=by obtain ⟨a,wv,img,ps,hk,_⟩:=h;exact hk.hN.2
 have hl256:(gath f (4*addr) 4).length=256:=gath_len h.flen 4 (by omega)
 obtain ⟨T,hT⟩:∃ T,(nums .u32 crcTab).toArray=T:=⟨_,rfl⟩
 obtain ⟨X1,hX1⟩:∃ X,Obj.cells T 74=X:=⟨_,rfl⟩
 have HRR:Aside0 (∀ W,Below w.heap.size w W→Calls Tryz.prog 123 #[.pointer (some ⟨d,0,none⟩),.int .i64 (addr:Int),.int .i64 256] W fun e w'=>∃ A,e = .returned (.tuple #[.slice A 256 256,.int .i64 0])∧Kd.C (Kd.int .u8) w' A (pageB kind (addr:Int) gen body).length (pageB kind (addr:Int) gen body)∧Below W.heap.size W w'):=⟨fun W hW=>by
  have h1:=readraw_calls (h.below hW) addr 256 4 (by decide) (by decide) (by decide) (by omega)
  rwa [List.take_of_length_le (by omega),hB] at h1⟩
 have HGG:Aside0 (∀ W A,Kd.C (Kd.int .u8) W A (pageB kind (addr:Int) gen body).length (pageB kind (addr:Int) gen body)→Calls Tryz.prog 124 #[.agg T,.slice A 256 256] W fun e w'=>∃ A' c',e = .returned (.tuple #[Value.agg #[.int .u8 kind,.int .i64 (addr:Int),.int .u64 gen,.slice A' body.length c'],.int .i64 0])∧Kd.R (Kd.int .u8) 5 w' W.heap.size (fun _=>True) (.slice A' body.length c') body∧Below W.heap.size W w'):=⟨fun W A hc=>by
  have h1:=pageget_calls kind (addr:Int) gen A 256 body _ rfl hc (Nat.le_refl _) hb hk (by omega) (by omega) h2 hg
  unfold tabV pageV at h1
  rwa [hT] at h1⟩
 unfold tabV pageV
 rw [hT]
 have HT:=Aside0.mk hT
 clear hT hB hk hg h hl256
 go_enter Tryz.func77,Tryz.ntmps77
 go_wp2_with (go_at_call 123;refine hold ?_)
 unfold Hold
 obtain ⟨W0,hW0⟩:∃ W,(w.alloc X1).alloc (Obj.cells #[.int .u8 0,.int .i64 0,.int .u64 0,.slice none 0 0] 154)=W:=⟨_,rfl⟩
 have hs0:W0.heap.size=w.heap.size+1+1:=by rw [← hW0];simp
 have HP:Aside0 (W0.heap[w.heap.size+1]?=some (Obj.cells #[.int .u8 0,.int .i64 0,.int .u64 0,.slice none 0 0] 154)):=⟨by rw [← hW0];have:=blk_new (w.alloc X1) (Obj.cells #[.int .u8 0,.int .i64 0,.int .u64 0,.slice none 0 0] 154);rwa [show (w.alloc X1).heap.size=w.heap.size+1 by simp] at this⟩
 have HX:Aside0 (W0.heap[w.heap.size]?=some X1):=⟨by rw [← hW0];exact blk_alloc (blk_new _ _) _⟩
 have HB0:Aside0 (Below w.heap.size w W0):=⟨by rw [← hW0];exact below_alloc (below_alloc (Below.refl _ _) _) _⟩
 simp only [hW0]
 clear hW0
 (with_reducible refine (HRR.out _ HB0.out).mono ?_)
 rintro e w1 ⟨A1,rfl,hc,hb1⟩
 have HC1:=Aside0.mk hc
 have HB1:=Aside0.mk hb1
 have HX1:=Aside0.mk (blk_by hb1 HX.out)
 have HP1:=Aside0.mk (blk_by hb1 HP.out)
 clear hc hb1
 rw [← hX1] at HX1
 have HSZ:Aside0 ((Tryz.prog.info? 74).map (·.size)=some T.size):=⟨by rw [← HT.out,size_tab];simp [nums,crcTab_len]⟩
 go_wp2
 refine wp_load_row 74 (.tmp 4) rfl w.heap.size rfl 74 T (0,0) _ HX1.out Tryz.underlying74 rfl HSZ.out ?_
 go_wp2_with (go_at_call 124;refine hold ?_)
 unfold Hold
 (with_reducible refine (HGG.out _ _ HC1.out).mono ?_)
 rintro e w2 ⟨A2,c2,rfl,ho,hb2⟩
 have HO2:=Aside0.mk ho
 have HB2:=Aside0.mk hb2
 have hy:=blk_by hb2 HP1.out
 have HY:Aside0 ((w2.alloc (Obj.cells #[.int .u8 kind,.int .i64 (addr:Int),.int .u64 gen,.slice A2 body.length c2] 154)).heap[w.heap.size+1]?=some (Obj.cells #[.int .u8 0,.int .i64 0,.int .u64 0,.slice none 0 0] 154)):=⟨blk_alloc hy _⟩
 have o0:=blk_cell HY.out 0
 have o1:=blk_cell HY.out 1
 have o2:=blk_cell HY.out 2
 have o3:=blk_cell HY.out 3
 have f0:=blk_frozen HY.out 0
 have f1:=blk_frozen HY.out 1
 have f2:=blk_frozen HY.out 2
 have f3:=blk_frozen HY.out 3
 simp only [List.getElem?_toArray,List.getElem?_cons_zero,List.getElem?_cons_succ] at o0 o1 o2 o3
 clear ho hb2 hy
 have d4:decide (¬ (addr:Int)=(addr:Int))=false:=by simp
 go_wp2
 have hfin:=page_stored (w:=w2.alloc (Obj.cells #[.int .u8 kind,.int .i64 (addr:Int),.int .u64 gen,.slice A2 body.length c2] 154)) (W0:=w) (base:=w.heap.size) (g:=w.heap.size+1) (.int .u8 kind) (.int .i64 (addr:Int)) (.int .u64 gen) (.slice A2 body.length c2) HY.out (below_alloc (below_step (below_step HB0.out HB1.out) HB2.out) _) (by omega) (Kd.R_alloc (Kd.R_lower HO2.out (by have:=HB1.out.size;have:=HB0.out.size;omega)) _)
 refine bodyPost_ret (results_ct rfl _ _ (w.heap.size+1) 154 #[.int .u8 kind,.int .i64 (addr:Int),.int .u64 gen,.slice A2 body.length c2] (0,0) _ rfl hfin.1 Tryz.underlying154 rfl (by kernel_rfl)) rfl ?_
 exact ⟨A2,c2,rfl,hfin.2.2,hfin.2.1⟩
end
section
attribute [local go_sem ↓] Go.wp_at_zero Go.wp_at_succ loadKey_eq loadEn_eq storeKey_eq storeEn_eq loadNd_eq storeNd_eq loadMap_eq storeMap_eq loadTab_eq
theorem R_by {w:World} {base:Nat} {ok:Nat→Prop} {A:Option Addr} {n c:Nat} {xs:List Int} (h:(Kd.int .u8).R 5 w base ok (.slice A n c) xs) (hm:xs.length≤1000000):RBy w A xs:=
 R_rw (enc:=byC) (sz:=1) (hl:=fun _=>rfl) (h1:=fun x u hu=>by rcases List.mem_singleton.1 hu with rfl;rfl) h hm
def kindN (nd:Nd):Int:=if nd.lf then 76 else 73
def storePgI (p v:Value):Sem Unit:=Instr.storeAt 154 p v
theorem storePg_eq (p v:Value):Instr.storeAt 154 p v=storePgI p v:=rfl
attribute [local go_sem ↓] storePg_eq
theorem pg_size [Inhabited Sanct]:(Tryz.prog.info? 154).map (·.size)=some 4:=by kernel_rfl
def zPg:Array Value:=#[.int .u8 0,.int .i64 0,.int .u64 0,.slice none 0 0]
def PgAt (W:World) (g:Nat) (v:Array Value):Prop:=W.heap[g]?=some (Obj.cells v 154)
theorem st_pg [Inhabited Sanct] {g:Nat} {cs ds:Array Value} (hs:cs.size=4) (hd:ds.size=4) (h1:ds.all (·.oneCell')=true):∀ W:World,PgAt W g cs→(storePgI (.pointer (some ⟨g,0,none⟩)) (.agg ds)).run Tryz.prog W = .ok () (W.setRow g ds):=fun W h=>by
 have:=run_storeVar_row (P:=Tryz.prog) W g 154 154 cs ds h (by rw [hd];exact pg_size) (by rw [hs,hd]) h1
 simp only [storePgI,Instr.storeAt,Instr.sureAddr,Sem.run_bind,Sem.run_pure,Result.andThen_ok]
 exact this
theorem nvA_one (x:NV):(nvA x).all (·.oneCell')=true:=Array.all_eq_true_iff_forall_mem.2 (fun v hv=>nv_one x v (by simpa [nvA] using hv))
theorem pg_cell {g:Nat} {x0 x1 x2 x3:Value}:∀ W:World,PgAt W g #[x0,x1,x2,x3]→W.cell? ⟨g,3,none⟩=some x3:=fun W h=>by rw [blk_cell h 3];rfl
structure PgSt (w W:World) (v d N gen:Nat) (m o:List Bool) (gP:Nat) (P:Array Value):Prop where
 p:PgAt W gP P
 v:ViewAt W v d N gen m o
 z:NbAt W w.heap.size zNd
 b:Below w.heap.size w W
 n:w.heap.size<gP
theorem PgSt.set [Inhabited Sanct] {w W:World} {v d N gen:Nat} {m o:List Bool} {gP:Nat} {P:Array Value} (h:PgSt w W v d N gen m o gP P) (hv:v<w.heap.size) (Q:Array Value):PgSt w (W.setRow gP Q) v d N gen m o gP Q:=
 ⟨setRow_heap _ _ _ _ _ _ h.p,(setRow_other W gP v Q (by have:=h.n;omega)).trans h.v,(setRow_other W gP _ Q (by have:=h.n;omega)).trans h.z,h.b.trans ⟨rfl,rfl,rfl,by simp [World.setRow],fun k hk=>setRow_other _ _ _ _ (by have:=h.n;omega)⟩,h.n⟩
theorem vnode_calls [Inhabited Sanct] {w:World} {v d N gen nw:Nat} {m o:List Bool} {f:Nat→List Int} (hV:ViewAt w v d N gen m o) (hD:DT w d N nw f) {nd:Nd} (hok:NdOk nd) (a:Nat) (haN:a<N) (hp:PageAt f a (kindN nd) (ndB nd)) :
  Calls Tryz.prog 206 #[.pointer (some ⟨v,0,none⟩),.int .i64 (a:Int),.bool nd.lf] w fun r w'=>∃ x,r = .returned (.tuple #[.agg (nvA x),.int .i64 0])∧NdR w' w.heap.size (nvA x) nd∧Below w.heap.size w w':=by
 obtain ⟨g,hg0,hg1,hpg⟩:=hp
 obtain ⟨B,hB⟩:∃ B,ndB nd=B:=⟨_,rfl⟩
 have hBl:=ndB_len hok
 have hBb:=ndB_bs hok
 have HRD:Aside0 (∀ W,Below w.heap.size w W→Calls Tryz.prog 77 #[.agg tabA,.pointer (some ⟨d,0,none⟩),.int .i64 (a:Int),.int .u8 (kindN nd)] W fun e w'=>∃ A' c',e = .returned (.tuple #[.agg #[.int .u8 (kindN nd),.int .i64 (a:Int),.int .u64 g,.slice A' B.length c'],.int .i64 0])∧Kd.R (Kd.int .u8) 5 w' W.heap.size (fun _=>True) (.slice A' B.length c') B∧Below W.heap.size W w'):=⟨fun W hW=>by
  rw [← hB]
  obtain ⟨O,hd,_⟩:=hD.below hW
  exact pageread_calls hd a (kindN nd) g (ndB nd) hpg hBb (by unfold kindN;cases nd.lf<;>simp) haN hBl.1 ⟨hg0,hg1⟩⟩
 have HSB:=Aside0.mk hD.sb
 have HGT:Aside0 (∀ W A c,sB≤W.heap.size→RBy W A B→B.length≤c→Calls Tryz.prog 133 #[.bool nd.lf,.slice A B.length c] W fun r w'=>∃ x:NV,r = .returned (.tuple #[.agg (nvA x),.int .i64 0])∧NdR w' W.heap.size (nvA x) nd∧Below W.heap.size W w'):=⟨fun W A c hsB hb hc=>by
  rw [← hB] at hb hc ⊢
  refine (nget_calls hok hb hc).mono ?_
  rintro r w' ⟨v',rfl,hr,hb⟩
  obtain ⟨x,rfl,_⟩:=hr.nv
  exact ⟨x,rfl,hr,hb⟩⟩
 obtain ⟨n,hn⟩:∃ n,B.length=n:=⟨_,rfl⟩
 have HN:Aside0 (B.length=n∧n≤238):=⟨hn,by rw [← hn,← hB];exact hBl.1⟩
 rw [hn] at HRD HGT
 obtain ⟨W0,hW0⟩:∃ W,w.alloc (Obj.cells #[.bool false,.slice none 0 0,.slice none 0 0,.slice none 0 0] 175)=W:=⟨_,rfl⟩
 have HV:Aside0 (ViewAt W0 v d N gen m o):=⟨by rw [← hW0];exact blk_alloc hV _⟩
 have HZ:Aside0 (NbAt W0 w.heap.size zNd):=⟨by rw [← hW0];exact nb_new _ rfl⟩
 have HB:Aside0 (Below w.heap.size w W0):=⟨by rw [← hW0];exact below_alloc (Below.refl _ _) _⟩
 have hu74:Tryz.prog.underlying 74=some (.array 256 71):=Tryz.underlying74
 have hs74:=tab_size
 have hcd:=cellv_d (v:=v) (d:=d) (N:=N) (gen:=gen) (m:=m) (o:=o)
 have HSZ:Aside0 (w.heap.size<W0.heap.size∧v<w.heap.size):=⟨by rw [← hW0];simp,blk_lt hV⟩
 clear hV hD hpg hB hBl hBb hn haN hg0 hg1
 obtain ⟨lf,es,ks,ts⟩:=nd
 unfold kindN at HRD
 simp only at HRD HGT ⊢
 clear hok
 cases lf with
 | true=>
  simp only [if_true] at HRD
  go_enter Tryz.func206,Tryz.ntmps206
  go_wp2
  clear hW0
  have hv1:ViewAt W0.drew v d N gen m o:=HV.out
  have hr1:=rangev_tab hv1
  have hb1:Below w.heap.size w W0.drew:=below_drew HB.out
  have hz1:NbAt W0.drew w.heap.size zNd:=HZ.out
  have hs1:w.heap.size<W0.drew.heap.size:=HSZ.out.1
  have hvA:ViewAt (W0.alloc (Obj.cells #[.int .u8 0,.int .i64 0,.int .u64 0,.slice none 0 0] 154)).drew v d N gen m o:=blk_alloc hv1 _
  have hrA:=rangev_tab hvA
  have hbA:Below w.heap.size w (W0.alloc (Obj.cells #[.int .u8 0,.int .i64 0,.int .u64 0,.slice none 0 0] 154)).drew:=below_drew (below_alloc HB.out _)
  have hpA:PgAt (W0.alloc (Obj.cells #[.int .u8 0,.int .i64 0,.int .u64 0,.slice none 0 0] 154)).drew W0.heap.size zPg:=newb (w:=W0) rfl
  have hzA:NbAt (W0.alloc (Obj.cells #[.int .u8 0,.int .i64 0,.int .u64 0,.slice none 0 0] 154)).drew w.heap.size zNd:=blk_alloc hz1 _
  go_region_held3 (fun w'=>w'.rangeAt v 0 tabA.toList∧ViewAt w' v d N gen m o) (first | exact ⟨hr1,hv1⟩ | exact ⟨hrA,hvA⟩ | exact ⟨hr2,hv2⟩ | exact ⟨hr3,hv3⟩ | exact ⟨hr4,hv4⟩)
   (first
    | (go_at_call 77;(with_reducible refine (HRD.out _ hb1).mono ?_);rintro e w2 ⟨A2,c2,rfl,ho2,hb2⟩;have hv2:ViewAt w2 v d N gen m o:=blkb hb2 hv1;have hr2:=rangev_tab hv2;have hst3:PgSt w (w2.alloc (Obj.cells #[.int .u8 0,.int .i64 0,.int .u64 0,.slice none 0 0] 154)) v d N gen m o w2.heap.size zPg:=(⟨newb rfl,blk_alloc hv2 _,blk_alloc (blkb hb2 hz1) _,below_alloc (below_step hb1 hb2) _,by have:=hb2.size;omega⟩);have hv3:=hst3.v;have hr3:=rangev_tab hv3;have ho3:=Kd.R_alloc ho2 (Obj.cells #[.int .u8 0,.int .i64 0,.int .u64 0,.slice none 0 0] 154);have hst4:=hst3.set HSZ.out.2 #[.int .u8 76,.int .i64 (a:Int),.int .u64 g,.slice A2 n c2];have hv4:=hst4.v;have hr4:=rangev_tab hv4;have hsp:=st_pg (ds:=#[.int .u8 76,.int .i64 (a:Int),.int .u64 g,.slice A2 n c2]) rfl rfl (by simp [Value.oneCell']) _ hst3.p)
    | (go_at_call 77;(with_reducible refine (HRD.out _ hbA).mono ?_);rintro e w2 ⟨A2,c2,rfl,ho2,hb2⟩;have hst3:PgSt w w2 v d N gen m o W0.heap.size zPg:=(⟨blkb hb2 hpA,blkb hb2 hvA,blkb hb2 hzA,below_step hbA hb2,by have:=HSZ.out.1;omega⟩);have hv2:=hst3.v;have hr2:=rangev_tab hv2;have ho3:=ho2;have hst4:=hst3.set HSZ.out.2 #[.int .u8 76,.int .i64 (a:Int),.int .u64 g,.slice A2 n c2];have hv4:=hst4.v;have hr4:=rangev_tab hv4;have hsp:=st_pg (ds:=#[.int .u8 76,.int .i64 (a:Int),.int .u64 g,.slice A2 n c2]) rfl rfl (by simp [Value.oneCell']) _ hst3.p))
  all_goals
   have HS4:=Aside0.mk hst4
   have HBY:=Aside0.mk (R_by (R_frT ho3 ((FrT.refl [154] _).setRow hst3.p (by decide) #[.int .u8 76,.int .i64 (a:Int),.int .u64 g,.slice A2 n c2]) (by decide)) (by have:=HN.out;omega))
   have HCC:=Aside0.mk (Kd.R_reads' ho2).2.1
   have hc:=pg_cell _ hst4.p
   clear hst4 hst3 ho3 ho2 hb2 hv2 hr2 hv4 hr4 hsp hv1 hr1 hb1 hz1 hs1 hvA hrA hbA hpA hzA
   try clear hv3 hr3
   go_wp2_with (go_at_call 133;(with_reducible refine (HGT.out _ A2 c2 (Nat.le_trans HSB.out HS4.out.b.size) HBY.out (by have:=HCC.out;have:=HN.out;omega)).mono ?_);rintro r w6 ⟨x,rfl,hr,hb⟩;have HZ6:=Aside0.mk (HS4.out.z.below hb);have HB6:=Aside0.mk (below_step HS4.out.b hb);have hst:=st_nd_at (ds:=nvA x) HZ6.out rfl rfl (nvA_one x);have HR6:=Aside0.mk (hr.lower (below_size HS4.out.b));clear hr hb)
   refine bodyPost_ret (results_ct rfl _ _ w.heap.size 175 (nvA x) (0,0) _ rfl (setRow_heap _ _ _ _ _ _ HZ6.out) Tryz.underlying175 rfl nd_size) rfl ?_
   exact ⟨x,rfl,HR6.out.frT ((FrT.refl [175] _).setRow HZ6.out (by decide) _) (by decide) (by decide) (by decide),HB6.out.trans ⟨rfl,rfl,rfl,by simp [World.setRow],fun k hk=>setRow_other _ _ _ _ (by omega)⟩⟩
 | false=>
  simp only [Bool.false_eq_true,if_false] at HRD
  go_enter Tryz.func206,Tryz.ntmps206
  go_wp2
  clear hW0
  have hv1:ViewAt W0.drew v d N gen m o:=HV.out
  have hr1:=rangev_tab hv1
  have hb1:Below w.heap.size w W0.drew:=below_drew HB.out
  have hz1:NbAt W0.drew w.heap.size zNd:=HZ.out
  have hs1:w.heap.size<W0.drew.heap.size:=HSZ.out.1
  have hvA:ViewAt (W0.alloc (Obj.cells #[.int .u8 0,.int .i64 0,.int .u64 0,.slice none 0 0] 154)).drew v d N gen m o:=blk_alloc hv1 _
  have hrA:=rangev_tab hvA
  have hbA:Below w.heap.size w (W0.alloc (Obj.cells #[.int .u8 0,.int .i64 0,.int .u64 0,.slice none 0 0] 154)).drew:=below_drew (below_alloc HB.out _)
  have hpA:PgAt (W0.alloc (Obj.cells #[.int .u8 0,.int .i64 0,.int .u64 0,.slice none 0 0] 154)).drew W0.heap.size zPg:=newb (w:=W0) rfl
  have hzA:NbAt (W0.alloc (Obj.cells #[.int .u8 0,.int .i64 0,.int .u64 0,.slice none 0 0] 154)).drew w.heap.size zNd:=blk_alloc hz1 _
  go_region_held3 (fun w'=>w'.rangeAt v 0 tabA.toList∧ViewAt w' v d N gen m o) (first | exact ⟨hr1,hv1⟩ | exact ⟨hrA,hvA⟩ | exact ⟨hr2,hv2⟩ | exact ⟨hr3,hv3⟩ | exact ⟨hr4,hv4⟩)
   (first
    | (go_at_call 77;(with_reducible refine (HRD.out _ hb1).mono ?_);rintro e w2 ⟨A2,c2,rfl,ho2,hb2⟩;have hv2:ViewAt w2 v d N gen m o:=blkb hb2 hv1;have hr2:=rangev_tab hv2;have hst3:PgSt w (w2.alloc (Obj.cells #[.int .u8 0,.int .i64 0,.int .u64 0,.slice none 0 0] 154)) v d N gen m o w2.heap.size zPg:=(⟨newb rfl,blk_alloc hv2 _,blk_alloc (blkb hb2 hz1) _,below_alloc (below_step hb1 hb2) _,by have:=hb2.size;omega⟩);have hv3:=hst3.v;have hr3:=rangev_tab hv3;have ho3:=Kd.R_alloc ho2 (Obj.cells #[.int .u8 0,.int .i64 0,.int .u64 0,.slice none 0 0] 154);have hst4:=hst3.set HSZ.out.2 #[.int .u8 73,.int .i64 (a:Int),.int .u64 g,.slice A2 n c2];have hv4:=hst4.v;have hr4:=rangev_tab hv4;have hsp:=st_pg (ds:=#[.int .u8 73,.int .i64 (a:Int),.int .u64 g,.slice A2 n c2]) rfl rfl (by simp [Value.oneCell']) _ hst3.p)
    | (go_at_call 77;(with_reducible refine (HRD.out _ hbA).mono ?_);rintro e w2 ⟨A2,c2,rfl,ho2,hb2⟩;have hst3:PgSt w w2 v d N gen m o W0.heap.size zPg:=(⟨blkb hb2 hpA,blkb hb2 hvA,blkb hb2 hzA,below_step hbA hb2,by have:=HSZ.out.1;omega⟩);have hv2:=hst3.v;have hr2:=rangev_tab hv2;have ho3:=ho2;have hst4:=hst3.set HSZ.out.2 #[.int .u8 73,.int .i64 (a:Int),.int .u64 g,.slice A2 n c2];have hv4:=hst4.v;have hr4:=rangev_tab hv4;have hsp:=st_pg (ds:=#[.int .u8 73,.int .i64 (a:Int),.int .u64 g,.slice A2 n c2]) rfl rfl (by simp [Value.oneCell']) _ hst3.p))
  all_goals
   have HS4:=Aside0.mk hst4
   have HBY:=Aside0.mk (R_by (R_frT ho3 ((FrT.refl [154] _).setRow hst3.p (by decide) #[.int .u8 73,.int .i64 (a:Int),.int .u64 g,.slice A2 n c2]) (by decide)) (by have:=HN.out;omega))
   have HCC:=Aside0.mk (Kd.R_reads' ho2).2.1
   have hc:=pg_cell _ hst4.p
   clear hst4 hst3 ho3 ho2 hb2 hv2 hr2 hv4 hr4 hsp hv1 hr1 hb1 hz1 hs1 hvA hrA hbA hpA hzA
   try clear hv3 hr3
   go_wp2_with (go_at_call 133;(with_reducible refine (HGT.out _ A2 c2 (Nat.le_trans HSB.out HS4.out.b.size) HBY.out (by have:=HCC.out;have:=HN.out;omega)).mono ?_);rintro r w6 ⟨x,rfl,hr,hb⟩;have HZ6:=Aside0.mk (HS4.out.z.below hb);have HB6:=Aside0.mk (below_step HS4.out.b hb);have hst:=st_nd_at (ds:=nvA x) HZ6.out rfl rfl (nvA_one x);have HR6:=Aside0.mk (hr.lower (below_size HS4.out.b));clear hr hb)
   refine bodyPost_ret (results_ct rfl _ _ w.heap.size 175 (nvA x) (0,0) _ rfl (setRow_heap _ _ _ _ _ _ HZ6.out) Tryz.underlying175 rfl nd_size) rfl ?_
   exact ⟨x,rfl,HR6.out.frT ((FrT.refl [175] _).setRow HZ6.out (by decide) _) (by decide) (by decide) (by decide),HB6.out.trans ⟨rfl,rfl,rfl,by simp [World.setRow],fun k hk=>setRow_other _ _ _ _ (by omega)⟩⟩
end
section
attribute [local go_sem ↓] Go.wp_at_zero Go.wp_at_succ
def FreeRun (m o:List Bool) (a n:Nat):Prop:=∀ i,a≤i→i<a+n→m[i]?=some false∧o[i]?=some false
theorem take_calls [Inhabited Sanct] {w:World} {N:Nat} {m o:List Bool} (h:MapOk N m) (k:MapOk N o) (n b:Nat) (hn:1≤n) (hb:b+n≤N) (hf:FreeRun m o b n) :
  Calls Tryz.prog 56 #[.agg (mapA N m),.agg (mapA N o),.int .i64 (n:Int)] w fun e w'=>∃ a:Nat,e = .returned (.tuple #[.agg (mapA N (setN true m a n)),.int .i64 (a:Int),.int .i64 0])∧a+n≤N∧FreeRun m o a n∧Below w.heap.size w w':=by
 obtain ⟨Z0,hZ0⟩:∃ Z,mapA 0 (List.replicate 512 false)=Z:=⟨_,rfl⟩
 obtain ⟨W0,hW0⟩:∃ W,((w.alloc (Obj.cells (mapA N m) 120)).alloc (Obj.cells (mapA N o) 120)).alloc (Obj.cells Z0 120)=W:=⟨_,rfl⟩
 have HX:Aside0 (W0.heap[w.heap.size]?=some (Obj.cells (mapA N m) 120)):=⟨by rw [← hW0];exact blk_alloc (heap_alloc2_old w _ _) _⟩
 have HO:Aside0 (W0.heap[w.heap.size+1]?=some (Obj.cells (mapA N o) 120)):=⟨by rw [← hW0];exact blk_alloc (heap_alloc2_new w _ _) _⟩
 have HY:Aside0 (W0.heap[w.heap.size+1+1]?=some (Obj.cells Z0 120)):=⟨by rw [← hW0];exact newb (by simp)⟩
 have HB:Aside0 (Below w.heap.size w W0):=⟨by rw [← hW0];exact below_alloc (below_alloc (below_alloc (Below.refl _ _) _) _) _⟩
 have HZS:Aside0 (Z0.size=513):=⟨by rw [← hZ0];exact mapA_len _ (by simp)⟩
 have HM:=Aside0.mk h
 have HK:=Aside0.mk k
 have HF:=Aside0.mk hf
 have hz:=zero_map
 rw [hZ0] at hz
 have d1:decide ((n:Int)<1)=false:=decide_eq_false (by omega)
 have hN5:=h.n5
 clear h k hf hZ0
 go_enter Tryz.func56,Tryz.ntmps56
 go_wp2
 clear hW0 hz
 refine wp_load_row 120 (.tmp 3) rfl w.heap.size rfl 120 (mapA N m) (0,0) _ HX.out Tryz.underlying120 rfl (mapA_size N HM.out.len) ?_
 go_wp2
 refine wp_load_row 120 (.tmp 4) rfl (w.heap.size+1) rfl 120 (mapA N o) (0,0) _ HO.out Tryz.underlying120 rfl (mapA_size N HK.out.len) ?_
 go_wp2_with (go_at_call 94;(with_reducible refine (alike_calls HM.out HK.out).mono ?_);rintro e w1 ⟨rfl,hb⟩;have HB1:=Aside0.mk (below_step HB.out hb);have hx:=blkb hb HX.out;have HX1:=Aside0.mk hx;have HO1:=Aside0.mk (blkb hb HO.out);have HY1:=Aside0.mk (blkb hb HY.out);have c0:=blk_cell hx 0;rw [mapA_at0] at c0;clear hb hx)
 clear c0 d1 HB HX HY HO
 go_loopw [9,24] (fun v9 v24 wr=>∃ (r i:Nat) (rr ii:Int),v9 = .int .i64 rr∧v24 = .int .i64 ii∧Aside0 (rr=(r:Int))∧Aside0 (ii=(i:Int))∧Aside0 (r<n∧r≤i∧i<b+n∧(b≤i→i-b≤r)∧FreeRun m o (i-r) r)∧wr=w1) (fun _ v24 _=>((N:Int)-intOf v24).toNat)
 case atStart=>exact ⟨0,0,0,0,rfl,rfl,⟨rfl⟩,⟨rfl⟩,⟨by omega,by omega,by omega,by omega,fun i h1 h2=>by omega⟩,rfl⟩
 case round=>
  obtain ⟨r,i,rr,ii,rfl,rfl,HRR,HI,HR,hwr⟩:=hrel
  obtain rfl:=hwr.symm
  have hri:r<n∧r≤i∧i<b+n:=⟨HR.out.1,HR.out.2.1,HR.out.2.2.1⟩
  have d1:decide (ii<(N:Int))=true:=decide_eq_true (by have:=HI.out;omega)
  have e5:wrap64 (ii+1)=ii+1:=wrap64_id (by have:=HI.out;omega) (by have:=HI.out;omega)
  have d2:(ii<512)=True:=eq_true (by have:=HI.out;omega)
  have d3:(0≤ii)=True:=eq_true (by have:=HI.out;omega)
  have eii:ii.toNat=i:=by have:=HI.out;omega
  obtain ⟨bm,hbm⟩:∃ b,m[i]?=some b:=⟨_,List.getElem?_eq_getElem (by rw [HM.out.len];omega)⟩
  obtain ⟨bo,hbo⟩:∃ b,o[i]?=some b:=⟨_,List.getElem?_eq_getElem (by rw [HK.out.len];omega)⟩
  have c1:=blk_cell HX1.out (1+i)
  have c2:=blk_cell HO1.out (1+i)
  rw [mapA_at hbm] at c1
  rw [mapA_at hbo] at c2
  have HBM:=Aside0.mk hbm
  have HBO:=Aside0.mk hbo
  clear hbm hbo
  cases bm with
  | true=>
   have hnr:¬ b≤i:=fun h=>by have:=(HF.out i h (by omega)).1;rw [HBM.out] at this;cases this
   go_wp2
   go_roundw
   case rel=>exact ⟨0,i+1,0,_,rfl,rfl,⟨rfl⟩,⟨by have:=HI.out;omega⟩,⟨by omega,by omega,by omega,by omega,fun i h1 h2=>by omega⟩,trivial⟩
   case measure=>simp [intOf];have:=HI.out;omega
  | false=>
   cases bo with
   | true=>
    have hnr:¬ b≤i:=fun h=>by have:=(HF.out i h (by omega)).2;rw [HBO.out] at this;cases this
    go_wp2
    go_roundw
    case rel=>exact ⟨0,i+1,0,_,rfl,rfl,⟨rfl⟩,⟨by have:=HI.out;omega⟩,⟨by omega,by omega,by omega,by omega,fun i h1 h2=>by omega⟩,trivial⟩
    case measure=>simp [intOf];have:=HI.out;omega
   | false=>
    have hfr:FreeRun m o (i-r) (r+1):=fun j h1 h2=>by
     by_cases e:j=i
     ·subst e;exact ⟨HBM.out,HBO.out⟩
     ·exact HR.out.2.2.2.2 j h1 (by omega)
    have HFR:=Aside0.mk hfr
    have e6:wrap64 (rr+1)=rr+1:=wrap64_id (by have:=HRR.out;omega) (by have:=HRR.out;omega)
    clear hfr
    by_cases hfin:r+1=n
    ·have d4:(rr+1 == (n:Int))=true:=beq_iff_eq.mpr (by have:=HRR.out;omega)
     have e7:wrap64 (ii+1-(n:Int))=ii+1-(n:Int):=wrap64_id (by have:=HI.out;omega) (by have:=HI.out;omega)
     go_wp2
     have HA:Aside0 (i-r+n=i+1∧i-r+n≤N):=⟨by omega⟩
     have HIA:Aside0 (ii+1-(n:Int)=((i-r:Nat):Int)):=⟨by have:=HI.out;omega⟩
     have HBB:Aside0 (b+n≤N):=⟨hb⟩
     obtain ⟨a,ha⟩:∃ a,i-r=a:=⟨_,rfl⟩
     rw [ha] at HFR HA HIA
     obtain ⟨aa,haa⟩:∃ aa,ii+1-(n:Int)=aa:=⟨_,rfl⟩
     rw [haa] at HIA ⊢
     have haN:aa=(a:Int):=HIA.out
     have HAA:=Aside0.mk haN
     have HRN:=Aside0.mk hfin
     have HX2:Aside0 (w1.heap[w.heap.size]?=some (Obj.cells (mapA N (setN true m a 0)) 120)):=HX1
     have hanN:(a:Int)+n≤512:=by have:=HA.out;omega
     clear c1 c2 e5 e6 e7 d1 d2 d3 d4 eii ha haa haN hfin HO1
     go_loopw [12] (fun v12 wr=>∃ (k:Nat) (kk:Int),v12 = .int .i64 kk∧Aside0 (kk=(a:Int)+(k:Int))∧Aside0 (k≤n)∧Aside0 (wr.heap[w.heap.size]?=some (Obj.cells (mapA N (setN true m a k)) 120))∧Aside0 (wr.heap[w.heap.size+1+1]?=some (Obj.cells Z0 120))∧Aside0 (Below w.heap.size w wr)) (fun v12 _=>((a:Int)+(n:Int)-intOf v12).toNat)
     case atStart=>exact ⟨0,_,rfl,⟨by rw [HAA.out];simp⟩,⟨Nat.zero_le _⟩,HX2,HY1,HB1⟩
     case round=>
      clear HX2 HX1 HY1 HB1
      obtain ⟨k,kk,rfl,HKK,HKL,HX,HY,HB⟩:=hrel
      have e5:wrap64 (kk+1)=kk+1:=wrap64_id (by have:=HKK.out;omega) (by have:=HKK.out;have:=HKL.out;omega)
      by_cases hlt:k<n
      ·have d1:decide (kk≤ii)=true:=decide_eq_true (by have:=HKK.out;have:=HI.out;have:=HA.out;omega)
       have d2:(kk<512)=True:=eq_true (by have:=HKK.out;omega)
       have d3:(0≤kk)=True:=eq_true (by have:=HKK.out;omega)
       have eii:kk.toNat=a+k:=by have:=HKK.out;omega
       have hlen:a+k<m.length:=by rw [HM.out.len];omega
       have hget:(setN true m a k)[a+k]?=some false:=by rw [setN_get _ _ _ _ _ hlen,if_neg (by omega)];exact (HFR.out _ (by omega) (by have:=HRN.out;omega)).1
       have c1:=blk_cell HX.out (1+(a+k))
       have f1:=blk_frozen HX.out (1+(a+k))
       rw [mapA_at hget] at c1
       have hset:=blk_set HX.out (1+(a+k)) (.bool true)
       rw [mapA_set] at hset
       have HSET:=Aside0.mk hset
       clear hset hget
       go_wp2
       exact ⟨⟨k+1,_,rfl,⟨by have:=HKK.out;omega⟩,⟨by omega⟩,HSET,⟨blk_far HY.out (p:=⟨w.heap.size,1+(a+k),none⟩) (by simp;omega) _⟩,⟨HB.out.setCell (p:=⟨w.heap.size,1+(a+k),none⟩) (Nat.le_refl _) _⟩⟩,by simp [intOf];have:=HKK.out;omega⟩
      ·obtain rfl:k=n:=by have:=HKL.out;omega
       have d1:decide (kk≤ii)=false:=decide_eq_false (by have:=HKK.out;have:=HI.out;have:=HA.out;omega)
       have hsz:(mapA N (setN true m a k)).size=513:=mapA_len N (by rw [setN_len,HM.out.len])
       have hst:=run_storeA (P:=Tryz.prog) wr (w.heap.size+1+1) 120 Z0 (mapA N (setN true m a k)) HY.out (by rw [HZS.out,hsz]) (map_one _ _)
       go_wp2
       refine wp_load_row 120 (.tmp 3) rfl w.heap.size rfl 120 (mapA N (setN true m a k)) (0,0) _ HX.out Tryz.underlying120 rfl (mapA_size N (by rw [setN_len,HM.out.len])) ?_
       go_wp2
       refine bodyPost_ret (results_ctt rfl _ _ (w.heap.size+1+1) 120 (mapA N (setN true m a k)) (0,0) _ rfl (setRow_heap _ _ _ _ _ _ HY.out) Tryz.underlying120 rfl (mapA_size N (by rw [setN_len,HM.out.len]))) rfl ?_
       exact ⟨a,by rw [← HAA.out];rfl,HA.out.2,by have:=HFR.out;rwa [HRN.out] at this,below_setRow HB.out (by omega) _⟩
    ·have d4:(rr+1 == (n:Int))=false:=beq_eq_false_iff_ne.mpr (by have:=HRR.out;omega)
     go_wp2
     go_roundw
     case rel=>exact ⟨r+1,i+1,_,_,rfl,rfl,⟨by have:=HRR.out;omega⟩,⟨by have:=HI.out;omega⟩,⟨by omega,by omega,by have:=HR.out.2.2.2.1;omega,by have:=HR.out.2.2.2.1;omega,by rw [show i+1-(r+1)=i-r by omega];exact HFR.out⟩,trivial⟩
     case measure=>simp [intOf];have:=HI.out;omega
end
section
attribute [local go_sem ↓] Go.wp_at_zero Go.wp_at_succ loadKey_eq loadEn_eq storeKey_eq storeEn_eq loadNd_eq storeNd_eq loadMap_eq storeMap_eq loadTab_eq storePg_eq
def vT:List Nat:=246 :: dT
structure MpSt (w W:World) (v d N gen:Nat) (m o:List Bool) (gP:Nat) (P:Array Value) (x:Array Value):Prop where
 p:W.heap[gP]?=some (Obj.cells P 120)
 v:ViewAt W v d N gen m o
 z:NbAt W w.heap.size x
 b:Below w.heap.size w W
 n:w.heap.size<gP
theorem MpSt.set [Inhabited Sanct] {w W:World} {v d N gen:Nat} {m o:List Bool} {gP:Nat} {P x:Array Value} (h:MpSt w W v d N gen m o gP P x) (hv:v<w.heap.size) (Q:Array Value):MpSt w (W.setRow gP Q) v d N gen m o gP Q x:=
 ⟨setRow_heap _ _ _ _ _ _ h.p,(setRow_other W gP v Q (by have:=h.n;omega)).trans h.v,(setRow_other W gP _ Q (by have:=h.n;omega)).trans h.z,h.b.trans ⟨rfl,rfl,rfl,by simp [World.setRow],fun k hk=>setRow_other _ _ _ _ (by have:=h.n;omega)⟩,h.n⟩
theorem MpSt.store [Inhabited Sanct] {w W:World} {v d N gen:Nat} {m M2 o:List Bool} {gP:Nat} {x:Array Value} (h:MpSt w W v d N gen m o gP (mapA N M2) x) (hm:m.length=512) (h2:M2.length=512) (ho:o.length=512) (gv:sB≤v:=by assumption):∃ W5,(storeMapI (.pointer (some ⟨v,258,none⟩)) (.agg (mapA N M2))).run Tryz.prog W = .ok () W5∧ViewAt W5 v d N gen M2 o∧FrT [246] W W5:=
 ⟨_,stv_m hm h2 ho W h.v,setRow_heap _ _ _ _ _ _ h.v,(FrT.refl _ _).setRow h.v (by simp) _⟩
theorem vwrite_calls [Inhabited Sanct] {w:World} {v d N gen nw:Nat} {m o:List Bool} {f:Nat→List Int} (hV:ViewAt w v d N gen m o) (hD:DT w d N nw f) (hm:MapOk N m) (ho:MapOk N o) (hgen:gen<1000000) (hnw:nw+2048<1000000) {x:Array Value} {nd:Nd} (hx:NdV w x nd) (hok:NdOk nd) (b:Nat) (hb:b+1≤N) (hf:FreeRun m o b 1) (gv:sB≤v:=by assumption) :
  Calls Tryz.prog 237 #[.pointer (some ⟨v,0,none⟩),.agg x] w fun r w'=>∃ (a:Nat) (f':Nat→List Int),r = .returned (.tuple #[.int .i64 (a:Int),.int .i64 0])∧a+1≤N∧FreeRun m o a 1∧ViewAt w' v d N gen (setN true m a 1) o∧DT w' d N (nw+4) f'∧Wrote f f' a (kindN nd) (ndB nd)∧FrT vT w w':=by
 have hsB:=hD.sb
 obtain ⟨Z0,hZ0⟩:∃ Z,mapA 0 (List.replicate 512 false)=Z:=⟨_,rfl⟩
 have hsz:Z0.size=513:=by rw [← hZ0];exact mapA_len _ (by rw [List.length_replicate])
 have hz:=zero_map
 rw [hZ0] at hz
 obtain ⟨B,hB⟩:∃ B,ndB nd=B:=⟨_,rfl⟩
 have hBl:=ndB_len hok
 have hBb:=ndB_bs hok
 rw [hB] at hBl hBb
 obtain ⟨n,hn⟩:∃ n,B.length=n:=⟨_,rfl⟩
 have HP:Aside0 (∀ W,Below w.heap.size w W→Calls Tryz.prog 177 #[.agg x] W fun r w'=>∃ v',r = .returned (.tuple #[v',.int .i64 0])∧Kd.R (Kd.int .u8) 5 w' W.heap.size (fun _=>True) v' B∧Below W.heap.size W w'):=⟨fun W hW=>by rw [← hB];exact nput_calls (hx.below hW) hok (Nat.le_trans hsB hW.size)⟩
 have HT:Aside0 (∀ W,Calls Tryz.prog 56 #[.agg (mapA N m),.agg (mapA N o),.int .i64 1] W fun e w'=>∃ a:Nat,e = .returned (.tuple #[.agg (mapA N (setN true m a 1)),.int .i64 (a:Int),.int .i64 0])∧a+1≤N∧FreeRun m o a 1∧Below W.heap.size W w'):=⟨fun W=>take_calls hm ho 1 b (by decide) hb hf⟩
 have HW:Aside0 (∀ W A c (a:Nat),a<N→DT W d N nw f→Kd.C (Kd.int .u8) W A n B→Calls Tryz.prog 95 #[.agg tabA,.pointer (some ⟨d,0,none⟩),.agg #[.int .u8 (kindN nd),.int .i64 (a:Int),.int .u64 (gen:Int),.slice A n c]] W fun e w'=>e = .returned (.int .i64 0)∧FrT dT W w' ∧ ∃ f',DT w' d N (nw+4) f'∧Wrote f f' a (kindN nd) B):=⟨fun W A c a ha hd hC=>pagewrite_calls hd a (kindN nd) (gen:Int) A n c B hn (by rw [hn];exact hC) hBb (by unfold kindN;cases nd.lf<;>simp) ha (by omega) (by omega) hnw⟩
 have hlm:=ldv_m (v:=v) (d:=d) (N:=N) (gen:=gen) (o:=o) hm.len
 have hlo:=ldv_o (v:=v) (d:=d) (N:=N) (gen:=gen) hm.len ho.len
 have hl2:∀ a,(setN true m a 1).length=512:=fun a=>by rw [setN_len,hm.len]
 obtain ⟨A1,c1,A2,c2,A3,c3,rfl,-,-,-,-,-,-⟩:=hx.e
 obtain ⟨lf,es,ks,ts⟩:=nd
 obtain ⟨n1,hn1⟩:∃ n,es.length=n:=⟨_,rfl⟩
 obtain ⟨n2,hn2⟩:∃ n,ks.length=n:=⟨_,rfl⟩
 obtain ⟨n3,hn3⟩:∃ n,ts.length=n:=⟨_,rfl⟩
 simp only at HP ⊢
 rw [hn1,hn2,hn3] at HP ⊢
 rw [hB]
 obtain ⟨W0,hW0⟩:∃ W,w.alloc (Obj.cells #[.bool lf,.slice A1 n1 c1,.slice A2 n2 c2,.slice A3 n3 c3] 175)=W:=⟨_,rfl⟩
 have HV0:Aside0 (ViewAt W0 v d N gen m o):=⟨by rw [← hW0];exact blk_alloc hV _⟩
 have hk0:NbAt W0 w.heap.size #[.bool lf,.slice A1 n1 c1,.slice A2 n2 c2,.slice A3 n3 c3]:=by rw [← hW0];exact nb_new _ rfl
 have HB0:Aside0 (Below w.heap.size w W0):=⟨by rw [← hW0];exact below_alloc (Below.refl _ _) _⟩
 have HSZ:Aside0 (w.heap.size<W0.heap.size∧v<w.heap.size):=⟨by rw [← hW0];simp,blk_lt hV⟩
 have HD:=Aside0.mk hD
 have HN:=Aside0.mk (And.intro hn hBl)
 have HML:=Aside0.mk (And.intro hm.len ho.len)
 have hl:=ld_nd (g:=w.heap.size) (v:=#[.bool lf,.slice A1 n1 c1,.slice A2 n2 c2,.slice A3 n3 c3]) rfl
 have hc:=nb_cell (g:=w.heap.size) (x0:=.bool lf) (x1:=.slice A1 n1 c1) (x2:=.slice A2 n2 c2) (x3:=.slice A3 n3 c3)
 have hu74:Tryz.prog.underlying 74=some (.array 256 71):=Tryz.underlying74
 have hs74:=tab_size
 clear hV hD hB hBl hBb hn hgen hnw hx hok hb hf hn1 hn2 hn3 hZ0 hm ho
 unfold kindN at HW ⊢
 simp only at HW ⊢
 cases lf with
 | true=>
  simp only [if_true] at HW ⊢
  go_enter Tryz.func237,Tryz.ntmps237
  go_wp2_with (go_at_call 177;(with_reducible refine (HP.out _ HB0.out).mono ?_);rintro r w1 ⟨vB,rfl,hoB,hb⟩;refine hold ?_)
  unfold Hold
  clear hW0
  obtain ⟨AB,qB,rfl⟩:=Kd.R_slice hoB
  rw [HN.out.1] at hoB ⊢
  have HOB:=Aside0.mk (Kd.R_lower hoB (below_size HB0.out))
  have hk1:=hk0.below hb
  have HV1:Aside0 (ViewAt w1 v d N gen m o):=⟨blkb hb HV0.out⟩
  have HB1:=Aside0.mk (below_step HB0.out hb)
  have HS1:Aside0 (w.heap.size<w1.heap.size):=⟨by have:=hb.size;have:=HSZ.out.1;omega⟩
  clear hoB hb hk0
  go_wp2
  have hv1:ViewAt w1.drew v d N gen m o:=HV1.out
  have hb1:Below w.heap.size w w1.drew:=below_drew HB1.out
  have hvA:ViewAt (w1.alloc (Obj.cells Z0 120)).drew v d N gen m o:=blk_alloc hv1 _
  have hbA:Below w.heap.size w (w1.alloc (Obj.cells Z0 120)).drew:=below_drew (below_alloc HB1.out _)
  have hkA:NbAt (w1.alloc (Obj.cells Z0 120)).drew w.heap.size #[.bool true,.slice A1 n1 c1,.slice A2 n2 c2,.slice A3 n3 c3]:=blk_alloc hk1 _
  have hpA:(w1.alloc (Obj.cells Z0 120)).drew.heap[w1.heap.size]?=some (Obj.cells Z0 120):=newb (w:=w1) rfl
  go_region_held3 (fun w'=>ViewAt w' v d N gen m o) (first | exact hv1 | exact hvA | exact hv2 | exact hv3 | exact hv4)
   (first
    | (go_at_call 56;(with_reducible refine (HT.out w1.drew).mono ?_);rintro e w2 ⟨a,rfl,ha,hfa,hb2⟩;have hv2:ViewAt w2 v d N gen m o:=blkb hb2 hv1;have hst3:MpSt w (w2.alloc (Obj.cells Z0 120)) v d N gen m o w2.heap.size Z0 #[.bool true,.slice A1 n1 c1,.slice A2 n2 c2,.slice A3 n3 c3]:=(⟨newb rfl,blk_alloc hv2 _,blk_alloc (blkb hb2 hk1) _,below_alloc (below_step hb1 hb2) _,by have:=hb2.size;have:=HS1.out;have:w1.drew.heap.size=w1.heap.size:=rfl;omega⟩);have hv3:=hst3.v;have ho3:=Kd.R_alloc (Kd.R_below (Kd.R_drew HOB.out) hb2) (Obj.cells Z0 120);have hst4:=hst3.set HSZ.out.2 (mapA N (setN true m a 1));have hv4:=hst4.v;have hsp:=st_map (N:=N) (hl2 a) hsz _ hst3.p)
    | (go_at_call 56;(with_reducible refine (HT.out (w1.alloc (Obj.cells Z0 120)).drew).mono ?_);rintro e w2 ⟨a,rfl,ha,hfa,hb2⟩;have hst3:MpSt w w2 v d N gen m o w1.heap.size Z0 #[.bool true,.slice A1 n1 c1,.slice A2 n2 c2,.slice A3 n3 c3]:=(⟨blkb hb2 hpA,blkb hb2 hvA,blkb hb2 hkA,below_step hbA hb2,HS1.out⟩);have hv2:=hst3.v;have ho3:=Kd.R_below (Kd.R_drew (Kd.R_alloc HOB.out (Obj.cells Z0 120))) hb2;have hst4:=hst3.set HSZ.out.2 (mapA N (setN true m a 1));have hv4:=hst4.v;have hsp:=st_map (N:=N) (hl2 a) hsz _ hst3.p))
  all_goals
   have HS4:=Aside0.mk hst4
   have HO4:=Aside0.mk (R_frT ho3 ((FrT.refl [120] _).setRow hst3.p (by decide) (mapA N (setN true m a 1))) (by decide))
   have HA:=Aside0.mk (And.intro ha hfa)
   obtain ⟨M2,hM2⟩:∃ M,setN true m a 1=M:=⟨_,rfl⟩
   have hl5:=hl2 a
   rw [hM2] at hl5 hst4 HS4 HO4 ⊢
   have hlm4:=ld_map (N:=N) hl5 _ hst4.p
   obtain ⟨W5,hst,hv5,hf5⟩:=hst4.store HML.out.1 hl5 HML.out.2
   have HM2:=Aside0.mk hM2
   have HF5:=Aside0.mk hf5
   have HV5:=Aside0.mk hv5
   have hk5:=hst4.z.frT hf5 (by decide)
   have HD5:=Aside0.mk ((HD.out.below hst4.b).frT hf5 (by decide))
   have HO5:=Aside0.mk (R_frT HO4.out hf5 (by decide))
   clear hst3 hst4 ho3 hb2 hv2 hv4 hsp hv1 hb1 hvA hbA hkA hpA ha hfa hf5 hv5 hM2 hl5
   try clear hv3
   go_wp2
   have hv6:ViewAt W5.drew v d N gen M2 o:=HV5.out
   have hr6:=rangev_tab hv6
   have hcd:=cellv_d (v:=v) (d:=d) (N:=N) (gen:=gen) (m:=M2) (o:=o)
   have hcg:=cellv_g (v:=v) (d:=d) (N:=N) (gen:=gen) (m:=M2) (o:=o)
   go_region_held3 (fun w'=>w'.rangeAt v 0 tabA.toList∧ViewAt w' v d N gen M2 o) (first | exact ⟨hr6,hv6⟩ | exact ⟨hr7,hv7⟩)
    ((go_at_call 95;(with_reducible refine (HW.out _ AB qB a (by have:=HA.out.1;omega) (HD5.out.below (below_drew (Below.refl _ _))) (by have:=(Kd.R_reads' (Kd.R_drew HO5.out)).2.2;rwa [HN.out.1] at this)).mono ?_);rintro e w7 ⟨rfl,hf7,f',hd7,hw7⟩;have hv7:ViewAt w7 v d N gen M2 o:=hf7.blk hv6 (by decide);have hr7:=rangev_tab hv7))
   have H7:=Aside0.mk (And.intro hf7 (And.intro hd7 hw7))
   have HV7:=Aside0.mk hv7
   clear hf7 hd7 hw7 hv6 hr6 hv7 hr7 hst hk5 hlm4
   go_wp2
   go_ret2
   refine ⟨a,f',rfl,HA.out.1,HA.out.2,?_,H7.out.2.1,H7.out.2.2,?_⟩
   ·rw [HM2.out];exact HV7.out
   ·refine FrT.trans ?_ (H7.out.1.mono (fun t ht=>List.mem_cons_of_mem _ ht))
    exact ((FrT.of_below HS4.out.b _).trans (HF5.out.mono (fun t ht=>by rcases List.mem_singleton.1 ht with rfl;exact List.mem_cons_self))).drew
 | false=>
  simp only [Bool.false_eq_true,if_false] at HW ⊢
  go_enter Tryz.func237,Tryz.ntmps237
  go_wp2_with (go_at_call 177;(with_reducible refine (HP.out _ HB0.out).mono ?_);rintro r w1 ⟨vB,rfl,hoB,hb⟩;refine hold ?_)
  unfold Hold
  clear hW0
  obtain ⟨AB,qB,rfl⟩:=Kd.R_slice hoB
  rw [HN.out.1] at hoB ⊢
  have HOB:=Aside0.mk (Kd.R_lower hoB (below_size HB0.out))
  have hk1:=hk0.below hb
  have HV1:Aside0 (ViewAt w1 v d N gen m o):=⟨blkb hb HV0.out⟩
  have HB1:=Aside0.mk (below_step HB0.out hb)
  have HS1:Aside0 (w.heap.size<w1.heap.size):=⟨by have:=hb.size;have:=HSZ.out.1;omega⟩
  clear hoB hb hk0
  go_wp2
  have hv1:ViewAt w1.drew v d N gen m o:=HV1.out
  have hb1:Below w.heap.size w w1.drew:=below_drew HB1.out
  have hvA:ViewAt (w1.alloc (Obj.cells Z0 120)).drew v d N gen m o:=blk_alloc hv1 _
  have hbA:Below w.heap.size w (w1.alloc (Obj.cells Z0 120)).drew:=below_drew (below_alloc HB1.out _)
  have hkA:NbAt (w1.alloc (Obj.cells Z0 120)).drew w.heap.size #[.bool false,.slice A1 n1 c1,.slice A2 n2 c2,.slice A3 n3 c3]:=blk_alloc hk1 _
  have hpA:(w1.alloc (Obj.cells Z0 120)).drew.heap[w1.heap.size]?=some (Obj.cells Z0 120):=newb (w:=w1) rfl
  go_region_held3 (fun w'=>ViewAt w' v d N gen m o) (first | exact hv1 | exact hvA | exact hv2 | exact hv3 | exact hv4)
   (first
    | (go_at_call 56;(with_reducible refine (HT.out w1.drew).mono ?_);rintro e w2 ⟨a,rfl,ha,hfa,hb2⟩;have hv2:ViewAt w2 v d N gen m o:=blkb hb2 hv1;have hst3:MpSt w (w2.alloc (Obj.cells Z0 120)) v d N gen m o w2.heap.size Z0 #[.bool false,.slice A1 n1 c1,.slice A2 n2 c2,.slice A3 n3 c3]:=(⟨newb rfl,blk_alloc hv2 _,blk_alloc (blkb hb2 hk1) _,below_alloc (below_step hb1 hb2) _,by have:=hb2.size;have:=HS1.out;have:w1.drew.heap.size=w1.heap.size:=rfl;omega⟩);have hv3:=hst3.v;have ho3:=Kd.R_alloc (Kd.R_below (Kd.R_drew HOB.out) hb2) (Obj.cells Z0 120);have hst4:=hst3.set HSZ.out.2 (mapA N (setN true m a 1));have hv4:=hst4.v;have hsp:=st_map (N:=N) (hl2 a) hsz _ hst3.p)
    | (go_at_call 56;(with_reducible refine (HT.out (w1.alloc (Obj.cells Z0 120)).drew).mono ?_);rintro e w2 ⟨a,rfl,ha,hfa,hb2⟩;have hst3:MpSt w w2 v d N gen m o w1.heap.size Z0 #[.bool false,.slice A1 n1 c1,.slice A2 n2 c2,.slice A3 n3 c3]:=(⟨blkb hb2 hpA,blkb hb2 hvA,blkb hb2 hkA,below_step hbA hb2,HS1.out⟩);have hv2:=hst3.v;have ho3:=Kd.R_below (Kd.R_drew (Kd.R_alloc HOB.out (Obj.cells Z0 120))) hb2;have hst4:=hst3.set HSZ.out.2 (mapA N (setN true m a 1));have hv4:=hst4.v;have hsp:=st_map (N:=N) (hl2 a) hsz _ hst3.p))
  all_goals
   have HS4:=Aside0.mk hst4
   have HO4:=Aside0.mk (R_frT ho3 ((FrT.refl [120] _).setRow hst3.p (by decide) (mapA N (setN true m a 1))) (by decide))
   have HA:=Aside0.mk (And.intro ha hfa)
   obtain ⟨M2,hM2⟩:∃ M,setN true m a 1=M:=⟨_,rfl⟩
   have hl5:=hl2 a
   rw [hM2] at hl5 hst4 HS4 HO4 ⊢
   have hlm4:=ld_map (N:=N) hl5 _ hst4.p
   obtain ⟨W5,hst,hv5,hf5⟩:=hst4.store HML.out.1 hl5 HML.out.2
   have HM2:=Aside0.mk hM2
   have HF5:=Aside0.mk hf5
   have HV5:=Aside0.mk hv5
   have hk5:=hst4.z.frT hf5 (by decide)
   have HD5:=Aside0.mk ((HD.out.below hst4.b).frT hf5 (by decide))
   have HO5:=Aside0.mk (R_frT HO4.out hf5 (by decide))
   clear hst3 hst4 ho3 hb2 hv2 hv4 hsp hv1 hb1 hvA hbA hkA hpA ha hfa hf5 hv5 hM2 hl5
   try clear hv3
   go_wp2
   have hv6:ViewAt W5.drew v d N gen M2 o:=HV5.out
   have hr6:=rangev_tab hv6
   have hcd:=cellv_d (v:=v) (d:=d) (N:=N) (gen:=gen) (m:=M2) (o:=o)
   have hcg:=cellv_g (v:=v) (d:=d) (N:=N) (gen:=gen) (m:=M2) (o:=o)
   go_region_held3 (fun w'=>w'.rangeAt v 0 tabA.toList∧ViewAt w' v d N gen M2 o) (first | exact ⟨hr6,hv6⟩ | exact ⟨hr7,hv7⟩)
    ((go_at_call 95;(with_reducible refine (HW.out _ AB qB a (by have:=HA.out.1;omega) (HD5.out.below (below_drew (Below.refl _ _))) (by have:=(Kd.R_reads' (Kd.R_drew HO5.out)).2.2;rwa [HN.out.1] at this)).mono ?_);rintro e w7 ⟨rfl,hf7,f',hd7,hw7⟩;have hv7:ViewAt w7 v d N gen M2 o:=hf7.blk hv6 (by decide);have hr7:=rangev_tab hv7))
   have H7:=Aside0.mk (And.intro hf7 (And.intro hd7 hw7))
   have HV7:=Aside0.mk hv7
   clear hf7 hd7 hw7 hv6 hr6 hv7 hr7 hst hk5 hlm4
   go_wp2
   go_ret2
   refine ⟨a,f',rfl,HA.out.1,HA.out.2,?_,H7.out.2.1,H7.out.2.2,?_⟩
   ·rw [HM2.out];exact HV7.out
   ·refine FrT.trans ?_ (H7.out.1.mono (fun t ht=>List.mem_cons_of_mem _ ht))
    exact ((FrT.of_below HS4.out.b _).trans (HF5.out.mono (fun t ht=>by rcases List.mem_singleton.1 ht with rfl;exact List.mem_cons_self))).drew
end
section
def Cap (N:Nat) (m o:List Bool) (k:Nat):Prop:=∃ l:List Nat,l.Nodup∧l.length=k ∧ ∀ b∈l,b+1≤N∧FreeRun m o b 1
def Used (m:List Bool) (U:List Nat):Prop:=∀ p,m[p]?=some true↔(p<2∨p∈U)
theorem free1 {m o:List Bool} {b:Nat}:FreeRun m o b 1↔m[b]?=some false∧o[b]?=some false:=
 ⟨fun h=>h b (Nat.le_refl _) (by omega),fun h i h1 h2=>by rw [show i=b by omega];exact h⟩
theorem set_get {b:Bool} {m:List Bool} {a:Nat} (p:Nat) (ha:a<m.length):(setN b m a 1)[p]?=if p=a then some b else m[p]?:=by
 by_cases hp:p<m.length
 ·rw [setN_get b m a 1 p hp]
  by_cases h:p=a
  ·rw [if_pos (by omega),if_pos h]
  ·rw [if_neg (by omega),if_neg h]
 ·rw [if_neg (by omega),List.getElem?_eq_none (by rw [setN_len];omega),List.getElem?_eq_none (by omega)]
theorem MapOk.free_ge {N:Nat} {m o:List Bool} (h:MapOk N m) {a:Nat} (hf:FreeRun m o a 1):2≤a:=by
 rcases Nat.lt_or_ge a 2 with h2 | h2
 ·have:=h.lo a h2
  rw [(free1.1 hf).1] at this
  cases this
 ·exact h2
theorem MapOk.set [Inhabited Sanct] {N:Nat} {m:List Bool} (h:MapOk N m) (b:Bool) {a:Nat} (h2:2≤a) (ha:a+1≤N):MapOk N (setN b m a 1):=by
 have hl:a<m.length:=by have:=h.len;have:=h.n5;omega
 refine ⟨by rw [setN_len,h.len],h.n8,h.n5,fun i hi=>?_,fun i hi hj=>?_⟩
 ·rw [set_get i hl,if_neg (by omega)];exact h.lo i hi
 ·rw [set_get i hl,if_neg (by omega)];exact h.hi i hi hj
theorem Cap.one {N k:Nat} {m o:List Bool} (h:Cap N m o (k+1)):∃ b,b+1≤N∧FreeRun m o b 1:=by
 obtain ⟨l,h1,h2,h3⟩:=h
 cases l with
 | nil=>simp at h2
 | cons b l=>exact ⟨b,h3 b (by simp)⟩
theorem Cap.mono [Inhabited Sanct] {N k j:Nat} {m o:List Bool} (h:Cap N m o k) (hj:j≤k):Cap N m o j:=by
 obtain ⟨l,h1,h2,h3⟩:=h
 exact ⟨l.take j,(List.take_sublist j l).nodup h1,by rw [List.length_take];omega,fun b hb=>h3 b (List.mem_of_mem_take hb)⟩
theorem Cap.take [Inhabited Sanct] {N k:Nat} {m o:List Bool} (h:Cap N m o (k+1)) {a:Nat} (ha:a<m.length):Cap N (setN true m a 1) o k:=by
 obtain ⟨l,h1,h2,h3⟩:=h
 have key:Cap N (setN true m a 1) o (l.filter (fun b=>b != a)).length:=⟨l.filter (fun b=>b != a),h1.filter _,rfl,fun b hb=>by
  obtain ⟨hb1,hb2⟩:=List.mem_filter.1 hb
  have hne:b≠a:=by simpa using hb2
  obtain ⟨g1,g2⟩:=h3 b hb1
  refine ⟨g1,free1.2 ⟨?_,(free1.1 g2).2⟩⟩
  rw [set_get b ha,if_neg hne]
  exact (free1.1 g2).1⟩
 refine key.mono ?_
 have:l.length≤(l.filter (fun b=>b != a)).length+1:=by
  clear h2 h3 key
  induction l with
  | nil=>simp
  | cons b l ih=>
   have hn:=List.nodup_cons.1 h1
   rw [List.filter_cons]
   by_cases e:b=a
   ·subst e
    have:l.filter (fun c=>c != b)=l:=by
     rw [List.filter_eq_self]
     intro c hc
     have:c≠b:=fun e=>hn.1 (e▸hc)
     simpa using this
    simp [this]
   ·have h2:(b != a)=true:=by simpa using e
    rw [h2,if_pos rfl,List.length_cons,List.length_cons]
    have:=ih hn.2
    omega
 omega
theorem Cap.give {N k:Nat} {m o:List Bool} (h:Cap N m o k) {a:Nat} (ha:a<m.length):Cap N (setN false m a 1) o k:=by
 obtain ⟨l,h1,h2,h3⟩:=h
 refine ⟨l,h1,h2,fun b hb=>⟨(h3 b hb).1,free1.2 ⟨?_,(free1.1 (h3 b hb).2).2⟩⟩⟩
 rw [set_get b ha]
 split
 ·rfl
 ·exact (free1.1 (h3 b hb).2).1
theorem Used.take [Inhabited Sanct] {m o:List Bool} {U:List Nat} (h:Used m U) {a:Nat} (hf:FreeRun m o a 1):Used (setN true m a 1) (a :: U)∧a ∉ U:=by
 have hm:=(free1.1 hf).1
 have hl:a<m.length:=(List.getElem?_eq_some_iff.1 hm).1
 refine ⟨fun p=>?_,fun hU=>?_⟩
 ·rw [set_get p hl,List.mem_cons]
  by_cases e:p=a
  ·rw [if_pos e];exact ⟨fun _=>.inr (.inl e),fun _=>rfl⟩
  ·rw [if_neg e,h p];simp [e]
 ·have:=(h a).2 (.inr hU)
  rw [hm] at this
  cases this
theorem Used.give {m:List Bool} {U V:List Nat} {a:Nat} (h:Used m U) (hp:U.Perm (a :: V)) (hn:U.Nodup) (h2:2≤a):Used (setN false m a 1) V:=by
 have ha:a∈U:=hp.mem_iff.2 (by simp)
 have hl:a<m.length:=(List.getElem?_eq_some_iff.1 ((h a).2 (.inr ha))).1
 have hV:=List.nodup_cons.1 (hp.nodup_iff.1 hn)
 intro p
 rw [set_get p hl]
 by_cases e:p=a
 ·rw [if_pos e,e]
  exact ⟨fun h=>(by cases h),fun hh=>hh.elim (fun h3=>absurd h3 (by omega)) (fun h3=>absurd h3 hV.1)⟩
 ·rw [if_neg e,h p]
  have:p∈U↔p∈V:=by rw [hp.mem_iff,List.mem_cons];simp [e]
  rw [this]
theorem Used.perm {m:List Bool} {U V:List Nat} (h:Used m U) (hp:U.Perm V):Used m V:=fun p=>by rw [h p,hp.mem_iff]
structure VS [Inhabited Sanct] (w:World) (v d N gen nw:Nat) (m o:List Bool) (f:Nat→List Int) (k:Nat):Prop where
 va:ViewAt w v d N gen m o
 dt:DT w d N nw f
 mm:MapOk N m
 oo:MapOk N o
 hg:gen<1000000
 hw:nw+2048+4*k<1000000
 cp:Cap N m o k
 gv:sB≤v
section
variable {w W:World} {v d N gen nw k:Nat} {m o:List Bool} {f:Nat→List Int}
theorem VS.below [Inhabited Sanct] (h:VS w v d N gen nw m o f k) (hb:Below w.heap.size w W):VS W v d N gen nw m o f k:=⟨blkb hb h.va,h.dt.below hb,h.mm,h.oo,h.hg,h.hw,h.cp,h.gv⟩
theorem VS.frT [Inhabited Sanct] {T:List Nat} (h:VS w v d N gen nw m o f k) (hf:FrT T w W) (hT:∀ t,t∈T→t ∉ vT):VS W v d N gen nw m o f k:=
 ⟨hf.blk h.va (fun ht=>hT _ ht List.mem_cons_self),h.dt.frT hf (fun t ht hd=>hT t ht (List.mem_cons_of_mem _ hd)),h.mm,h.oo,h.hg,h.hw,h.cp,h.gv⟩
theorem VS.mono [Inhabited Sanct] (h:VS w v d N gen nw m o f k) {j:Nat} (hj:j≤k):VS w v d N gen nw m o f j:=⟨h.va,h.dt,h.mm,h.oo,h.hg,by have:=h.hw;omega,h.cp.mono hj,h.gv⟩
theorem vs_give [Inhabited Sanct] (h:VS w v d N gen nw m o f k) (a:Nat) (ha:2≤a) (haN:a+1≤N) (hu:m[a]?=some true) :
  Calls Tryz.prog 207 #[.pointer (some ⟨v,0,none⟩),.int .i64 (a:Int)] w fun e w'=>e = .returned (.int .i64 0)∧VS w' v d N gen nw (setN false m a 1) o f k∧FrT vT w w':=by
 refine (vgive_calls h.va h.mm h.oo.len a ha haN hu h.gv).mono ?_
 rintro e w' ⟨rfl,hv,hf⟩
 refine ⟨rfl,⟨hv,h.dt.frT hf (by decide),h.mm.set _ ha haN,h.oo,h.hg,h.hw,h.cp.give (by have:=h.mm.len;have:=h.mm.n5;omega),h.gv⟩,hf.mono (fun t ht=>?_)⟩
 rcases List.mem_singleton.1 ht with rfl
 exact List.mem_cons_self
theorem vs_write [Inhabited Sanct] (h:VS w v d N gen nw m o f (k+1)) {x:Array Value} {nd:Nd} (hx:NdV w x nd) (hok:NdOk nd) :
  Calls Tryz.prog 237 #[.pointer (some ⟨v,0,none⟩),.agg x] w fun r w'=>∃ (a:Nat) (f':Nat→List Int),r = .returned (.tuple #[.int .i64 (a:Int),.int .i64 0])∧a+1≤N∧FreeRun m o a 1∧VS w' v d N gen (nw+4) (setN true m a 1) o f' k∧Wrote f f' a (kindN nd) (ndB nd)∧FrT vT w w':=by
 obtain ⟨b,hb,hf⟩:=h.cp.one
 refine (vwrite_calls h.va h.dt h.mm h.oo h.hg (by have:=h.hw;omega) hx hok b hb hf h.gv).mono ?_
 rintro r w' ⟨a,f',rfl,ha,hfa,hv,hd,hw,hfr⟩
 have h2:=h.mm.free_ge hfa
 exact ⟨a,f',rfl,ha,hfa,⟨hv,hd,h.mm.set _ h2 ha,h.oo,h.hg,by have:=h.hw;omega,h.cp.take (by have:=h.mm.len;have:=h.mm.n5;omega),h.gv⟩,hw,hfr⟩
theorem vs_node [Inhabited Sanct] (h:VS w v d N gen nw m o f k) {nd:Nd} (hok:NdOk nd) (a:Nat) (haN:a<N) (hp:PageAt f a (kindN nd) (ndB nd)) :
  Calls Tryz.prog 206 #[.pointer (some ⟨v,0,none⟩),.int .i64 (a:Int),.bool nd.lf] w fun r w'=>∃ x,r = .returned (.tuple #[.agg (nvA x),.int .i64 0])∧NdR w' w.heap.size (nvA x) nd∧Below w.heap.size w w':=
 vnode_calls h.va h.dt hok a haN hp
end
end
section
def Wrs (N:Nat) (o:List Bool):List Nd→List Nat→List Bool→(Nat→List Int)→List Bool→(Nat→List Int)→Prop
 | [],[],m,f,m',f'=>m'=m∧f'=f
 | nd :: L,a :: ts,m,f,m',f'=>∃ f1,a+1≤N∧FreeRun m o a 1∧Wrote f f1 a (kindN nd) (ndB nd)∧Wrs N o L ts (setN true m a 1) f1 m' f'
 | _,_,_,_,_,_=>False
theorem Wrs.snoc {N:Nat} {o:List Bool} {nd:Nd} {a:Nat}:∀ {L:List Nd} {ts:List Nat} {m m1:List Bool} {f f1 f2:Nat→List Int},Wrs N o L ts m f m1 f1→a+1≤N→FreeRun m1 o a 1→Wrote f1 f2 a (kindN nd) (ndB nd)→Wrs N o (L++[nd]) (ts++[a]) m f (setN true m1 a 1) f2
 | [],[],m,m1,f,f1,f2,h,h1,h2,h3=>by
  obtain ⟨rfl,rfl⟩:=h
  exact ⟨f2,h1,h2,h3,rfl,rfl⟩
 | x :: L,b :: ts,m,m1,f,f1,f2,h,h1,h2,h3=>by
  obtain ⟨g,k1,k2,k3,k4⟩:=h
  exact ⟨g,k1,k2,k3,k4.snoc h1 h2 h3⟩
 | [],_ :: _,_,_,_,_,_,h,_,_,_=>h.elim
 | _ :: _,[],_,_,_,_,_,h,_,_,_=>h.elim
theorem Wrs.len {N:Nat} {o:List Bool}:∀ {L:List Nd} {ts:List Nat} {m m1:List Bool} {f f1:Nat→List Int},Wrs N o L ts m f m1 f1→ts.length=L.length
 | [],[],_,_,_,_,_=>rfl
 | x :: L,b :: ts,m,m1,f,f1,h=>by
  obtain ⟨g,k1,k2,k3,k4⟩:=h
  rw [List.length_cons,List.length_cons,k4.len]
 | [],_ :: _,_,_,_,_,h=>h.elim
 | _ :: _,[],_,_,_,_,h=>h.elim
theorem rw_new [Inhabited Sanct] {α:Type} {T:TypeId} {enc:α→List Value} {x:α} {W:World} {g:Nat} {cells:Array Value} (hg:W.heap.size=g) (hc:cells=(enc x).toArray):Rw T enc (enc x).length (W.alloc (Obj.cells cells T)) (some ⟨g,0,none⟩) [x]:=by
 refine ⟨by simp,fun _=>⟨g,0,cells,(0,0),rfl,newb hg,fun j y hy i u hu=>?_⟩⟩
 cases j with
 | zero=>
  injection hy with hy
  subst hy
  rw [hc]
  simpa using hu
 | succ j=>simp at hy
theorem FrT.set2 [Inhabited Sanct] {T:List Nat} {w W:World} {g:Nat} {cs:Array Value} {t:TypeId} (h:FrT T w W) (hb:W.heap[g]?=some (.cells cs t)) (ht:t∈T) (i j:Nat) (u v:Value) (hs:t∈sS→sB≤g:=by first | (intro h;exact absurd h (by decide)) | (intro _;assumption)):FrT T w ((W.setCell ⟨g,i,none⟩ u).setCell ⟨g,j,none⟩ v):=
 (h.setCell hb ht i u hs).setCell (blk_set hb i u) ht j v hs
structure UnSt [Inhabited Sanct] (w W:World) (v d N gen nw k:Nat) (m o:List Bool) (f:Nat→List Int) (g4 gN:Nat) (cs:Array Value):Prop where
 vs:VS W v d N gen nw m o f k
 n:NbAt W gN cs
 z:NbAt W g4 zNd
 fr:FrT vT w W
 gn:w.heap.size≤gN
 ne:g4≠gN
section
variable {w W W2:World} {v d N gen nw k g4 gN:Nat} {m o:List Bool} {f:Nat→List Int} {cs:Array Value}
theorem UnSt.below [Inhabited Sanct] (h:UnSt w W v d N gen nw k m o f g4 gN cs) (hb:Below W.heap.size W W2):UnSt w W2 v d N gen nw k m o f g4 gN cs:=
 ⟨h.vs.below hb,h.n.below hb,h.z.below hb,h.fr.below hb,h.gn,h.ne⟩
theorem UnSt.app [Inhabited Sanct] {α:Type} {dk:Kd α} {e:Nat} {ok:Nat→Prop} {u:Value} {xs:List α} (h:UnSt w W v d N gen nw k m o f g4 gN cs) (hr:dk.R e W w.heap.size ok u xs) (he:∀ t,t∈[e]→t ∉ sS∧175≠t) (hg:W.grownBy W2 u.ownBlock):UnSt w W2 v d N gen nw k m o f g4 gN cs:=by
 have hf:FrT [e] W W2:=(FrT.refl _ _).app hr (by simp) hg (fun h=>absurd h (he e (by simp)).1)
 have hn:175 ∉ [e]:=fun hm=>(he _ hm).2 rfl
 exact ⟨h.vs.frT hf (fun t ht h2=>(he t ht).1 ((by decide:∀ t,t∈vT→t∈sS) t h2)),h.n.frT hf hn,h.z.frT hf hn,h.fr.slot hg (fun r hr'=>Kd.R_base hr r hr'),h.gn,h.ne⟩
theorem UnSt.set [Inhabited Sanct] (h:UnSt w W v d N gen nw k m o f g4 gN cs) (j:Nat) (u:Value):UnSt w (W.setCell ⟨gN,j,none⟩ u) v d N gen nw k m o f g4 gN (cs.set! j u):=
 ⟨h.vs.frT ((FrT.refl [175] _).setCell h.n (by decide) _ _) (by decide),blk_set h.n j u,(Below.heap_setCell W ⟨gN,j,none⟩ u g4 h.ne).trans h.z,h.fr.setNew h.gn j u,h.gn,h.ne⟩
end
theorem run_loadNd [Inhabited Sanct] {W:World} {g o:Nat} {x:NV} (h:W.rangeAt g o (nvC x)):(loadNdI (.pointer (some ⟨g,o,none⟩))).run Tryz.prog W = .ok (.agg (nvA x)) W:=
 run_loadAt_mid (P:=Tryz.prog) W g o 175 (nvC x) _ h Tryz.underlying175 rfl nd_size
theorem st_ndnew [Inhabited Sanct] (x:NV) (W:World):(storeNdI (.pointer (some ⟨W.heap.size,0,none⟩)) (.agg (nvA x))).run Tryz.prog (W.alloc (Obj.cells #[.bool false,.slice none 0 0,.slice none 0 0,.slice none 0 0] 175)) = .ok () (W.alloc (Obj.cells (nvA x) 175)):=by
 have:=st_nd_at (g:=W.heap.size) (ds:=nvA x) (newb (w:=W) (o:=Obj.cells #[.bool false,.slice none 0 0,.slice none 0 0,.slice none 0 0] 175) rfl) rfl rfl (nvA_one x)
 rw [World.setRow_alloc_new] at this
 exact this
end
end Go.Proofs.YtnhkikebfinejaaGreatDoor.Z
