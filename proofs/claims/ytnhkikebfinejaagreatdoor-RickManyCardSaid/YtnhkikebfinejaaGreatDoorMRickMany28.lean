/- Texts of this claim, laid together. No conditions. -/
import Derived.Test.YtnhkikebfinejaaGreatDoorMRickMany27
import Derived.Deep.RegionHeld3
import Derived.Test.YtnhkikebfinejaaGreatDoorMRickMany3
import Derived.Test.YtnhkikebfinejaaGreatDoorMRickMany5
set_option linter.unusedVariables false
set_option linter.unusedSimpArgs false
set_option maxRecDepth 100000
set_option maxHeartbeats 16000000
namespace Go.Proofs.YtnhkikebfinejaaGreatDoor.Z
open Go Go.RowKit Go.Proofs.YtnhkikebfinejaaGreatDoorW.PrintWords Go.Proofs.YtnhkikebfinejaaGreatDoorW.PrintLast Go.Proofs.YtnhkikebfinejaaGreatDoorW.PrintMore Go.Proofs.YtnhkikebfinejaaGreatDoor.S Go.Proofs.YtnhkikebfinejaaGreatDoor.X
section
attribute [local go_sem] max2_int min2_int max_two min_two
attribute [local go_sem ↓] Go.wp_at_zero Go.wp_at_succ
structure RdS (w1 W:World) (g:Nat) (A:Option Addr) (m c p:Nat) (bs:List Int):Prop where
 r:W.heap[g]?=some (.cells #[.slice A m c,.int .i64 (p:Int),.bool false] 342)
 c:Kd.C (Kd.int .u8) w1 A m bs
 b:Below w1.heap.size w1 W
 g:w1.heap.size≤g
theorem RdS.below {w1 W W2:World} {g:Nat} {A:Option Addr} {m c p:Nat} {bs:List Int} (h:RdS w1 W g A m c p bs) (hb:Below W.heap.size W W2):RdS w1 W2 g A m c p bs:=⟨blkb hb h.r,h.c,below_step h.b hb,h.g⟩
theorem RdS.cells {w1 W:World} {g:Nat} {A:Option Addr} {m c p:Nat} {bs:List Int} (h:RdS w1 W g A m c p bs):W.cell? ⟨g,0,none⟩=some (.slice A m c)∧W.cell? ⟨g,1,none⟩=some (.int .i64 (p:Int))∧W.cell? ⟨g,2,none⟩=some (.bool false):=
 ⟨(blk_cell h.r 0).trans rfl,(blk_cell h.r 1).trans rfl,(blk_cell h.r 2).trans rfl⟩
theorem rnew_calls {w:World} {A:Option Addr} {c m:Nat} {bs:List Int} (hr:Kd.C (Kd.int .u8) w A bs.length bs) (hm:bs.length=m) (hc:bs.length≤c) (hl:bs.length≤1000) :
  Calls Tryz.prog 217 #[.slice A m c] w fun r w'=>∃ g A' c' w1,r = .returned (.pointer (some ⟨g,0,none⟩))∧Below w.heap.size w w1∧RdS w1 w' g A' m c' 0 bs:=by
 have HC:=Aside0.mk (bytes_Clone.calls A c bs bs w hr hc (by unfold bytes_Clone.f;rw [if_pos (by omega)]))
 rw [hm] at HC
 have HM:=Aside0.mk hm
 clear hr hc hl hm
 go_enter Tryz.func217,Tryz.ntmps217
 go_wp2_with (go_at_call 39;(with_reducible refine HC.out.mono ?_);rintro e w1 ⟨v1,rfl,ho,hb⟩;refine hold ?_)
 unfold Hold
 obtain ⟨A1,c1,rfl⟩:=Kd.R_slice ho
 rw [HM.out] at ho ⊢
 have HO:=Aside0.mk ho
 have HB:=Aside0.mk hb
 clear ho hb
 go_wp2
 go_ret
 exact ⟨_,A1,c1,w1,rfl,HB.out,newb rfl,by have:=(Kd.R_reads' HO.out).2.2;rwa [HM.out] at this,below_alloc (Below.refl _ _) _,Nat.le_refl _⟩
theorem rbad_calls {w1 w:World} {g:Nat} {A:Option Addr} {m c p:Nat} {bs:List Int} (h:RdS w1 w g A m c p bs) :
  Calls Tryz.prog 220 #[.pointer (some ⟨g,0,none⟩)] w fun r w'=>r = .returned (.bool false)∧w=w':=by
 obtain ⟨h0,h1,h2⟩:=h.cells
 clear h
 go_enter Tryz.func220,Tryz.ntmps220
 go_wp2
 go_ret
 exact ⟨rfl,rfl⟩
theorem held_calls {w:World} (n:Nat) (hn:n≤64):Calls Tryz.prog 232 #[.int .i64 (n:Int)] w fun r w'=>r = .returned (.int .i64 (n:Int))∧w=w':=by
 have d1:¬ ((n:Int)<0):=by omega
 have d2:¬ (64<(n:Int)):=by omega
 go_enter Tryz.func232,Tryz.ntmps232
 go_wp2
 go_ret
 exact ⟨by simp [d1,d2],rfl⟩
theorem left_calls {w1 w:World} {g:Nat} {A:Option Addr} {m c p:Nat} {bs:List Int} (h:RdS w1 w g A m c p bs) (hp:p≤8*m) (hm:m≤1000) :
  Calls Tryz.prog 250 #[.pointer (some ⟨g,0,none⟩)] w fun r w'=>r = .returned (.int .i64 ((8*m-p:Nat):Int))∧Below w.heap.size w w':=by
 obtain ⟨h0,h1,h2⟩:=h.cells
 have e1:wrap64 (8*(m:Int))=8*(m:Int):=wrap64_id (by omega) (by omega)
 have e2:wrap64 (8*(m:Int)-(p:Int))=((8*m-p:Nat):Int):=by rw [wrap64_id (by omega) (by omega)];omega
 clear h hp hm
 go_enter Tryz.func250,Tryz.ntmps250
 go_wp2
 have hS:w.drew.cell? ⟨g,0,none⟩=some (.slice A m c)∧w.drew.cell? ⟨g,1,none⟩=some (.int .i64 (p:Int)):=⟨h0,h1⟩
 go_region_held3 (fun w'=>w'.cell? ⟨g,0,none⟩=some (.slice A m c)∧w'.cell? ⟨g,1,none⟩=some (.int .i64 (p:Int))) (exact hS) (fail)
 go_wp2
 go_ret
 exact ⟨by simp [i64_w,e1,e2],below_drew (Below.refl _ _)⟩
theorem btake_calls {w1 w:World} {g:Nat} {A:Option Addr} {m c p:Nat} {bs:List Int} (n:Nat) (V:Nat→Int) (h:RdS w1 w g A m c p bs) (hm:bs.length=m) (hn:n≤64) (hp:p+n≤8*m) (hm2:m≤1000) (V0:V 0=0)
  (hV:∀ i,i<n → ∃ x y b,bs[(p+i) / 8]?=some x∧x / 2 ^ (7-(p+i) % 8)=y∧Go.bits .and .u8 y 1=b∧IntKind.u64.wrap b=b∧Go.bits .or .u64 (IntKind.u64.wrap (V i*2)) b=V (i+1)) :
  Calls Tryz.prog 218 #[.pointer (some ⟨g,0,none⟩),.int .i64 (n:Int)] w fun r w'=>r = .returned (.int .u64 (V n))∧RdS w1 w' g A m c (p+n) bs:=by
 obtain ⟨h0,h1,h2⟩:=h.cells
 have HH:Aside0 (∀ W,Calls Tryz.prog 232 #[.int .i64 (n:Int)] W fun r w'=>r = .returned (.int .i64 (n:Int))∧W=w'):=⟨fun W=>held_calls n hn⟩
 have HL:=Aside0.mk (left_calls h (by omega) hm2)
 have HR:=Aside0.mk h
 have HV:=Aside0.mk hV
 have HN:=Aside0.mk (And.intro hn (And.intro hp (And.intro hm2 hm)))
 have HV0:=Aside0.mk V0
 obtain ⟨q,hq⟩:∃ q:Int,((8*m-p:Nat):Int)=q:=⟨_,rfl⟩
 have d1:decide (q<(n:Int))=false:=decide_eq_false (by omega)
 rw [hq] at HL
 clear h hm hn hp hm2 V0 hV hq
 go_enter Tryz.func218,Tryz.ntmps218
 go_wp2_with (first
  | (go_at_call 232;(with_reducible refine (HH.out _).mono ?_);rintro r w2 ⟨rfl,rfl⟩)
  | (go_at_call 250;(with_reducible refine HL.out.mono ?_);rintro r w3 ⟨rfl,hb3⟩;have HR3:=Aside0.mk (HR.out.below hb3);clear hb3))
 clear HR HL h0 h1 h2 d1
 go_loopw [5,24] (fun v5 v24 wr=>∃ (i:Nat) (ii:Int) (v:Int),v24 = .int .i64 ii∧v5 = .int .u64 v∧Aside0 (ii=(i:Int)∧i≤n∧V i=v)∧Aside0 (RdS w1 wr g A m c (p+i) bs)) (fun _ v24 _=>((n:Int)-intOf v24).toNat)
 case atStart=>exact ⟨0,_,_,rfl,rfl,⟨rfl,Nat.zero_le _,HV0.out⟩,HR3⟩
 case round=>
  clear HR3
  obtain ⟨i,ii,v,rfl,rfl,HI,HR⟩:=hrel
  have hin:=HI.out
  have hnn:=HN.out
  have e5:wrap64 (ii+1)=ii+1:=wrap64_id (by omega) (by omega)
  by_cases hlt:i<n
  ·obtain ⟨x,y,b,hx,hy,hb,hw,ho⟩:=HV.out i hlt
   rw [hin.2.2] at ho
   have d1:decide (ii<(n:Int))=true:=decide_eq_true (by omega)
   obtain ⟨h0,h1,h2⟩:=HR.out.cells
   obtain ⟨k,hk⟩:∃ k,p+i=k:=⟨_,rfl⟩
   rw [hk] at h1 hx hy
   have hk8:k / 8<m:=by omega
   obtain ⟨ad,e,hc⟩:=c_at (Kd.C_below HR.out.c HR.out.b) HN.out.2.2.2 (by omega)
   have hcx:=hc _ x hx
   subst e
   obtain ⟨kk,hkk⟩:∃ z:Int,(k:Int)=z:=⟨_,rfl⟩
   obtain ⟨j,hj⟩:∃ z:Int,(7-((k % 8:Nat):Int))=z:=⟨_,rfl⟩
   obtain ⟨k8,hk8e⟩:∃ z:Int,((k / 8:Nat):Int)=z:=⟨_,rfl⟩
   have f1:kk.tdiv 8=k8:=by rw [← hkk,← hk8e,Int.tdiv_eq_ediv_of_nonneg (by omega)];omega
   have f2:kk.tmod 8=7-j:=by rw [← hkk,← hj,Int.tmod_eq_emod_of_nonneg (by omega)];omega
   have w1_:wrap64 k8=k8:=wrap64_id (by omega) (by omega)
   have w2_:wrap64 (7-(7-j))=j:=by rw [show 7-(7-j)=j by omega];exact wrap64_id (by omega) (by omega)
   have w3_:IntKind.i64.wrap k8=k8:=(i64_w _).trans w1_
   have w4_:IntKind.i64.wrap (7-(7-j))=j:=(i64_w _).trans w2_
   have g1:(0≤k8)=True:=eq_true (by omega)
   have g2:(k8<(m:Int))=True:=eq_true (by omega)
   have g3:(0≤j)=True:=eq_true (by omega)
   have g4:k8.toNat=k / 8:=by omega
   have g5:x / 2 ^ j.toNat=y:=by rw [show j.toNat=7-k % 8 by omega];exact hy
   have g6:x / 2 ^ min j.toNat 8=y:=by rw [Nat.min_eq_left (by omega)];exact g5
   have g7:decide (j<0)=false:=decide_eq_false (by omega)
   rw [hkk] at h1
   have HK:=Aside0.mk (And.intro hkk (And.intro hk (And.intro hlt hk8)))
   clear hnn hin hk8 hkk hj hk8e hk hlt hc hy
   rw [← g4] at hcx
   clear g4
   go_wp2
   have hS:wr.drew.cell? ⟨g,0,none⟩=some (.slice (some ad) m c)∧wr.drew.cell? ⟨g,1,none⟩=some (.int .i64 kk)∧wr.drew.cell? (ad.add k8.toNat)=some (.int .u8 x):=⟨h0,h1,hcx⟩
   go_region_held3 (fun w'=>w'.cell? ⟨g,0,none⟩=some (.slice (some ad) m c)∧w'.cell? ⟨g,1,none⟩=some (.int .i64 kk)∧w'.cell? (ad.add k8.toNat)=some (.int .u8 x)) (exact hS) (fail)
   have e6:wrap64 (kk+1)=kk+1:=by
    have:=HK.out
    have:=HN.out
    exact wrap64_id (by omega) (by omega)
   have z1:wr.drew.frozen? ⟨g,1,none⟩=false:=blk_frozen HR.out.r 1
   obtain ⟨q0,q1,-⟩:=hS
   have HV1:=Aside0.mk ho
   clear h0 h1 hcx f1 f2 w1_ w2_ w3_ w4_ g1 g2 g3 g5 g6 g7 hb hw hx
   go_wp2
   go_roundw
   case rel=>
    have hk1:kk+1=((p+(i+1):Nat):Int):=by have:=HK.out;omega
    refine ⟨i+1,_,_,rfl,rfl,⟨by have:=HI.out;omega,HK.out.2.2.1,rfl⟩,⟨?_,HR.out.c,?_,HR.out.g⟩⟩
    ·rw [hk1]
     exact blk_set (w:=wr.drew) HR.out.r 1 _
    ·exact Below.setCell (below_drew HR.out.b) (p:=⟨g,1,none⟩) HR.out.g _
   case measure=>simp [intOf];have:=HI.out;have:=HK.out;omega
  ·have d1:decide (ii<(n:Int))=false:=decide_eq_false (by omega)
   obtain rfl:n=i:=by omega
   obtain rfl:V n=v:=hin.2.2
   clear hin hnn
   go_wp2
   go_ret
   exact ⟨rfl,HR.out⟩
end
section
attribute [local go_sem ↓] Go.wp_at_zero Go.wp_at_succ
def e8 (a:Int):List Int:=[0,0,0,0,0,0,0,a]
theorem e8_get (a:Int) (rest:List Int) {j:Nat} (h:j<7):(e8 a++rest)[j]?=some 0:=by
 rcases j with _ | _ | _ | _ | _ | _ | _ | j
 all_goals first | rfl | omega
def v8 (a:Int) (i:Nat):Int:=if i≤56 then 0 else a / 2 ^ (64-i)
theorem v8_last:∀ t:Fin 8,∀ n:Fin 128,IntKind.u64.wrap (Go.bits .and .u8 ((n.val:Int) / 2 ^ (7-t.val)) 1)=Go.bits .and .u8 ((n.val:Int) / 2 ^ (7-t.val)) 1 ∧
  Go.bits .or .u64 (IntKind.u64.wrap (v8 n.val (56+t.val)*2)) (Go.bits .and .u8 ((n.val:Int) / 2 ^ (7-t.val)) 1)=v8 n.val (56+t.val+1):=by decide +kernel
theorem v8_steps {a:Int} (h0:0≤a) (h1:a<128) (rest:List Int):∀ i,i<64 → ∃ x y b,(e8 a++rest)[(0+i) / 8]?=some x∧x / 2 ^ (7-(0+i) % 8)=y∧Go.bits .and .u8 y 1=b∧IntKind.u64.wrap b=b∧Go.bits .or .u64 (IntKind.u64.wrap (v8 a i*2)) b=v8 a (i+1):=by
 intro i hi
 by_cases h:i<56
 ·refine ⟨0,0,0,e8_get a rest (by omega),Int.zero_ediv _,by decide,by decide,?_⟩
  unfold v8
  rw [if_pos (by omega),if_pos (by omega)]
  decide
 ·obtain ⟨t,rfl⟩:∃ t,i=56+t:=⟨i-56,by omega⟩
  obtain ⟨k1,k2⟩:=v8_last ⟨t,by omega⟩ ⟨a.toNat,by omega⟩
  simp only at k1 k2
  rw [show ((a.toNat:Nat):Int)=a by omega] at k1 k2
  refine ⟨a,_,_,?_,rfl,rfl,?_,?_⟩
  ·rw [show (0+(56+t)) / 8=7 by omega];rfl
  ·rw [show (0+(56+t)) % 8=t by omega];exact k1
  ·rw [show (0+(56+t)) % 8=t by omega];exact k2
theorem take64 {w1 w:World} {g:Nat} {A:Option Addr} {m c:Nat} {a:Int} {rest:List Int} (h0:0≤a) (h1:a<128) (h:RdS w1 w g A m c 0 (e8 a++rest)) (hm:(e8 a++rest).length=m) (hm2:m≤1000) :
  Calls Tryz.prog 218 #[.pointer (some ⟨g,0,none⟩),.int .i64 64] w fun r w'=>r = .returned (.int .u64 a)∧RdS w1 w' g A m c 64 (e8 a++rest):=by
 have:=btake_calls (n:=64) (v8 a) h hm (by decide) (by rw [← hm,List.length_append];simp [e8];omega) hm2 (by unfold v8;rw [if_pos (by decide)]) (v8_steps h0 h1 rest)
 refine this.mono ?_
 rintro r w' ⟨rfl,h2⟩
 refine ⟨?_,h2⟩
 unfold v8
 rw [if_neg (by decide)]
 simp
theorem take_none {w1 w:World} {g:Nat} {A:Option Addr} {m c p:Nat} {bs:List Int} (n:Nat) (h:RdS w1 w g A m c p bs) (hm:bs.length=m) (hm2:m≤1000) (hn:n≤8) (hp:p+n≤8*m) (hz:∀ i,i<n→bs[(p+i) / 8]?=some 0) :
  Calls Tryz.prog 218 #[.pointer (some ⟨g,0,none⟩),.int .i64 (n:Int)] w fun r w'=>r = .returned (.int .u64 0)∧RdS w1 w' g A m c (p+n) bs:=
 btake_calls (n:=n) (fun _=>0) h hm (by omega) hp hm2 rfl (fun i hi=>⟨0,0,0,hz i hi,Int.zero_ediv _,by decide,by decide,by decide⟩)
theorem or0 {a:Int} (h0:0≤a) (h1:a<128):Go.bits .or .u64 0 a=a:=(andn h0 h1).2.2
theorem tnumber_calls {w:World} {A:Option Addr} {m c:Nat} {a:Int} {rest:List Int} (h0:0≤a) (h1:a<128) (hr:Kd.C (Kd.int .u8) w A m (e8 a++rest)) (hm:(e8 a++rest).length=m) (hc:m≤c) :
  Calls Tryz.prog 246 #[.slice A m c] w fun r w'=>r = .returned (.int .u64 a)∧w=w':=by
 have hm8:8≤m:=by rw [← hm,List.length_append];simp [e8]
 obtain ⟨ad,rfl,hx⟩:=c_at hr hm (by omega)
 have z:∀ i,i<7→w.cell? (ad.add i)=some (.int .u8 0):=fun i hi=>hx i 0 (e8_get a rest hi)
 have z0:=c_first (z 0 (by decide))
 have z1:w.cell? ⟨ad.block,ad.off+1,none⟩=some (.int .u8 0):=by simpa [Addr.add] using z 1 (by decide)
 have z2:w.cell? ⟨ad.block,ad.off+2,none⟩=some (.int .u8 0):=by simpa [Addr.add] using z 2 (by decide)
 have z3:w.cell? ⟨ad.block,ad.off+3,none⟩=some (.int .u8 0):=by simpa [Addr.add] using z 3 (by decide)
 have z4:w.cell? ⟨ad.block,ad.off+4,none⟩=some (.int .u8 0):=by simpa [Addr.add] using z 4 (by decide)
 have z5:w.cell? ⟨ad.block,ad.off+5,none⟩=some (.int .u8 0):=by simpa [Addr.add] using z 5 (by decide)
 have z6:w.cell? ⟨ad.block,ad.off+6,none⟩=some (.int .u8 0):=by simpa [Addr.add] using z 6 (by decide)
 have z7:w.cell? ⟨ad.block,ad.off+7,none⟩=some (.int .u8 a):=by simpa [Addr.add] using hx 7 a rfl
 have e1:Go.bits .or .u64 0 0=0:=by decide
 have e2:=or0 h0 h1
 have e4:IntKind.u64.wrap a=a:=u64_w h0 (by omega)
 have e5:IntKind.u64.wrap 0=0:=by decide
 have d1:(8≤(c:Int))=True:=eq_true (by omega)
 have d2:(8≤c)=True:=eq_true (by omega)
 clear hr hm hx z h0 h1 hc hm8
 go_enter Tryz.func246,Tryz.ntmps246
 go_wp2
 refine wp_loop_rounds 9 ?_
 iterate 9
  rw [rounds_succ]
  go_wp2
 go_ret
 exact ⟨rfl,rfl⟩
end
section
attribute [local go_sem ↓] Go.wp_at_zero Go.wp_at_succ
def Ti (W:World) (a:Int) (r:Ending) (w':World):Prop:=∃ v,r = .returned (.tuple #[v,.int .i64 0])∧Kd.R (Kd.int .i64) 2 w' W.heap.size (fun _=>True) v [a]∧Below W.heap.size W w'
theorem i64_u {a:Int} (h0:0≤a) (h1:a<128):IntKind.i64.wrap a=a:=by simp [IntKind.wrap,IntKind.bits,IntKind.signed];omega
theorem tgetraw_calls {w:World} {A:Option Addr} {m c:Nat} {a:Int} {rest:List Int} (h0:0≤a) (h1:a<128) (hr:Kd.C (Kd.int .u8) w A m (e8 a++rest)) (hm:(e8 a++rest).length=m) (hc:m≤c) :
  Calls Tryz.prog 213 #[.slice A m c,.int .i64 1] w (Ti w a):=by
 have hm8:8≤m:=by rw [← hm,List.length_append];simp [e8]
 obtain ⟨ad,rfl,-⟩:=c_at hr hm (by omega)
 have HN:=Aside0.mk (tnumber_calls h0 h1 hr hm hc)
 have e4:IntKind.i64.wrap a=a:=i64_u h0 h1
 have d1:decide ((m:Int)<8)=false:=decide_eq_false (by omega)
 have d3:(c=0)=False:=eq_false (by omega)
 have d4:(m=0)=False:=eq_false (by omega)
 have e5:IntKind.i64.wrap 8=8:=by decide
 have e6:IntKind.i64.wrap 0=0:=by decide
 have HH:=Aside0.mk (And.intro h0 h1)
 clear hr hm h0 h1 hc hm8
 go_enter Tryz.func213,Tryz.ntmps213
 go_wp2
 refine wp_loop_rounds 2 ?_
 rw [rounds_succ]
 go_wp2_with (first
  | (go_at_call 246;(with_reducible refine HN.out.mono ?_);rintro r w1 ⟨rfl,rfl⟩)
  | ((with_reducible refine gate_builtin (b:=.append) (xs:=#[.tmp 17,.tmp 24]) rfl ?_);at_builtin;refine hold ?_))
 unfold Hold
 refine Kd.R_append (Kd.int .i64) (w0:=w) w.heap.size rfl (.tmp 17) (.tmp 24) 202 2 (.int .i64 0) 8 rfl Tryz.underlying202 info2 rfl (by decide) (by decide) _ [] a [.int .i64 a] (fun _=>True) (fun _=>False) rfl rfl rfl (fun _ hk=>hk.elim) (fun _ _=>trivial) (Kd.R_nil _ _ _ _ _) (Below.refl _ _) (Nat.le_refl _) (by decide) ?_
 intro v9 w9 ho hb hg hat
 have HO9:=Aside0.mk ho
 have HB9:=Aside0.mk hb
 clear ho hb hg hat
 go_wp2
 rw [rounds_succ]
 go_wp2
 go_ret2
 exact ⟨_,rfl,HO9.out,HB9.out⟩
theorem tgetdelta_calls {w:World} {A:Option Addr} {m c:Nat} {a:Int} {rest:List Int} (h0:0≤a) (h1:a<128) (hr:Kd.C (Kd.int .u8) w A m (vint (2*a)++rest)) (hm:(vint (2*a)++rest).length=m) (hc:m≤c) (hl:1≤rest.length) (hm2:m≤1000) :
  Calls Tryz.prog 214 #[.slice A m c,.int .i64 1] w (Ti w a):=by
 have HG:=Aside0.mk (vget_calls (c:=c) (2*a) (by omega) (by omega) hr hm hm2)
 obtain ⟨K,hK⟩:∃ K,(vint (2*a)).length=K:=⟨_,rfl⟩
 have hk0:1≤K∧K<m:=by
  rw [List.length_append] at hm
  have:1≤K:=by rw [← hK];unfold vint;split<;>simp
  omega
 obtain ⟨ad,rfl,-⟩:=c_at hr hm (by omega)
 have HZ:Aside0 (∀ W,Calls Tryz.prog 248 #[.int .u64 (2*a)] W fun r w'=>r = .returned (.int .i64 a)∧Below W.heap.size W w'):=⟨fun W=>zag_calls a h0 h1⟩
 rw [hK] at HG
 have d1:(c=K)=False:=eq_false (by omega)
 have d2:(m=K)=False:=eq_false (by omega)
 have d3:(K≤m)=True:=eq_true (by omega)
 have d4:((K:Int)≤(m:Int))=True:=eq_true (by omega)
 have d5:(K≤c)=True:=eq_true (by omega)
 have d6:(0≤(K:Int))=True:=eq_true (by omega)
 have d7:(m≤c)=True:=eq_true (by omega)
 clear hr hm h0 h1 hc hK hk0 hl hm2
 go_enter Tryz.func214,Tryz.ntmps214
 go_wp2
 refine wp_loop_rounds 2 ?_
 rw [rounds_succ]
 go_wp2_with (first
  | (go_at_call 247;(with_reducible refine HG.out.mono ?_);rintro r w1 ⟨rfl,rfl⟩)
  | (go_at_call 248;(with_reducible refine (HZ.out _).mono ?_);rintro r w2 ⟨rfl,hb2⟩)
  | ((with_reducible refine gate_builtin (b:=.append) (xs:=#[.tmp 29,.tmp 32]) rfl ?_);at_builtin;refine hold ?_))
 unfold Hold
 refine Kd.R_append (Kd.int .i64) (w0:=w) w.heap.size rfl (.tmp 29) (.tmp 32) 202 2 (.int .i64 0) 8 rfl Tryz.underlying202 info2 rfl (by decide) (by decide) _ [] a [.int .i64 a] (fun _=>True) (fun _=>False) rfl rfl rfl (fun _ hk=>hk.elim) (fun _ _=>trivial) (Kd.R_nil _ _ _ _ _) hb2 hb2.size (by decide) ?_
 intro v9 w9 ho hb hg hat
 have HO9:=Aside0.mk ho
 have HB9:=Aside0.mk hb
 clear ho hb hg hat hb2
 go_wp2
 rw [rounds_succ]
 go_wp2
 go_ret2
 exact ⟨_,rfl,HO9.out,HB9.out⟩
theorem tgettwice_calls {w:World} {A:Option Addr} {m c:Nat} {a:Int} {rest:List Int} (h0:0≤a) (h1:a<128) (hr:Kd.C (Kd.int .u8) w A m (e8 a++rest)) (hm:(e8 a++rest).length=m) (hc:m≤c) (hm2:m≤1000) :
  Calls Tryz.prog 215 #[.slice A m c,.int .i64 1] w (Ti w a):=by
 have HN:=Aside0.mk (rnew_calls (A:=A) (c:=c) (m:=m) (bs:=e8 a++rest) (by rw [hm];exact hr) hm (by rw [hm];exact hc) (by rw [hm];exact hm2))
 have HT:Aside0 (∀ w1 W g A c,RdS w1 W g A m c 0 (e8 a++rest)→Calls Tryz.prog 218 #[.pointer (some ⟨g,0,none⟩),.int .i64 64] W fun r w'=>r = .returned (.int .u64 a)∧RdS w1 w' g A m c 64 (e8 a++rest)):=⟨fun w1 W g A c h=>take64 h0 h1 h hm hm2⟩
 have e4:IntKind.i64.wrap a=a:=i64_u h0 h1
 clear hr hm h0 h1 hc hm2
 go_enter Tryz.func215,Tryz.ntmps215
 go_wp2_with (go_at_call 217;(with_reducible refine HN.out.mono ?_);rintro r w2 ⟨g,A2,c2,w1,rfl,hb1,hs⟩;have HS:=Aside0.mk hs;have HB1:=Aside0.mk hb1;clear hs hb1)
 refine wp_loop_rounds 2 ?_
 rw [rounds_succ]
 go_wp2_with (first
  | (go_at_call 218;(with_reducible refine (HT.out _ _ _ _ _ HS.out).mono ?_);rintro r w3 ⟨rfl,hs⟩;have HS3:=Aside0.mk hs;clear hs)
  | ((with_reducible refine gate_builtin (b:=.append) (xs:=#[.tmp 23,.tmp 27]) rfl ?_);at_builtin;refine hold ?_))
 unfold Hold
 refine Kd.R_append (Kd.int .i64) (w0:=w3) w3.heap.size rfl (.tmp 23) (.tmp 27) 202 2 (.int .i64 0) 8 rfl Tryz.underlying202 info2 rfl (by decide) (by decide) _ [] a [.int .i64 a] (fun _=>True) (fun _=>False) rfl rfl rfl (fun _ hk=>hk.elim) (fun _ _=>trivial) (Kd.R_nil _ _ _ _ _) (Below.refl _ _) (Nat.le_refl _) (by decide) ?_
 intro v9 w9 ho hb hg hat
 have HO9:=Aside0.mk ho
 have HB9:=Aside0.mk hb
 have HBD:=Aside0.mk (rbad_calls (HS3.out.below hb))
 clear ho hb hg hat
 go_wp2
 rw [rounds_succ]
 go_wp2_with (go_at_call 220;(with_reducible refine HBD.out.mono ?_);rintro r w4 ⟨rfl,rfl⟩)
 go_ret2
 have hb3:=below_step HB1.out HS3.out.b
 exact ⟨_,rfl,Kd.R_lower HO9.out hb3.size,below_step hb3 HB9.out⟩
end
end Go.Proofs.YtnhkikebfinejaaGreatDoor.Z
namespace Go.Proofs.YtnhkikebfinejaaGreatDoor.X
open Go.RowKit Go.Proofs.YtnhkikebfinejaaGreatDoorW.PrintWords Go.Proofs.YtnhkikebfinejaaGreatDoorW.PrintLast Go.Proofs.YtnhkikebfinejaaGreatDoorW.PrintMore
attribute [local go_sem] max2_int min2_int max_two min_two max_three min_three max_four min_four
def bytes_HasPrefix.f (l0:List Int) (l1:List Int):Option (Bool):=if (l0.length:Int) ≥ (l1.length:Int) then (if 0≤(l1.length:Int) then (if (l1.length:Int)≤(l0.length:Int) then ((bytes_Equal.f (l0.take ((l1.length:Int):Int).toNat) l1).bind fun t313=>(some t313)) else (none)) else (none)) else (some false)
theorem bytes_HasPrefix.calls (A0:Option Addr) (c0:Nat) (l0:List Int) (A1:Option Addr) (c1:Nat) (l1:List Int) (r:Bool) (w:World) (hr0:Kd.C (Kd.int .u8) w A0 l0.length l0) (hc0:l0.length≤c0) (hr1:Kd.C (Kd.int .u8) w A1 l1.length l1) (hc1:l1.length≤c1) (h:bytes_HasPrefix.f l0 l1=some r) :
  Calls Tryz.prog 162 #[.slice A0 l0.length c0,.slice A1 l1.length c1] w fun e w'=>e = .returned (.bool r)∧Drawn0 w w':=by
 have HR0:=Aside0.mk hr0
 have HC0:=Aside0.mk hc0
 clear hr0 hc0
 have HR1:=Aside0.mk hr1
 have HC1:=Aside0.mk hc1
 clear hr1 hc1
 have H:(if (l0.length:Int) ≥ (l1.length:Int) then (if 0≤(l1.length:Int) then (if (l1.length:Int)≤(l0.length:Int) then ((bytes_Equal.f (l0.take ((l1.length:Int):Int).toNat) l1).bind fun t313=>(some t313)) else (none)) else (none)) else (some false))=some r:=h
 clear h
 by_cases c3:(l0.length:Int) ≥ (l1.length:Int)
 ·rw [if_pos c3] at H
  have c3b0:decide ((l1.length:Int)≤(l0.length:Int))=true:=decide_eq_true c3
  have c3b1:decide (l1.length≤l0.length)=true:=decide_eq_true (Int.ofNat_le.mp c3)
  clear c3
  by_cases c4:0≤(l1.length:Int)
  ·rw [if_pos c4] at H
   have c4b0:=eq_true c4
   have c4b1:decide (0≤(l1.length:Int))=true:=decide_eq_true c4
   clear c4
   by_cases c5:(l1.length:Int)≤(l0.length:Int)
   ·rw [if_pos c5] at H
    have c5b0:=eq_true c5
    have c5b1:decide ((l1.length:Int)≤(l0.length:Int))=true:=decide_eq_true c5
    clear c5
    replace H:=Option.bind_eq_some_iff.mp H
    obtain ⟨t313,A60,H⟩:=H
    replace H:(some t313)=some r:=H
    have A6:=Aside0.mk A60
    clear A60
    obtain rfl:=Option.some.inj H
    obtain ⟨i07,hi07,_,hsz7,_⟩:=info_parts info5
    obtain ⟨hcut7,hA7,hC7⟩:=print_take_of (P:=Tryz.prog) (Value.int .u8) 0 46 5 .i64 Tryz.underlying46 hi07 hsz7 A0 c0 l0 (l1.length:Int) (of_decide_eq_true (by first | (with_reducible assumption) | assumption)) (of_decide_eq_true (by first | (with_reducible assumption) | assumption)) HC0.out
    have HR312:=Aside0.mk (Kd.C_of_reads (h1:=fun _=>rfl) (hA7 _ (Kd.reads_of_C HR0.out)))
    have HC312:=Aside0.mk hC7
    clear hA7 hC7 hi07 hsz7
    obtain ⟨yq7,hyq7⟩:∃ y_:List Int,y_=l0.take ((l1.length:Int):Int).toNat:=⟨_,rfl⟩
    rw [← hyq7] at hcut7 HR312 HC312
    have eyq7:(l0.take ((l1.length:Int):Int).toNat)=yq7:=hyq7.symm
    (try rw [eyq7] at A6)
    (try rw [eyq7] at H)
    (try rw [eyq7] at c5b1)
    (try rw [eyq7] at c5b0)
    (try rw [eyq7] at c4b1)
    (try rw [eyq7] at c4b0)
    (try rw [eyq7] at c3b1)
    (try rw [eyq7] at c3b0)
    (try rw [eyq7] at HC1)
    (try rw [eyq7] at HC0)
    have Nyq7:=Aside0.mk hyq7
    clear eyq7 hyq7
    go_enter Tryz.func162,Tryz.ntmps162
    go_wp2_with (first | (go_at_call 121;(with_reducible refine (bytes_Equal.calls _ _ yq7 _ _ l1 t313 _ ?side1 ?side2 ?side3 ?side4 A6.out).mono ?_);(case side1=>repeat (first | exact HR312.out | (with_reducible refine Kd.C_alloc ?_ _) | (with_reducible refine Kd.C_drewN ?_ _) | (with_reducible refine Kd.C_drew ?_)));(case side2=>exact HC312.out);(case side3=>repeat (first | exact HR1.out | (with_reducible refine Kd.C_alloc ?_ _) | (with_reducible refine Kd.C_drewN ?_ _) | (with_reducible refine Kd.C_drew ?_)));(case side4=>exact HC1.out);rintro e w' ⟨rfl,⟨nd,rfl⟩⟩))
    go_ret
    exact ⟨by first | rfl | (simp;done) | (simp [*];done),by repeat (first | exact Drawn0.refl _ | apply Drawn0.step)⟩
   ·rw [if_neg c5] at H
    exact absurd H (by simp)
  ·rw [if_neg c4] at H
   exact absurd H (by simp)
 ·rw [if_neg c3] at H
  have c3b0:decide ((l1.length:Int)≤(l0.length:Int))=false:=decide_eq_false c3
  have c3b1:decide (l1.length≤l0.length)=false:=decide_eq_false (fun h=>c3 (Int.ofNat_le.mpr h))
  clear c3
  obtain rfl:=Option.some.inj H
  go_enter Tryz.func162,Tryz.ntmps162
  go_wp2
  go_ret
  exact ⟨by first | rfl | (simp;done) | (simp [*];done),by repeat (first | exact Drawn0.refl _ | apply Drawn0.step)⟩
end Go.Proofs.YtnhkikebfinejaaGreatDoor.X
namespace Go.Proofs.YtnhkikebfinejaaGreatDoor.Z
open Go Go.RowKit Go.Proofs.YtnhkikebfinejaaGreatDoorW.PrintWords Go.Proofs.YtnhkikebfinejaaGreatDoorW.PrintLast Go.Proofs.YtnhkikebfinejaaGreatDoorW.PrintMore Go.Proofs.YtnhkikebfinejaaGreatDoor.S Go.Proofs.YtnhkikebfinejaaGreatDoor.X
section
attribute [local go_sem ↓] Go.wp_at_zero Go.wp_at_succ
theorem e80_len (a:Int):(e8 a++[0]).length=9:=rfl
theorem e8_len (a:Int):(e8 a).length=8:=rfl
theorem hp_f (l r:List Int):bytes_HasPrefix.f (l++r) l=some true:=by
 unfold bytes_HasPrefix.f bytes_Equal.f
 rw [if_pos (by rw [List.length_append];omega),if_pos (by omega),if_pos (by rw [List.length_append];omega),Int.toNat_natCast,List.take_left]
 simp
theorem hp_calls {w:World} {A B:Option Addr} {c d m n:Nat} {l r:List Int} (hr:Kd.C (Kd.int .u8) w A m (l++r)) (hm:(l++r).length=m) (hc:m≤c) (hl:Kd.C (Kd.int .u8) w B n l) (hn:l.length=n) (hd:n≤d) :
  Calls Tryz.prog 162 #[.slice A m c,.slice B n d] w fun e w'=>e = .returned (.bool true)∧Below w.heap.size w w':=by
 subst hm hn
 exact (bytes_HasPrefix.calls A c (l++r) B d l true w hr hc hl hd (hp_f l r)).mono (fun e w' h=>⟨h.1,Drawn0.below h.2⟩)
def Va (W:World) (a:Int) (n:Nat) (r:Ending) (w':World):Prop:=∃ v,r = .returned (.tuple #[v,.int .i64 (n:Int),.int .i64 0])∧Kd.R (Kd.int .u64) 30 w' W.heap.size (fun _=>True) v [a]∧Below W.heap.size W w'
theorem pget_calls {w:World} {A:Option Addr} {m c:Nat} {a:Int} {rest:List Int} (h0:0≤a) (h1:a<128) (hr:Kd.C (Kd.int .u8) w A m (e8 a++0 :: rest)) (hm:(e8 a++0 :: rest).length=m) (hc:m≤c) (hm2:m≤1000) :
  Calls Tryz.prog 166 #[.slice A m c,.int .i64 1] w (Va w a 9):=by
 have hm9:9≤m:=by rw [← hm,List.length_append];simp [e8];omega
 obtain ⟨ad,rfl,hx⟩:=c_at hr hm (by omega)
 have hx8:w.cell? ⟨ad.block,ad.off+8,none⟩=some (.int .u8 0):=by simpa [Addr.add] using hx 8 0 rfl
 have HN:=Aside0.mk (rnew_calls (A:=some ad) (c:=c) (m:=m) (bs:=e8 a++0 :: rest) (by rw [hm];exact hr) hm (by rw [hm];exact hc) (by rw [hm];exact hm2))
 have HT:Aside0 (∀ w1 W g A c,RdS w1 W g A m c 0 (e8 a++0 :: rest)→Calls Tryz.prog 218 #[.pointer (some ⟨g,0,none⟩),.int .i64 64] W fun r w'=>r = .returned (.int .u64 a)∧RdS w1 w' g A m c 64 (e8 a++0 :: rest)):=⟨fun w1 W g A c h=>take64 h0 h1 h hm hm2⟩
 have HT8:Aside0 (∀ w1 W g A c,RdS w1 W g A m c 64 (e8 a++0 :: rest)→Calls Tryz.prog 218 #[.pointer (some ⟨g,0,none⟩),.int .i64 8] W fun r w'=>r = .returned (.int .u64 0)∧RdS w1 w' g A m c 72 (e8 a++0 :: rest)):=⟨fun w1 W g A c h=>take_none 8 h hm hm2 (by decide) (by omega) (fun i hi=>by rw [show (64+i) / 8=8 by omega];rfl)⟩
 have HT0:Aside0 (∀ w1 W g A c,RdS w1 W g A m c 72 (e8 a++0 :: rest)→Calls Tryz.prog 218 #[.pointer (some ⟨g,0,none⟩),.int .i64 0] W fun r w'=>r = .returned (.int .u64 0)∧RdS w1 w' g A m c 72 (e8 a++0 :: rest)):=⟨fun w1 W g A c h=>take_none 0 h hm hm2 (by decide) (by omega) (fun i hi=>by omega)⟩
 have HP:Aside0 (∀ W A c,Kd.C (Kd.int .u64) W A 1 [a]→1≤c→Calls Tryz.prog 152 #[.slice A 1 c] W (Gv0 W (e8 a++[0]))):=⟨fun W A c h hc=>by
  have:=pput_calls a h0 (by omega) h hc
  rwa [packB9 h0 h1] at this⟩
 have HHP:Aside0 (∀ W B d,Below w.heap.size w W→Kd.C (Kd.int .u8) W B 9 (e8 a++[0])→9≤d→Calls Tryz.prog 162 #[.slice (some ad) m c,.slice B 9 d] W fun e w'=>e = .returned (.bool true)∧Below W.heap.size W w'):=⟨fun W B d hb hC hd=>by
  have hr2:=Kd.C_below hr hb
  rw [show e8 a++0 :: rest=(e8 a++[0])++rest by simp] at hr2 hm
  exact hp_calls hr2 hm hc hC rfl hd⟩
 have e1:IntKind.u64.wrap a=a:=u64_w h0 (by omega)
 have e2:IntKind.u64.wrap (a+0)=a:=by rw [Int.add_zero];exact e1
 have e3:IntKind.i64.wrap 0=0:=by decide
 have d1:decide ((m:Int)<9)=false:=decide_eq_false (by omega)
 have d2:(8<(m:Int))=True:=eq_true (by omega)
 have d3:(8<m)=True:=eq_true (by omega)
 clear hr hm h0 h1 hc hm2 hx hm9
 go_enter Tryz.func166,Tryz.ntmps166
 go_wp2_with (first
  | (go_at_call 217;(with_reducible refine HN.out.mono ?_);rintro r w2 ⟨g,A2,c2,w1,rfl,hb1,hs⟩;have HS:=Aside0.mk hs;have HB1:=Aside0.mk hb1;clear hs hb1)
  | (go_at_call 218;(with_reducible refine (HT.out _ _ _ _ _ HS.out).mono ?_);rintro r w3 ⟨rfl,hs⟩;have HS3:=Aside0.mk hs;clear hs)
  | (go_at_call 218;(with_reducible refine (HT8.out _ _ _ _ _ HS3.out).mono ?_);rintro r w4 ⟨rfl,hs⟩;have HS4:=Aside0.mk hs;clear hs))
 refine wp_loop_rounds 2 ?_
 rw [rounds_succ]
 go_wp2_with (first
  | (go_at_call 218;(with_reducible refine (HT0.out _ _ _ _ _ HS4.out).mono ?_);rintro r w5 ⟨rfl,hs⟩;have HS5:=Aside0.mk hs;clear hs)
  | ((with_reducible refine gate_builtin (b:=.append) (xs:=#[.tmp 42,.tmp 48]) rfl ?_);at_builtin;refine hold ?_))
 unfold Hold
 refine Kd.R_append (Kd.int .u64) (w0:=w5) w5.heap.size rfl (.tmp 42) (.tmp 48) 203 30 (.int .u64 0) 8 rfl Tryz.underlying203 info30 rfl (by decide) (by decide) _ [] a [.int .u64 a] (fun _=>True) (fun _=>False) rfl rfl rfl (fun _ hk=>hk.elim) (fun _ _=>trivial) (Kd.R_nil _ _ _ _ _) (Below.refl _ _) (Nat.le_refl _) (by decide) ?_
 intro v9 w9 ho hb hg hat
 obtain ⟨A9,c9,rfl⟩:=Kd.R_slice ho
 have HO9:=Aside0.mk ho
 have HB9:=Aside0.mk (below_step (below_step HB1.out HS5.out.b) hb)
 have HBD:=Aside0.mk (rbad_calls (HS5.out.below hb))
 have HP9:=Aside0.mk (HP.out w9 A9 c9 (Kd.R_reads' ho).2.2 (Kd.R_reads' ho).2.1)
 have HSZ:=Aside0.mk (below_step HB1.out HS5.out.b).size
 clear ho hb hg hat hx8
 go_wp2
 rw [rounds_succ]
 go_wp2_with (first
  | (go_at_call 220;(with_reducible refine HBD.out.mono ?_);rintro r w10 ⟨rfl,rfl⟩)
  | (go_at_call 152;(with_reducible refine HP9.out.mono ?_);rintro r w11 ⟨v11,rfl,ho,hb⟩;refine hold ?_))
 unfold Hold
 obtain ⟨A11,c11,rfl⟩:=Kd.R_slice ho
 rw [e80_len] at ho ⊢
 have HQ:=Aside0.mk (HHP.out w11 A11 c11 (below_step HB9.out hb) (Kd.R_reads' ho).2.2 (Kd.R_reads' ho).2.1)
 have HO11:=Aside0.mk (Kd.R_below HO9.out hb)
 have HB11:=Aside0.mk (below_step HB9.out hb)
 clear ho hb
 go_wp2_with (go_at_call 162;(with_reducible refine HQ.out.mono ?_);rintro r w12 ⟨rfl,hb12⟩)
 go_ret3
 exact ⟨_,rfl,Kd.R_lower (Kd.R_below HO11.out hb12) HSZ.out,below_step HB11.out hb12⟩
theorem xget_calls {w:World} {A:Option Addr} {m c:Nat} {a:Int} {rest:List Int} (h0:0≤a) (h1:a<128) (hr:Kd.C (Kd.int .u8) w A m (e8 a++rest)) (hm:(e8 a++rest).length=m) (hc:m≤c) (hm2:m≤1000) :
  Calls Tryz.prog 164 #[.slice A m c,.int .i64 1] w (Va w a 8):=by
 have HN:=Aside0.mk (rnew_calls (A:=A) (c:=c) (m:=m) (bs:=e8 a++rest) (by rw [hm];exact hr) hm (by rw [hm];exact hc) (by rw [hm];exact hm2))
 have HT:Aside0 (∀ w1 W g A c,RdS w1 W g A m c 0 (e8 a++rest)→Calls Tryz.prog 218 #[.pointer (some ⟨g,0,none⟩),.int .i64 64] W fun r w'=>r = .returned (.int .u64 a)∧RdS w1 w' g A m c 64 (e8 a++rest)):=⟨fun w1 W g A c h=>take64 h0 h1 h hm hm2⟩
 have HP:Aside0 (∀ W A c,Kd.C (Kd.int .u64) W A 1 [a]→1≤c→Calls Tryz.prog 150 #[.slice A 1 c] W (Gv0 W (e8 a))):=⟨fun W A c h hc=>by
  have:=xput_calls a h0 (by omega) h hc
  rwa [packB8 h0 h1] at this⟩
 have HHP:Aside0 (∀ W B d,Below w.heap.size w W→Kd.C (Kd.int .u8) W B 8 (e8 a)→8≤d→Calls Tryz.prog 162 #[.slice A m c,.slice B 8 d] W fun e w'=>e = .returned (.bool true)∧Below W.heap.size W w'):=⟨fun W B d hb hC hd=>hp_calls (Kd.C_below hr hb) hm hc hC rfl hd⟩
 clear hr hm h0 h1 hc hm2
 go_enter Tryz.func164,Tryz.ntmps164
 go_wp2_with (go_at_call 217;(with_reducible refine HN.out.mono ?_);rintro r w2 ⟨g,A2,c2,w1,rfl,hb1,hs⟩;have HS:=Aside0.mk hs;have HB1:=Aside0.mk hb1;clear hs hb1)
 refine wp_loop_rounds 2 ?_
 rw [rounds_succ]
 go_wp2_with (first
  | (go_at_call 218;(with_reducible refine (HT.out _ _ _ _ _ HS.out).mono ?_);rintro r w5 ⟨rfl,hs⟩;have HS5:=Aside0.mk hs;clear hs)
  | ((with_reducible refine gate_builtin (b:=.append) (xs:=#[.tmp 26,.tmp 29]) rfl ?_);at_builtin;refine hold ?_))
 unfold Hold
 refine Kd.R_append (Kd.int .u64) (w0:=w5) w5.heap.size rfl (.tmp 26) (.tmp 29) 203 30 (.int .u64 0) 8 rfl Tryz.underlying203 info30 rfl (by decide) (by decide) _ [] a [.int .u64 a] (fun _=>True) (fun _=>False) rfl rfl rfl (fun _ hk=>hk.elim) (fun _ _=>trivial) (Kd.R_nil _ _ _ _ _) (Below.refl _ _) (Nat.le_refl _) (by decide) ?_
 intro v9 w9 ho hb hg hat
 obtain ⟨A9,c9,rfl⟩:=Kd.R_slice ho
 have HO9:=Aside0.mk ho
 have HB9:=Aside0.mk (below_step (below_step HB1.out HS5.out.b) hb)
 have HBD:=Aside0.mk (rbad_calls (HS5.out.below hb))
 have HP9:=Aside0.mk (HP.out w9 A9 c9 (Kd.R_reads' ho).2.2 (Kd.R_reads' ho).2.1)
 have HSZ:=Aside0.mk (below_step HB1.out HS5.out.b).size
 clear ho hb hg hat
 go_wp2
 rw [rounds_succ]
 go_wp2_with (first
  | (go_at_call 220;(with_reducible refine HBD.out.mono ?_);rintro r w10 ⟨rfl,rfl⟩)
  | (go_at_call 150;(with_reducible refine HP9.out.mono ?_);rintro r w11 ⟨v11,rfl,ho,hb⟩;refine hold ?_))
 unfold Hold
 obtain ⟨A11,c11,rfl⟩:=Kd.R_slice ho
 rw [e8_len] at ho ⊢
 have HQ:=Aside0.mk (HHP.out w11 A11 c11 (below_step HB9.out hb) (Kd.R_reads' ho).2.2 (Kd.R_reads' ho).2.1)
 have HO11:=Aside0.mk (Kd.R_below HO9.out hb)
 have HB11:=Aside0.mk (below_step HB9.out hb)
 clear ho hb
 go_wp2_with (go_at_call 162;(with_reducible refine HQ.out.mono ?_);rintro r w12 ⟨rfl,hb12⟩)
 go_ret3
 exact ⟨_,rfl,Kd.R_lower (Kd.R_below HO11.out hb12) HSZ.out,below_step HB11.out hb12⟩
theorem tgetpacked_calls {w:World} {A:Option Addr} {m c:Nat} {a:Int} {rest:List Int} (h0:0≤a) (h1:a<128) (hr:Kd.C (Kd.int .u8) w A m (e8 a++(e8 0++0 :: rest))) (hm:(e8 a++(e8 0++0 :: rest)).length=m) (hc:m≤c) (hm2:m≤1000) :
  Calls Tryz.prog 216 #[.slice A m c,.int .i64 1] w (Ti w a):=by
 have hm9:17≤m:=by rw [← hm,List.length_append,List.length_append];simp [e8];omega
 obtain ⟨ad,rfl,-⟩:=c_at hr hm (by omega)
 have HP:Aside0 (Calls Tryz.prog 166 #[.slice (some ⟨ad.block,ad.off+8,none⟩) (m-8) (c-8),.int .i64 1] w (Va w 0 9)):=⟨by
  have hd:=Kd.C_drop (c:=c) (m:=8) (hm▸hr) (by omega) (by omega)
  rw [if_neg (by omega)] at hd
  have he:List.drop 8 (e8 a++(e8 0++0 :: rest))=e8 0++0 :: rest:=rfl
  rw [he] at hd
  have hl:(e8 0++0 :: rest).length=m-8:=by rw [← hm];simp [e8]
  rw [hl] at hd
  have:=pget_calls (c:=c-8) (by decide) (by decide) hd hl (by omega) (by omega)
  exact this⟩
 have HN:Aside0 (∀ W,Below w.heap.size w W→Calls Tryz.prog 246 #[.slice (some ad) m c] W fun r w'=>r = .returned (.int .u64 a)∧W=w'):=⟨fun W hb=>tnumber_calls h0 h1 (Kd.C_below hr hb) hm hc⟩
 have e1:IntKind.u64.wrap (a+0)=a:=by rw [Int.add_zero];exact u64_w h0 (by omega)
 have e2:IntKind.u64.wrap a=a:=u64_w h0 (by omega)
 have e4:IntKind.i64.wrap a=a:=i64_u h0 h1
 have d1:decide ((m:Int)<8)=false:=decide_eq_false (by omega)
 have d2:(8≤(m:Int))=True:=eq_true (by omega)
 have d3:(8≤m)=True:=eq_true (by omega)
 have d4:(8≤c)=True:=eq_true (by omega)
 have d5:(m≤c)=True:=eq_true (by omega)
 have d6:(c=8)=False:=eq_false (by omega)
 have d7:(m=8)=False:=eq_false (by omega)
 clear hr hm h0 h1 hc hm2 hm9
 go_enter Tryz.func216,Tryz.ntmps216
 go_wp2_with (go_at_call 166;(with_reducible refine HP.out.mono ?_);rintro r w2 ⟨v2,rfl,ho,hb⟩;refine hold ?_)
 unfold Hold
 obtain ⟨A2,c2,rfl⟩:=Kd.R_slice ho
 obtain ⟨a2,rfl,hx2⟩:=c_one (Kd.R_reads' ho).2.2
 have HNC:=Aside0.mk (HN.out w2 hb)
 have HB2:=Aside0.mk hb
 clear ho hb
 go_wp2
 refine wp_loop_rounds 2 ?_
 rw [rounds_succ]
 go_wp2_with (first
  | (go_at_call 246;(with_reducible refine HNC.out.mono ?_);rintro r w3 ⟨rfl,rfl⟩)
  | ((with_reducible refine gate_builtin (b:=.append) (xs:=#[.tmp 32,.tmp 38]) rfl ?_);at_builtin;refine hold ?_))
 unfold Hold
 refine Kd.R_append (Kd.int .i64) (w0:=w) w.heap.size rfl (.tmp 32) (.tmp 38) 202 2 (.int .i64 0) 8 rfl Tryz.underlying202 info2 rfl (by decide) (by decide) _ [] a [.int .i64 a] (fun _=>True) (fun _=>False) rfl rfl rfl (fun _ hk=>hk.elim) (fun _ _=>trivial) (Kd.R_nil _ _ _ _ _) HB2.out HB2.out.size (by decide) ?_
 intro v9 w9 ho hb hg hat
 have HO9:=Aside0.mk ho
 have HB9:=Aside0.mk hb
 clear ho hb hg hat hx2
 go_wp2
 rw [rounds_succ]
 go_wp2
 go_ret2
 exact ⟨_,rfl,HO9.out,HB9.out⟩
end
section
attribute [local go_sem ↓] Go.wp_at_zero Go.wp_at_succ
theorem tB_0 {a:Int} (h0:0≤a) (h1:a<128):tB 0 a=e8 a:=low8 h0 h1
theorem tB_2 {a:Int} (h0:0≤a) (h1:a<128):tB 2 a=e8 a:=packB8 h0 h1
theorem tB_3 {a:Int} (h0:0≤a) (h1:a<128):tB 3 a=e8 a++(e8 0++[0]):=by
 show low a 8++B.packB (B.bitsN 64 0++B.bitsN 8 0)=_
 rw [low8 h0 h1,packB9 (by decide) (by decide)]
 rfl
theorem got_calls {w:World} {A:Option Addr} {m c:Nat} {a:Int} {rest:List Int} (way:Nat) (hw:way<4) (h0:0≤a) (h1:a<128) (hr:Kd.C (Kd.int .u8) w A m (tB way a++rest)) (hm:(tB way a++rest).length=m) (hc:m≤c) (hm2:m≤1000) (hl:1≤rest.length) :
  Calls Tryz.prog 161 #[.slice A m c,.int .i64 1,.int .i64 (way:Int)] w (Ti w a):=by
 match way,hw with
 | 0,_=>
  rw [tB_0 h0 h1] at hr hm
  have H:=Aside0.mk (tgetraw_calls h0 h1 hr hm hc)
  clear hr hm h0 h1 hc hm2 hl
  go_enter Tryz.func161,Tryz.ntmps161
  go_wp2_with (go_at_call 213;(with_reducible refine H.out.mono ?_);rintro r w1 ⟨v1,rfl,ho,hb⟩;have H1:=Aside0.mk (And.intro ho hb);clear ho hb)
  go_ret2
  exact ⟨v1,rfl,H1.out.1,H1.out.2⟩
 | 1,_=>
  have H:=Aside0.mk (tgetdelta_calls h0 h1 (show Kd.C (Kd.int .u8) w A m (vint (2*a)++rest) from hr) hm hc hl hm2)
  clear hr hm h0 h1 hc hm2 hl
  go_enter Tryz.func161,Tryz.ntmps161
  go_wp2_with (go_at_call 214;(with_reducible refine H.out.mono ?_);rintro r w1 ⟨v1,rfl,ho,hb⟩;have H1:=Aside0.mk (And.intro ho hb);clear ho hb)
  go_ret2
  exact ⟨v1,rfl,H1.out.1,H1.out.2⟩
 | 2,_=>
  rw [tB_2 h0 h1] at hr hm
  have H:=Aside0.mk (tgettwice_calls h0 h1 hr hm hc hm2)
  clear hr hm h0 h1 hc hm2 hl
  go_enter Tryz.func161,Tryz.ntmps161
  go_wp2_with (go_at_call 215;(with_reducible refine H.out.mono ?_);rintro r w1 ⟨v1,rfl,ho,hb⟩;have H1:=Aside0.mk (And.intro ho hb);clear ho hb)
  go_ret2
  exact ⟨v1,rfl,H1.out.1,H1.out.2⟩
 | 3,_=>
  rw [tB_3 h0 h1,List.append_assoc,List.append_assoc] at hr hm
  have H:=Aside0.mk (tgetpacked_calls (rest:=rest) h0 h1 hr hm hc hm2)
  clear hr hm h0 h1 hc hm2 hl
  go_enter Tryz.func161,Tryz.ntmps161
  go_wp2_with (go_at_call 216;(with_reducible refine H.out.mono ?_);rintro r w1 ⟨v1,rfl,ho,hb⟩;have H1:=Aside0.mk (And.intro ho hb);clear ho hb)
  go_ret2
  exact ⟨v1,rfl,H1.out.1,H1.out.2⟩
theorem tget_calls {w:World} {A:Option Addr} {m c:Nat} {a:Int} {rest:List Int} (way:Nat) (hw:way<4) (h0:0≤a) (h1:a<128) (hr:Kd.C (Kd.int .u8) w A m (tB way a++rest)) (hm:(tB way a++rest).length=m) (hc:m≤c) (hm2:m≤1000) (hl:1≤rest.length) :
  Calls Tryz.prog 119 #[.slice A m c,.int .i64 1,.int .i64 (way:Int)] w fun r w'=>∃ v,r = .returned (.tuple #[v,.int .i64 ((tB way a).length:Int),.int .i64 0])∧Kd.R (Kd.int .i64) 2 w' w.heap.size (fun _=>True) v [a]∧Below w.heap.size w w':=by
 have HG:=Aside0.mk (got_calls way hw h0 h1 hr hm hc hm2 hl)
 have HP:Aside0 (∀ W A c,Kd.C (Kd.int .i64) W A 1 [a]→1≤c→Calls Tryz.prog 109 #[.slice A 1 c,.int .i64 (way:Int)] W (Gv0 W (tB way a))):=⟨fun W A c h hc=>tput_calls way hw a h0 h1 h hc⟩
 obtain ⟨n,hn⟩:∃ n,(tB way a).length=n:=⟨_,rfl⟩
 have HN:=Aside0.mk hn
 have HH:Aside0 (∀ W B d,Below w.heap.size w W→Kd.C (Kd.int .u8) W B n (tB way a)→n≤d→Calls Tryz.prog 162 #[.slice A m c,.slice B n d] W fun e w'=>e = .returned (.bool true)∧Below W.heap.size W w'):=⟨fun W B d hb hC hd=>hp_calls (Kd.C_below hr hb) hm hc hC hn hd⟩
 obtain ⟨T,hT⟩:∃ T,tB way a=T:=⟨_,rfl⟩
 rw [hT] at HP HH HN
 obtain ⟨wz,hwz⟩:∃ z:Int,(way:Int)=z:=⟨_,rfl⟩
 have d1:decide (wz<0)=false:=decide_eq_false (by omega)
 have d2:decide (3<wz)=false:=decide_eq_false (by omega)
 rw [hwz] at HG HP ⊢
 rw [hn]
 clear hr hm h0 h1 hc hm2 hl hn hT hwz hw
 go_enter Tryz.func119,Tryz.ntmps119
 go_wp2_with (go_at_call 161;(with_reducible refine HG.out.mono ?_);rintro r w1 ⟨v1,rfl,ho,hb⟩;refine hold ?_)
 unfold Hold
 obtain ⟨A1,c1,rfl⟩:=Kd.R_slice ho
 have HO1:=Aside0.mk ho
 have HB1:=Aside0.mk hb
 have HP1:=Aside0.mk (HP.out w1 A1 c1 (Kd.R_reads' ho).2.2 (Kd.R_reads' ho).2.1)
 clear ho hb
 go_wp2_with (go_at_call 109;(with_reducible refine HP1.out.mono ?_);rintro r w2 ⟨v2,rfl,ho,hb⟩;refine hold ?_)
 unfold Hold
 obtain ⟨A2,c2,rfl⟩:=Kd.R_slice ho
 rw [HN.out] at ho ⊢
 have hrd:=(Kd.R_reads' ho).2.2
 rw [HN.out] at hrd
 have HQ:=Aside0.mk (HH.out w2 A2 c2 (below_step HB1.out hb) hrd (Kd.R_reads' ho).2.1)
 have HO2:=Aside0.mk (Kd.R_below HO1.out hb)
 have HB2:=Aside0.mk (below_step HB1.out hb)
 clear ho hb hrd
 go_wp2_with (go_at_call 162;(with_reducible refine HQ.out.mono ?_);rintro r w3 ⟨rfl,hb3⟩)
 go_ret3
 exact ⟨_,rfl,Kd.R_below HO2.out hb3,below_step HB2.out hb3⟩
end
section
attribute [local go_sem ↓] Go.wp_at_zero Go.wp_at_succ
theorem cgetraw_calls {w:World} {A:Option Addr} {m c:Nat} {a:Int} (h0:0≤a) (h1:a<128) (hr:Kd.C (Kd.int .u8) w A m (e8 a)) (hm:(e8 a).length=m) (hc:m≤c) :
  Calls Tryz.prog 163 #[.slice A m c,.int .i64 1] w (Va w a 8):=by
 obtain ⟨ad,rfl,hx⟩:=c_at hr hm (by rw [← hm,e8_len];decide)
 obtain rfl:m=8:=hm.symm
 have z0:=c_first (hx 0 0 rfl)
 have z1:w.cell? ⟨ad.block,ad.off+1,none⟩=some (.int .u8 0):=by simpa [Addr.add] using hx 1 0 rfl
 have z2:w.cell? ⟨ad.block,ad.off+2,none⟩=some (.int .u8 0):=by simpa [Addr.add] using hx 2 0 rfl
 have z3:w.cell? ⟨ad.block,ad.off+3,none⟩=some (.int .u8 0):=by simpa [Addr.add] using hx 3 0 rfl
 have z4:w.cell? ⟨ad.block,ad.off+4,none⟩=some (.int .u8 0):=by simpa [Addr.add] using hx 4 0 rfl
 have z5:w.cell? ⟨ad.block,ad.off+5,none⟩=some (.int .u8 0):=by simpa [Addr.add] using hx 5 0 rfl
 have z6:w.cell? ⟨ad.block,ad.off+6,none⟩=some (.int .u8 0):=by simpa [Addr.add] using hx 6 0 rfl
 have z7:w.cell? ⟨ad.block,ad.off+7,none⟩=some (.int .u8 a):=by simpa [Addr.add] using hx 7 a rfl
 have e1:Go.bits .or .u64 0 0=0:=by decide
 have e2:=or0 h0 h1
 have e4:IntKind.u64.wrap a=a:=u64_w h0 (by omega)
 have e5:IntKind.u64.wrap 0=0:=by decide
 have d1:(8≤(c:Int))=True:=eq_true (by omega)
 have d2:(8≤c)=True:=eq_true (by omega)
 have d3:(c=0)=False:=eq_false (by omega)
 clear hr hm hx h0 h1 hc
 go_enter Tryz.func163,Tryz.ntmps163
 go_wp2
 refine wp_loop_rounds 2 ?_
 rw [rounds_succ]
 go_wp2
 refine wp_loop_rounds 9 ?_
 iterate 8
  rw [rounds_succ]
  go_wp2
 rw [rounds_succ]
 go_wp2_with ((with_reducible refine gate_builtin (b:=.append) (xs:=#[.tmp 39,.tmp 41]) rfl ?_);at_builtin;refine hold ?_)
 unfold Hold
 refine Kd.R_append (Kd.int .u64) (w0:=w) w.heap.size rfl (.tmp 39) (.tmp 41) 203 30 (.int .u64 0) 8 rfl Tryz.underlying203 info30 rfl (by decide) (by decide) _ [] a [.int .u64 a] (fun _=>True) (fun _=>False) rfl rfl rfl (fun _ hk=>hk.elim) (fun _ _=>trivial) (Kd.R_nil _ _ _ _ _) (Below.refl _ _) (Nat.le_refl _) (by decide) ?_
 intro v9 w9 ho hb hg hat
 have HO9:=Aside0.mk ho
 have HB9:=Aside0.mk hb
 clear ho hb hg hat
 go_wp2
 rw [rounds_succ]
 go_wp2
 go_ret3
 exact ⟨_,rfl,HO9.out,HB9.out⟩
theorem pair_calls {w:World} {A:Option Addr} {c:Nat} {a:Int} (h0:0≤a) (h1:a<128) (hr:Kd.C (Kd.int .u8) w A 2 [1,a]) (hc:2≤c) :
  Calls Tryz.prog 221 #[.slice A 2 c] w fun r w'=>r = .returned (.tuple #[.int .u64 1,.int .u64 a,.int .i64 2,.int .i64 0])∧w=w':=by
 obtain ⟨ad,rfl,-⟩:=c_at hr rfl (by decide)
 have hv:vint a=[a]:=by unfold vint;rw [if_pos h1]
 have H1:Aside0 (Calls Tryz.prog 247 #[.slice (some ad) 2 c] w fun r w'=>r = .returned (.tuple #[.int .u64 1,.int .i64 1,.int .i64 0])∧w=w'):=⟨vget_calls (rest:=[a]) 1 (by decide) (by decide) hr rfl (by decide)⟩
 have H2:Aside0 (Calls Tryz.prog 247 #[.slice (some ⟨ad.block,ad.off+1,none⟩) 1 (c-1)] w fun r w'=>r = .returned (.tuple #[.int .u64 a,.int .i64 1,.int .i64 0])∧w=w'):=⟨by
  have hd:=Kd.C_drop (c:=c) (m:=1) (xs:=[1,a]) hr (by simp) hc
  rw [if_neg (by omega)] at hd
  have hd2:Kd.C (Kd.int .u8) w (some ⟨ad.block,ad.off+1,none⟩) 1 (vint a++[]):=by rw [hv];exact hd
  have:=vget_calls (c:=c-1) (rest:=[]) a h0 (by omega) hd2 (by rw [hv];rfl) (by decide)
  rw [hv] at this
  exact this⟩
 have d1:(c=1)=False:=eq_false (by omega)
 have d2:(2≤c)=True:=eq_true hc
 clear hr hc h0 h1 hv
 go_enter Tryz.func221,Tryz.ntmps221
 go_wp2_with (first
  | (go_at_call 247;(with_reducible refine H1.out.mono ?_);rintro r w1 ⟨rfl,rfl⟩)
  | (go_at_call 247;(with_reducible refine H2.out.mono ?_);rintro r w1 ⟨rfl,rfl⟩))
 refine bodyPost_ret (results_list (rs:=[.tmp 2,.tmp 3,.tmp 4,.tmp 5]) rfl (by simp) (.tmp (.tmp (.tmp (.tmp .nil))))) rfl ?_
 exact ⟨rfl,rfl⟩
theorem mul_calls {w:World}:Calls Tryz.prog 251 #[.int .u64 1,.int .u64 1] w fun r w'=>r = .returned (.tuple #[.int .u64 0,.int .u64 1])∧w=w':=by
 go_enter Tryz.func251,Tryz.ntmps251
 go_wp2
 go_ret2
 exact ⟨rfl,rfl⟩
theorem make_u64 (W:World):(Instr.makeSlice 203 (.int .i64 1) (.int .i64 1)).run Tryz.prog W = .ok (.slice (some ⟨W.heap.size,0,none⟩) 1 1) (W.alloc (.cells #[.int .u64 0] 30)):=by
 obtain ⟨i0,hi0,hz0,hsz0,hby0⟩:=info_parts info30
 have:=run_makeSlice W 203 30 i0 _ Tryz.underlying203 hi0 hz0 .i64 .i64 1 1 (by omega) (Int.le_refl _) (by rw [hsz0];omega) (by rw [hby0];omega) (by omega)
 have hm:madeCells (Value.int .u64 0).cells 1=#[.int .u64 0]:=by
  apply Array.ext
  ·simp [madeCells]
  ·intro i h1 h2
   obtain rfl:i=0:=by simpa using h2
   simp [madeCells,Value.cells]
 rw [this,hsz0]
 show Result.ok _ (W.alloc (.cells (madeCells (Value.int .u64 0).cells 1) 30))=_
 rw [hm]
 rfl
theorem repeat_calls {w:World} {A:Option Addr} {c:Nat} {a:Int} (hr:Kd.C (Kd.int .u64) w A 1 [a]) :
  Calls Tryz.prog 222 #[.slice A 1 c,.int .i64 1] w fun r w'=>∃ v,r = .returned v∧Kd.R (Kd.int .u64) 30 w' w.heap.size (fun _=>True) v [a]∧Below w.heap.size w w':=by
 obtain ⟨ad,rfl,hx⟩:=c_one hr
 have hmk:=make_u64
 obtain ⟨g,hg⟩:∃ q,w.heap.size=q:=⟨_,rfl⟩
 obtain ⟨W1,hW1⟩:∃ W,w.alloc (Obj.cells #[.int .u64 0] 30)=W:=⟨_,rfl⟩
 have hb1:Below w.heap.size w W1:=by rw [← hW1];exact below_alloc (Below.refl _ _) _
 have hk1:W1.heap[g]?=some (Obj.cells #[.int .u64 0] 30):=by rw [← hW1];exact newb hg
 have hx1:W1.cell? ad=some (.int .u64 a):=by
  obtain ⟨ad2,e,h⟩:=c_one (Kd.C_below hr hb1)
  injection e with e
  rw [e];exact h
 obtain ⟨W2,hW2⟩:∃ W,W1.setCells g 0 [.int .u64 a]=W:=⟨_,rfl⟩
 have hcp:∀ ty,(Builtin.copy_ #[203,203] ty #[.slice (some ⟨g,0,none⟩) 1 1,.slice (some ad) 1 c]).run Tryz.prog W1 = .ok (goInt 1) W2:=fun ty=>by
  have:=run_copy_cells (P:=Tryz.prog) W1 203 203 ty 30 g 0 1 1 ad 1 c [.int .u64 a] Tryz.underlying203 (by kernel_rfl) rfl
   (fun j v hj=>by
    have hj0:j=0:=by have:=(List.getElem?_eq_some_iff.1 hj).1;simp at this;exact this
    subst hj0
    simp at hj
    subst hj
    cases ad
    simpa [Addr.add] using hx1)
   (fun j hj=>by
    have hj0:j=0:=by simpa using hj
    subst hj0
    rw [blk_cell hk1 (0+0)];rfl)
   (fun j hj=>blk_frozen hk1 _) (fun v hv=>by simp at hv;subst hv;rfl)
  rw [hW2] at this
  exact this
 have HFIN:Aside0 (Kd.R (Kd.int .u64) 30 W2 w.heap.size (fun _=>True) (.slice (some ⟨g,0,none⟩) 1 1) [a]∧Below w.heap.size w W2):=⟨by
  have hs:W2=w.alloc (Obj.cells #[.int .u64 a] 30):=by
   rw [← hW2]
   haveI:Inhabited Sanct:=⟨⟨0⟩⟩
   have h1:W1.setCells g 0 [.int .u64 a]=W1.setRow g #[.int .u64 a]:=setCells_row g _ _ [.int .u64 a] 0 _ W1 hk1 (by simp)
   rw [h1,← hW1,← hg,World.setRow_alloc_new]
  rw [hs,← hg]
  refine ⟨Kd.R_of_own (World.ownsRow_lit w #[.int .u64 a] 1 (Nat.le_refl _) (by decide) rfl) (fun _ _=>trivial),below_alloc (Below.refl _ _) _⟩⟩
 have HM:Aside0 (∀ W,Calls Tryz.prog 251 #[.int .u64 1,.int .u64 1] W fun r w'=>r = .returned (.tuple #[.int .u64 0,.int .u64 1])∧W=w'):=⟨fun W=>mul_calls⟩
 have e1:IntKind.u64.wrap 1=1:=by decide
 clear hr hx hb1 hk1 hx1 hW2
 go_enter Tryz.func222,Tryz.ntmps222
 go_wp2_with (go_at_call 251;(with_reducible refine (HM.out _).mono ?_);rintro r w1 ⟨rfl,rfl⟩)
 refine wp_loop_rounds 1 ?_
 rw [rounds_succ]
 go_wp2
 go_ret
 exact ⟨_,rfl,HFIN.out.1,HFIN.out.2⟩
theorem rget_calls {w:World} {A:Option Addr} {c:Nat} {a:Int} (h0:0≤a) (h1:a<128) (hr:Kd.C (Kd.int .u8) w A 2 [1,a]) (hc:2≤c) :
  Calls Tryz.prog 165 #[.slice A 2 c,.int .i64 1] w (Va w a 2):=by
 have HP:=Aside0.mk (pair_calls h0 h1 hr hc)
 obtain ⟨ad,rfl,-⟩:=c_at hr rfl (by simp)
 have d1:(c=0)=False:=eq_false (by omega)
 have d2:(2≤c)=True:=eq_true hc
 have e1:IntKind.u64.wrap 1=1:=by decide
 have e2:IntKind.i64.wrap 1=1:=by decide
 obtain ⟨g,hg⟩:∃ q,w.heap.size=q:=⟨_,rfl⟩
 obtain ⟨W1,hW1⟩:∃ W,w.alloc (Obj.cells #[.int .u64 a] 30)=W:=⟨_,rfl⟩
 have hb1:Below w.heap.size w W1:=by rw [← hW1];exact below_alloc (Below.refl _ _) _
 have hc1:Kd.C (Kd.int .u64) W1 (some ⟨g,0,none⟩) 1 [a]:=by
  have h:Kd.R (Kd.int .u64) 30 W1 w.heap.size (fun _=>True) (.slice (some ⟨g,0,none⟩) 1 1) [a]:=by
   rw [← hW1,← hg]
   exact Kd.R_of_own (World.ownsRow_lit w #[.int .u64 a] 1 (Nat.le_refl _) (by decide) rfl) (fun _ _=>trivial)
  exact (Kd.R_reads' h).2.2
 have HR:=Aside0.mk (repeat_calls (c:=1) hc1)
 have HB1:=Aside0.mk hb1
 clear hr hc h0 h1 hb1 hc1
 go_enter Tryz.func165,Tryz.ntmps165
 go_wp2
 refine wp_loop_rounds 2 ?_
 rw [rounds_succ]
 go_wp2_with (first
  | (go_at_call 221;(with_reducible refine HP.out.mono ?_);rintro r w1 ⟨rfl,rfl⟩)
  | (go_at_call 222;(with_reducible refine HR.out.mono ?_);rintro r w2 ⟨v2,rfl,ho,hb⟩;refine hold ?_))
 unfold Hold
 obtain ⟨A2,c2,rfl⟩:=Kd.R_slice ho
 have HO2:=Aside0.mk ho
 have HB2:=Aside0.mk (below_step HB1.out hb)
 clear ho hb hg hW1
 go_wp2_with ((with_reducible refine gate_builtin (b:=.append) (xs:=#[.tmp 65,.tmp 70]) rfl ?_);at_builtin;refine hold ?_)
 unfold Hold
 refine Kd.R_append_rows (Kd.int .u64) (w0:=w) w.heap.size rfl (.tmp 65) (.tmp 70) 203 30 (.int .u64 0) 8 rfl Tryz.underlying203 info30 rfl (by decide) (by decide) _ [] [a] A2 1 c2 (fun _=>True) (fun _=>False) rfl rfl (Kd.R_nil _ _ _ _ _) (Kd.R_reads' HO2.out).2.2 (fun _ _ h=>h) (fun _ h=>h.elim) (fun _ _=>trivial) HB2.out HB2.out.size (by decide) ?_
 intro v9 w9 ho hb hg hat
 obtain ⟨A9,c9,rfl⟩:=Kd.R_slice ho
 have HO9:=Aside0.mk ho
 have HB9:=Aside0.mk hb
 clear ho hb hg hat
 go_wp2
 rw [rounds_succ]
 go_wp2
 go_ret3
 exact ⟨_,rfl,HO9.out,HB9.out⟩
theorem vB_0 {a:Int} (h0:0≤a) (h1:a<128):vB 0 a=e8 a:=low8 h0 h1
theorem vB_1 {a:Int} (h0:0≤a) (h1:a<128):vB 1 a=e8 a:=packB8 h0 h1
theorem vB_3 {a:Int} (h0:0≤a) (h1:a<128):vB 3 a=e8 a++[0]:=packB9 h0 h1
theorem getvalues_calls {w:World} {A:Option Addr} {m c:Nat} {a:Int} (way:Nat) (hw:way<4) (h0:0≤a) (h1:a<128) (hr:Kd.C (Kd.int .u8) w A m (vB way a)) (hm:(vB way a).length=m) (hc:m≤c) (hm2:m≤1000) :
  Calls Tryz.prog 120 #[.slice A m c,.int .i64 1,.int .i64 (way:Int)] w fun r w'=>∃ n,Va w a n r w':=by
 match way,hw with
 | 0,_=>
  rw [vB_0 h0 h1] at hr hm
  have H:=Aside0.mk (cgetraw_calls h0 h1 hr hm hc)
  clear hr hm h0 h1 hc hm2
  go_enter Tryz.func120,Tryz.ntmps120
  go_wp2_with (go_at_call 163;(with_reducible refine H.out.mono ?_);rintro r w1 ⟨v1,rfl,ho,hb⟩;have H1:=Aside0.mk (And.intro ho hb);clear ho hb)
  go_ret3
  exact ⟨_,v1,rfl,H1.out.1,H1.out.2⟩
 | 1,_=>
  rw [vB_1 h0 h1] at hr hm
  have H:=Aside0.mk (xget_calls (rest:=[]) h0 h1 (by rw [List.append_nil];exact hr) (by rw [List.append_nil];exact hm) hc hm2)
  clear hr hm h0 h1 hc hm2
  go_enter Tryz.func120,Tryz.ntmps120
  go_wp2_with (go_at_call 164;(with_reducible refine H.out.mono ?_);rintro r w1 ⟨v1,rfl,ho,hb⟩;have H1:=Aside0.mk (And.intro ho hb);clear ho hb)
  go_ret3
  exact ⟨_,v1,rfl,H1.out.1,H1.out.2⟩
 | 2,_=>
  obtain rfl:m=2:=hm.symm
  have H:=Aside0.mk (rget_calls h0 h1 (show Kd.C (Kd.int .u8) w A 2 [1,a] from hr) hc)
  clear hr hm h0 h1 hc hm2
  go_enter Tryz.func120,Tryz.ntmps120
  go_wp2_with (go_at_call 165;(with_reducible refine H.out.mono ?_);rintro r w1 ⟨v1,rfl,ho,hb⟩;have H1:=Aside0.mk (And.intro ho hb);clear ho hb)
  go_ret3
  exact ⟨_,v1,rfl,H1.out.1,H1.out.2⟩
 | 3,_=>
  rw [vB_3 h0 h1] at hr hm
  have H:=Aside0.mk (pget_calls (rest:=[]) h0 h1 hr hm hc hm2)
  clear hr hm h0 h1 hc hm2
  go_enter Tryz.func120,Tryz.ntmps120
  go_wp2_with (go_at_call 166;(with_reducible refine H.out.mono ?_);rintro r w1 ⟨v1,rfl,ho,hb⟩;have H1:=Aside0.mk (And.intro ho hb);clear ho hb)
  go_ret3
  exact ⟨_,v1,rfl,H1.out.1,H1.out.2⟩
end
end Go.Proofs.YtnhkikebfinejaaGreatDoor.Z
