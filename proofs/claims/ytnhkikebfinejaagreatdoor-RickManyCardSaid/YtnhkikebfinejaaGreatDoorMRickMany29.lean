/- Texts of this claim, laid together. No conditions. -/
import Derived.Test.YtnhkikebfinejaaGreatDoorMRickMany28
import Derived.Test.YtnhkikebfinejaaGreatDoorMRickMany25
import Derived.Maps.Keyed
import Derived.Lib.SlBytesConst
import Derived.Carry
import Derived.Test.YtnhkikebfinejaaGreatDoorMRickMany1
set_option linter.unusedVariables false
set_option linter.unusedSimpArgs false
set_option maxRecDepth 100000
set_option maxHeartbeats 16000000
namespace Go.Proofs.YtnhkikebfinejaaGreatDoor.Z
open Go Go.RowKit Go.Proofs.YtnhkikebfinejaaGreatDoorW.PrintWords Go.Proofs.YtnhkikebfinejaaGreatDoorW.PrintLast Go.Proofs.YtnhkikebfinejaaGreatDoorW.PrintMore Go.Proofs.YtnhkikebfinejaaGreatDoor.S Go.Proofs.YtnhkikebfinejaaGreatDoor.X
section
attribute [local go_sem ↓] Go.wp_at_zero Go.wp_at_succ
theorem sm_one (s:Sm) (u:Value) (h:u∈smC s):u.oneCell'=true:=by
 simp only [smC,List.mem_cons,List.not_mem_nil,or_false] at h
 rcases h with rfl | rfl<;>rfl
def kS:Kd Sm:=flat smC 2 (fun _=>rfl) sm_one
theorem equal_calls {w:World} {A B:Option Addr} {c d n:Nat} {l:List Int} (hr:Kd.C (Kd.int .u8) w A n l) (hc:n≤c) (hs:Kd.C (Kd.int .u8) w B n l) (hd:n≤d) (hn:l.length=n) :
  Calls Tryz.prog 121 #[.slice A n c,.slice B n d] w fun e w'=>e = .returned (.bool true)∧Below w.heap.size w w':=by
 subst hn
 exact (bytes_Equal.calls A c l B d l true w hr hc hs hd (by unfold bytes_Equal.f;simp)).mono (fun e w' h=>⟨h.1,Drawn0.below h.2⟩)
theorem vB_ge {way:Nat} {a:Int} (hw:way<4) (h0:0≤a) (h1:a<128):1≤(vB way a).length:=by
 match way,hw with
 | 0,_=>rw [vB_0 h0 h1];exact (by decide:1≤8)
 | 1,_=>rw [vB_1 h0 h1];exact (by decide:1≤8)
 | 2,_=>exact (by decide:1≤2)
 | 3,_=>rw [vB_3 h0 h1];exact (by decide:1≤9)
theorem decode_calls [Inhabited Sanct] {w:World} {A:Option Addr} {m c:Nat} (codec:Nat) (hcd:codec≤15) (a:Int) (h0:0≤a) (h1:a<128) (hr:Kd.C (Kd.int .u8) w A m (chB codec a)) (hm:(chB codec a).length=m) (hc:m≤c) :
  Calls Tryz.prog 74 #[.slice A m c] w fun r w'=>∃ A' c',r = .returned (.tuple #[.slice A' 1 c',.int .i64 (codec:Int),.int .i64 0])∧RSm w' A' [⟨a,a⟩]∧1≤c'∧Below w.heap.size w w':=by
 obtain ⟨tw,htw⟩:∃ t,codec / 4=t:=⟨_,rfl⟩
 obtain ⟨vw,hvw⟩:∃ t,codec % 4=t:=⟨_,rfl⟩
 have htw4:tw<4:=by omega
 have hvw4:vw<4:=by omega
 have e6:wrap64 (tw:Int)=(tw:Int):=w64_nat (by omega)
 have e7:wrap64 (vw:Int)=(vw:Int):=w64_nat (by omega)
 have hE:chB codec a=[(codec:Int),0,1]++(tB tw a++vB vw a):=by unfold chB;rw [htw,hvw,List.append_assoc]
 obtain ⟨TL,hTL⟩:∃ n,(tB tw a).length=n:=⟨_,rfl⟩
 obtain ⟨VL,hVL⟩:∃ n,(vB vw a).length=n:=⟨_,rfl⟩
 have htl:TL≤17:=by rw [← hTL];exact tB_len
 have hvl:VL≤17:=by rw [← hVL];exact vB_len
 have hv1:1≤VL:=by rw [← hVL];exact vB_ge hvw4 h0 h1
 have hmm:m=3+(TL+VL):=by rw [← hm,hE];simp only [List.length_append,List.length_cons,List.length_nil];omega
 obtain ⟨ad,rfl,hx⟩:=c_at hr hm (by omega)
 have hx0:w.cell? ad=some (.int .u8 (codec:Int)):=c_first (hx 0 _ (by rw [hE];rfl))
 have hx1:w.cell? ⟨ad.block,ad.off+1,none⟩=some (.int .u8 0):=by simpa [Addr.add] using hx 1 0 (by rw [hE];rfl)
 have hx2:w.cell? ⟨ad.block,ad.off+2,none⟩=some (.int .u8 1):=by simpa [Addr.add] using hx 2 1 (by rw [hE];rfl)
 have hr2:Kd.C (Kd.int .u8) w (some ad) (chB codec a).length (chB codec a):=hm▸hr
 have HG:Aside0 (∀ W,Below w.heap.size w W→Calls Tryz.prog 119 #[.slice (some ⟨ad.block,ad.off+3,none⟩) (m-3) (c-3),.int .i64 1,.int .i64 (tw:Int)] W fun r w'=>∃ v,r = .returned (.tuple #[v,.int .i64 (TL:Int),.int .i64 0])∧Kd.R (Kd.int .i64) 2 w' W.heap.size (fun _=>True) v [a]∧Below W.heap.size W w'):=⟨fun W hW=>by
  have hd:=Kd.C_drop (c:=c) (m:=3) (Kd.C_below hr2 hW) (by omega) (by omega)
  rw [if_neg (by omega),hE] at hd
  have hl:(tB tw a++vB vw a).length=m-3:=by rw [List.length_append];omega
  have hd2:Kd.C (Kd.int .u8) W (some ⟨ad.block,ad.off+3,none⟩) (m-3) (tB tw a++vB vw a):=by
   rw [← hl];exact hd
  have:=tget_calls (c:=c-3) tw htw4 h0 h1 hd2 hl (by omega) (by omega) (by omega)
  rw [hTL] at this
  exact this⟩
 have HV:Aside0 (∀ W,Below w.heap.size w W→Calls Tryz.prog 120 #[.slice (some (ad.add (3+TL))) (m-(3+TL)) (c-(3+TL)),.int .i64 1,.int .i64 (vw:Int)] W fun r w'=>∃ n,Va W a n r w'):=⟨fun W hW=>by
  have hd:=Kd.C_drop (c:=c) (m:=3+TL) (Kd.C_below hr2 hW) (by omega) (by omega)
  rw [if_neg (by omega),hE] at hd
  have he:List.drop (3+TL) ([(codec:Int),0,1]++(tB tw a++vB vw a))=vB vw a:=by
   rw [← List.append_assoc,List.drop_left' (by rw [List.length_append];simp;omega)]
  rw [he,hVL] at hd
  have hl:VL=m-(3+TL):=by omega
  have hd2:Kd.C (Kd.int .u8) W (some (ad.add (3+TL))) (m-(3+TL)) (vB vw a):=by
   rw [← hl]
   have hmul:(3+TL)*(Kd.int .u8).sz=3+TL:=Nat.mul_one _
   rw [hmul] at hd
   exact hd
  exact getvalues_calls (c:=c-(3+TL)) vw hvw4 h0 h1 hd2 (by omega) (by omega) (by omega)⟩
 have HEN:Aside0 (∀ W A c,RSm W A [⟨a,a⟩]→1≤c→Calls Tryz.prog 68 #[.slice A 1 c,.int .i64 (codec:Int)] W (Gv0 W (chB codec a))):=⟨fun W A c h hc=>encode_calls codec hcd a h0 h1 h hc⟩
 have HEQ:Aside0 (∀ W B d,Below w.heap.size w W→Kd.C (Kd.int .u8) W B m (chB codec a)→m≤d→Calls Tryz.prog 121 #[.slice B m d,.slice (some ad) m c] W fun e w'=>e = .returned (.bool true)∧Below W.heap.size W w'):=⟨fun W B d hW hC hd=>equal_calls hC hd (Kd.C_below hr hW) hc hm⟩
 obtain ⟨E,hEE⟩:∃ E,chB codec a=E:=⟨_,rfl⟩
 rw [hEE] at HEN HEQ hm
 have HM:=Aside0.mk hm
 obtain ⟨cz,hcz⟩:∃ z:Int,(codec:Int)=z:=⟨_,rfl⟩
 rw [hcz] at HEN hx0 ⊢
 have d2:decide (16≤cz)=false:=decide_eq_false (by omega)
 have f1:cz.tdiv 4=(tw:Int):=by rw [← hcz,← htw,Int.tdiv_eq_ediv_of_nonneg (by omega)];omega
 have f2:cz.tmod 4=(vw:Int):=by rw [← hcz,← hvw,Int.tmod_eq_emod_of_nonneg (by omega)];omega
 have f3:IntKind.i64.wrap cz=cz:=by simp [IntKind.wrap,IntKind.bits,IntKind.signed];omega
 have f4:Go.bits .or .i64 0 1=1:=by decide
 have f5:IntKind.i64.wrap 0=0:=by decide
 have f6:IntKind.i64.wrap 1=1:=by decide
 have f7:wrap64 (3+(TL:Int))=((3+TL:Nat):Int):=by rw [wrap64_id (by omega) (by omega)];omega
 obtain ⟨KL,hKL⟩:∃ n,3+TL=n:=⟨_,rfl⟩
 rw [hKL] at f7 HV
 have d1:decide ((m:Int)<3)=false:=decide_eq_false (by omega)
 have d3:(0<m)=True:=eq_true (by omega)
 have d4:(1<(m:Int))=True:=eq_true (by omega)
 have d5:(2<(m:Int))=True:=eq_true (by omega)
 have d6:(3≤(m:Int))=True:=eq_true (by omega)
 have d7:(m≤c)=True:=eq_true (by omega)
 have d8:(3≤c)=True:=eq_true (by omega)
 have d9:(c=3)=False:=eq_false (by omega)
 have g1:(KL≤m)=True:=eq_true (by omega)
 have g2:(KL≤c)=True:=eq_true (by omega)
 have g3:(c=KL)=False:=eq_false (by omega)
 have g4:(3≤m)=True:=eq_true (by omega)
 clear hr hr2 hm hc h0 h1 hcd hE hcz htw hvw hTL hVL hEE hx htl hvl hv1 hmm htw4 hvw4 hKL
 go_enter Tryz.func74,Tryz.ntmps74
 go_wp2
 have hS:w.drew.cell? ad=some (.int .u8 cz)∧w.drew.cell? ⟨ad.block,ad.off+1,none⟩=some (.int .u8 0)∧w.drew.cell? ⟨ad.block,ad.off+2,none⟩=some (.int .u8 1):=⟨hx0,hx1,hx2⟩
 go_region_held3 (fun w'=>w'.cell? ad=some (.int .u8 cz)∧w'.cell? ⟨ad.block,ad.off+1,none⟩=some (.int .u8 0)∧w'.cell? ⟨ad.block,ad.off+2,none⟩=some (.int .u8 1)) (exact hS) (fail)
 have hB1:Below w.heap.size w w.drew:=below_drew (Below.refl _ _)
 have HB1:=Aside0.mk hB1
 have HGC:=Aside0.mk (HG.out _ hB1)
 obtain ⟨W1,hW1⟩:∃ W,w.drew=W:=⟨_,rfl⟩
 rw [hW1] at HB1 HGC ⊢
 clear hB1 hS hx0 hx1 hx2 hW1
 go_wp2_with (go_at_call 119;(with_reducible refine HGC.out.mono ?_);rintro r w2 ⟨v2,rfl,ho,hb⟩;refine hold ?_)
 unfold Hold
 obtain ⟨A2,c2,rfl⟩:=Kd.R_slice ho
 have HO2:=Aside0.mk ho
 have HB2:=Aside0.mk (below_step HB1.out hb)
 have HVC:=Aside0.mk (HV.out _ (below_step HB1.out hb))
 clear ho hb
 go_wp2_with (go_at_call 120;(with_reducible refine HVC.out.mono ?_);rintro r w3 ⟨nv,v3,rfl,ho,hb⟩;refine hold ?_)
 unfold Hold
 obtain ⟨A3,c3,rfl⟩:=Kd.R_slice ho
 obtain ⟨a3,rfl,hx3⟩:=c_one (Kd.R_reads' ho).2.2
 obtain ⟨a2,ea2,hx2⟩:=c_one (Kd.R_reads' (Kd.R_below HO2.out hb)).2.2
 subst ea2
 have HB3:=Aside0.mk (below_step HB2.out hb)
 clear ho hb
 go_wp2
 refine wp_loop_rounds 2 ?_
 rw [rounds_succ]
 go_wp2_with ((with_reducible refine gate_builtin (b:=.append) (xs:=#[.tmp 86,.tmp 93]) rfl ?_);at_builtin;refine hold ?_)
 unfold Hold
 refine Kd.R_append kS (w0:=w) w.heap.size rfl (.tmp 86) (.tmp 93) 33 35 (.agg #[.int .i64 0,.int .u64 0]) 16 rfl Tryz.underlying33 info_s rfl (by decide) (by decide) _ [] ⟨a,a⟩ [.int .i64 a,.int .u64 a] (fun _=>True) (fun _=>False) rfl rfl rfl (fun _ hk=>hk.elim) (fun _ _=>trivial) (Kd.R_nil _ _ _ _ _) HB3.out HB3.out.size (by decide) ?_
 intro v9 w9 ho hb hg hat
 obtain ⟨A9,c9,rfl⟩:=Kd.R_slice ho
 have hrw:RSm w9 A9 [⟨a,a⟩]:=R_rw ho (by simp)
 have HR9:=Aside0.mk hrw
 have hc9:1≤c9:=by
  obtain ⟨-,inner,hown,-⟩:=ho
  rcases hown.2 with ⟨h,_⟩ | ⟨g,cap,cur,h,_,_,hle,_⟩
  ·simp at h
  ·injection h with _ _ h;rw [h];exact hle
 have HC9:=Aside0.mk hc9
 have HB9:=Aside0.mk hb
 have HEC:=Aside0.mk (HEN.out w9 A9 c9 hrw hc9)
 clear ho hb hg hat hx3 hx2 hrw hc9
 go_wp2
 rw [rounds_succ]
 go_wp2_with (go_at_call 68;(with_reducible refine HEC.out.mono ?_);rintro r w10 ⟨v10,rfl,ho,hb⟩;refine hold ?_)
 unfold Hold
 obtain ⟨A10,c10,rfl⟩:=Kd.R_slice ho
 have hrd:=Kd.R_reads' ho
 rw [HM.out] at hrd ⊢
 have HQ:=Aside0.mk (HEQ.out w10 A10 c10 (below_step HB9.out hb) hrd.2.2 hrd.2.1)
 have HR10:=Aside0.mk (HR9.out.below hb)
 have HB10:=Aside0.mk (below_step HB9.out hb)
 clear ho hb hrd
 go_wp2_with (go_at_call 121;(with_reducible refine HQ.out.mono ?_);rintro r w11 ⟨rfl,hb11⟩)
 go_ret3
 exact ⟨A9,c9,rfl,HR10.out.below hb11,HC9.out,below_step HB10.out hb11⟩
theorem enc_c [Inhabited Sanct] (codec:Nat) (hcd:codec≤15) (a:Int) (h0:0≤a) (h1:a<128):EncC ⟨a,a⟩ (codec:Int) (chB codec a):=
 fun W A c hr hc=>encode_calls codec hcd a h0 h1 hr hc
theorem dec_c [Inhabited Sanct] (codec:Nat) (hcd:codec≤15) (a:Int) (h0:0≤a) (h1:a<128):DecC ⟨a,a⟩ codec (chB codec a):=
 fun W A c hr hc=>decode_calls codec hcd a h0 h1 hr rfl hc
theorem chB_len (codec:Nat) (a:Int):1≤(chB codec a).length∧(chB codec a).length≤256:=by
 have h1:=tB_len (way:=codec / 4) (a:=a)
 have h2:=vB_len (way:=codec % 4) (a:=a)
 unfold chB
 simp only [List.length_append,List.length_cons,List.length_nil]
 omega
theorem chB_bs (codec:Nat) (hcd:codec≤15) (a:Int) (h0:0≤a) (h1:a<128):Bs (chB codec a):=by
 have he:Bs (e8 a):=by
  intro x hx
  simp only [e8,List.mem_cons,List.not_mem_nil,or_false] at hx
  omega
 have hz:Bs (e8 0):=by
  intro x hx
  simp only [e8,List.mem_cons,List.not_mem_nil,or_false] at hx
  omega
 have hn:Bs ([0]:List Int):=by
  intro x hx
  simp only [List.mem_cons,List.not_mem_nil,or_false] at hx
  omega
 have app:∀ {l r:List Int},Bs l→Bs r→Bs (l++r):=fun hl hr x hx=>by
  rcases List.mem_append.1 hx with h | h
  ·exact hl x h
  ·exact hr x h
 have ht:∀ way,way<4→Bs (tB way a):=fun way hw=>by
  match way,hw with
  | 0,_=>rw [tB_0 h0 h1];exact he
  | 1,_=>
   show Bs (vint (2*a))
   unfold vint
   split
   all_goals
    intro x hx
    simp only [List.mem_cons,List.not_mem_nil,or_false] at hx
    omega
  | 2,_=>rw [tB_2 h0 h1];exact he
  | 3,_=>rw [tB_3 h0 h1];exact app he (app hz hn)
 have hv:∀ way,way<4→Bs (vB way a):=fun way hw=>by
  match way,hw with
  | 0,_=>rw [vB_0 h0 h1];exact he
  | 1,_=>rw [vB_1 h0 h1];exact he
  | 2,_=>
   show Bs [1,a]
   intro x hx
   simp only [List.mem_cons,List.not_mem_nil,or_false] at hx
   omega
  | 3,_=>rw [vB_3 h0 h1];exact app he hn
 unfold chB
 refine app (app ?_ (ht _ (by omega))) (hv _ (by omega))
 intro x hx
 simp only [List.mem_cons,List.not_mem_nil,or_false] at hx
 omega
end
section
open Go.Maps
attribute [local go_sem ↓] Go.wp_at_zero Go.wp_at_succ
theorem crc9:crcSum [49,50,51,52,53,54,55,56,57]=3808858755:=by decide +kernel
theorem lit_C (W:World) (g:Nat) (hg:W.heap.size=g) (bs:List Int) (hl:bs.length≤1000) (fr:Nat×Nat):Kd.C (Kd.int .u8) (W.alloc (.cells (nums .u8 bs).toArray 5 fr)) (some ⟨g,0,none⟩) bs.length bs:=by
 subst hg
 refine ⟨rfl,by omega,fun _=>⟨_,rfl,fun j p hj=>⟨[.int .u8 p],rfl,rfl,fun i u hi=>?_⟩⟩⟩
 have hb:(W.alloc (Obj.cells (nums .u8 bs).toArray 5 fr)).heap[W.heap.size]?=some (Obj.cells (nums .u8 bs).toArray 5 fr):=heap_alloc_new _ _
 rcases i with _ | i
 ·rw [show u = .int .u8 p from (Option.some.inj hi).symm]
  have ha:(⟨W.heap.size,0,none⟩:Addr).add (j*(Kd.int .u8).sz+0)=⟨W.heap.size,j,none⟩:=by
   rw [show j*(Kd.int .u8).sz+0=j from Nat.mul_one j]
   rcases j with _ | j
   ·rfl
   ·simp [Addr.add]
  rw [ha]
  unfold World.cell?
  simp only [hb]
  simp [nums,hj]
 ·simp at hi
theorem stands_calls {w:World}:Calls Tryz.prog 8 #[] w fun r w'=>r = .returned (.bool true)∧Below w.heap.size w w':=by
 obtain ⟨T,hT⟩:∃ T,tabV crcTab=T:=⟨_,rfl⟩
 have HN:=Aside0.mk (crcnew_calls (w:=w))
 have HS:Aside0 (∀ W A c,Kd.C (Kd.int .u8) W A 9 [49,50,51,52,53,54,55,56,57]→Calls Tryz.prog 26 #[T,.slice A 9 c] W fun e w'=>e = .returned (.int .u32 3808858755)∧Below W.heap.size W w'):=⟨fun W A c h=>by
  rw [← hT,← crc9]
  exact sum_calls A c 9 _ rfl h⟩
 rw [hT] at HN
 clear hT
 go_enter Tryz.func8,Tryz.ntmps8
 go_wp2_with (go_at_call 27;(with_reducible refine HN.out.mono ?_);rintro r w1 ⟨rfl,hb1⟩;refine hold ?_)
 unfold Hold
 obtain ⟨g,hg⟩:∃ g,w1.heap.size=g:=⟨_,rfl⟩
 obtain ⟨W2,hW2⟩:∃ W,w1.alloc (.cells (nums .u8 [49,50,51,52,53,54,55,56,57]).toArray 5 (9,10))=W:=⟨_,rfl⟩
 have hcv:(convert 46 46 (.slice (some ⟨g,0,none⟩) 9 9)).run Tryz.prog (w1.alloc (.cells #[.int .u8 49,.int .u8 50,.int .u8 51,.int .u8 52,.int .u8 53,.int .u8 54,.int .u8 55,.int .u8 56,.int .u8 57] 5)) = .ok (.slice (some ⟨g,0,none⟩) 9 9) W2:=by
  rw [← hW2,← hg]
  exact Go.Lib.run_convert_bytes_const w1 46 5 _ 9 9 Tryz.underlying46 Tryz.underlying5
 have HC:=Aside0.mk (HS.out W2 (some ⟨g,0,none⟩) 9 (by rw [← hW2];exact lit_C w1 g hg _ (by decide) _))
 have HB:Aside0 (Below w.heap.size w W2):=⟨by rw [← hW2];exact below_alloc hb1 _⟩
 clear hb1 hW2
 go_wp2_with (go_at_call 26;(with_reducible refine HC.out.mono ?_);rintro r w3 ⟨rfl,hb3⟩)
 go_ret
 exact ⟨rfl,below_step HB.out hb3⟩
def HadAt (W:World) (b:Nat) (ks:List Int):Prop:=∃ (es:Array MapEntry) (clock:Nat),W.heap[b]?=some (.map es clock)∧es.toList.map (·.key)=ks.map (fun a=>Value.int .i64 a) ∧ ∀ e∈es.toList,e.val = .bool true
theorem kint:Keyed Tryz.prog 3:=int_keyed Tryz.underlying3
theorem key_i {a:Int} (h0:0≤a) (h1:a<128):keyOf Tryz.prog 3 (.int .i64 a)=some (.int .i64 a):=keyOf_int_mk Tryz.underlying3 (by simp [Lit.wf,IntKind.min,IntKind.max,IntKind.bits,IntKind.signed];omega)
theorem had_new (W:World):HadAt (W.alloc (.map #[] 0)) W.heap.size []:=⟨#[],0,heap_alloc_new _ _,rfl,fun e he=>by cases he⟩
section
variable {W:World} {b:Nat} {ks:List Int}
theorem had_keys (hk:∀ a∈ks,0≤a∧a<128) {es:Array MapEntry} (he:es.toList.map (·.key)=ks.map (fun a=>Value.int .i64 a)):∀ e∈es.toList,∃ l,keyOf Tryz.prog 3 e.key=some l:=fun e hm=>by
 have:e.key∈ks.map (fun a=>Value.int .i64 a):=by rw [← he];exact List.mem_map.2 ⟨e,hm,rfl⟩
 obtain ⟨a,ha,hae⟩:=List.mem_map.1 this
 exact ⟨_,by rw [← hae];exact key_i (hk a ha).1 (hk a ha).2⟩
theorem had_put (h:HadAt W b ks) (hk:∀ a∈ks,0≤a∧a<128) {a:Int} (h0:0≤a) (h1:a<128) (hn:a ∉ ks) :
  ∃ W',(Instr.mapUpdate 31 (.map (some b)) (.int .i64 a) (.bool true)).run Tryz.prog W = .ok () W'∧HadAt W' b (ks++[a])∧W.grownBy W' (some b):=by
 obtain ⟨es,clock,hb,he,hv⟩:=h
 rcases kint.find W (key_i h0 h1) es.toList (had_keys hk he) with ⟨k1,k2⟩ | ⟨j,e,k1,k2,k3⟩
 ·refine ⟨Go.ChangeMaps.setBlock W b (.map (es.push ⟨.int .i64 a,.bool true,clock⟩) (clock+1)),?_,⟨es.push ⟨.int .i64 a,.bool true,clock⟩,clock+1,Go.ChangeMaps.heap_setBlock_same hb _,?_,?_⟩,⟨rfl,rfl,rfl,by simp [Go.ChangeMaps.setBlock],fun i _ hi=>Go.ChangeMaps.heap_setBlock_other hb _ (fun e=>hi (by rw [e]))⟩⟩
  ·simp [Instr.mapUpdate,run_underlying Tryz.underlying31,MapKept.run_getObj_map hb,kint.check W false (key_i h0 h1),k1,MapKept.run_setObj_map _ hb,Result.andThen,Go.ChangeMaps.setBlock]
  ·rw [Array.toList_push,List.map_append,List.map_append,he];rfl
  ·intro e hm
   rw [Array.toList_push] at hm
   rcases List.mem_append.1 hm with hm | hm
   ·exact hv e hm
   ·rw [List.mem_singleton.1 hm]
 ·exfalso
  have hm:e∈es.toList:=List.mem_of_getElem? k2
  have:e.key∈ks.map (fun a=>Value.int .i64 a):=by rw [← he];exact List.mem_map.2 ⟨e,hm,rfl⟩
  obtain ⟨x,hx,hxe⟩:=List.mem_map.1 this
  rw [k3] at hxe
  injection hxe with _ hxe
  exact hn (hxe▸hx)
theorem had_get (h:HadAt W b ks) (hk:∀ a∈ks,0≤a∧a<128) {a:Int} (ha:a∈ks) :
  (Instr.lookup 31 (.map (some b)) (.int .i64 a) false).run Tryz.prog W = .ok (.bool true) W:=by
 obtain ⟨es,clock,hb,he,hv⟩:=h
 have hka:=key_i (hk a ha).1 (hk a ha).2
 rcases kint.find W hka es.toList (had_keys hk he) with ⟨k1,k2⟩ | ⟨j,e,k1,k2,k3⟩
 ·exfalso
  have:Value.int .i64 a∈es.toList.map (·.key):=by rw [he];exact List.mem_map.2 ⟨a,ha,rfl⟩
  obtain ⟨e,hm,hme⟩:=List.mem_map.1 this
  exact k2 e hm hme
 ·have:=hv e (List.mem_of_getElem? k2)
  simp [Instr.lookup,run_underlying Tryz.underlying31,MapKept.run_getObj_map hb,kint.check W _ hka,k1,this,Result.andThen]
theorem had_len (h:HadAt W b ks) (ty:TypeId):(Builtin.len_ #[31] ty #[.map (some b)]).run Tryz.prog W = .ok (.int .i64 (ks.length:Int)) W:=by
 obtain ⟨es,clock,hb,he,hv⟩:=h
 have hs:es.size=ks.length:=by have:=congrArg List.length he;simpa using this
 simp [Builtin.len_,run_underlying Tryz.underlying31,MapKept.run_getObj_map hb,goInt,Result.andThen,hs]
theorem HadAt.frT [Inhabited Sanct] {T:List Nat} {W2:World} (h:HadAt W b ks) (hf:FrT T W W2):HadAt W2 b ks:=by
 obtain ⟨es,clock,hb,he,hv⟩:=h
 exact ⟨es,clock,hf.non hb rfl,he,hv⟩
end
end
section
open Go.Maps
theorem and15 (c:Int):∃ cd:Nat,cd≤15∧Go.bits .and .i64 c 15=(cd:Int):=by
 obtain ⟨t,ht⟩:∃ t,(BitVec.ofInt 64 c &&& BitVec.ofInt 64 15).toNat=t:=⟨_,rfl⟩
 have h15:t≤15:=by
  rw [← ht,BitVec.toNat_and]
  exact Nat.and_le_right
 refine ⟨t,h15,?_⟩
 show IntKind.i64.wrap ((BitVec.ofInt 64 c &&& BitVec.ofInt 64 15).toNat:Int)=_
 rw [ht,IntKind.wrap_i64]
 omega
section
variable [Inhabited Sanct] {w w1 W W2:World} {row:Option Nat}
theorem below_frT {T:List Nat} (hs:sB=w.heap.size) (h:Below w.heap.size w W) (hf:FrT T W W2) (hT:∀ t,t∈T→t∈sS):Below w.heap.size w W2:=by
 have h2:=(h.mono (Nat.zero_le _)).trans hf.b
 refine ⟨h2.os,h2.tape,h2.output,h2.size,fun i hi=>?_⟩
 have hi2:i<W.heap.size:=Nat.lt_of_lt_of_le hi h.size
 have h3:=hf.s i _ (by omega) (Array.getElem?_eq_getElem hi2) (fun cs t fr _ ht=>hT t ht)
 rw [h3,← Array.getElem?_eq_getElem hi2]
 exact h.block i hi
theorem DT.slot {d N n:Nat} {f:Nat→List Int} (h:DT W d N n f) (hg:W.grownBy W2 row) (hr:∀ r,row=some r → ∃ o:Obj,W.heap[r]?=some o∧o.isCells=false):DT W2 d N n f:=by
 obtain ⟨O,⟨a,wv,img,ps,hk,hff,hn⟩,ht⟩:=h
 have key:∀ k,O k→W2.heap[k]?=W.heap[k]?:=fun k hk2=>by
  obtain ⟨cs,t,fr,he,h2,_⟩:=ht k hk2
  rw [slot_cells hg hr he,he]
 have hfr:Fr W W2 (fun k=>¬ O k):=⟨(Below.refl 0 W).grown hg (Nat.zero_le _) (fun k e=>Nat.zero_le _),fun i hi hn=>key i (Classical.not_not.1 hn)⟩
 exact ⟨O,(show Disk W d O N n f from ⟨a,wv,img,ps,hk,hff,hn⟩).fr hfr (fun k hk2 hn=>hn hk2),fun k hk2=>by
  obtain ⟨cs,t,fr,he,h2⟩:=ht k hk2
  exact ⟨cs,t,fr,(key k hk2).trans he,h2⟩⟩
theorem StOk.slot {Ch:Ky→Nat→List Int→Prop} {s b d N:Nat} {es:List En} (h:StOk Ch W s b d N es) (hg:W.grownBy W2 row) (hr:∀ r,row=some r → ∃ o:Obj,W.heap[r]?=some o∧o.isCells=false):StOk Ch W2 s b d N es:=by
 obtain ⟨h1,sp,m,v,f,ps,H⟩:=h
 exact ⟨slot_cells hg hr h1,sp,m,v,f,ps,slot_cells hg hr H.ba,slot_cells hg hr H.va,H.dt.slot hg hr,H.mm,H.tr,H.us,H.sN,H.gn,H.ch,H.sp,H.g,H.gb,H.gv⟩
theorem StOk.frW {Ch:Ky→Nat→List Int→Prop} {s b d N:Nat} {es:List En} (h:StOk Ch W s b d N es) (hf:FrT wT W W2):StOk Ch W2 s b d N es:=by
 obtain ⟨h1,sp,m,v,f,ps,H⟩:=h
 exact ⟨hf.blk h1 (by decide),sp,m,v,f,ps,hf.blk H.ba (by decide),hf.blk H.va (by decide),H.dt.frT hf (by decide),H.mm,H.tr,H.us,H.sN,H.gn,H.ch,H.sp,H.g,H.gb,H.gv⟩
end
def ksI (st:Nat) (c:Int) (i:Nat):List Int:=(List.range i).map (fun (j:Nat)=>atI ((j:Int)*(2*st+1)+c))
theorem ksI_succ (st:Nat) (c:Int) (i:Nat):ksI st c (i+1)=ksI st c i++[atI ((i:Int)*(2*st+1)+c)]:=by
 unfold ksI
 rw [List.range_succ,List.map_append]
 rfl
theorem ksI_len (st:Nat) (c:Int) (i:Nat):(ksI st c i).length=i:=by unfold ksI;simp
theorem ksI_new {st:Nat} (hs:st<50) {c:Int} {i:Nat} (hi:i<128):atI ((i:Int)*(2*st+1)+c) ∉ ksI st c i:=fun h=>by
 obtain ⟨j,hj,he⟩:=List.mem_map.1 h
 have hj:=List.mem_range.1 hj
 exact absurd he (atI_lt st hs c j i hj hi)
structure LawS [Inhabited Sanct] (w W:World) (s b d mb:Nat) (ks:List Int) (es:List En):Prop where
 st:StOk ChD W s b d 400 es
 le:es.length=ks.length
 ke:∀ e∈es,e.k.s=e.k.a.tmod 3∧e.k.a∈ks∧0≤e.k.a∧e.k.a<128
 ha:HadAt W mb ks
 kr:∀ a∈ks,0≤a∧a<128
 b0:Below w.heap.size w W
 mb:w.heap.size≤mb
def cntS (es:List En):Nat→Nat
 | 0=>0
 | x+1=>cntS es x+(ofS (x:Int) es).length
theorem cntS_le (es:List En):∀ x,cntS es x≤x*es.length
 | 0=>by simp [cntS]
 | x+1=>by
  have:=cntS_le es x
  have:=ofS_len (x:Int) es
  rw [cntS,Nat.succ_mul]
  omega
theorem row_one {W:World} {g:Nat} {a x y:Int} (h:W.heap[g]?=some (Obj.cells #[.int .i64 a,.int .u64 a,.int .i64 x,.int .u64 y] 35)):RSm W (some ⟨g,0,none⟩) [⟨a,a⟩]:=by
 refine ⟨by simp,fun _=>⟨g,0,_,(0,0),rfl,h,fun j z hj u v hu=>?_⟩⟩
 obtain rfl:j=0:=by have:=(List.getElem?_eq_some_iff.1 hj).1;simpa using this
 obtain rfl:(⟨a,a⟩:Sm)=z:=by simpa using hj
 rcases u with _ | _ | u
 ·simpa [smC] using hu
 ·simpa [smC] using hu
 ·simp [smC] at hu
section
variable [Inhabited Sanct] {w W W2:World} {s b d mb:Nat} {ks:List Int} {es:List En}
theorem LawS.below (h:LawS w W s b d mb ks es) (hb:Below W.heap.size W W2):LawS w W2 s b d mb ks es:=
 ⟨h.st.below hb,h.le,h.ke,h.ha.frT (FrT.of_below hb []),h.kr,below_step h.b0 hb,h.mb⟩
theorem LawS.frW (hs:sB=w.heap.size) (h:LawS w W s b d mb ks es) (hf:FrT wT W W2):LawS w W2 s b d mb ks es:=
 ⟨h.st.frW hf,h.le,h.ke,h.ha.frT hf,h.kr,below_frT hs h.b0 hf (by decide),h.mb⟩
theorem LawS.put (h:LawS w W s b d mb ks es) {a:Int} (h0:0≤a) (h1:a<128) (hn:a ∉ ks) :
  ∃ W1,(Instr.mapUpdate 31 (.map (some mb)) (.int .i64 a) (.bool true)).run Tryz.prog W = .ok () W1∧HadAt W1 mb (ks++[a])∧StOk ChD W1 s b d 400 es∧Below w.heap.size w W1:=by
 obtain ⟨W1,k1,k2,k3⟩:=had_put h.ha h.kr h0 h1 hn
 have hr:∀ r,some mb=some r → ∃ o:Obj,W.heap[r]?=some o∧o.isCells=false:=fun r e=>by
  injection e with e
  subst e
  obtain ⟨es',cl,hb,_⟩:=h.ha
  exact ⟨_,hb,rfl⟩
 exact ⟨W1,k1,k2,h.st.slot k3 hr,h.b0.grown k3 h.b0.size (fun r e=>by injection e with e;rw [← e];exact h.mb)⟩
theorem law_append (hs:sB=w.heap.size) {W1:World} {A:Option Addr} {codec:Nat} {a1 x3:Int} (hcd:codec≤15) (ha:0≤a1∧a1<128) (hx:a1.tmod 3=x3) (hl:LawS w W s b d mb ks es) (hlk:ks.length≤89) (hnew:a1 ∉ ks) (hha:HadAt W1 mb (ks++[a1])) (hso:StOk ChD W1 s b d 400 es) (hbo:Below w.heap.size w W1) (hb2:Below W1.heap.size W1 W2) (hrow:RSm W2 A [⟨a1,a1⟩]) :
  Calls Tryz.prog 9 #[.pointer (some ⟨s,0,none⟩),.int .i64 x3,.int .i64 (codec:Int),.slice A 1 2] W2 fun r w'=>r = .returned (.int .i64 0) ∧ ∃ es',LawS w w' s b d mb (ks++[a1]) es':=by
 have hx3:0≤x3∧x3<3:=by rw [← hx,Int.tmod_eq_emod_of_nonneg ha.1];omega
 refine (append_ok (hso.below hb2) (by rw [hl.le];exact hlk) (by decide) hx3.1 (by omega) ha.1 (by show a1<9223372036854775808;omega) hcd hrow (by decide) (enc_c codec hcd a1 ha.1 ha.2) (chB_bs codec hcd a1 ha.1 ha.2) (chB_len codec a1).1 (chB_len codec a1).2 (dec_c codec hcd a1 ha.1 ha.2) (fun y hy e=>?_)).mono ?_
 ·have h1:=(hl.ke y hy).2.1
  rw [e] at h1
  exact hnew h1
 ·rintro r w' ⟨rfl,⟨es',x,hp,hk,-,hst⟩,hf⟩
  refine ⟨rfl,es',hst,by rw [hp.length_eq,List.length_cons,hl.le,List.length_append];rfl,fun e he=>?_,(hha.frT (FrT.of_below hb2 [])).frT hf,fun z hz=>?_,below_frT hs (below_step hbo hb2) hf (by decide),hl.mb⟩
  ·rcases List.mem_cons.1 (hp.mem_iff.1 he) with rfl | he
   ·rw [hk]
    exact ⟨hx.symm,by simp,ha.1,ha.2⟩
   ·obtain ⟨k1,k2,k3⟩:=hl.ke e he
    exact ⟨k1,List.mem_append_left _ k2,k3⟩
  ·rcases List.mem_append.1 hz with hz | hz
   ·exact hl.kr z hz
   ·rw [List.mem_singleton.1 hz];exact ha
theorem LawS.three (h:LawS w W s b d mb ks es):cntS es 3=ks.length:=by
 rw [← h.le,← sum3 es (fun e he=>by
  obtain ⟨k1,-,k3,-⟩:=h.ke e he
  rw [k1,Int.tmod_eq_emod_of_nonneg k3]
  omega)]
 show 0+(ofS 0 es).length+(ofS 1 es).length+(ofS 2 es).length=_
 omega
theorem law_query (hs:sB=w.heap.size) (h:LawS w W s b d mb ks es) (hk:ks.length≤90) (x:Nat) (hx:x<3) :
  Calls Tryz.prog 10 #[.pointer (some ⟨s,0,none⟩),.int .i64 (x:Int),.int .i64 (-9223372036854775808),.int .i64 9223372036854775807] W fun r w'=>∃ A c,r = .returned (.tuple #[.slice A (ofS (x:Int) es).length c,.int .i64 0])∧RSm w' A (ofS (x:Int) es)∧LawS w w' s b d mb ks es:=by
 refine (query_calls h.st (by rw [h.le];exact hk) (by omega) (by omega) (by decide) (fun e he=>?_)).mono ?_
 ·obtain ⟨-,-,k3,k4⟩:=h.ke e he
  obtain ⟨hst,sp,m,v,f,ps,H⟩:=h.st
  have hz:=(H.g e he).2
  exact ⟨by omega,by rw [hz];omega,by omega⟩
 ·rintro r w' ⟨⟨A,c,rfl,hr,-⟩,hf⟩
  exact ⟨A,c,rfl,hr,h.frW hs hf⟩
theorem law_stat (hs:sB=w.heap.size) (h:LawS w W s b d mb ks es) (hk:ks.length≤90) :
  Calls Tryz.prog 11 #[.pointer (some ⟨s,0,none⟩)] W fun r w'=>∃ (x f t:Int) (g:Nat),r = .returned (.tuple #[.agg (stC x (ks.length:Int) f t g),.int .i64 0])∧LawS w w' s b d mb ks es:=by
 refine (stat_calls h.st (by rw [h.le];exact hk)).mono ?_
 rintro r w' ⟨x,f,t,g,rfl,hf⟩
 rw [h.le]
 exact ⟨x,f,t,g,rfl,h.frW hs hf⟩
theorem LawS.look (h:LawS w W s b d mb ks es) {a:Int} (ha:a∈ks):(Instr.lookup 31 (.map (some mb)) (.int .i64 a) false).run Tryz.prog W = .ok (.bool true) W:=had_get h.ha h.kr ha
theorem LawS.at_ (h:LawS w W s b d mb ks es) {x:Int} {A:Option Addr} (hr:RSm W A (ofS x es)) {j:Nat} (hj:j<(ofS x es).length) :
  ∃ (g o:Nat) (a:Int),A=some ⟨g,o,none⟩∧W.cell? ⟨g,o+j*2,none⟩=some (.int .i64 a)∧W.cell? ⟨g,o+j*2+1,none⟩=some (.int .u64 a)∧a.tmod 3=x∧0≤a∧a<128 ∧
   a∈ks ∧
   ∀ i,j=i+1 → ∃ p:Int,W.cell? ⟨g,o+i*2,none⟩=some (.int .i64 p)∧p<a:=by
 obtain ⟨sm,hsm⟩:∃ z,(ofS x es)[j]?=some z:=⟨_,List.getElem?_eq_getElem hj⟩
 obtain ⟨e,he,hex,rfl⟩:=ofS_at hsm
 obtain ⟨g,o,rfl,hc⟩:=hr.at_ hsm
 obtain ⟨k1,k2,k3,k4⟩:=h.ke e he
 refine ⟨g,o,e.k.a,rfl,by have:=hc 0 (.int .i64 e.k.a) rfl;simpa using this,by have:=hc 1 (.int .u64 e.k.a) rfl;simpa using this,by rw [← k1];exact hex,k3,k4,k2,fun i hi=>?_⟩
 subst hi
 obtain ⟨sp,hsp⟩:∃ z,(ofS x es)[i]?=some z:=⟨_,List.getElem?_eq_getElem (by omega)⟩
 obtain ⟨g2,o2,e2,hc2⟩:=hr.at_ hsp
 injection e2 with e2
 injection e2 with e3 e4
 subst e3 e4
 refine ⟨sp.a,by have:=hc2 0 _ rfl;simpa using this,?_⟩
 obtain ⟨hst,sp0,m,v,f,ps,H⟩:=h.st
 exact ofS_next H.sp hsp hsm
end
end
section
open Go.Maps
attribute [local go_sem ↓] Go.wp_at_zero Go.wp_at_succ loadSt_eq storeSt_eq
theorem tmod_nat {n z:Int} (h:IntKind.u64.wrap n=z) {m:Nat} (hm:0<m):∃ k:Nat,z.tmod m=(k:Int)∧k<m:=by
 have h0:0≤z:=by rw [← h,IntKind.wrap_u64];omega
 have h1:=Int.emod_nonneg z (show (m:Int)≠0 by omega)
 have h2:=Int.emod_lt_of_pos z (show 0<(m:Int) by omega)
 refine ⟨(z % m).toNat,?_,by omega⟩
 rw [Int.tmod_eq_emod_of_nonneg h0]
 omega
theorem tmod_rng (a:Int):-7<a.tmod 7∧a.tmod 7<7:=by
 rw [Int.tmod_eq_emod]
 split<;>omega
theorem tmod128_rng (a:Int):-128<a.tmod 128∧a.tmod 128<128:=by
 rw [Int.tmod_eq_emod]
 split<;>omega
theorem mul_rng {i s:Int} (h0:0≤i) (h1:i≤90) (h2:0≤s) (h3:s≤99):0≤i*s∧i*s≤8910:=
 ⟨Int.mul_nonneg h0 h2,Int.le_trans (Int.mul_le_mul h1 h3 h2 (by decide)) (by decide)⟩
theorem st_facts {k:Nat} (h:k<100):wrap64 (k:Int)=(k:Int)∧wrap64 (2*(k:Int))=2*(k:Int)∧wrap64 (2*(k:Int)+1)=2*(k:Int)+1:=⟨wrap64_id (by omega) (by omega),wrap64_id (by omega) (by omega),wrap64_id (by omega) (by omega)⟩
theorem m7_facts {m:Int} (h:-7<m∧m<7):wrap64 m=m∧wrap64 (m*2)=m*2∧(-14<m*2∧m*2<14):=⟨wrap64_id (by omega) (by omega),wrap64_id (by omega) (by omega),by omega,by omega⟩
theorem at_facts {st i:Nat} {ii sp cc:Int} (hst:st<50) (hi:i<90) (e1:ii=(i:Int)) (e2:2*(st:Int)+1=sp) (hc:-14<cc∧cc<14) :
  ∃ p1 q1 r1 a1 x3:Int,wrap64 (ii*sp)=p1∧wrap64 (p1+cc)=q1∧q1.tmod 128=r1∧wrap64 r1=r1∧wrap64 (r1+128)=r1+128∧(r1+128).tmod 128=a1∧wrap64 a1=a1∧a1.tmod 3=x3∧wrap64 x3=x3∧IntKind.u64.wrap a1=a1∧a1=atI ((i:Int)*(2*st+1)+cc)∧(0≤a1∧a1<128)∧(0≤x3∧x3<3):=by
 obtain ⟨p1,hp1⟩:∃ z:Int,ii*sp=z:=⟨_,rfl⟩
 have hp1r:0≤p1∧p1≤8910:=by rw [← hp1];exact mul_rng (by omega) (by omega) (by omega) (by omega)
 have ha:atI ((i:Int)*(2*st+1)+cc)=(((p1+cc).tmod 128)+128).tmod 128:=by rw [← hp1,e1,← e2];rfl
 have hr:=tmod128_rng (p1+cc)
 have hat:=atI_r ((i:Int)*(2*st+1)+cc)
 rw [ha] at hat
 obtain ⟨r1,hr1⟩:∃ z:Int,(p1+cc).tmod 128=z:=⟨_,rfl⟩
 rw [hr1] at hr hat ha
 obtain ⟨a1,ha1⟩:∃ z:Int,(r1+128).tmod 128=z:=⟨_,rfl⟩
 rw [ha1] at hat ha
 have h3:0≤a1.tmod 3∧a1.tmod 3<3:=by rw [Int.tmod_eq_emod_of_nonneg hat.1];omega
 clear e1 e2 hst hi
 refine ⟨p1,p1+cc,r1,a1,a1.tmod 3,?_,wrap64_id (by omega) (by omega),hr1,wrap64_id (by omega) (by omega),wrap64_id (by omega) (by omega),ha1,wrap64_id (by omega) (by omega),rfl,wrap64_id (by omega) (by omega),u64_w hat.1 (by omega),ha.symm,⟨hat.1,hat.2.1⟩,h3⟩
 rw [hp1]
 exact wrap64_id (by omega) (by omega)
def fl50 (k:Nat):Array Bool:=(List.replicate k true++List.replicate (50-k) false).toArray
theorem prev_facts {j i0 nl:Nat} {jj:Int} (h:jj=(j:Int)) (hi:j=i0+1) (hj:j<nl) (hj9:j≤90):∃ pj:Int,wrap64 (jj-1)=pj∧IntKind.i64.wrap (jj-1)=pj∧(0≤pj)=True∧(pj<(nl:Int))=True∧pj.toNat=i0:=
 ⟨(i0:Int),by rw [wrap64_id (by omega) (by omega)];omega,by rw [i64_w,wrap64_id (by omega) (by omega)];omega,eq_true (by omega),eq_true (by omega),by omega⟩
theorem cnt_facts {es:List En} {x nl:Nat} {ct:Int} (h:ct=(cntS es x:Int)) (hl:(ofS (x:Int) es).length=nl) (h1:cntS es x≤3*90) (h2:nl≤90):wrap64 (ct+(nl:Int))=((cntS es (x+1):Nat):Int):=by
 rw [cntS,hl,wrap64_id (by omega) (by omega)]
 omega
theorem idx_facts {j:Nat} {jj:Int} (h:jj=(j:Int)) (hj:j≤90):wrap64 (jj+1)=jj+1∧(0≤jj)=True∧jj.toNat=j∧IntKind.i64.wrap (jj-1)=jj-1:=
 ⟨wrap64_id (by omega) (by omega),eq_true (by omega),by omega,(i64_w _).trans (wrap64_id (by omega) (by omega))⟩
theorem many_in [Inhabited Sanct] (n a c:Int) {w:World} (hs:sB=w.heap.size) :
  Calls Tryz.prog 3 #[.int .i64 n,.int .i64 a,.int .i64 c] w fun r w'=>r = .returned (.bool true)∧Below w.heap.size w w':=by
 have HN:Aside0 (Calls Tryz.prog 6 #[.int .i64 400] w fun e w'=>∃ d,e = .returned (.tuple #[.pointer (some ⟨d,0,none⟩),.int .i64 0])∧DT w' d 400 0 (fun _=>List.replicate 64 0)∧Below w.heap.size w w'):=⟨(new_calls (N:=400) (by decide) (by decide)).mono (fun e w' h=>by
  obtain ⟨d,O,rfl,h1,h2,h3⟩:=h
  exact ⟨d,rfl,h1.dt (fun k hk=>by rw [hs];exact h2 k hk),h3⟩)⟩
 have HF:Aside0 (∀ W d f,DT W d 400 0 f→Calls Tryz.prog 7 #[.pointer (some ⟨d,0,none⟩)] W fun r w'=>∃ s b,r = .returned (.tuple #[.pointer (some ⟨s,0,none⟩),.int .i64 0])∧StOk ChD w' s b d 400 []∧FrT dT W w'):=⟨fun W d f h=>format_ok ChD h⟩
 have HST:Aside0 (∀ W,Calls Tryz.prog 8 #[] W fun r w'=>r = .returned (.bool true)∧Below W.heap.size W w'):=⟨fun W=>stands_calls⟩
 have HS:=Aside0.mk hs
 obtain ⟨nu,hnu⟩:∃ z,IntKind.u64.wrap n=z:=⟨_,rfl⟩
 obtain ⟨au,hau⟩:∃ z,IntKind.u64.wrap a=z:=⟨_,rfl⟩
 obtain ⟨k,hk,hk90⟩:∃ k:Nat,nu.tmod 90=(k:Int)∧k<90:=tmod_nat hnu (by decide)
 obtain ⟨st,hst,hst50⟩:∃ k:Nat,au.tmod 50=(k:Int)∧k<50:=tmod_nat hau (by decide)
 obtain ⟨e1,-,-⟩:=st_facts (Nat.lt_trans hk90 (by decide:90<100))
 obtain ⟨e2,e3,e4⟩:=st_facts (Nat.lt_trans hst50 (by decide:50<100))
 obtain ⟨sp,hsp⟩:∃ z:Int,2*(st:Int)+1=z:=⟨_,rfl⟩
 replace e4:=e4.trans hsp
 obtain ⟨m7,hm7⟩:∃ z:Int,a.tmod 7=z:=⟨_,rfl⟩
 obtain ⟨e5,e6,hccr⟩:=m7_facts (show -7<m7∧m7<7 by rw [← hm7];exact tmod_rng a)
 obtain ⟨cc,hcc⟩:∃ z:Int,m7*2=z:=⟨_,rfl⟩
 replace e6:=e6.trans hcc
 rw [hcc] at hccr
 have HK:=Aside0.mk (And.intro hk90 (And.intro hst50 (And.intro hsp hccr)))
 clear hk90 hst50 hsp hcc hccr
 obtain ⟨cd,hcd,hc15⟩:=and15 c
 have HCD:=Aside0.mk hcd
 have hmm:=@run_makeMap Tryz.prog
 clear hs hcd
 go_enter Tryz.func3,Tryz.ntmps3
 go_wp2_with (first
  | (go_at_call 6;(with_reducible refine HN.out.mono ?_);rintro r w1 ⟨d,rfl,h1,hb1⟩;have HD1:=Aside0.mk h1;have HB1:=Aside0.mk hb1;clear h1 hb1)
  | (go_at_call 7;(with_reducible refine (HF.out _ _ _ HD1.out).mono ?_);rintro r w2 ⟨s,b,rfl,h2,hf2⟩;have HS2:=Aside0.mk h2;have HB2:=Aside0.mk (below_frT HS.out HB1.out hf2 (by decide));clear h2 hf2)
  | (go_at_call 8;(with_reducible refine (HST.out _).mono ?_);rintro r w3 ⟨rfl,hb3⟩;have HS3:=Aside0.mk (HS2.out.below hb3);have HB3:=Aside0.mk (below_step HB2.out hb3);clear hb3))
 obtain ⟨mb,hmb⟩:∃ q,w3.heap.size=q:=⟨_,rfl⟩
 obtain ⟨W0,hW0⟩:∃ W,w3.alloc (.map #[] 0)=W:=⟨_,rfl⟩
 have HL0:Aside0 (LawS w W0 s b d mb (ksI st cc 0) []):=⟨by
  have hb:Below w3.heap.size w3 W0:=by rw [← hW0];exact below_alloc (Below.refl _ _) _
  exact ⟨HS3.out.below hb,rfl,(fun e he=>by cases he),(by rw [← hW0,← hmb];exact had_new w3),(fun a ha=>by cases ha),below_step HB3.out hb,by rw [← hmb];exact HB3.out.size⟩⟩
 rw [hmb,hW0]
 simp only [e1,e2,e3,e4]
 clear hmb hW0 hmm HB1 HB2 HB3 HD1 HS2 HS3
 go_loopw [14] (fun v14 wr=>∃ (i:Nat) (ii:Int) (es:List En),v14 = .int .i64 ii∧Aside0 (ii=(i:Int)∧i≤k)∧Aside0 (LawS w wr s b d mb (ksI st cc i) es)) (fun v14 _=>((k:Int)-intOf v14).toNat)
 case atStart=>exact ⟨0,0,[],rfl,⟨rfl,Nat.zero_le _⟩,HL0⟩
 case round=>
  clear HL0
  obtain ⟨i,ii,es,rfl,HI,HL⟩:=hrel
  have hin:=HI.out
  have hkk:=HK.out
  have i1:wrap64 (ii+1)=ii+1:=wrap64_id (by omega) (by omega)
  by_cases hlt:i<k
  ·have d1:decide (ii<(k:Int))=true:=decide_eq_true (by omega)
   obtain ⟨p1,q1,r1,a1,x3,f1,f2,hr1,f3,f4,ha1,f5,hx3,f6,f7,ha,hag,hx3r⟩:=at_facts hkk.2.1 (Nat.lt_trans hlt hkk.1) hin.1 hkk.2.2.1 hkk.2.2.2
   have hnew:a1 ∉ ksI st cc i:=by rw [ha];exact ksI_new hkk.2.1 (by have:=hkk.1;omega)
   obtain ⟨bg,hbg⟩:∃ z:Int,wrap64 (a1+1099511627776)=z:=⟨_,rfl⟩
   obtain ⟨W1,hmu,hha,hso,hbo⟩:=HL.out.put hag.1 hag.2 hnew
   have HW1:=Aside0.mk (And.intro hha (And.intro hso hbo))
   have HA:=Aside0.mk (And.intro ha (And.intro hag (And.intro hx3 (And.intro hx3r hlt))))
   clear ha hag hnew hha hso hbo hin hkk hlt hx3r
   go_wp2_with (go_at_call 9;refine hold ?_)
   unfold Hold
   obtain ⟨g,hg⟩:∃ q,W1.heap.size=q:=⟨_,rfl⟩
   obtain ⟨W2,hW2⟩:∃ W,W1.alloc (Obj.cells #[.int .i64 a1,.int .u64 a1,.int .i64 bg,.int .u64 9] 35)=W:=⟨_,rfl⟩
   have hb2:Below W1.heap.size W1 W2:=by rw [← hW2];exact below_alloc (Below.refl _ _) _
   have HAP:=Aside0.mk (law_append HS.out HCD.out HA.out.2.1 HA.out.2.2.1 HL.out (by rw [ksI_len];have:=HK.out.1;have:=HA.out.2.2.2.2;omega) (by rw [HA.out.1];exact ksI_new HK.out.2.1 (by have:=HK.out.1;have:=HA.out.2.2.2.2;omega)) HW1.out.1 HW1.out.2.1 HW1.out.2.2 hb2 (row_one (by rw [← hW2];exact newb hg)))
   rw [hg,hW2]
   clear hb2 hW2 hg hmu
   (with_reducible refine HAP.out.mono ?_)
   rintro r w4 ⟨rfl,es',hl'⟩
   have HL4:=Aside0.mk hl'
   clear hl'
   go_wp2
   go_roundw
   case rel=>
    refine ⟨i+1,_,es',rfl,⟨by have:=HI.out;omega,HA.out.2.2.2.2⟩,⟨?_⟩⟩
    have:=HL4.out
    rw [HA.out.1,← ksI_succ] at this
    exact this
   case measure=>simp [intOf];have:=HI.out;have:=HA.out.2.2.2.2;omega
  ·have d1:decide (ii<(k:Int))=false:=decide_eq_false (by omega)
   obtain rfl:i=k:=by omega
   have HE:=Aside0.mk (show es.length=i by rw [HL.out.le,ksI_len])
   have HLW:=HL
   clear hin hkk hlt i1 HL hc15
   go_wp2
   go_loopw [16,17] (fun v16 v17 wq=>∃ (x:Nat) (xx ct:Int),v17 = .int .i64 xx∧v16 = .int .i64 ct∧Aside0 (xx=(x:Int)∧x≤3∧ct=(cntS es x:Int))∧Aside0 (LawS w wq s b d mb (ksI st cc i) es)) (fun _ v17 _=>(3-intOf v17).toNat)
   case atStart=>exact ⟨0,0,0,rfl,rfl,⟨rfl,by decide,rfl⟩,HLW⟩
   case round=>
    obtain ⟨x,xx,ct,rfl,rfl,HX,HQ⟩:=hrel
    have hxn:=HX.out
    have i2:wrap64 (xx+1)=xx+1:=wrap64_id (by omega) (by omega)
    by_cases hx3:x<3
    ·have d2:decide (xx<3)=true:=decide_eq_true (by omega)
     have HQC:=Aside0.mk (law_query HS.out HQ.out (by rw [ksI_len];exact Nat.le_of_lt HK.out.1) x hx3)
     rw [← hxn.1] at HQC
     have HX3:=Aside0.mk (And.intro hx3 hxn)
     clear hxn hx3
     go_wp2_with (go_at_call 10;(with_reducible refine HQC.out.mono ?_);rintro r w4 ⟨A4,c4,rfl,hr4,hl4⟩;have HR4:=Aside0.mk hr4;have HL4:=Aside0.mk hl4;clear hr4 hl4)
     obtain ⟨nl,hnl⟩:∃ q,(ofS xx es).length=q:=⟨_,rfl⟩
     have HNL:Aside0 ((ofS xx es).length=nl∧nl≤90):=⟨hnl,by rw [← hnl];exact Nat.le_trans (ofS_len xx es) (by rw [HE.out];exact Nat.le_of_lt HK.out.1)⟩
     rw [hnl]
     clear hnl HQ HQC
     go_loopw [20] (fun v20 wj=>∃ (j:Nat) (jj:Int),v20 = .int .i64 jj∧Aside0 (jj=(j:Int)∧j≤nl)∧Aside0 (RSm wj A4 (ofS xx es))∧Aside0 (LawS w wj s b d mb (ksI st cc i) es)) (fun v20 _=>((nl:Int)-intOf v20).toNat)
     case atStart=>exact ⟨0,0,rfl,⟨rfl,Nat.zero_le _⟩,HR4,HL4⟩
     case round=>
      clear HR4 HL4
      obtain ⟨j,jj,rfl,HJ,HR,HL⟩:=hrel
      obtain ⟨j1,j2,j3,j4⟩:=idx_facts HJ.out.1 (Nat.le_trans HJ.out.2 HNL.out.2)
      by_cases hj:j<nl
      ·obtain ⟨g,o,v,rfl,c0,c1,hv3,hv0,hv1,hHV,hp⟩:=HL.out.at_ HR.out (by rw [HNL.out.1];exact hj)
       have d3:decide (jj<(nl:Int))=true:=decide_eq_true (by rw [HJ.out.1];exact Int.ofNat_lt.2 hj)
       have d4:(jj<(nl:Int))=True:=eq_true (by rw [HJ.out.1];exact Int.ofNat_lt.2 hj)
       have w2_:IntKind.u64.wrap v=v:=u64_w hv0 (Int.lt_trans hv1 (by decide))
       have w3_:wrap64 xx=xx:=(st_facts (Nat.lt_trans HX3.out.1 (by decide))).1 |> (by rw [HX3.out.2.1];exact ·)
       have HV:=Aside0.mk (And.intro hj (And.intro hv0 hv1))
       have c0:wr.drew.cell? ⟨g,o+j*2,none⟩=some (.int .i64 v):=c0
       have c1:wr.drew.cell? ⟨g,o+j*2+1,none⟩=some (.int .u64 v):=c1
       have hlk:(Instr.lookup 31 (.map (some mb)) (.int .i64 v) false).run Tryz.prog wr.drew = .ok (.bool true) wr.drew:=(HL.out.below (below_drew (Below.refl _ _))).look hHV
       by_cases hj0:j=0
       ·have d5:decide (0<jj)=false:=decide_eq_false (by rw [HJ.out.1,hj0];decide)
        clear hp hj hj0 hv0 hv1
        go_wp2
        refine start_ (n:=50) (S:=fun w'=>w'.cell? ⟨g,o+j*2,none⟩=some (.int .i64 v)∧w'.cell? ⟨g,o+j*2+1,none⟩=some (.int .u64 v)∧(Instr.lookup 31 (.map (some mb)) (.int .i64 v) false).run Tryz.prog w' = .ok (.bool true) w') (ds:=[]) (fl50 0) (by kernel_rfl) rfl rfl ⟨c0,c1,hlk⟩ (fun hHeld=>?_)
        refine puR 0 105 (fl50 1) (h:=?_)
        refine puR 1 106 (fl50 2) (h:=?_)
        refine puR 2 107 (fl50 3) (h:=?_)
        refine puR 3 108 (fl50 4) (h:=?_)
        refine tkR 4 109 (fl50 5) hHeld (h:=?_)
        refine puR 5 110 (fl50 6) (h:=?_)
        refine puR 6 111 (fl50 7) (h:=?_)
        refine puR 7 112 (fl50 8) (h:=?_)
        refine puR 8 113 (fl50 9) (h:=?_)
        refine puR 9 114 (fl50 10) (h:=?_)
        refine puR 10 115 (fl50 11) (h:=?_)
        refine puR 11 116 (fl50 12) (h:=?_)
        refine puR 12 117 (fl50 13) (h:=?_)
        refine puR 13 118 (fl50 14) (h:=?_)
        refine tkR 14 119 (fl50 15) hHeld (h:=?_)
        refine tkR 15 120 (fl50 16) hHeld (h:=?_)
        refine puR 16 121 (fl50 17) (h:=?_)
        refine puR 17 122 (fl50 18) (h:=?_)
        refine puR 18 123 (fl50 19) (h:=?_)
        refine puR 19 124 (fl50 20) (h:=?_)
        refine puR 20 125 (fl50 21) (h:=?_)
        refine puR 21 126 (fl50 22) (h:=?_)
        refine puR 22 127 (fl50 23) (h:=?_)
        refine tkR 23 128 (fl50 24) hHeld (h:=?_)
        refine puR 24 129 (fl50 25) (h:=?_)
        refine puR 25 130 (fl50 26) (h:=?_)
        refine puR 26 131 (fl50 27) (h:=?_)
        refine puR 27 132 (fl50 28) (h:=?_)
        refine tkR 28 133 (fl50 29) hHeld (h:=?_)
        refine puR 29 134 (fl50 30) (h:=?_)
        refine puR 30 135 (fl50 31) (h:=?_)
        refine puR 31 136 (fl50 32) (h:=?_)
        refine puR 32 137 (fl50 33) (h:=?_)
        refine puR 33 138 (fl50 34) (h:=?_)
        refine puR 34 139 (fl50 35) (h:=?_)
        refine puR 35 140 (fl50 36) (h:=?_)
        refine unR 36 141 (fl50 37) (h:=?_)
        refine unR 37 142 (fl50 38) (h:=?_)
        refine unR 38 143 (fl50 39) (h:=?_)
        refine unR 39 144 (fl50 40) (h:=?_)
        refine unR 40 145 (fl50 41) (h:=?_)
        refine unR 41 146 (fl50 42) (h:=?_)
        refine unR 42 147 (fl50 43) (h:=?_)
        refine unR 43 148 (fl50 44) (h:=?_)
        refine unR 44 149 (fl50 45) (h:=?_)
        refine unR 45 150 (fl50 46) (h:=?_)
        refine unR 46 151 (fl50 47) (h:=?_)
        refine unR 47 152 (fl50 48) (h:=?_)
        refine puR 48 153 (fl50 49) (h:=?_)
        refine puR 49 154 (fl50 50) (h:=?_)
        refine done_ (by kernel_rfl) ?_
        clear hHeld hlk c0 c1
        go_wp2
        go_roundw
        case rel=>exact ⟨j+1,_,rfl,⟨by first | (rw [j1,HJ.out.1];rfl) | (rw [HJ.out.1];rfl),HV.out.1⟩,⟨HR.out.below (below_drew (Below.refl _ _))⟩,⟨HL.out.below (below_drew (Below.refl _ _))⟩⟩
        case measure=>simp [intOf];have:=HJ.out;have:=HV.out.1;omega
       ·obtain ⟨i0,hi0⟩:∃ i0,j=i0+1:=⟨j-1,(Nat.succ_pred hj0).symm⟩
        obtain ⟨p,cp,hpv⟩:=hp i0 hi0
        have cp:wr.drew.cell? ⟨g,o+i0*2,none⟩=some (.int .i64 p):=cp
        have d5:decide (0<jj)=true:=decide_eq_true (by rw [HJ.out.1,hi0];exact Int.ofNat_lt.2 (Nat.succ_pos i0))
        obtain ⟨pj,p1,p2,p3,p4,p5⟩:=prev_facts HJ.out.1 hi0 hj (Nat.le_trans HJ.out.2 HNL.out.2)
        have d6:decide (v≤p)=false:=decide_eq_false (Int.not_le.2 hpv)
        clear hp hj hj0 hv0 hv1 hi0 hpv j4
        go_wp2
        refine start_ (n:=50) (S:=fun w'=>(w'.cell? ⟨g,o+j*2,none⟩=some (.int .i64 v)∧w'.cell? ⟨g,o+j*2+1,none⟩=some (.int .u64 v)∧(Instr.lookup 31 (.map (some mb)) (.int .i64 v) false).run Tryz.prog w' = .ok (.bool true) w')∧w'.cell? ⟨g,o+i0*2,none⟩=some (.int .i64 p)) (ds:=[]) (fl50 0) (by kernel_rfl) rfl rfl ⟨⟨c0,c1,hlk⟩,cp⟩ (fun hHeld=>?_)
        refine puR 0 105 (fl50 1) (h:=?_)
        refine puR 1 106 (fl50 2) (h:=?_)
        refine puR 2 107 (fl50 3) (h:=?_)
        refine puR 3 108 (fl50 4) (h:=?_)
        refine tkR 4 109 (fl50 5) hHeld (h:=?_)
        refine puR 5 110 (fl50 6) (h:=?_)
        refine puR 6 111 (fl50 7) (h:=?_)
        refine puR 7 112 (fl50 8) (h:=?_)
        refine puR 8 113 (fl50 9) (h:=?_)
        refine puR 9 114 (fl50 10) (h:=?_)
        refine puR 10 115 (fl50 11) (h:=?_)
        refine puR 11 116 (fl50 12) (h:=?_)
        refine puR 12 117 (fl50 13) (h:=?_)
        refine puR 13 118 (fl50 14) (h:=?_)
        refine tkR 14 119 (fl50 15) hHeld (h:=?_)
        refine tkR 15 120 (fl50 16) hHeld (h:=?_)
        refine puR 16 121 (fl50 17) (h:=?_)
        refine puR 17 122 (fl50 18) (h:=?_)
        refine puR 18 123 (fl50 19) (h:=?_)
        refine puR 19 124 (fl50 20) (h:=?_)
        refine puR 20 125 (fl50 21) (h:=?_)
        refine puR 21 126 (fl50 22) (h:=?_)
        refine puR 22 127 (fl50 23) (h:=?_)
        refine tkR 23 128 (fl50 24) hHeld (h:=?_)
        refine puR 24 129 (fl50 25) (h:=?_)
        refine puR 25 130 (fl50 26) (h:=?_)
        refine puR 26 131 (fl50 27) (h:=?_)
        refine puR 27 132 (fl50 28) (h:=?_)
        refine tkR 28 133 (fl50 29) hHeld (h:=?_)
        refine puR 29 134 (fl50 30) (h:=?_)
        refine puR 30 135 (fl50 31) (h:=?_)
        refine puR 31 136 (fl50 32) (h:=?_)
        refine puR 32 137 (fl50 33) (h:=?_)
        refine puR 33 138 (fl50 34) (h:=?_)
        refine puR 34 139 (fl50 35) (h:=?_)
        refine puR 35 140 (fl50 36) (h:=?_)
        refine puR 36 141 (fl50 37) (h:=?_)
        refine puR 37 142 (fl50 38) (h:=?_)
        refine puR 38 143 (fl50 39) (h:=?_)
        refine puR 39 144 (fl50 40) (h:=?_)
        refine puR 40 145 (fl50 41) (h:=?_)
        refine tkR 41 146 (fl50 42) hHeld (h:=?_)
        refine puR 42 147 (fl50 43) (h:=?_)
        refine puR 43 148 (fl50 44) (h:=?_)
        refine puR 44 149 (fl50 45) (h:=?_)
        refine puR 45 150 (fl50 46) (h:=?_)
        refine tkR 46 151 (fl50 47) hHeld (h:=?_)
        refine puR 47 152 (fl50 48) (h:=?_)
        refine puR 48 153 (fl50 49) (h:=?_)
        refine puR 49 154 (fl50 50) (h:=?_)
        refine done_ (by kernel_rfl) ?_
        clear hHeld hlk c0 c1
        go_wp2
        go_roundw
        case rel=>exact ⟨j+1,_,rfl,⟨by first | (rw [j1,HJ.out.1];rfl) | (rw [HJ.out.1];rfl),HV.out.1⟩,⟨HR.out.below (below_drew (Below.refl _ _))⟩,⟨HL.out.below (below_drew (Below.refl _ _))⟩⟩
        case measure=>simp [intOf];have:=HJ.out;have:=HV.out.1;omega
      ·have d3:decide (jj<(nl:Int))=false:=decide_eq_false (by rw [HJ.out.1];exact Int.not_lt.2 (Int.ofNat_le.2 (Nat.not_lt.1 hj)))
       have q1:wrap64 (ct+(nl:Int))=((cntS es (x+1):Nat):Int):=cnt_facts HX3.out.2.2.2 (by rw [← HX3.out.2.1];exact HNL.out.1) (Nat.le_trans (cntS_le es x) (by rw [HE.out];exact Nat.mul_le_mul (Nat.le_of_lt HX3.out.1) (Nat.le_of_lt HK.out.1))) HNL.out.2
       clear hj HR
       go_wp2
       go_roundw
       case rel=>exact ⟨x+1,_,_,rfl,rfl,⟨by first | (rw [i2,HX3.out.2.1];rfl) | (rw [HX3.out.2.1];rfl),HX3.out.1,by first | rfl | exact q1⟩,HL⟩
       case measure=>simp [intOf];have:=HX3.out;omega
    ·have d2:decide (xx<3)=false:=decide_eq_false (by omega)
     obtain rfl:x=3:=by omega
     have hct:ct=(i:Int):=by rw [hxn.2.2,HQ.out.three,ksI_len]
     have HSC:=Aside0.mk (law_stat HS.out HQ.out (by rw [ksI_len];exact Nat.le_of_lt HK.out.1))
     rw [ksI_len] at HSC
     clear hxn hx3 i2
     go_wp2_with (go_at_call 11;(with_reducible refine HSC.out.mono ?_);rintro r w5 ⟨s0,s3,s2,s4,rfl,hl5⟩;refine hold ?_)
     unfold Hold
     obtain ⟨g,hg⟩:∃ q,w5.heap.size=q:=⟨_,rfl⟩
     obtain ⟨W6,hW6⟩:∃ W,w5.alloc (Obj.cells (stC s0 (i:Int) s3 s2 s4) 39)=W:=⟨_,rfl⟩
     have hst6:(storeStI (.pointer (some ⟨g,0,none⟩)) (.agg (stC s0 (i:Int) s3 s2 s4))).run Tryz.prog (w5.alloc (Obj.cells zSt 39)) = .ok () W6:=by
      have:=st_st (W:=w5.alloc (Obj.cells zSt 39)) (g:=g) (cs:=zSt) s0 (i:Int) s3 s2 s4 (newb hg) rfl
      rw [← hg,World.setRow_alloc_new] at this
      rw [← hg,← hW6]
      exact this
     have hb6:Below w5.heap.size w5 W6:=by rw [← hW6];exact below_alloc (Below.refl _ _) _
     have hk6:W6.heap[g]?=some (Obj.cells (stC s0 (i:Int) s3 s2 s4) 39):=by rw [← hW6];exact newb hg
     have hc6:W6.cell? ⟨g,1,none⟩=some (.int .i64 (i:Int)):=(blk_cell hk6 1).trans rfl
     have hl6:=hl5.below hb6
     have hlen:=had_len hl6.ha
     rw [ksI_len] at hlen
     have HL6:=Aside0.mk hl6.b0
     have b1:((i:Int) == (i:Int))=true:=beq_iff_eq.2 rfl
     subst hct
     clear hl5 hb6 hk6 hl6 hW6
     unfold zSt at hst6
     go_wp2
     go_ret
     exact ⟨rfl,HL6.out⟩
theorem many_calls (n a c:Int) (w:World):Calls Tryz.prog 3 #[.int .i64 n,.int .i64 a,.int .i64 c] w fun r w'=>r = .returned (.bool true)∧Below w.heap.size w w':=
 @many_in ⟨⟨w.heap.size⟩⟩ n a c w rfl
end
end Go.Proofs.YtnhkikebfinejaaGreatDoor.Z
