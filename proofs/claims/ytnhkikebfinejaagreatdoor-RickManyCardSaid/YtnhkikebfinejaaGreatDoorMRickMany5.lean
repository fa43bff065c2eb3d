/- Texts of this claim, laid together. No conditions. -/
import Derived.Test.YtnhkikebfinejaaGreatDoorMRickMany4
import Derived.Test.YtnhkikebfinejaaGreatDoorMRickMany3
import Derived.RangeFuncNested
import Derived.RangeFuncBound
import Derived.RangeFuncCalls
import Derived.RangeFuncLeaves
import Derived.Shelf.Abstract
import Derived.Shelf.RegionOpen
import Derived.WalkKit
import Derived.OwnWalkIn
import Derived.TacticsInMore
import Derived.LoopNIn
import Derived.LoopIn
set_option linter.unusedVariables false
set_option linter.unusedSimpArgs false
set_option maxRecDepth 100000
set_option maxHeartbeats 16000000
namespace Go.Proofs.YtnhkikebfinejaaGreatDoor.Z
open Go Go.RowKit Go.Proofs.YtnhkikebfinejaaGreatDoorW.PrintWords Go.Proofs.YtnhkikebfinejaaGreatDoorW.PrintMore Go.Proofs.YtnhkikebfinejaaGreatDoor.S Go.Proofs.YtnhkikebfinejaaGreatDoor.X
def low (x:Int):Nat→List Int
 | 0=>[]
 | i+1=>(x / 2 ^ (8*i) % 256) :: low x i
theorem low_len (x:Int) (i:Nat):(low x i).length=i:=by induction i with | zero=>rfl | succ i ih=>simp [low,ih]
theorem low_bs (x:Int) (i:Nat):Bs (low x i):=by
 induction i with
 | zero=>intro y hy;simp [low] at hy
 | succ i ih=>
  intro y hy
  rcases List.mem_cons.1 hy with rfl | hy
  ·omega
  ·exact ih y hy
theorem big_run (x:Int):∀ (i k:Nat) (l:List Int),i≤8→l.length+i<140737488355329→page_big.l0 (k+i+1) l x ((i:Int)-1)=some (l++low x i):=by
 intro i
 induction i with
 | zero=>intro k l _ _;rw [page_big.l0,if_neg (by omega),low,List.append_nil]
 | succ i ih=>
  intro k l hi hl
  have e:((i+1:Nat):Int)-1=(i:Int):=by omega
  have e2:wrap64 ((i:Int)-1)=(i:Int)-1:=wrap64_id (by omega) (by omega)
  have e3:shr .u64 x (wrap64 (8*(i:Int)))=x / 2 ^ (8*i):=by
   rw [wrap64_id (by omega) (by omega)]
   unfold shr
   rw [show (8*(i:Int)).toNat=8*i by omega,Nat.min_eq_left (by show 8*i≤64;omega)]
  rw [e,page_big.l0,if_pos (by omega),if_pos (by rw [wrap64_id]<;>omega),if_pos (by omega),e3,e2,← Nat.add_assoc,ih k _ (by omega) (by rw [List.length_append];simp;omega),low,List.append_assoc,List.singleton_append]
theorem big_f (l:List Int) (x:Int) (i:Nat) (hi:i≤8) (hl:l.length<1000000):page_big.f 20 l x (i:Int)=some (l++low x i):=by
 unfold page_big.f
 rw [wrap64_id (n:=(i:Int)-1) (by omega) (by omega),show 20=(19-i)+i+1 by omega]
 exact big_run x i _ l hi (by omega)
def numA (n:Int) (bs:List Int):Int:=bs.foldl (fun n c=>n*256+c) n
def numB (bs:List Int):Int:=numA 0 bs
theorem numA_rng:∀ (bs:List Int) (n:Int) (m:Nat),Bs bs→0≤n→n<256 ^ m→0≤numA n bs∧numA n bs<256 ^ (m+bs.length):=by
 intro bs
 induction bs with
 | nil=>intro n m _ h0 h1;exact ⟨h0,h1⟩
 | cons c bs ih=>
  intro n m hb h0 h1
  have hc:=hb c (by simp)
  have h2:n*256+c<256 ^ (m+1):=by rw [Int.pow_succ];omega
  have:=ih (n*256+c) (m+1) (fun x hx=>hb x (by simp [hx])) (by omega) h2
  rw [List.length_cons,show m+(bs.length+1)=m+1+bs.length by omega]
  exact this
theorem pow256 {m:Nat} (h:m≤7):(256:Int) ^ m≤72057594037927936:=by
 have:m=0∨m=1∨m=2∨m=3∨m=4∨m=5∨m=6∨m=7:=by omega
 rcases this with rfl | rfl | rfl | rfl | rfl | rfl | rfl | rfl<;>decide
theorem numB_take (bs:List Int) {i:Nat} (h:i<bs.length):numB (bs.take (i+1))=numB (bs.take i)*256+bs[i]:=by
 unfold numB numA
 rw [List.take_succ_eq_append_getElem h,List.foldl_append];rfl
theorem number_l0 {bs:List Int} (hb:Bs bs) (hl:bs.length≤8) (d:Nat):∀ (i k:Nat),i+d=bs.length→d<k→page_number.l0 k (numB (bs.take i)) bs (bs.length:Int) (i:Int)=some (numB bs):=by
 induction d with
 | zero=>
  intro i k hi hk
  obtain ⟨k,rfl⟩:∃ q,k=q+1:=⟨k-1,by omega⟩
  rw [page_number.l0,if_neg (by omega),List.take_of_length_le (by omega)]
 | succ d ih=>
  intro i k hi hk
  obtain ⟨k,rfl⟩:∃ q,k=q+1:=⟨k-1,by omega⟩
  have hlt:i<bs.length:=by omega
  have hc:=hb _ (List.getElem_mem hlt)
  have h1:=numA_rng (bs.take i) 0 0 (hb.take i) (by omega) (by decide)
  rw [List.length_take,Nat.min_eq_left (by omega),Nat.zero_add] at h1
  have h2:=pow256 (m:=i) (by omega)
  have h3:0≤numB (bs.take i)∧numB (bs.take i)<72057594037927936:=⟨h1.1,Int.lt_of_lt_of_le h1.2 h2⟩
  have e1:wrap64 ((i:Int)+1)=((i+1:Nat):Int):=by rw [wrap64_id]<;>omega
  clear h1 h2
  rw [page_number.l0,if_pos (by omega),if_pos (by omega),if_pos (by omega),rd_get hlt,e1,wrap_u64_id (n:=bs[i]) (by omega) (by omega)]
  have e2:Go.bits .or .u64 (IntKind.u64.wrap (numB (bs.take i)*256)) bs[i]=numB (bs.take (i+1)):=by
   rw [numB_take bs hlt]
   generalize numB (bs.take i)=y at *
   rw [wrap_u64_id (by omega) (by omega)]
   exact or_join 8 (by omega) (by omega) (by omega) hc.1 (by omega) (by omega)
  rw [e2]
  exact ih (i+1) k (by omega) (by omega)
theorem number_f {bs:List Int} (hb:Bs bs) (hl:bs.length≤8):page_number.f 20 bs=some (numB bs):=by
 unfold page_number.f
 exact number_l0 hb hl bs.length 0 20 (by omega) (by omega)
theorem num_low1 {x:Int} (h0:0≤x) (h1:x<256):numB (low x 1)=x:=by simp only [numB,numA,low,List.foldl,Nat.mul_zero,Int.pow_zero];omega
theorem num_low2 {x:Int} (h0:0≤x) (h1:x<65536):numB (low x 2)=x:=by simp only [numB,numA,low,List.foldl,Nat.mul_zero,Int.pow_zero,Nat.mul_one,Int.reducePow];omega
theorem num_low4 {x:Int} (h0:0≤x) (h1:x<4294967296):numB (low x 4)=x:=by simp only [numB,numA,low,List.foldl,Nat.mul_zero,Int.pow_zero,Nat.mul_one,Nat.reduceMul,Int.reducePow];omega
theorem num_low8 {x:Int} (h0:0≤x) (h1:x<18446744073709551616):numB (low x 8)=x:=by simp only [numB,numA,low,List.foldl,Nat.mul_zero,Int.pow_zero,Nat.mul_one,Nat.reduceMul,Int.reducePow];omega
def le4 (x:Int):List Int:=[x % 256,x / 256 % 256,x / 65536 % 256,x / 16777216 % 256]
def pageH (kind addr gen:Int) (body:List Int):List Int:=[kind,0]++low addr 2++low gen 8++low (body.length:Int) 2++body++List.replicate (238-body.length) 0
def pageB (kind addr gen:Int) (body:List Int):List Int:=pageH kind addr gen body++le4 (crcSum (pageH kind addr gen body))
theorem pageH_len {kind addr gen:Int} {body:List Int} (h:body.length≤238):(pageH kind addr gen body).length=252:=by simp [pageH,low_len];omega
theorem pageB_len {kind addr gen:Int} {body:List Int} (h:body.length≤238):(pageB kind addr gen body).length=256:=by rw [pageB,List.length_append,pageH_len h];rfl
theorem pageB_bs {kind addr gen:Int} {body:List Int} (hk:0≤kind∧kind<256) (hb:Bs body):Bs (pageB kind addr gen body):=by
 have h1:Bs [kind,0]:=fun x hx=>by simp at hx;omega
 have h2:Bs (List.replicate (238-body.length) 0):=fun x hx=>by rw [(List.mem_replicate.1 hx).2];omega
 have h3:∀ y,Bs (le4 y):=fun y x hx=>by simp [le4] at hx;omega
 exact (((((h1.append (low_bs _ _)).append (low_bs _ _)).append (low_bs _ _)).append hb).append h2).append (h3 _)
end Go.Proofs.YtnhkikebfinejaaGreatDoor.Z
namespace Go.Proofs.YtnhkikebfinejaaGreatDoor.X
open Go.RowKit Go.Proofs.YtnhkikebfinejaaGreatDoorW.PrintWords Go.Proofs.YtnhkikebfinejaaGreatDoorW.PrintLast Go.Proofs.YtnhkikebfinejaaGreatDoorW.PrintMore
attribute [local go_sem] max2_int min2_int max_two min_two max_three min_three max_four min_four
def bytes_Equal.f (l0:List Int) (l1:List Int):Option (Bool):=some ((strOfNums l0).toList == (strOfNums l1).toList)
theorem bytes_Equal.calls (A0:Option Addr) (c0:Nat) (l0:List Int) (A1:Option Addr) (c1:Nat) (l1:List Int) (r:Bool) (w:World) (hr0:Kd.C (Kd.int .u8) w A0 l0.length l0) (hc0:l0.length≤c0) (hr1:Kd.C (Kd.int .u8) w A1 l1.length l1) (hc1:l1.length≤c1) (h:bytes_Equal.f l0 l1=some r) :
  Calls Tryz.prog 121 #[.slice A0 l0.length c0,.slice A1 l1.length c1] w fun e w'=>e = .returned (.bool r)∧Drawn0 w w':=by
 have HR0:=Aside0.mk hr0
 have HC0:=Aside0.mk hc0
 clear hr0 hc0
 have HR1:=Aside0.mk hr1
 have HC1:=Aside0.mk hc1
 clear hr1 hc1
 have H:(some ((strOfNums l0).toList == (strOfNums l1).toList))=some r:=h
 clear h
 obtain rfl:=Option.some.inj H
 have hcv3:=Kd.C_string (P:=Tryz.prog) (A:=A0) (c:=c0) Tryz.underlying46 Tryz.underlying5 Tryz.underlying9 HR0.out
 have hcv4:=Kd.C_string (P:=Tryz.prog) (A:=A1) (c:=c1) Tryz.underlying46 Tryz.underlying5 Tryz.underlying9 HR1.out
 go_enter Tryz.func121,Tryz.ntmps121
 go_wp2
 go_ret
 exact ⟨by first | rfl | (simp;done) | (simp [*];done),by repeat (first | exact Drawn0.refl _ | apply Drawn0.step)⟩
end Go.Proofs.YtnhkikebfinejaaGreatDoor.X
namespace Go.Proofs.YtnhkikebfinejaaGreatDoor.Z
open Go Go.RowKit Go.Proofs.YtnhkikebfinejaaGreatDoorW.PrintWords Go.Proofs.YtnhkikebfinejaaGreatDoorW.PrintLast Go.Proofs.YtnhkikebfinejaaGreatDoorW.PrintMore Go.Proofs.YtnhkikebfinejaaGreatDoor.S Go.Proofs.YtnhkikebfinejaaGreatDoor.X
section
attribute [local go_sem ↓] Go.wp_at_zero Go.wp_at_succ
def pageV (kind addr gen:Int) (A:Option Addr) (n c:Nat):Value:=.agg #[.int .u8 kind,.int .i64 addr,.int .u64 gen,.slice A n c]
theorem big_calls {w0 w:World} {ok:Nat→Prop} {v:Value} {l:List Int} (x:Int) (i:Nat) (j:Int) (hj:j=(i:Int)) (hi:i≤8) (hl:l.length<1000000) (hB:Below w0.heap.size w0 w) (ho:Kd.R (Kd.int .u8) 5 w w0.heap.size ok v l) (hok:∀ k,w0.heap.size≤k→ok k) :
  Calls Tryz.prog 189 #[v,.int .u64 x,.int .i64 j] w fun e w'=>∃ v',e = .returned v'∧Kd.R (Kd.int .u8) 5 w' w0.heap.size ok v' (l++low x i)∧Below w0.heap.size w0 w':=by
 subst hj
 refine (page_big.calls 20 ok v l x (i:Int) _ w0 w hB ho (big_f l x i hi hl)).mono ?_
 rintro e w' ⟨v',rfl,hr,hb,_⟩
 exact ⟨v',rfl,Kd.R_mono hr (fun k hk=>hk.elim id (fun h=>hok k (Nat.le_trans hB.size h))),hb⟩
def Hold (p:Prop):Prop:=p
theorem hold {p:Prop} (h:Hold p):p:=h
theorem lit2_R {w:World} (base g:Nat) (hg:g=w.heap.size) (a b:Int) (hb:base≤w.heap.size):Kd.R (Kd.int .u8) 5 (w.alloc (.cells #[.int .u8 a,.int .u8 b] 5)) base (fun _=>True) (.slice (some ⟨g,0,none⟩) 2 2) [a,b]:=by
 subst hg
 exact Kd.R_of_own (own_lit_of w base 5 [a,b] hb (by simp)) (fun _ _=>trivial)
theorem pageput_calls {w:World} (kind addr gen:Int) (A:Option Addr) (n c:Nat) (body:List Int) (hn:body.length=n) (hr:Kd.C (Kd.int .u8) w A body.length body) (hk:kind=83∨kind=76∨kind=73∨kind=66) (h0:0≤addr) (h1:addr<512) (h2:n≤238) (hg:0≤gen∧gen<18446744073709551616) :
  Calls Tryz.prog 139 #[tabV crcTab,pageV kind addr gen A n c] w fun e w'=>∃ v,e = .returned (.tuple #[v,.int .i64 0])∧Kd.R (Kd.int .u8) 5 w' w.heap.size (fun _=>True) v (pageB kind addr gen body)∧Below w.heap.size w w':=by
 obtain ⟨T,hT⟩:∃ T,(nums .u32 crcTab).toArray=T:=⟨_,rfl⟩
 subst hn
 unfold tabV pageV
 rw [hT]
 obtain ⟨X1,hX1⟩:∃ X,Obj.cells T 74=X:=⟨_,rfl⟩
 have HX1:=Aside0.mk hX1
 have HT:=Aside0.mk hT
 have HR:=Aside0.mk hr
 have HK:Aside0 (page_known.f kind=some true):=⟨by unfold page_known.f;rcases hk with rfl | rfl | rfl | rfl<;>rfl⟩
 have d1:decide (addr<0)=false:=decide_eq_false (by omega)
 have d2:decide (512≤addr)=false:=decide_eq_false (by omega)
 have d3:decide (238<(body.length:Int))=false:=decide_eq_false (by omega)
 have d4:decide (238<body.length)=false:=decide_eq_false (by omega)
 have e1:IntKind.u64.wrap addr=addr:=by simp [IntKind.wrap,IntKind.bits,IntKind.signed];omega
 have e2:IntKind.u64.wrap (body.length:Int)=(body.length:Int):=by simp [IntKind.wrap,IntKind.bits,IntKind.signed];omega
 clear hT hr hk
 go_enter Tryz.func139,Tryz.ntmps139
 go_wp2_with (go_at_call 188;(with_reducible refine (page_known.calls kind true _ HK.out).mono ?_);rintro e w1 ⟨rfl,⟨m1,rfl⟩⟩;refine hold ?_)
 unfold Hold
 obtain ⟨W0,hW0⟩:∃ W,(w.alloc X1).alloc (Obj.cells #[.int .u8 kind,.int .i64 addr,.int .u64 gen,.slice A body.length c] 154)=W:=⟨_,rfl⟩
 have hs0:W0.heap.size=w.heap.size+1+1:=by rw [← hW0];simp
 have HP:Aside0 (W0.heap[w.heap.size+1]?=some (Obj.cells #[.int .u8 kind,.int .i64 addr,.int .u64 gen,.slice A body.length c] 154)):=⟨by rw [← hW0];have:=blk_new (w.alloc X1) (Obj.cells #[.int .u8 kind,.int .i64 addr,.int .u64 gen,.slice A body.length c] 154);rwa [show (w.alloc X1).heap.size=w.heap.size+1 by simp] at this⟩
 have HX:Aside0 (W0.heap[w.heap.size]?=some X1):=⟨by rw [← hW0];exact blk_alloc (blk_new _ _) _⟩
 have HB0:Aside0 (Below w.heap.size w W0):=⟨by rw [← hW0];exact below_alloc (below_alloc (Below.refl _ _) _) _⟩
 have q0:=blk_cell HP.out 0
 have q1:=blk_cell HP.out 1
 have q2:=blk_cell HP.out 2
 have q3:=blk_cell HP.out 3
 simp only [List.getElem?_toArray,List.getElem?_cons_zero,List.getElem?_cons_succ] at q0 q1 q2 q3
 simp only [hW0]
 clear hW0
 go_wp2_with (go_at_call 189;refine hold ?_)
 unfold Hold
 rw [← hs0]
 (with_reducible refine (big_calls (w0:=W0) addr 2 2 rfl (by decide) (by simp) (below_alloc (pw_below_drewN (Below.refl _ _) _) _) (lit2_R (w:=W0.drewN m1) _ W0.heap.size rfl kind 0 (Nat.le_refl _)) (fun _ _=>trivial)).mono ?_)
 rintro e w2 ⟨v2,rfl,hr2,hb2⟩
 have HR2:=Aside0.mk hr2
 have HB2:=Aside0.mk hb2
 have HP2:=Aside0.mk (blk_below HP.out hb2)
 clear hr2 hb2 q0 q1 q2 q3
 have q2:=blk_cell HP2.out 2
 have q3:=blk_cell HP2.out 3
 simp only [List.getElem?_toArray,List.getElem?_cons_zero,List.getElem?_cons_succ] at q2 q3
 go_wp2
 have HR2d:Aside0 (Kd.R (Kd.int .u8) 5 w2.drew W0.heap.size (fun _=>True) v2 ([kind,0]++low addr 2)):=⟨Kd.R_drew HR2.out⟩
 have HB2d:Aside0 (Below W0.heap.size W0 w2.drew):=⟨below_drew1 HB2.out⟩
 go_region_law (go_simp;go_wp2_with (first
  | (go_at_call 189;(with_reducible refine (big_calls (w0:=W0) gen 8 8 rfl (by decide) (by simp [low_len]) HB2d.out HR2d.out (fun _ _=>trivial)).mono ?_);rintro e w3 ⟨v3,rfl,hr3,hb3⟩;have HR3:=Aside0.mk hr3;have HB3:=Aside0.mk hb3;have HP3:=Aside0.mk (blk_below HP.out hb3);clear hr3 hb3;have q33:=blk_cell HP3.out 3;simp only [List.getElem?_toArray,List.getElem?_cons_zero,List.getElem?_cons_succ] at q33)
  | (go_at_call 189;(with_reducible refine (big_calls (w0:=W0) (body.length:Int) 2 2 rfl (by decide) (by simp [low_len]) HB3.out HR3.out (fun _ _=>trivial)).mono ?_);rintro e w4 ⟨v4,rfl,hr4,hb4⟩;have HR4:=Aside0.mk hr4;have HB4:=Aside0.mk hb4;have HP4:=Aside0.mk (blk_below HP.out hb4);clear hr4 hb4)))
 all_goals
  have HB5:Aside0 (Below w.heap.size w w4):=⟨below_step HB0.out HB4.out⟩
  have HR5:Aside0 (Kd.C (Kd.int .u8) w4 A body.length body):=⟨Kd.C_below HR.out HB5.out⟩
  have q43:=blk_cell HP4.out 3
  simp only [List.getElem?_toArray,List.getElem?_cons_zero,List.getElem?_cons_succ] at q43
  go_wp2_with ((with_reducible refine gate_builtin (b:=.append) (xs:=#[.tmp 45,.tmp 47]) rfl ?_);at_builtin;refine hold ?_)
  unfold Hold
  refine Kd.R_append_rows (Kd.int .u8) (w0:=W0) W0.heap.size rfl (.tmp 45) (.tmp 47) 46 5 (.int .u8 0) 1 rfl Tryz.underlying46 info_u8 rfl (by decide) (by decide) v4 ([kind,0]++low addr 2++low gen 8++low (body.length:Int) 2) body A body.length c (fun _=>True) (fun _=>False) rfl rfl HR4.out HR5.out (fun _ _ h=>h) (fun _ h=>h.elim) (fun _ _=>trivial) HB4.out HB4.out.size (by simp [low_len];omega) ?_
  intro v5 w5 ho hb hg hat
  obtain ⟨l5,hl⟩:∃ l,[kind,0]++low addr 2++low gen 8++low (body.length:Int) 2++body=l:=⟨_,rfl⟩
  rw [hl] at ho
  have hl5:l5.length=14+body.length:=by rw [← hl];simp [low_len];omega
  obtain ⟨A5,c5,rfl⟩:=Kd.R_slice ho
  rw [hl5] at ho ⊢
  have HO5:=Aside0.mk ho
  have HB6:=Aside0.mk hb
  have HL5:=Aside0.mk hl5
  have HLL:=Aside0.mk hl
  clear ho hb hg hat hl5 hl
  go_wp2_with ((with_reducible refine gate_builtin (b:=.append) (xs:=#[.tmp 49,.tmp 52]) rfl ?_);at_builtin;refine hold ?_)
  unfold Hold
  refine Kd.R_append_zeros (Kd.int .u8) (w0:=W0) W0.heap.size rfl (.tmp 49) (.tmp 52) 46 3 5 (.int .u8 0) 1 rfl Tryz.underlying46 Tryz.underlying3 info_u8 rfl (by decide) (by decide) (.slice A5 (14+body.length) c5) l5 (0:Int) (kx:=.i64) (252-(14+(body.length:Int))) (fun _=>True) rfl rfl rfl (fun _ _=>trivial) HO5.out (by omega) HB6.out HB6.out.size (by rw [HL5.out];omega) ?_
  intro v6 w6 ho hb hg hat
  have hl6:l5++List.replicate (252-(14+(body.length:Int))).toNat 0=pageH kind addr gen body:=by
   rw [← HLL.out,show (252-(14+(body.length:Int))).toNat=238-body.length by omega];rfl
  rw [hl6] at ho
  obtain ⟨A6,c6,rfl⟩:=Kd.R_slice ho
  rw [pageH_len h2] at ho ⊢
  have HO6:=Aside0.mk ho
  have HB7:=Aside0.mk hb
  have HX6:=Aside0.mk (blk_below HX.out hb)
  have HPL:=Aside0.mk (pageH_len (kind:=kind) (addr:=addr) (gen:=gen) h2)
  obtain ⟨H,hH⟩:∃ l,pageH kind addr gen body=l:=⟨_,rfl⟩
  have HH:=Aside0.mk hH
  clear ho hb hg hat hl6
  rw [← hX1] at HX6
  have HSZ:Aside0 ((Tryz.prog.info? 74).map (·.size)=some T.size):=⟨by rw [← HT.out,size_tab];simp [nums,crcTab_len]⟩
  rw [hH] at HO6 HPL
  go_wp2
  refine wp_load_row 74 (.tmp 2) rfl w.heap.size rfl 74 T (0,0) _ HX6.out Tryz.underlying74 rfl HSZ.out ?_
  have hsum:=sum_calls A6 c6 252 H HPL.out (Kd.R_reads' HO6.out).2.2
  unfold tabV at hsum
  rw [HT.out] at hsum
  have HSUM:=Aside0.mk hsum
  clear hsum
  go_wp2_with (go_at_call 26;(with_reducible refine HSUM.out.mono ?_);rintro e w7 ⟨rfl,hb⟩;have HO7:=Aside0.mk (Kd.R_below HO6.out hb);have HB8:=Aside0.mk (below_step HB7.out hb);clear hb)
  obtain ⟨S,hS⟩:∃ s,crcSum H=s:=⟨_,rfl⟩
  have HS:=Aside0.mk hS
  have hs1:0≤S∧S<4294967296:=by rw [← hS];exact crcSum_rng H
  simp only [hS]
  clear hS
  go_loopw [6,57] (fun v6 v57 wr=>∃ (i:Nat) (ii:Int),v57 = .int .i64 ii∧Aside0 (ii=(i:Int))∧Aside0 (i≤4)∧Aside0 (Kd.R (Kd.int .u8) 5 wr W0.heap.size (fun _=>True) v6 (H++(le4 S).take i))∧Aside0 (Below W0.heap.size W0 wr)) (fun _ v57 _=>((4:Int)-intOf v57).toNat)
  case atStart=>exact ⟨0,0,rfl,⟨rfl⟩,⟨by decide⟩,⟨by simpa using HO7.out⟩,HB8⟩
  case round=>
   obtain ⟨i,ii,rfl,HI,HIL,HO,HB⟩:=hrel
   have hi0:0≤ii:=by have:=HI.out;omega
   by_cases hlt:i<4
   ·have d5:decide (ii<4)=true:=decide_eq_true (by have:=HI.out;omega)
    have d6:decide (8*ii<0)=false:=decide_eq_false (by omega)
    have e5:wrap64 (ii+1)=ii+1:=wrap64_id (by omega) (by have:=HI.out;omega)
    obtain ⟨j,hj⟩:∃ j:Int,8*ii=j:=⟨_,rfl⟩
    have hji:j=((8*i:Nat):Int):=by have:=HI.out;omega
    have e6:wrap64 (8*ii)=j:=by rw [hj];exact wrap64_id (by omega) (by omega)
    have e7:IntKind.i64.wrap (8*ii)=j:=(i64_w _).trans e6
    obtain ⟨q,hq⟩:∃ q:Int,S / 2 ^ (8*i)=q:=⟨_,rfl⟩
    have e8:S / 2 ^ min j.toNat 32=q:=by rw [hji,Int.toNat_natCast,Nat.min_eq_left (by omega)];exact hq
    have e9:S / 2 ^ j.toNat=q:=by rw [hji,Int.toNat_natCast];exact hq
    have e10:(0≤j)=True:=eq_true (by omega)
    have e11:decide (0≤j)=true:=decide_eq_true (by omega)
    have HJ:=Aside0.mk hji
    have HQ:=Aside0.mk hq
    clear hji hq hj d6
    obtain ⟨A8,c8,rfl⟩:=Kd.R_slice HO.out
    go_wp2_with ((with_reducible refine gate_builtin (b:=.append) (xs:=#[.tmp 60,.tmp 66]) rfl ?_);at_builtin;refine hold ?_)
    unfold Hold
    refine Kd.R_append (Kd.int .u8) (w0:=W0) W0.heap.size rfl (.tmp 60) (.tmp 66) 46 5 (.int .u8 0) 1 rfl Tryz.underlying46 info_u8 rfl (by decide) (by decide) _ (H++(le4 S).take i) (q % 256) [.int .u8 (q % 256)] (fun _=>True) (fun _=>False) rfl rfl rfl (fun _ hk=>hk.elim) (fun _ _=>trivial) HO.out HB.out HB.out.size (by rw [List.length_append,HPL.out,List.length_take];omega) ?_
    intro v9 w9 ho hb hg hat
    have hle:H++(le4 S).take i++[q % 256]=H++(le4 S).take (i+1):=by
     rw [List.append_assoc,← HQ.out]
     rcases (by omega:i=0∨i=1∨i=2∨i=3) with rfl | rfl | rfl | rfl<;>simp [le4]
    rw [hle] at ho
    have HO9:=Aside0.mk ho
    have HB9:=Aside0.mk hb
    clear ho hb hg hat hle
    go_wp2
    go_roundw
    case rel=>exact ⟨i+1,_,rfl,⟨by have:=HI.out;omega⟩,⟨by omega⟩,HO9,HB9⟩
    case measure=>simp [intOf];have:=HI.out;omega
   ·obtain rfl:i=4:=by have:=HIL.out;omega
    have d5:decide (ii<4)=false:=decide_eq_false (by have:=HI.out;omega)
    go_wp2
    go_ret2
    have hO:=HO.out
    rw [List.take_of_length_le (show (le4 S).length≤4 from Nat.le_refl 4),← HS.out,← HH.out] at hO
    exact ⟨_,rfl,Kd.R_lower hO (by omega),below_step HB0.out HB.out⟩
end
section
attribute [local go_sem ↓] Go.wp_at_zero Go.wp_at_succ
def gath (f:Nat→List Int) (s:Nat):Nat→List Int
 | 0=>[]
 | k+1=>gath f s k++f (s+k)
theorem gath_len {f:Nat→List Int} {s N:Nat} (hf:∀ i,i<4*N→(f i).length=64):∀ k,s+k≤4*N→(gath f s k).length=64*k:=by
 intro k
 induction k with
 | zero=>intro _;rfl
 | succ k ih=>intro h;rw [gath,List.length_append,ih (by omega),hf _ (by omega)];omega
theorem Disk.flen {w:World} {d N n:Nat} {O:Nat→Prop} {f:Nat→List Int} (h:Disk w d O N n f) (s:Nat) (hs:s<4*N):(f s).length=64:=by
 obtain ⟨a,wv,img,ps,hk,hf,hn⟩:=h
 rw [hf s hs]
 have hc:(cut64 img s).length=64:=cut64_len hk.hl hs
 have hp:∀ p∈ps,p.2.2.length=64:=fun p hp=>(hk.hp p hp).2.2.1
 clear hf hk hn
 rw [sec_eq]
 generalize cut64 img s=acc at hc
 induction ps generalizing acc with
 | nil=>exact hc
 | cons p ps ih=>
  rw [sec.sec']
  refine ih (fun q hq=>hp q (List.mem_cons_of_mem _ hq)) _ ?_
  split
  ·exact hp p List.mem_cons_self
  ·exact hc
theorem readraw_calls {w:World} {d N nw:Nat} {O:Nat→Prop} {f:Nat→List Int} (h:Disk w d O N nw f) (addr n K:Nat) (h0:0<n) (hK:n≤64*K) (hK2:64*K<n+64) (hN:4*addr+K≤4*N) :
  Calls Tryz.prog 123 #[.pointer (some ⟨d,0,none⟩),.int .i64 (addr:Int),.int .i64 (n:Int)] w fun e w'=>∃ A,e = .returned (.tuple #[.slice A n n,.int .i64 0])∧Kd.C (Kd.int .u8) w' A ((gath f (4*addr) K).take n).length ((gath f (4*addr) K).take n)∧Below w.heap.size w w':=by
 have hN5:N≤512:=by obtain ⟨a,wv,img,ps,hk,_⟩:=h;exact hk.hN.2
 have HL:Aside0 (∀ k,4*addr+k≤4*N→(gath f (4*addr) k).length=64*k):=⟨gath_len h.flen⟩
 have HD:=Aside0.mk h
 have d1:decide ((n:Int)<0)=false:=decide_eq_false (by omega)
 have e1:IntKind.i64.wrap ((addr:Int)*4)=((4*addr:Nat):Int):=by simp [IntKind.wrap,IntKind.bits,IntKind.signed];omega
 have e2:wrap64 ((addr:Int)*4)=((4*addr:Nat):Int):=by rw [wrap64_id]<;>omega
 clear h
 go_enter Tryz.func123,Tryz.ntmps123
 go_wp2
 go_loopw [8,9] (fun v8 v9 wr=>∃ (i:Nat) (ii:Int),v9 = .int .i64 ii∧Aside0 (ii=((4*addr+i:Nat):Int))∧Aside0 (i≤K)∧Aside0 (Kd.R (Kd.int .u8) 5 wr w.heap.size (fun _=>True) v8 (gath f (4*addr) i))∧Aside0 (Below w.heap.size w wr)) (fun _ v9 _=>(((4*addr+K:Nat):Int)-intOf v9).toNat)
 case atStart=>exact ⟨0,_,rfl,⟨by simp⟩,⟨Nat.zero_le _⟩,⟨Kd.R_nil _ _ _ _ _⟩,⟨Below.refl _ _⟩⟩
 case round=>
  obtain ⟨i,ii,rfl,HI,HIL,HR,HB⟩:=hrel
  obtain ⟨A8,c8,rfl⟩:=Kd.R_slice HR.out
  have hl:=HL.out i (by have:=HIL.out;omega)
  rw [hl] at HR ⊢
  have hl2:=Aside0.mk hl
  clear hl
  by_cases hlt:i<K
  ·obtain ⟨L,hL⟩:∃ L:Nat,64*i=L:=⟨_,rfl⟩
   have d2:decide ((64*(i:Int))<(n:Int))=true:=decide_eq_true (by omega)
   have e5:wrap64 (ii+1)=ii+1:=by have:=HI.out;rw [wrap64_id]<;>omega
   have e6:IntKind.i64.wrap (ii+1)=ii+1:=(i64_w _).trans e5
   have HRD:Aside0 (Calls Tryz.prog 167 #[.pointer (some ⟨d,0,none⟩),.int .i64 ii] wr fun e w'=>∃ v,e = .returned (.tuple #[v,.int .i64 0])∧Kd.R (Kd.int .u8) 5 w' wr.heap.size (fun _=>True) v (f (4*addr+i))∧(f (4*addr+i)).length=64∧Bs (f (4*addr+i))∧Below wr.heap.size wr w'):=⟨by rw [HI.out];exact read_calls (HD.out.below HB.out) (4*addr+i) (by omega)⟩
   clear hL
   go_wp2_with (first
    | (go_at_call 167;(with_reducible refine HRD.out.mono ?_);rintro e w2 ⟨v2,rfl,ho,h64,_,hb⟩;refine hold ?_))
   unfold Hold
   obtain ⟨A2,c2,rfl⟩:=Kd.R_slice ho
   rw [h64] at ho ⊢
   have HO2:=Aside0.mk ho
   have HB2:=Aside0.mk (below_step HB.out hb)
   have HR2:=Aside0.mk (Kd.R_below HR.out hb)
   have H64:=Aside0.mk h64
   clear ho hb h64
   go_wp2_with ((with_reducible refine gate_builtin (b:=.append) (xs:=#[.tmp 31,.tmp 32]) rfl ?_);at_builtin;refine hold ?_)
   unfold Hold
   refine Kd.R_append_rows (Kd.int .u8) (w0:=w) w.heap.size rfl (.tmp 31) (.tmp 32) 46 5 (.int .u8 0) 1 rfl Tryz.underlying46 info_u8 rfl (by decide) (by decide) (.slice A8 (64*i) c8) (gath f (4*addr) i) (f (4*addr+i)) A2 64 c2 (fun _=>True) (fun _=>False) rfl rfl HR2.out (by have h:=(Kd.R_reads' HO2.out).2.2;rwa [show Kd.C (Kd.int .u8) w2 A2 (f (4*addr+i)).length (f (4*addr+i))=Kd.C (Kd.int .u8) w2 A2 64 (f (4*addr+i)) by rw [H64.out]] at h) (fun _ _ h=>h) (fun _ h=>h.elim) (fun _ _=>trivial) HB2.out HB2.out.size (by have:=hl2.out;omega) ?_
   intro v9 w9 ho hb hg hat
   have HO9:=Aside0.mk ho
   have HB9:=Aside0.mk hb
   clear ho hb hg hat
   go_wp2
   go_roundw
   case rel=>exact ⟨i+1,_,rfl,⟨by have:=HI.out;omega⟩,⟨by omega⟩,HO9,HB9⟩
   case measure=>simp [intOf];have:=HI.out;omega
  ·obtain rfl:i=K:=by have:=HIL.out;omega
   have d2:decide ((64*(i:Int))<(n:Int))=false:=decide_eq_false (by omega)
   have hc8:64*i≤c8:=(Kd.R_reads' HR.out).2.1
   have t1:((n:Int)≤(c8:Int))=True:=eq_true (by omega)
   have t2:(c8=0)=False:=eq_false (by omega)
   go_wp2
   go_ret2
   exact ⟨A8,rfl,Kd.C_take (Kd.R_reads' HR.out).2.2 (by have:=hl2.out;omega),HB.out⟩
end
section
open Go.Shelf
attribute [local go_sem] Oper.semAt_some
def Boxes (bs bn:Nat) (A B:World):Prop:=∀ k,k=bs∨k=bn → ∀ o,A.heap[k]?=some o→B.heap[k]?=some o
theorem Boxes.refl (bs bn:Nat) (A:World):Boxes bs bn A A:=fun _ _ _ h=>h
theorem Boxes.trans {bs bn:Nat} {A B C:World} (h:Boxes bs bn A B) (k:Boxes bs bn B C):Boxes bs bn A C:=fun i hi o ho=>k i hi o (h i hi o ho)
theorem chunk1_in (F:Fence) (n:Nat) (h7:F.fn 142) (hro:F.round=none) (hn:1≤n) (l bs bn q M cap:Nat) (hM:M≤1000000) (hcap:64*M≤cap) (J Jx:List (Fin M)→World→Prop) (B:Nat) (hJ:AbidesFrom B J)
  (hY:∀ pre x W,J pre W→pre.length<M→YieldAt F (n-1) Tryz.prog l #[.slice (some ⟨q,64*x.val,none⟩) 64 64] W fun e W'=>
   (e = .returned (.bool true)∧J (pre++[x]) W'∧Boxes bs bn W W')∨(e = .returned (.bool false)∧Jx (pre++[x]) W'))
  (W:World) (hs:W.heap[bs]?=some (Obj.cells #[.slice (some ⟨q,0,none⟩) (64*M) cap] 46)) (hb:W.heap[bn]?=some (Obj.cells #[.int .i64 64] 3)) (h0:J [] W) :
  CallsIn F n Tryz.prog 142 #[.func (.yield l) #[] #[],.pointer (some ⟨bs,0,none⟩),.pointer (some ⟨bn,0,none⟩)] W fun e W'=>(∃ v,e = .returned v) ∧
   ((∃ ys:List (Fin M),ys.map Fin.val=List.range M∧J ys W')∨(∃ pre,True∧Jx pre W')):=by
 refine callsIn_of_wp Tryz.func142 rfl h7 ?_ hro
 simp only [Tryz.ntmps142,List.size_toArray,List.length_cons,List.length_nil,Nat.reduceAdd,Nat.reduceSub,Array.replicate_succ,Array.replicate_zero,List.push_toArray,List.append_toArray,List.nil_append,List.cons_append]
 gi_wp2
 gi_loopw [4] (fun v4 wr=>∃ (k:Nat) (ii:Int) (pre:List (Fin M)),Aside0 (k≤M)∧v4 = .int .i64 ii∧Aside0 (ii=((64*k:Nat):Int))∧pre.map Fin.val=List.range k∧J pre wr∧Aside0 (Boxes bs bn W wr)) (fun v4 _=>64*M-(intOf v4).toNat)
 case atStart=>exact ⟨0,0,[],⟨Nat.zero_le _⟩,rfl,⟨rfl⟩,rfl,h0,⟨Boxes.refl _ _ _⟩⟩
 case round=>
  obtain ⟨k,ii,pre,HK,rfl,HI,hpre,hJs,HX⟩:=hrel
  have hs1:=HX.out bs (Or.inl rfl) _ hs
  have hb1:=HX.out bn (Or.inr rfl) _ hb
  have c1:=blk_cell hs1 0
  have c2:=blk_cell hb1 0
  simp only [List.getElem?_toArray,List.getElem?_cons_zero,List.getElem?_cons_succ] at c1 c2
  have hpl:pre.length=k:=by rw [← List.length_map (f:=Fin.val),hpre,List.length_range]
  by_cases hlt:k<M
  ·have d1:decide (ii<64*(M:Int))=true:=decide_eq_true (by have:=HI.out;omega)
   have hJd:J pre wr.drew:=hJ pre wr wr.drew none hJs ⟨rfl,rfl,rfl,Nat.le_refl _,fun _ _ _=>rfl⟩ (fun r e=>by cases e)
   obtain ⟨fn,tmps,assign,body,hy,hR⟩:=hY pre ⟨k,hlt⟩ wr.drew hJd (by omega)
   have m1:(((64*M-64*k:Nat):Int)<64)=False:=eq_false (by omega)
   have t4:(ii+64≤(cap:Int))=True:=eq_true (by have:=HI.out;omega)
   have t5:(ii≤ii+64)=True:=eq_true (by omega)
   have e5:wrap64 (ii+64)=ii+64:=wrap64_id (by have:=HI.out;omega) (by have:=HI.out;omega)
   have e6:IntKind.i64.wrap (ii+64)=ii+64:=(i64_w _).trans e5
   have e7:(ii+64).toNat-64*k=64:=by have:=HI.out;omega
   have c3:wr.drew.cell? ⟨bs,0,none⟩=some (.slice (some ⟨q,0,none⟩) (64*M) cap):=c1
   have c4:wr.drew.cell? ⟨bn,0,none⟩=some (.int .i64 64):=c2
   have t1:(ii≤64*(M:Int))=True:=eq_true (by have:=HI.out;omega)
   have t2:(0≤ii)=True:=eq_true (by have:=HI.out;omega)
   have hii:ii.toNat=64*k:=by have:=HI.out;omega
   have t3:(ii≤(cap:Int))=True:=eq_true (by have:=HI.out;omega)
   gi_wp2
   gi_region
   all_goals
    gi_wp2
    refine hR.mono ?_
    rintro e W3 (⟨rfl,hJ3,hk3⟩ | ⟨rfl,hJx3⟩)
    ·have c5:=blk_cell (hk3 bn (Or.inr rfl) _ hb1) 0
     simp only [List.getElem?_toArray,List.getElem?_cons_zero] at c5
     gi_wp2
     go_roundw
     case rel=>exact ⟨k+1,ii+64,pre++[⟨k,hlt⟩],⟨by omega⟩,rfl,⟨by have:=HI.out;omega⟩,by rw [List.map_append,hpre,List.range_succ];rfl,hJ3,⟨HX.out.trans hk3⟩⟩
     case measure=>simp [intOf];have:=HI.out;omega
    ·gi_wp2
     refine bodyPost_ret (results_none rfl _ _ _) rfl ?_
     exact ⟨⟨_,rfl⟩,.inr ⟨_,trivial,hJx3⟩⟩
  ·obtain rfl:k=M:=by have:=HK.out;omega
   have d1:decide (ii<64*(k:Int))=false:=decide_eq_false (by have:=HI.out;omega)
   gi_wp2
   go_end0
   exact ⟨⟨_,rfl⟩,.inl ⟨pre,hpre,hJs⟩⟩
theorem chunk_stops (F:Fence) (n:Nat) (h7:F.fn 142) (hro:F.round=none) (hn:1≤n) (bs bn q M cap:Nat) (hM:M≤1000000) (hcap:64*M≤cap) (w:World)
  (hs:w.heap[bs]?=some (Obj.cells #[.slice (some ⟨q,0,none⟩) (64*M) cap] 46)) (hb:w.heap[bn]?=some (Obj.cells #[.int .i64 64] 3)) :
  SeqStopsK F n Tryz.prog 142 #[.pointer (some ⟨bs,0,none⟩),.pointer (some ⟨bn,0,none⟩)] (fun x:Fin M=>#[.slice (some ⟨q,64*x.val,none⟩) 64 64]) (Boxes bs bn) (fun ys=>ys.map Fin.val=List.range M) (fun _=>True) M w:=
 fun l J Jx W hW hJ hJx hY h0=>chunk1_in F n h7 hro hn l bs bn q M cap hM hcap J Jx _ hJ hY W (blk_below hs hW) (blk_below hb hW) h0
end
section
open Go.Shelf
structure Sanct where
 n:Nat
def sB [Inhabited Sanct]:Nat:=(default:Sanct).n
def sS:List Nat:=[66,5,168,246,144,198,215]
structure FrT [Inhabited Sanct] (T:List Nat) (w W:World):Prop where
 b:Below 0 w W
 k:∀ (i:Nat) (o:Obj),w.heap[i]?=some o→(∀ (cs:Array Value) (t:Nat) (fr:Nat×Nat),o=Obj.cells cs t fr→t ∉ T)→W.heap[i]?=some o
 s:∀ (i:Nat) (o:Obj),i<sB→w.heap[i]?=some o→(∀ (cs:Array Value) (t:Nat) (fr:Nat×Nat),o=Obj.cells cs t fr→t∈T→t∈sS)→W.heap[i]?=some o
def Typed [Inhabited Sanct] (T:List Nat) (w:World) (k:Nat):Prop:=∃ (cs:Array Value) (t:Nat) (fr:Nat×Nat),w.heap[k]?=some (.cells cs t fr)∧t∈T∧(t∈sS→sB≤k)
def dT:List Nat:=[66,5,168]
theorem blkb {w w1:World} {g:Nat} {o:Obj} (hb:Below w.heap.size w w1) (h:w.heap[g]?=some o):w1.heap[g]?=some o:=blk_below h hb
theorem newb {w:World} {g:Nat} {o:Obj} (h:w.heap.size=g):(w.alloc o).heap[g]?=some o:=by subst h;exact blk_new _ _
section
variable {T T2:List Nat} {w W W2:World}
theorem FrT.size [Inhabited Sanct] (h:FrT T w W):w.heap.size≤W.heap.size:=h.b.size
theorem FrT.refl [Inhabited Sanct] (T:List Nat) (w:World):FrT T w w:=⟨Below.refl _ _,fun _ _ h _=>h,fun _ _ _ h _=>h⟩
theorem FrT.of_below [Inhabited Sanct] (h:Below w.heap.size w W) (T:List Nat):FrT T w W:=⟨h.mono (Nat.zero_le _),fun i o hi _=>(h.block i (blk_lt hi)).trans hi,fun i o _ hi _=>(h.block i (blk_lt hi)).trans hi⟩
theorem FrT.trans [Inhabited Sanct] (h:FrT T w W) (k:FrT T W W2):FrT T w W2:=⟨h.b.trans k.b,fun i o hi hn=>k.k i o (h.k i o hi hn) hn,fun i o hb hi hn=>k.s i o hb (h.s i o hb hi hn) hn⟩
theorem FrT.mono [Inhabited Sanct] (h:FrT T w W) (hs:∀ t,t∈T→t∈T2):FrT T2 w W:=⟨h.b,fun i o hi hn=>h.k i o hi (fun cs t fr e ht=>hn cs t fr e (hs t ht)),fun i o hb hi hn=>h.s i o hb hi (fun cs t fr e ht=>hn cs t fr e (hs t ht))⟩
theorem FrT.below [Inhabited Sanct] (h:FrT T w W) (k:Below W.heap.size W W2):FrT T w W2:=h.trans (FrT.of_below k T)
theorem FrT.of_fr [Inhabited Sanct] {S:Nat→Prop} (h:Fr w W S) (hs:∀ k,S k→Typed T w k):FrT T w W:=
 ⟨h.b,fun i o hi hn=>h.blk hi (fun hk=>by
  obtain ⟨cs,t,fr,he,ht,_⟩:=hs i hk
  rw [hi] at he
  injection he with he
  exact hn cs t fr he ht),fun i o hb hi hn=>h.blk hi (fun hk=>by
  obtain ⟨cs,t,fr,he,ht,h3⟩:=hs i hk
  rw [hi] at he
  injection he with he
  have:=h3 (hn cs t fr he ht)
  omega)⟩
theorem FrT.blk [Inhabited Sanct] {g:Nat} {cs:Array Value} {t:TypeId} {fr:Nat×Nat} (h:FrT T w W) (hb:w.heap[g]?=some (.cells cs t fr)) (ht:t ∉ T):W.heap[g]?=some (.cells cs t fr):=
 h.k g _ hb (fun cs2 t2 fr2 e=>by injection e with _ e2;rw [← e2];exact ht)
theorem FrT.non [Inhabited Sanct] (h:FrT T w W) {g:Nat} {o:Obj} (hb:w.heap[g]?=some o) (ho:o.isCells=false):W.heap[g]?=some o:=
 h.k g o hb (fun cs t fr e=>by rw [e] at ho;cases ho)
theorem FrT.keeps [Inhabited Sanct] (h:FrT T w W) (B:Nat):KeepsFrom B w W:=⟨h.size,fun k o _ hk ho=>h.non hk ho⟩
theorem FrT.setCell [Inhabited Sanct] {g:Nat} {cs:Array Value} {t:TypeId} {fr:Nat×Nat} (h:FrT T w W) (hb:W.heap[g]?=some (.cells cs t fr)) (ht:t∈T) (j:Nat) (u:Value) (hs:t∈sS→sB≤g:=by first | (intro h;exact absurd h (by decide)) | (intro _;assumption)):FrT T w (W.setCell ⟨g,j,none⟩ u):=
 h.trans (FrT.of_fr ((Fr.refl W (fun k=>k=g)).setCell (p:=⟨g,j,none⟩) (Or.inl rfl) u) (fun k hk=>⟨cs,t,fr,by rw [hk];exact hb,ht,by rw [hk];exact hs⟩))
theorem FrT.setRow [Inhabited Sanct] {g:Nat} {cs:Array Value} {t:TypeId} {fr:Nat×Nat} (h:FrT T w W) (hb:W.heap[g]?=some (.cells cs t fr)) (ht:t∈T) (ds:Array Value) (hs:t∈sS→sB≤g:=by first | (intro h;exact absurd h (by decide)) | (intro _;assumption)):FrT T w (W.setRow g ds):=
 h.trans (FrT.of_fr ((Fr.refl W (fun k=>k=g)).setRow (Or.inl rfl) ds) (fun k hk=>⟨cs,t,fr,by rw [hk];exact hb,ht,by rw [hk];exact hs⟩))
theorem FrT.setNew [Inhabited Sanct] {g:Nat} (h:FrT T w W) (hg:w.heap.size≤g) (j:Nat) (u:Value):FrT T w (W.setCell ⟨g,j,none⟩ u):=
 ⟨h.b.setCell (Nat.zero_le _) u,fun i o hi hn=>(Below.heap_setCell W ⟨g,j,none⟩ u i (by have:=blk_lt hi;show i≠g;omega)).trans (h.k i o hi hn),fun i o hb hi hn=>(Below.heap_setCell W ⟨g,j,none⟩ u i (by have:=blk_lt hi;show i≠g;omega)).trans (h.s i o hb hi hn)⟩
theorem FrT.setRowNew [Inhabited Sanct] {g:Nat} (h:FrT T w W) (hg:w.heap.size≤g) (ds:Array Value):FrT T w (W.setRow g ds):=
 ⟨h.b.trans ((Fr.refl W (fun k=>k=g)).setRow (Or.inl rfl) ds).b,fun i o hi hn=>(setRow_other W g i ds (by have:=blk_lt hi;omega)).trans (h.k i o hi hn),fun i o hb hi hn=>(setRow_other W g i ds (by have:=blk_lt hi;omega)).trans (h.s i o hb hi hn)⟩
theorem FrT.alloc [Inhabited Sanct] (h:FrT T w W) (o:Obj):FrT T w (W.alloc o):=h.below (below_alloc (Below.refl _ _) o)
theorem FrT.drewN [Inhabited Sanct] (h:FrT T w W) (n:Nat):FrT T w (W.drewN n):=h.below (pw_below_drewN (Below.refl _ _) n)
theorem FrT.drew [Inhabited Sanct] (h:FrT T w W):FrT T w W.drew:=h.below (below_drew (Below.refl _ _))
theorem FrT.putObj [Inhabited Sanct] (h:FrT T w W) {l:Nat} (o:Obj) (hl:w.heap.size≤l) (hlt:l<W.heap.size):FrT T w (W.putObj l o):=
 ⟨h.b.trans ((Below.refl 0 W).grown (grownBy_putObj' W l o) (by omega) (fun k e=>by omega)),fun i o2 hi hn=>(World.putObj_heap_other (by have:=blk_lt hi;omega)).trans (h.k i o2 hi hn),fun i o2 hb hi hn=>(World.putObj_heap_other (by have:=blk_lt hi;omega)).trans (h.s i o2 hb hi hn)⟩
theorem FrT.slot [Inhabited Sanct] {row:Option Nat} (h:FrT T w W) (hg:W.grownBy W2 row) (hr:∀ r,row=some r→w.heap.size≤r):FrT T w W2:=
 ⟨h.b.grown hg (by have:=h.b.size;omega) (fun k e=>Nat.zero_le _),fun i o hi hn=>(hg.block i (blk_lt (h.k i o hi hn)) (fun e=>by have:=hr i e.symm;have:=blk_lt hi;omega)).trans (h.k i o hi hn),fun i o hb hi hn=>(hg.block i (blk_lt (h.s i o hb hi hn)) (fun e=>by have:=hr i e.symm;have:=blk_lt hi;omega)).trans (h.s i o hb hi hn)⟩
theorem slot_cells [Inhabited Sanct] {row:Option Nat} (hg:W.grownBy W2 row) (hr:∀ r,row=some r → ∃ o:Obj,W.heap[r]?=some o∧o.isCells=false) {g:Nat} {cs:Array Value} {t:TypeId} {fr:Nat×Nat} (hb:W.heap[g]?=some (.cells cs t fr)):W2.heap[g]?=some (.cells cs t fr):=
 (hg.block g (blk_lt hb) (fun e=>by
  obtain ⟨o,ho,hc⟩:=hr g e.symm
  rw [hb] at ho
  injection ho with ho
  rw [← ho] at hc
  cases hc)).trans hb
theorem R_frT [Inhabited Sanct] {α:Type} {d:Kd α} {e:Nat} {base:Nat} {ok:Nat→Prop} {v:Value} {xs:List α} (h:d.R e w base ok v xs) (hf:FrT T w W) (hE:∀ q,q∈e :: d.E→q ∉ T):d.R e W base ok v xs:=
 Kd.R_mono (Kd.R_move (Kd.R_bound h) (fun k hk=>by
  obtain ⟨_,_,_,q,hq,cells,hc⟩:=hk
  rw [hf.blk hc (hE q hq),hc])) (fun _ hk=>hk.1)
end
theorem dT_sS:∀ t,t∈dT→t∈sS:=by decide
theorem Typed.ge [Inhabited Sanct] {w:World} {k:Nat} (h:Typed dT w k):sB≤k:=by
 obtain ⟨_,t,_,_,h1,h2⟩:=h
 exact h2 (dT_sS t h1)
theorem Disk.typed [Inhabited Sanct] {w:World} {d N n:Nat} {O:Nat→Prop} {f:Nat→List Int} (h:Disk w d O N n f) (hs:∀ k,O k→sB≤k) :
  ∃ O',Disk w d O' N n f∧(∀ k,O' k→O k) ∧ ∀ k,O' k→Typed dT w k:=by
 obtain ⟨a,wv,img,ps,hk,hf,hn⟩:=h
 have key:∀ k,(k=d∨k=a∨wv.ownBlock=some k ∨ ∃ p∈ps,p.2.1=k)→O k:=fun k hk2=>by
  rcases hk2 with rfl | rfl | h | ⟨p,hp,rfl⟩
  ·exact hk.hO.1
  ·exact hk.hO.2.1
  ·exact hk.hO.2.2.1 _ h
  ·exact (hk.hp p hp).2.2.2.2.1
 refine ⟨fun k=>k=d∨k=a∨wv.ownBlock=some k ∨ ∃ p∈ps,p.2.1=k,⟨a,wv,img,ps,⟨hk.hd,hk.ha,hk.hl,hk.hb,hk.hw,fun p hp=>?_,⟨Or.inl rfl,Or.inr (Or.inl rfl),fun k hk=>Or.inr (Or.inr (Or.inl hk)),fun k hk2=>?_⟩,hk.hN⟩,hf,hn⟩,fun k hk2=>key k hk2,fun k hk2=>?_⟩
 ·obtain ⟨h1,h2,h3,h4,h5,h6,h7⟩:=hk.hp p hp
  exact ⟨h1,h2,h3,h4,Or.inr (Or.inr (Or.inr ⟨p,hp,rfl⟩)),h6,h7⟩
 ·rcases hk2 with rfl | rfl | h | ⟨p,hp,rfl⟩
  ·exact hk.hO.2.2.2 _ hk.hO.1
  ·exact hk.hO.2.2.2 _ hk.hO.2.1
  ·exact hk.hO.2.2.2 _ (hk.hO.2.2.1 _ h)
  ·exact hk.hO.2.2.2 _ (hk.hp p hp).2.2.2.2.1
 ·have hge:=hs k (key k hk2)
  rcases hk2 with rfl | rfl | h | ⟨p,hp,rfl⟩
  ·exact ⟨_,_,_,hk.hd,by simp [dT],fun _=>hge⟩
  ·exact ⟨_,_,_,hk.ha,by simp [dT],fun _=>hge⟩
  ·obtain ⟨inner,⟨h1,⟨rfl,_⟩ | ⟨g,cap,cur,rfl,hg,hh,_⟩⟩,hr⟩:=hk.hw
   ·simp [Value.ownBlock] at h
   ·simp [Value.ownBlock] at h
    subst h
    exact ⟨_,_,_,hh,by simp [dT],fun _=>hge⟩
  ·obtain ⟨z,hz⟩:=(hk.hp p hp).2.2.2.2.2.2
   exact ⟨_,_,_,hz,by simp [dT],fun _=>hge⟩
def DT [Inhabited Sanct] (w:World) (d N n:Nat) (f:Nat→List Int):Prop:=∃ O,Disk w d O N n f ∧ ∀ k,O k→Typed dT w k
theorem Disk.dt [Inhabited Sanct] {w:World} {d N n:Nat} {O:Nat→Prop} {f:Nat→List Int} (h:Disk w d O N n f) (hs:∀ k,O k→sB≤k):DT w d N n f:=by
 obtain ⟨O',h1,_,h3⟩:=h.typed hs
 exact ⟨O',h1,h3⟩
theorem DT.below [Inhabited Sanct] {w W:World} {d N n:Nat} {f:Nat→List Int} (h:DT w d N n f) (hb:Below w.heap.size w W):DT W d N n f:=by
 obtain ⟨O,h1,h2⟩:=h
 exact (h1.below hb).dt (fun k hk=>(h2 k hk).ge)
theorem Disk.congr [Inhabited Sanct] {w:World} {d N n:Nat} {O:Nat→Prop} {f g:Nat→List Int} (h:Disk w d O N n f) (he:∀ s,s<4*N→g s=f s):Disk w d O N n g:=by
 obtain ⟨a,wv,img,ps,hk,hf,hn⟩:=h
 exact ⟨a,wv,img,ps,hk,fun s hs=>(he s hs).trans (hf s hs),hn⟩
theorem DT.congr [Inhabited Sanct] {w:World} {d N n:Nat} {f g:Nat→List Int} (h:DT w d N n f) (he:∀ s,s<4*N→g s=f s):DT w d N n g:=by
 obtain ⟨O,h1,h2⟩:=h
 exact ⟨O,h1.congr he,h2⟩
theorem DT.hN [Inhabited Sanct] {w:World} {d N n:Nat} {f:Nat→List Int} (h:DT w d N n f):8≤N∧N≤512:=by
 obtain ⟨O,⟨a,wv,img,ps,hk,_⟩,_⟩:=h
 exact hk.hN
theorem DT.sb [Inhabited Sanct] {w:World} {d N n:Nat} {f:Nat→List Int} (h:DT w d N n f):sB≤w.heap.size:=by
 obtain ⟨O,⟨a,wv,img,ps,hk,_⟩,h2⟩:=h
 exact Nat.le_trans (h2 d hk.hO.1).ge (Nat.le_of_lt (blk_lt hk.hd))
theorem DT.frT [Inhabited Sanct] {w W:World} {d N n:Nat} {f:Nat→List Int} {T:List Nat} (h:DT w d N n f) (hf:FrT T w W) (hT:∀ t,t∈T→t ∉ dT):DT W d N n f:=by
 obtain ⟨O,⟨a,wv,img,ps,hk,hff,hn⟩,ht⟩:=h
 have key:∀ k,O k→W.heap[k]?=w.heap[k]?:=fun k hk2=>by
  obtain ⟨cs,t,fr,he,h2,_⟩:=ht k hk2
  rw [hf.blk he (fun h3=>hT t h3 h2),he]
 have hfr:Fr w W (fun k=>¬ O k):=⟨hf.b,fun i hi hn=>key i (Classical.not_not.1 hn)⟩
 exact ⟨O,(show Disk w d O N n f from ⟨a,wv,img,ps,hk,hff,hn⟩).fr hfr (fun k hk2 hn=>hn hk2),fun k hk2=>by
  obtain ⟨cs,t,fr,he,h2⟩:=ht k hk2
  exact ⟨cs,t,fr,(key k hk2).trans he,h2⟩⟩
def putsX (f:Nat→List Int) (s:Nat) (P:List Int) (xs:List Nat):Nat→List Int:=fun t=>if s≤t∧t<s+xs.length then cut64 P (xs.getD (t-s) 0) else f t
theorem putsX_nil (f:Nat→List Int) (s:Nat) (P:List Int):putsX f s P []=f:=by
 funext t;unfold putsX;rw [if_neg (by simp)]
theorem putsX_snoc (f:Nat→List Int) (s:Nat) (P:List Int) (xs:List Nat) (x:Nat):put (putsX f s P xs) (s+xs.length) (cut64 P x)=putsX f s P (xs++[x]):=by
 funext t
 unfold put putsX
 by_cases e:t=s+xs.length
 ·subst e
  rw [if_pos rfl,if_pos (by simp),show s+xs.length-s=xs.length by omega]
  simp
 ·rw [if_neg e]
  by_cases h:s≤t∧t<s+xs.length
  ·rw [if_pos h,if_pos (by simp;omega)]
   simp only [List.getD_eq_getElem?_getD]
   rw [List.getElem?_append_left (by omega)]
  ·rw [if_neg h,if_neg (by simp;omega)]
def padB (bs:List Int):List Int:=bs++List.replicate ((256-bs.length % 256) % 256) 0
def raws (f:Nat→List Int) (a:Nat) (bs:List Int):Nat→List Int:=fun t=>if 4*a≤t∧t<4*a+4*((bs.length+255) / 256) then cut64 (padB bs) (t-4*a) else f t
theorem raws_of (f:Nat→List Int) (a:Nat) (bs:List Int):putsX f (4*a) (padB bs) (List.range (4*((bs.length+255) / 256)))=raws f a bs:=by
 funext t
 unfold putsX raws
 rw [List.length_range]
 by_cases h:4*a≤t∧t<4*a+4*((bs.length+255) / 256)
 ·rw [if_pos h,if_pos h]
  congr 1
  rw [List.getD_eq_getElem?_getD,List.getElem?_range (by omega)];rfl
 ·rw [if_neg h,if_neg h]
theorem padB_len (bs:List Int):(padB bs).length=256*((bs.length+255) / 256):=by unfold padB;rw [List.length_append,List.length_replicate];omega
end
section
open Go.Shelf
attribute [local go_sem] Oper.semAt_some
def lenOf:Value→Nat | .slice _ n _=>n | _=>0
theorem writeraw_in [Inhabited Sanct] {w:World} {d N nw:Nat} {f:Nat→List Int} (h:DT w d N nw f) (addr n:Nat) (A:Option Addr) (c:Nat) (bs:List Int) (hn:bs.length=n) (h0:0<n) (hc:n≤c) (hr:Kd.C (Kd.int .u8) w A bs.length bs) (hb:Bs bs) (hN:addr+(n+255) / 256≤N) (hw:nw+2048<1000000) (h5:n≤131072) :
  CallsIn Fence.wide 9 Tryz.prog 62 #[.pointer (some ⟨d,0,none⟩),.int .i64 (addr:Int),.slice A n c] w fun e w'=>e = .returned (.int .i64 0)∧FrT dT w w'∧DT w' d N (nw+4*((n+255) / 256)) (raws f addr bs):=by
 have hN5:N≤512:=h.hN.2
 have HSB:=Aside0.mk h.sb
 have HD:=Aside0.mk h
 have HN:=Aside0.mk hn
 have HR:=Aside0.mk hr
 have HBS:=Aside0.mk hb
 clear h hn hr hb
 refine callsIn_of_wp_marks Tryz.func62 rfl trivial ?_ rfl
 simp only [Tryz.ntmps62,List.size_toArray,List.length_cons,List.length_nil,Nat.reduceAdd,Nat.reduceSub,Array.replicate_succ,Array.replicate_zero,List.push_toArray,List.append_toArray,List.nil_append,List.cons_append]
 obtain ⟨W0,hW0⟩:∃ W,(w.alloc (Obj.cells #[.pointer (some ⟨d,0,none⟩)] 22)).alloc (Obj.cells #[.int .i64 0] 23)=W:=⟨_,rfl⟩
 have HS0:Aside0 (W0.heap.size=w.heap.size+1+1):=⟨by rw [← hW0];simp⟩
 have HB0:Aside0 (Below w.heap.size w W0):=⟨by rw [← hW0];exact below_alloc (below_alloc (Below.refl _ _) _) _⟩
 have HG1:Aside0 (W0.heap[w.heap.size]?=some (Obj.cells #[.pointer (some ⟨d,0,none⟩)] 22)):=⟨by rw [← hW0];exact heap_alloc2_old w _ _⟩
 have HG2:Aside0 (W0.heap[w.heap.size+1]?=some (Obj.cells #[.int .i64 0] 23)):=⟨by rw [← hW0];exact heap_alloc2_new w _ _⟩
 refine wpIn_wide.2 ?_
 go_wp2_with (go_at_call 39;(with_reducible refine (clone_calls HN.out (Kd.C_below HR.out HB0.out) hc (by omega)).mono ?_);rintro e w1 ⟨v1,rfl,ho,hb⟩;have HO1:Aside0 (Kd.R (Kd.int .u8) 5 w1 W0.heap.size (fun _=>True) v1 (bs++List.replicate 0 0)):=⟨by simpa using ho⟩;have HB1:=Aside0.mk hb;clear ho hb)
 clear hW0
 obtain ⟨M,hM⟩:∃ M,(n+255) / 256=M:=⟨_,rfl⟩
 have HM:=Aside0.mk hM
 have hM1:0<M∧M≤512∧addr+M≤N:=by omega
 have hn256:n≤256*M∧256*M≤n+255:=by omega
 clear hM hN
 go_loopw [2] (fun v2 wr=>∃ (j:Nat),Aside0 (n+j≤256*M)∧Aside0 (Kd.R (Kd.int .u8) 5 wr W0.heap.size (fun _=>True) v2 (bs++List.replicate j 0))∧Aside0 (Below W0.heap.size W0 wr)) (fun v2 _=>256*M-lenOf v2)
 case atStart=>exact ⟨0,⟨by omega⟩,HO1,HB1⟩
 case round=>
  clear HO1 HB1
  obtain ⟨j,HJ,HO,HB⟩:=hrel
  obtain ⟨A2,c2,rfl⟩:=Kd.R_slice HO.out
  have hlen:(bs++List.replicate j 0).length=n+j:=by rw [List.length_append,List.length_replicate,HN.out]
  rw [hlen] at HO ⊢
  have HLEN:=Aside0.mk hlen
  clear hlen
  by_cases hlt:n+j<256*M
  ·have d1:(((n:Int)+(j:Int)) % 256 != 0)=true:=by rw [bne_iff_ne];have:=HJ.out;omega
   go_wp2_with ((with_reducible refine gate_builtin (b:=.append) (xs:=#[.tmp 16,.tmp 17]) rfl ?_);at_builtin;refine hold ?_)
   unfold Hold
   refine Kd.R_append (Kd.int .u8) (w0:=W0) W0.heap.size rfl (.tmp 16) (.tmp 17) 46 5 (.int .u8 0) 1 rfl Tryz.underlying46 info_u8 rfl (by decide) (by decide) _ (bs++List.replicate j 0) 0 [.int .u8 0] (fun _=>True) (fun _=>False) rfl rfl rfl (fun _ hk=>hk.elim) (fun _ _=>trivial) HO.out HB.out HB.out.size (by rw [HLEN.out];omega) ?_
   intro v9 w9 ho hb hg hat
   rw [List.append_assoc,← List.replicate_succ'] at ho
   obtain ⟨A9,c9,rfl⟩:=Kd.R_slice ho
   have hl9:(bs++List.replicate (j+1) 0).length=bs.length+(j+1):=by simp
   rw [hl9] at ho ⊢
   have HO9:=Aside0.mk ho
   have HB9:=Aside0.mk hb
   clear ho hb hg hat hl9
   go_wp2
   go_roundw
   case rel=>exact ⟨j+1,⟨by omega⟩,HO9,HB9⟩
   case measure=>simp [lenOf,HN.out];omega
  ·have hj:n+j=256*M:=by have:=HJ.out;omega
   have d1:(((n:Int)+(j:Int)) % 256 != 0)=false:=by rw [bne_eq_false_iff_eq];omega
   obtain ⟨q,c1,e1,hc1,hq,hrow⟩:=own_row HO.out (by rw [HLEN.out];omega)
   rw [HLEN.out] at e1 hc1
   injection e1 with e1 _ e3
   subst e1 e3
   have HROW:=Aside0.mk hrow
   clear hrow
   rw [hj]
   rw [hj] at HO hc1
   obtain ⟨P,hP⟩:∃ P,bs++List.replicate j 0=P:=⟨_,rfl⟩
   have hPp:P=padB bs:=by rw [← hP,padB,HN.out];congr 2;omega
   rw [hP] at HROW HLEN
   have HP:=Aside0.mk hPp
   have HJ2:=Aside0.mk hj
   have HPB:Aside0 (Bs P):=⟨by rw [← hP];exact HBS.out.append (fun x hx=>by rw [(List.mem_replicate.1 hx).2];omega)⟩
   clear hPp hP hj hlt HO
   have e1:IntKind.i64.wrap ((addr:Int)*4)=4*(addr:Int):=by simp [IntKind.wrap,IntKind.bits,IntKind.signed];omega
   have e2:wrap64 ((addr:Int)*4)=4*(addr:Int):=by rw [wrap64_id]<;>omega
   go_wp2
   clear e1 e2 d1
   obtain ⟨g,hg⟩:∃ g,wr.heap.size=g:=⟨_,rfl⟩
   rw [hg]
   obtain ⟨WL,hWL⟩:∃ W,(((wr.alloc (Obj.cells #[Value.int .i64 (4*(addr:Int))] 3)).alloc (Obj.cells #[Value.slice (some ⟨q,0,none⟩) (256*M) c2] 46)).alloc (Obj.cells #[Value.int .i64 64] 3))=W:=⟨_,rfl⟩
   rw [hWL]
   have e64:256*M=64*(4*M):=by omega
   have hsz:WL.heap.size=g+1+1+1:=by rw [← hWL,← hg];simp
   have hB2:Below wr.heap.size wr WL:=by rw [← hWL];exact below_alloc (below_alloc (below_alloc (Below.refl _ _) _) _) _
   have G1:WL.heap[w.heap.size]?=some (Obj.cells #[.pointer (some ⟨d,0,none⟩)] 22):=blkb hB2 (blkb HB.out HG1.out)
   have G2:WL.heap[w.heap.size+1]?=some (Obj.cells #[.int .i64 0] 23):=blkb hB2 (blkb HB.out HG2.out)
   have G3:WL.heap[g]?=some (Obj.cells #[.int .i64 (4*(addr:Int))] 3):=by rw [← hWL];exact blk_alloc (blk_alloc (newb hg) _) _
   have G4:WL.heap[g+1]?=some (Obj.cells #[.slice (some ⟨q,0,none⟩) (64*(4*M)) c2] 46):=by rw [← hWL,← e64];exact blk_alloc (newb (by simp [hg])) _
   have E64:=Aside0.mk e64
   clear e64
   have G5:WL.heap[g+1+1]?=some (Obj.cells #[.int .i64 64] 3):=by rw [← hWL];exact newb (by simp [hg])
   have hFL:FrT dT w WL:=FrT.of_below (below_step (below_step HB0.out HB.out) hB2) _
   have hRL:Row WL q 5 (nums .u8 P):=by
    obtain ⟨z,hz⟩:=HROW.out
    exact ⟨z,blkb hB2 hz⟩
   have hgs:W0.heap.size≤g:=by rw [← hg];exact HB.out.size
   have hs0:W0.heap.size=w.heap.size+1+1:=HS0.out
   have hqg:q<g:=by
    obtain ⟨z,hz⟩:=HROW.out
    rw [← hg];exact blk_lt hz
   have hDL:∃ O,Disk WL d O N (nw+0) (putsX f (4*addr) P [])∧(∀ k,O k→Typed dT WL k)∧¬ O q:=by
    obtain ⟨O,h1,h2⟩:=HD.out
    have hb:Below w.heap.size w WL:=below_step (below_step HB0.out HB.out) hB2
    refine ⟨O,by rw [putsX_nil];exact h1.below hb,fun k hk=>?_,fun hk=>?_⟩
    ·obtain ⟨cs,t,fr,he,ht⟩:=h2 k hk
     exact ⟨cs,t,fr,blk_below he hb,ht⟩
    ·have:=h1.lt hk;omega
   refine (wpIn_wide (n:=9)).1 ?_
   refine wpIn_rangeFunc_ownG (F:=Fence.wide) (n:=9) rfl (by decide) (gf:=142) (lb:=#[.pointer (some ⟨g+1,0,none⟩),.pointer (some ⟨g+1+1,0,none⟩)]) rfl trivial (enters_of Tryz.func142 (by kernel_rfl) rfl)
    (chunk_stops Fence.wide 8 trivial rfl (by decide) (g+1) (g+1+1) q (4*M) c2 (by omega) (by omega) WL G4 G5)
    (fun h k=>Boxes.trans h k) ?kb (Below.refl _ _) (fun _=>rfl)
    (fun pre W=>(∃ O,Disk W d O N (nw+pre.length) (putsX f (4*addr) P (pre.map Fin.val))∧(∀ k,O k→Typed dT W k)∧¬ O q)∧Row W q 5 (nums .u8 P)∧W.heap[w.heap.size]?=some (Obj.cells #[.pointer (some ⟨d,0,none⟩)] 22)∧W.heap[w.heap.size+1]?=some (Obj.cells #[.int .i64 0] 23)∧W.heap[g]?=some (Obj.cells #[.int .i64 (4*(addr:Int)+(pre.length:Int))] 3)∧FrT dT w W∧W.heap[g+1]?=some (Obj.cells #[.slice (some ⟨q,0,none⟩) (64*(4*M)) c2] 46)∧W.heap[g+1+1]?=some (Obj.cells #[.int .i64 64] 3))
    (fun _ _ _=>False) ?own (fun _ _ _ _ _ hs _ _=>hs) ⟨hDL,hRL,G1,G2,by simpa using G3,hFL,G4,G5⟩
    (fun x=>{ tmps:=#[.pointer (some ⟨d,0,none⟩),.int .i64 (addr:Int),.slice (some ⟨q,0,none⟩) (256*M) c2,.pointer (some ⟨w.heap.size,0,none⟩),undef,undef,.pointer (some ⟨w.heap.size+1,0,none⟩),.pointer (some ⟨g,0,none⟩),.slice (some ⟨q,64*x.val,none⟩) 64 64,undef,.slice A n c,v1,.slice (some ⟨q,0,none⟩) (256*M) c2,.int .i64 (256*(M:Int)),.int .i64 0,.bool false,u16,u17,u18,.int .i64 (addr:Int),.int .i64 (4*(addr:Int)),.slice (some ⟨q,0,none⟩) (256*M) c2,.func (.func 142) #[] #[.pointer (some ⟨g+1,0,none⟩),.pointer (some ⟨g+1+1,0,none⟩)],.slice (some ⟨q,64*x.val,none⟩) 64 64,undef,undef,undef,undef,undef,undef,undef,undef,undef],defers:=[] }) ?assign ?body ?done ?stop
   case kb=>
    intro W l o o' hl hW ho hw k hk ob hob
    exact (World.putObj_heap_other (by rcases hk with rfl | rfl<;>omega)).trans hob
   case own=>
    rintro pre X Y row ⟨⟨O,h1,h2,h3⟩,h4,h5,h6,h7,h8,h9,h10⟩ hg' hr
    have hr1:∀ r,row=some r → ∃ o:Obj,X.heap[r]?=some o∧o.isCells=false:=fun r e=>(hr r e).2
    refine ⟨⟨O,h1.fr ((Fr.refl X (fun k=>row=some k)).grown hg' (fun k e=>Or.inl e)) (fun k hk e=>?_),fun k hk=>?_,h3⟩,?_,slot_cells hg' hr1 h5,slot_cells hg' hr1 h6,slot_cells hg' hr1 h7,h8.slot hg' (fun r e=>by have:=(hr r e).1;omega),slot_cells hg' hr1 h9,slot_cells hg' hr1 h10⟩
    ·obtain ⟨cs,t,fr,he,ht⟩:=h2 k hk
     obtain ⟨o,ho,hc⟩:=hr1 k e
     rw [he] at ho
     injection ho with ho
     rw [← ho] at hc
     cases hc
    ·obtain ⟨cs,t,fr,he,ht⟩:=h2 k hk
     exact ⟨cs,t,fr,slot_cells hg' hr1 he,ht⟩
    ·obtain ⟨z,hz⟩:=h4
     exact ⟨z,slot_cells hg' hr1 hz⟩
   case assign=>
    intro l x W K hK
    gi_wp2
    exact hK
   case body=>
    rintro l pre x W ⟨⟨O,h1,h2,h3⟩,h4,h5,h6,h7,h8,h9,h10⟩ hlen
    have b1:=blk_cell h5 0
    have b3:=blk_cell h7 0
    have f3:=blk_frozen h7 0
    simp only [List.getElem?_toArray,List.getElem?_cons_zero,List.getElem?_cons_succ] at b1 b3
    have hOd:O d:=by obtain ⟨_,_,_,_,hk,_⟩:=h1;exact hk.hO.1
    obtain ⟨ii,hii⟩:∃ ii:Int,4*(addr:Int)+(pre.length:Int)=ii:=⟨_,rfl⟩
    rw [hii] at b3
    have hiin:ii=((4*addr+pre.length:Nat):Int):=by omega
    have hPl:P.length=256*M:=by rw [HLEN.out,HJ2.out]
    have hcl:(cut64 P x.val).length=64:=cut64_len hPl (by omega)
    have hw:=write_calls h1 (4*addr+pre.length) (by omega) hcl (cut64_bs HPB.out _) (h4.C (64*x.val) (cut64 P x.val) (fun i y hy=>cut64_get hy) (by rw [hcl];decide)) (Nat.le_refl 64) (A:=some ⟨q,64*x.val,none⟩) (by rintro ad e;injection e with e;rw [← e];exact fun e2=>h3 (show O q by rw [show q=d from e2];exact hOd)) (by omega)
    rw [← hiin] at hw
    have HW:=Aside0.mk hw
    have HH:=Aside0.mk (And.intro h2 (And.intro h3 (And.intro h4 (And.intro h5 (And.intro h6 (And.intro h7 (And.intro h8 (And.intro h9 h10))))))))
    have e5:wrap64 (ii+1)=ii+1:=by rw [wrap64_id]<;>omega
    have HI:=Aside0.mk hii
    clear hw h1 h2 h3 h4 h5 h6 h7 h8 h9 h10 hii hiin hPl hcl
    gi_wp2_with (refine ⟨trivial,?_⟩;gi_at_call 102;(with_reducible refine (CallsIn.inRound l (callsIn_wide.2 HW.out)).mono ?_);rintro e W2 ⟨rfl,hfr,O2,h1,h2⟩;have hft:=FrT.of_fr hfr HH.out.1;have hg2:=hft.blk HH.out.2.2.2.2.2.1 (by decide);have b4:=blk_cell hg2 0;have f4:=blk_frozen hg2 0;simp only [List.getElem?_toArray,List.getElem?_cons_zero,List.getElem?_cons_succ] at b4;rw [HI.out] at b4;have H2:=Aside0.mk (And.intro hfr (And.intro h1 (And.intro h2 (And.intro hft hg2))));clear hfr h1 h2 hft hg2)
    obtain ⟨k2,k3,k4,k5,k6,k7,k8,k9,k10⟩:=HH.out
    obtain ⟨m1,m2,m3,m4,m5⟩:=H2.out
    have hqW:q<W.heap.size:=by obtain ⟨z,hz⟩:=k4;exact blk_lt hz
    have hdg:∀ k,O2 k→k≠g:=fun k hk e=>by
     rcases m3 k hk with h | h
     ·obtain ⟨cs,t,fr,he,ht,_⟩:=k2 k h
      rw [e,k7] at he
      injection he with he
      injection he with _ he
      rw [← he] at ht
      revert ht;decide
     ·have:=blk_lt k7;omega
    have hset:=blk_set m5 0 (.int .i64 (ii+1))
    rw [show (#[Value.int .i64 (4*(addr:Int)+(pre.length:Int))]:Array Value).setIfInBounds 0 (.int .i64 (ii+1))=#[.int .i64 (4*(addr:Int)+((pre++[x]).length:Int))] by rw [← HI.out];simp;omega] at hset
    obtain ⟨O3,n1,n2,n3⟩:=(m2.fr ((Fr.refl W2 (fun k=>k=g)).setCell (p:=⟨g,0,none⟩) (Or.inl rfl) (.int .i64 (ii+1))) (fun k hk e=>hdg k hk e)).typed (fun k hk=>by
     rcases m3 k hk with h | h
     ·exact (k2 k h).ge
     ·have:=k8.size;have:=HSB.out;omega)
    refine ⟨(m4.keeps _).trans ((KeepsOthers.setCell _ _ _).from _),?_,⟨O3,?_,n3,fun hk=>?_⟩,?_,?_,?_,hset,?_,?_,?_⟩
    ·rintro k hk o ho
     rcases hk with rfl | rfl
     ·rw [k9] at ho;injection ho with ho;rw [← ho]
      exact blk_far (m4.blk k9 (by decide)) (p:=⟨g,0,none⟩) (by simp) _
     ·rw [k10] at ho;injection ho with ho;rw [← ho]
      exact blk_far (m4.blk k10 (by decide)) (p:=⟨g,0,none⟩) (by simp;omega) _
    ·rw [List.map_append,List.length_append]
     have:=putsX_snoc f (4*addr) P (pre.map Fin.val) x.val
     rw [List.length_map] at this
     rw [this] at n1
     exact n1
    ·rcases m3 q (n2 q hk) with h | h
     ·exact k3 h
     ·omega
    ·obtain ⟨z,hz⟩:=k4.fr m1 k3
     exact ⟨z,blk_far hz (p:=⟨g,0,none⟩) (by simp;omega) _⟩
    ·exact blk_far (m4.blk k5 (by decide)) (p:=⟨g,0,none⟩) (by simp;omega) _
    ·exact blk_far (m4.blk k6 (by decide)) (p:=⟨g,0,none⟩) (by simp;omega) _
    ·exact (k8.trans m4).setNew (by omega) _ _
    ·exact blk_far (m4.blk k9 (by decide)) (p:=⟨g,0,none⟩) (by simp) _
    ·exact blk_far (m4.blk k10 (by decide)) (p:=⟨g,0,none⟩) (by simp;omega) _
   case done=>
    rintro D ys W hD hys ⟨⟨O,h1,h2,h3⟩,h4,h5,h6,h7,h8,h9,h10⟩ hK
    have f6:=blk_frozen h6 0
    have b6:=blk_cell h6 0
    simp only [List.getElem?_toArray,List.getElem?_cons_zero,List.getElem?_cons_succ] at b6
    go_wp2
    have hDne:D≠w.heap.size+1:=by omega
    have hK':=(KeepsOthers.setCell W ⟨w.heap.size+1,0,none⟩ (.int .i64 0)).same D _ hK rfl
    refine ⟨by simp,.inl ⟨_,_,rfl,run_takeDeferred hK',?_⟩⟩
    have hDlt:D<W.heap.size:=blk_lt hK
    have hres:=blk_set h6 0 (.int .i64 0)
    have c5:((W.setCell ⟨w.heap.size+1,0,none⟩ (.int .i64 0)).putObj D (.deferred none)).cell? ⟨w.heap.size+1,0,none⟩=some (.int .i64 0):=
     cell_kept (by rw [blk_cell hres];rfl) (grownBy_putObj' _ D (.deferred none)) (fun r e=>by cases e;exact ⟨_,hK',rfl⟩)
    have hfr:Fr W ((W.setCell ⟨w.heap.size+1,0,none⟩ (.int .i64 0)).putObj D (.deferred none)) (fun k=>k=w.heap.size+1∨k=D):=
     ((Fr.refl W _).setCell (p:=⟨w.heap.size+1,0,none⟩) (Or.inl (Or.inl rfl)) _).grown (grownBy_putObj' _ D (.deferred none)) (fun k e=>by cases e;exact Or.inl (Or.inr rfl))
    have hyl:ys.length=4*M:=by rw [← List.length_map (f:=Fin.val),hys,List.length_range]
    refine ⟨.int .i64 0,by simp [results,Tryz.f62,go_sem,c5],rfl,?_,?_⟩
    ·exact ((h8.setNew (g:=w.heap.size+1) (by omega) 0 (.int .i64 0)).slot (grownBy_putObj' _ D (.deferred none)) (fun k e=>by cases e;omega))
    ·have h1':=h1.fr hfr (fun k hk e=>by
      obtain ⟨cs,t,fr,he,ht,_⟩:=h2 k hk
      rcases e with rfl | rfl
      ·rw [h6] at he;injection he with he;injection he with _ he;rw [← he] at ht;revert ht;decide
      ·rw [hK] at he;cases he)
     rw [hyl,hys,HP.out] at h1'
     have hMM:4*M=4*((bs.length+255) / 256):=by rw [← HM.out,HN.out]
     rw [HM.out]
     have:=h1'.dt (fun k hk=>(h2 k hk).ge)
     rw [hMM,raws_of,← hMM] at this
     exact this
   case stop=>
    rintro D c pre W _ _ h _
    exact h.elim
theorem writeraw_calls [Inhabited Sanct] {w:World} {d N nw:Nat} {f:Nat→List Int} (h:DT w d N nw f) (addr n:Nat) (A:Option Addr) (c:Nat) (bs:List Int) (hn:bs.length=n) (h0:0<n) (hc:n≤c) (hr:Kd.C (Kd.int .u8) w A bs.length bs) (hb:Bs bs) (hN:addr+(n+255) / 256≤N) (hw:nw+2048<1000000) (h5:n≤131072) :
  Calls Tryz.prog 62 #[.pointer (some ⟨d,0,none⟩),.int .i64 (addr:Int),.slice A n c] w fun e w'=>e = .returned (.int .i64 0)∧FrT dT w w'∧DT w' d N (nw+4*((n+255) / 256)) (raws f addr bs):=
 callsIn_wide.1 (writeraw_in h addr n A c bs hn h0 hc hr hb hN hw h5)
end
end Go.Proofs.YtnhkikebfinejaaGreatDoor.Z
