/- Texts of this claim, laid together. No conditions. -/
import Derived.Test.YtnhkikebfinejaaGreatDoorMRickMany3
import Derived.Test.YtnhkikebfinejaaGreatDoorMRickMany25
import Derived.StillTailTactics
import Derived.Outline
set_option linter.unusedVariables false
set_option linter.unusedSimpArgs false
set_option maxRecDepth 100000
set_option maxHeartbeats 16000000
namespace Go.Proofs.YtnhkikebfinejaaGreatDoor.W04
open Go Go.RowKit Go.Proofs.YtnhkikebfinejaaGreatDoorW.PrintWords Go.Proofs.YtnhkikebfinejaaGreatDoorW.PrintLast Go.Proofs.YtnhkikebfinejaaGreatDoorW.PrintMore Go.Proofs.YtnhkikebfinejaaGreatDoor.S Go.Proofs.YtnhkikebfinejaaGreatDoor.B Go.Proofs.YtnhkikebfinejaaGreatDoor.X
attribute [local go_sem] max2_int min2_int max_two min_two max_three min_three max_four min_four
def WAt (w0 W:World) (g:Nat) (v:Value) (l:List Int):Prop:=
 W.heap[g]?=some (.cells #[v,.int .i64 (l.length:Int)] 289 (0,0))∧w0.heap.size≤g∧Kd.R (Kd.int .u8) 5 W w0.heap.size (fun _=>True) v (packB l)∧Bits l
def Mine (g:Nat) (v:Value) (k:Nat):Prop:=k=g∨some k=v.ownBlock
def Put4 (w0 w:World) (g:Nat) (v:Value) (l:List Int) (e:Ending) (w':World):Prop:=
 e = .returned (.tuple #[]) ∧ ∃ v',WAt w0 w' g v' l∧Below w0.heap.size w0 w'∧Kept w w' (Mine g v)∧(v'.ownBlock=v.ownBlock ∨ ∃ b,v'.ownBlock=some b∧w.heap.size≤b)
theorem held_cl (m:Int):bits_held.f m=some (cl m:Int):=by unfold bits_held.f;rw [cl_eq]
theorem WAt.cell0 {w0 W g v l} (h:WAt w0 W g v l):W.cell? ⟨g,0,none⟩=some v:=(blk_cell h.1 0).trans rfl
theorem WAt.cell1 {w0 W g v l} (h:WAt w0 W g v l):W.cell? ⟨g,1,none⟩=some (.int .i64 (l.length:Int)):=(blk_cell h.1 1).trans rfl
theorem WAt.fr {w0 W g v l} (h:WAt w0 W g v l) (i:Nat):W.frozen? ⟨g,i,none⟩=false:=blk_frozen h.1 i
theorem WAt.below {w0 W W1 g v l} (h:WAt w0 W g v l) (hb:Below W.heap.size W W1):WAt w0 W1 g v l:=⟨blk_below h.1 hb,h.2.1,Kd.R_below h.2.2.1 hb,h.2.2.2⟩
theorem Kept.below_ {w W W1:World} {S} (h:Kept w W S) (hb:Below W.heap.size W W1):Kept w W1 S:=
 ⟨Nat.le_trans h.1 hb.size,fun i hi hs=>(hb.block i (Nat.lt_of_lt_of_le hi h.1)).trans (h.2 i hi hs)⟩
def Rel (w0 w:World) (g:Nat) (v:Value) (l:List Int) (x:Int) (m:Int) (j:Nat) (wr:World):Prop:=
 ∃ v' P,WAt w0 wr g v' P∧P++bitsN j x=l++bitsN (cl m) x∧Below w0.heap.size w0 wr∧Kept w wr (Mine g v)∧(v'.ownBlock=v.ownBlock ∨ ∃ b,v'.ownBlock=some b∧w.heap.size≤b)
theorem own_g {W:World} {g:Nat} {v:Value} {l xs:List Int} (hg:W.heap[g]?=some (.cells #[v,.int .i64 (l.length:Int)] 289 (0,0))) {v':Value} {base:Nat} {ok:Nat→Prop} (h:Kd.R (Kd.int .u8) 5 W base ok v' xs):some g≠v'.ownBlock:=
 Kd.R_ne h hg (by decide)
def Mid (w0 w:World) (g:Nat) (v:Value) (P:List Int) (b2 n2 cap2:Nat) (W:World):Prop:=
 W.heap[g]?=some (.cells #[.slice (some ⟨b2,0,none⟩) n2 cap2,.int .i64 (P.length:Int)] 289 (0,0))∧w0.heap.size≤g∧n2=P.length / 8+1 ∧
 Kd.R (Kd.int .u8) 5 W w0.heap.size (fun _=>True) (.slice (some ⟨b2,0,none⟩) n2 cap2) (rows P (P.length / 8+1))∧Below w0.heap.size w0 W∧Kept w W (Mine g v)∧(some b2=v.ownBlock∨w.heap.size≤b2)
theorem mid_full {w0 w wr w5:World} {g:Nat} {v v1:Value} {P:List Int} {b2 n2 cap2:Nat} (hG:wr.heap[g]?=some (.cells #[v1,.int .i64 (P.length:Int)] 289 (0,0))) (hge:w0.heap.size≤g)
  (hR:Kd.R (Kd.int .u8) 5 wr w0.heap.size (fun _=>True) v1 (packB P)) (hk:Kept w wr (Mine g v)) (hv:v1.ownBlock=v.ownBlock ∨ ∃ b,v1.ownBlock=some b∧w.heap.size≤b)
  (ho:Kd.R (Kd.int .u8) 5 w5 w0.heap.size (fun _=>True) (.slice (some ⟨b2,0,none⟩) n2 cap2) (rows P (P.length / 8+1))) (hb:Below w0.heap.size w0 w5) (hg:wr.grownBy w5 v1.ownBlock)
  (hat:(Value.slice (some ⟨b2,0,none⟩) n2 cap2).ownBlock=v1.ownBlock ∨ ∃ b,(Value.slice (some ⟨b2,0,none⟩) n2 cap2).ownBlock=some b∧wr.heap.size≤b) (hn:n2=(rows P (P.length / 8+1)).length) :
  Mid w0 w g v P b2 n2 cap2 (w5.setCell ⟨g,0,none⟩ (.slice (some ⟨b2,0,none⟩) n2 cap2)):=by
 have hG5:=blk_grown hG hg (own_g hG hR)
 refine ⟨by simpa using blk_set hG5 0 (.slice (some ⟨b2,0,none⟩) n2 cap2),hge,by rw [hn,rows_len],Kd.R_set ho hG5 (by decide) 0 _,hb.setCell (by simpa using hge) _,?_,?_⟩
 ·refine Kept.setCell (Kept.of_grown hg hk (fun k hk'=>?_)) (.inl (.inl rfl)) _
  rcases hv with hv | ⟨b,hb1,hb2⟩
  ·exact .inl (.inr (by rw [← hk',hv]))
  ·rw [hk'] at hb1;injection hb1 with hb1;exact .inr (by omega)
 ·have e:(Value.slice (some ⟨b2,0,none⟩) n2 cap2).ownBlock=some b2:=rfl
  rw [e] at hat
  rcases hat with hat | ⟨b,hb1,hb2⟩
  ·rcases hv with hv | ⟨b,hb1,hb2⟩
   ·exact .inl (hat.trans hv)
   ·rw [hb1] at hat;injection hat with hat;exact .inr (by omega)
  ·injection hb1 with hb1;have:=hk.1;exact .inr (by omega)
theorem mid_part {w0 w wr:World} {g:Nat} {v:Value} {P:List Int} {b2 n2 cap2:Nat} (hG:wr.heap[g]?=some (.cells #[.slice (some ⟨b2,0,none⟩) n2 cap2,.int .i64 (P.length:Int)] 289 (0,0))) (hge:w0.heap.size≤g)
  (hR:Kd.R (Kd.int .u8) 5 wr w0.heap.size (fun _=>True) (.slice (some ⟨b2,0,none⟩) n2 cap2) (rows P (P.length / 8+1))) (hb:Below w0.heap.size w0 wr) (hk:Kept w wr (Mine g v)) (hv:(Value.slice (some ⟨b2,0,none⟩) n2 cap2).ownBlock=v.ownBlock ∨ ∃ b,(Value.slice (some ⟨b2,0,none⟩) n2 cap2).ownBlock=some b∧w.heap.size≤b) (hn:n2=(rows P (P.length / 8+1)).length) :
  Mid w0 w g v P b2 n2 cap2 wr:=by
 refine ⟨hG,hge,by rw [hn,rows_len],hR,hb,hk,?_⟩
 have e:(Value.slice (some ⟨b2,0,none⟩) n2 cap2).ownBlock=some b2:=rfl
 rw [e] at hv
 rcases hv with hv | ⟨b,hb1,hb2⟩
 ·exact .inl hv
 ·injection hb1 with hb1;exact .inr (by omega)
theorem Mid.drew {w0 w g v P b2 n2 cap2 W} (h:Mid w0 w g v P b2 n2 cap2 W):Mid w0 w g v P b2 n2 cap2 W.drew:=
 ⟨h.1,h.2.1,h.2.2.1,Kd.R_drew h.2.2.2.1,below_drew h.2.2.2.2.1,h.2.2.2.2.2.1,h.2.2.2.2.2.2⟩
theorem region_tail {P:Program} {id:Nat} {Q:Exit→Act→World→Prop} {a:Act} {w:World} {l:List Oper} (n:Nat) (hm:P.follows .mixedOrders=true) (hB:Region.lexTailB .any l.toArray n=true)
  (h:∀ w',w'=w.drew→wpStill P l.toArray w' (fun a'=>wpList P l.toArray Q (l.drop n) a' w') (l.take n) a):(Code.region id l.toArray true).wp P Q a w:=wp_region_still_tail n hm hB (h _ rfl)
theorem Mid.byte {w0 w g v P b2 n2 cap2 W} (h:Mid w0 w g v P b2 n2 cap2 W):W.cell? ⟨b2,((P.length / 8:Nat):Int).toNat,none⟩=some (.int .u8 (byteAt P (P.length / 8)))∧W.frozen? ⟨b2,((P.length / 8:Nat):Int).toNat,none⟩=false:=by
 obtain ⟨hG,hge,hn,hR,hb,hk,hv⟩:=h
 have:=Kd.R_celln 0 hR ((P.length / 8:Nat):Int) (by omega) (by omega)
 rw [show rdOf (0:Int) (rows P (P.length / 8+1)) ((P.length / 8:Nat):Int)=byteAt P (P.length / 8) from rd_rows P (by omega)] at this
 exact this
theorem Mid.ne {w0 w g v P b2 n2 cap2 W} (h:Mid w0 w g v P b2 n2 cap2 W):g≠b2:=fun e=>own_g h.1 h.2.2.2.1 (by rw [e];rfl)
theorem mid_done {w0 w W:World} {g:Nat} {v:Value} {P:List Int} {b2 n2 cap2:Nat} (h:Mid w0 w g v P b2 n2 cap2 W) (hP:Bits P) {b nb qi:Int} (hb:b=0∨b=1) (hq:qi=((P.length / 8:Nat):Int)) (hnb:nb=Go.bits .or .u8 (byteAt P (P.length / 8)) (b*2 ^ (7-P.length % 8))) :
  ∃ v',WAt w0 ((W.setCell ⟨b2,qi.toNat,none⟩ (.int .u8 nb)).setCell ⟨g,1,none⟩ (.int .i64 ((P.length:Int)+1))) g v' (P++[b])∧Below w0.heap.size w0 ((W.setCell ⟨b2,qi.toNat,none⟩ (.int .u8 nb)).setCell ⟨g,1,none⟩ (.int .i64 ((P.length:Int)+1))) ∧
   Kept w ((W.setCell ⟨b2,qi.toNat,none⟩ (.int .u8 nb)).setCell ⟨g,1,none⟩ (.int .i64 ((P.length:Int)+1))) (Mine g v)∧(v'.ownBlock=v.ownBlock ∨ ∃ b,v'.ownBlock=some b∧w.heap.size≤b):=by
 have hne:=h.ne
 obtain ⟨hG,hge,hn,hR,hB,hk,hv⟩:=h
 have hb2:w0.heap.size≤b2:=by
  obtain ⟨inner,ho⟩:=Kd.R_own hR
  exact own_base ho b2 rfl
 have hG2:=blk_far hG (p:=⟨b2,qi.toNat,none⟩) hne (.int .u8 nb)
 have hR2:=Kd.R_putn hR qi nb
 rw [hq,Int.toNat_natCast,hnb,packB_push P hP b hb] at hR2
 refine ⟨.slice (some ⟨b2,0,none⟩) n2 cap2,⟨?_,hge,?_,hP.append (Bits.one hb)⟩,?_,?_,?_⟩
 ·have:=blk_set hG2 1 (.int .i64 ((P.length:Int)+1))
  simpa using this
 ·rw [hq,Int.toNat_natCast,hnb]
  rw [hq,Int.toNat_natCast,hnb] at hG2
  exact Kd.R_set hR2 hG2 (by decide) 1 _
 ·exact (hB.setCell (by simpa using hb2) _).setCell (by simpa using hge) _
 ·refine Kept.setCell (Kept.setCell hk ?_ _) (.inl (.inl rfl)) _
  rcases hv with hv | hv
  ·exact .inl (.inr hv)
  ·exact .inr hv
 ·rcases hv with hv | hv
  ·exact .inl hv
  ·exact .inr ⟨b2,rfl,hv⟩
theorem put_calls (g:Nat) (v:Value) (l:List Int) (x m:Int) (w0 w:World) (hI:WAt w0 w g v l) (hB:Below w0.heap.size w0 w) (x0:0≤x) (x1:x<18446744073709551616) (hl:l.length<1000000000) :
  Calls Tryz.prog 191 #[.pointer (some ⟨g,0,none⟩),.int .u64 x,.int .i64 m] w (Put4 w0 w g v (l++bitsN (cl m) x)):=by
 have HI:=Aside0.mk hI
 have HB:=Aside0.mk hB
 have hcl:=cl_le m
 clear hI hB
 go_enter Tryz.func191,Tryz.ntmps191
 go_wp2_with (go_at_call 232;(with_reducible refine (bits_held.calls m (cl m:Int) _ (held_cl m)).mono ?_);rintro e w1 ⟨rfl,hb⟩;have HI1:=Aside0.mk hb;clear hb)
 have HR:Aside0 (Rel w0 w g v l x m (cl m) w1):=⟨⟨v,l,HI.out.below HI1.out,rfl,below_step HB.out HI1.out,Kept.below_ (Kept.refl _ _) HI1.out,.inl rfl⟩⟩
 clear HI1
 go_loopw [6] (fun v6 wr=>∃ (j:Nat) (i:Int),v6 = .int .i64 i∧Aside0 (i=(j:Int)-1)∧Aside0 (j≤64)∧Aside0 (Rel w0 w g v l x m j wr)) (fun v6 _=>(intOf v6+1).toNat)
 case atStart=>exact ⟨cl m,_,rfl,⟨rfl⟩,⟨hcl⟩,HR⟩
 case round=>
  clear HR hcl
  obtain ⟨j,i,rfl,HI6,HJ,HR⟩:=hrel
  cases j with
  | zero=>
   have hi0:decide (0≤i)=false:=by have:=HI6.out;simp;omega
   go_wp2
   go_end0
   obtain ⟨v',P,k1,k2,k3,k4,k5⟩:=HR.out
   rw [show bitsN 0 x=[] from rfl,List.append_nil] at k2
   rw [k2] at k1
   exact ⟨rfl,v',k1,k3,k4,k5⟩
  | succ j=>
   obtain ⟨v1,P,hW,hP,hb,hk,hv⟩:=HR.out
   have HJ':=HJ.out
   have hi1:0≤i:=by have:=HI6.out;omega
   have hi2:i≤63:=by have:=HI6.out;omega
   have hi0:decide (0≤i)=true:=by simpa using hi1
   have hP2:(l++bitsN (cl m) x).length<1000000100:=by rw [List.length_append,bitsN_len];have:=cl_le m;omega
   rw [← hP,List.length_append,bitsN_len] at hP2
   have hc1:=hW.cell1
   have hf0:=hW.fr 0
   obtain ⟨hg,hge,hR,hbits⟩:=hW
   have HHB:=Aside0.mk hb
   have HHK:=Aside0.mk hk
   have HP:=Aside0.mk hP
   have Hbits:=Aside0.mk hbits
   clear hb hk hP hbits HR
   by_cases h8:P.length % 8=0
   have hc0:wr.cell? ⟨g,0,none⟩=some v1:=(blk_cell hg 0).trans rfl
   have HG:=Aside0.mk hg
   have HRR:=Aside0.mk hR
   have HV:=Aside0.mk hv
   clear hg hR hv
   have t8:(((P.length:Int) % 8) == 0)=true:=by rw [beq_iff_eq];omega
   go_wp2_with ((with_reducible refine gate_builtin (b:=.append) (xs:=#[.tmp 26,.tmp 27]) rfl ?_);at_builtin;refine Kd.R_append (Kd.int .u8) (w0:=w0) w0.heap.size rfl (.tmp 26) (.tmp 27) 46 5 (.int .u8 0) 1 rfl Tryz.underlying46 info5 rfl (by decide) (by omega) v1 (packB P) 0 [.int .u8 0] (fun _=>True) (fun _=>False) rfl rfl ?aP (fun _ hk=>hk.elim) ?aF ?aO ?aB ?aS ?aL ?_;(case aP=>exact rfl);(case aB=>exact HHB.out);(case aF=>exact (fun _ _=>trivial));(case aO=>exact HRR.out);(case aS=>exact (below_size HHB.out));(case aL=>rw [packB_len];omega);intro v2 w5 ho hb hg hat;rw [packB_full h8] at ho;obtain ⟨b2,cap2,rfl,hb2,hl2,cells2,hcells2⟩:=Kd.R_form ho (by rw [rows_len];omega);obtain ⟨n2,hn2⟩:∃ n2,n2=(rows P (P.length / 8+1)).length:=⟨_,rfl⟩;rw [← hn2] at ho hat;(try rw [← hn2]);have HM:=Aside0.mk (mid_full HG.out hge HRR.out HHK.out HV.out ho hb hg hat hn2);have hf0':w5.frozen? ⟨g,0,none⟩=false:=blk_frozen (blk_grown HG.out hg (own_g HG.out HRR.out)) 0;have hc0':w5.cell? ⟨g,0,none⟩=some v1:=(blk_cell (blk_grown HG.out hg (own_g HG.out HRR.out)) 0).trans rfl;clear hb2 hl2 hcells2 hn2 ho hb hg hat)
   clear hf0' hc0' HG HRR HV hc0
   generalize w5.setCell ⟨g,0,none⟩ (.slice (some ⟨b2,0,none⟩) n2 cap2)=w6 at HM ⊢
   rotate_left
   rw [packB_part h8] at hR
   obtain ⟨b2,cap2,rfl,hb2,hl2,cells2,hcells2⟩:=Kd.R_form hR (by rw [rows_len];omega)
   obtain ⟨n2,hn2⟩:∃ n2,n2=(rows P (P.length / 8+1)).length:=⟨_,rfl⟩
   rw [← hn2] at hR hv hg
   have HM:=Aside0.mk (mid_part hg hge hR HHB.out HHK.out hv hn2)
   clear hb2 hl2 hcells2 hn2 hg hR hv
   have t8:(((P.length:Int) % 8) == 0)=false:=by rw [beq_eq_false_iff_ne];omega
   go_wp2
   generalize wr=w6 at HM ⊢
   all_goals
    clear t8 hc1 hf0 HHB HHK
    refine region_tail 24 (by kernel_rfl) (by kernel_rfl) (fun w7 hw7=>?_)
    have hm:=HM.out.drew
    rw [← hw7] at hm
    have HM7:=Aside0.mk hm
    clear HM hw7
    obtain ⟨qi,hqi⟩:∃ qi:Int,qi=((P.length / 8:Nat):Int):=⟨_,rfl⟩
    obtain ⟨kv,hkv⟩:∃ kv:Int,kv=7-(P.length:Int) % 8:=⟨_,rfl⟩
    obtain ⟨sv,hsv⟩:∃ sv:Int,sv=x / 2 ^ i.toNat:=⟨_,rfl⟩
    obtain ⟨bv,hbv⟩:∃ bv:Int,bv=Go.bits .and .u64 sv 1:=⟨_,rfl⟩
    obtain ⟨hx6,hf6⟩:=hm.byte
    rw [← hqi] at hx6 hf6
    have hc0:w7.cell? ⟨g,0,none⟩=some (.slice (some ⟨b2,0,none⟩) n2 cap2):=(blk_cell hm.1 0).trans rfl
    have hc1:w7.cell? ⟨g,1,none⟩=some (.int .i64 (P.length:Int)):=(blk_cell hm.1 1).trans rfl
    have hf1:=blk_frozen hm.1 1
    have hq1:(P.length:Int) / 8=qi:=by rw [hqi];omega
    have hn2:=hm.2.2.1
    have hq2:0≤qi:=by omega
    have hq3:decide (qi<(n2:Int))=true:=by simp;omega
    have hq4:qi<(n2:Int):=by omega
    have hq5:IntKind.i64.wrap qi=qi:=by rw [IntKind.wrap_i64];omega
    have hk0:0≤kv:=by omega
    have hk3:IntKind.i64.wrap kv=kv:=by rw [IntKind.wrap_i64];omega
    have hk7:kv≤7:=by omega
    have hk1:IntKind.i64.wrap (7-(P.length:Int) % 8)=kv:=by rw [IntKind.wrap_i64];omega
    have hk4:IntKind.i64.wrap (7-Int.tmod (P.length:Int) 8)=kv:=by rw [Int.tmod_eq_emod_of_nonneg (by omega)];exact hk1
    have hk5:7-Int.tmod (P.length:Int) 8=kv:=by rw [Int.tmod_eq_emod_of_nonneg (by omega)];omega
    have hk2:7-(P.length:Int) % 8=kv:=hkv.symm
    have hs1:x / 2 ^ i.toNat=sv:=hsv.symm
    have hs2:x / 2 ^ (min i.toNat 64)=sv:=by rw [show min i.toNat 64=i.toNat by omega];exact hsv.symm
    have hsb:0≤sv∧sv<18446744073709551616:=by rw [hsv];exact ⟨Int.ediv_nonneg x0 (Int.pow_nonneg (by omega)),by have:=Int.ediv_le_self (2 ^ i.toNat) x0;omega⟩
    have hb1:Go.bits .and .u64 sv 1=bv:=hbv.symm
    have hbb:bv=sv % 2:=by rw [hbv];simpa using bits_mask .u64 64 (by decide) wraps_u64 1 (by decide) sv hsb.1 (by omega)
    have hb2:0≤bv:=by omega
    have hb3:bv≤1:=by omega
    have hb4:IntKind.u8.wrap bv=bv:=by rw [IntKind.wrap_u8];omega
    have hka:decide (kv<0)=false:=by simp;omega
    have hkb:decide (0≤kv)=true:=by simp;omega
    have hkt:kv.toNat=7-P.length % 8:=by omega
    obtain ⟨shv,hshv⟩:∃ shv:Int,shv=bv*2 ^ kv.toNat:=⟨_,rfl⟩
    have hpw:(2:Int) ^ kv.toNat≤128∧0<(2:Int) ^ kv.toNat:=by
     have:kv.toNat=0∨kv.toNat=1∨kv.toNat=2∨kv.toNat=3∨kv.toNat=4∨kv.toNat=5∨kv.toNat=6∨kv.toNat=7:=by omega
     rcases this with h | h | h | h | h | h | h | h<;>rw [h]<;>decide
    have hshb:0≤shv∧shv≤128:=by
     have:bv=0∨bv=1:=by omega
     rcases this with h | h<;>rw [hshv,h]<;>omega
    have hsh2:IntKind.u8.wrap (bv*2 ^ kv.toNat)=shv:=by rw [← hshv,IntKind.wrap_u8];omega
    have hsh1:IntKind.u8.wrap (bv*2 ^ min kv.toNat 8)=shv:=by rw [show min kv.toNat 8=kv.toNat by omega];exact hsh2
    obtain ⟨nb,hnb⟩:∃ nb:Int,nb=Go.bits .or .u8 (byteAt P (P.length / 8)) shv:=⟨_,rfl⟩
    have hor:Go.bits .or .u8 (byteAt P (P.length / 8)) shv=nb:=hnb.symm
    have hcx:(w7.setCell ⟨b2,qi.toNat,none⟩ (.int .u8 nb)).cell? ⟨g,1,none⟩=some (.int .i64 (P.length:Int)):=(blk_cell (blk_far hm.1 (p:=⟨b2,qi.toNat,none⟩) hm.ne _) 1).trans rfl
    have hfx:(w7.setCell ⟨b2,qi.toNat,none⟩ (.int .u8 nb)).frozen? ⟨g,1,none⟩=false:=blk_frozen (blk_far hm.1 (p:=⟨b2,qi.toNat,none⟩) hm.ne _) 1
    have HSH:=Aside0.mk (show shv=bv*2 ^ (7-P.length % 8) by rw [hshv,hkt])
    have HNB:=Aside0.mk hnb
    clear hkt hshv hpw hshb hnb
    have HQ:=Aside0.mk hqi
    have HKV:=Aside0.mk hkv
    have HSV:=Aside0.mk hsv
    have HBB:=Aside0.mk hbb
    have HN2:=Aside0.mk hn2
    clear hqi hkv hsv hbv hbb hm hsb hn2
    simp only [List.take_succ_cons,List.take_zero,List.drop_succ_cons,List.drop_zero]
    repeat still_step
    refine wpStill_nil ?_
    go_wp2
    go_roundw
    case rel=>exact ⟨j,_,rfl,⟨by have:=HI6.out;omega⟩,⟨by have:=HJ.out;omega⟩,⟨by
     obtain ⟨v',k1,k2,k3,k4⟩:=mid_done HM7.out Hbits.out (b:=bv) (nb:=nb) (by omega) HQ.out (by rw [HNB.out,HSH.out])
     refine ⟨v',P++[bv],k1,?_,k2,k3,k4⟩
     rw [← HP.out,List.append_assoc]
     congr 1
     show bv :: bitsN j x=bitsN (j+1) x
     have e:i.toNat=j:=by have:=HI6.out;omega
     rw [HBB.out,HSV.out,e];rfl⟩⟩
    case measure=>simp [intOf];have:=HI6.out;omega
end Go.Proofs.YtnhkikebfinejaaGreatDoor.W04
namespace Go.Proofs.YtnhkikebfinejaaGreatDoor.X
open Go.RowKit Go.Proofs.YtnhkikebfinejaaGreatDoorW.PrintWords Go.Proofs.YtnhkikebfinejaaGreatDoorW.PrintLast Go.Proofs.YtnhkikebfinejaaGreatDoorW.PrintMore
section
attribute [local go_sem] max2_int min2_int max_two min_two max_three min_three max_four min_four
def IsS342 (w0 W:World) (g:Nat) (f0:List Int) (f1:Int) (f2:Bool):Prop:=∃ A0 c0,W.heap[g]?=some (.cells #[.slice A0 f0.length c0,.int .i64 f1,.bool f2] 342 (0,0))∧w0.heap.size≤g∧Kd.C (Kd.int .u8) w0 A0 f0.length f0
theorem IsS342.grown {w0 W:World} {g:Nat} {f0:List Int} {f1:Int} {f2:Bool} {W1:World} {row:Option Nat} (h:IsS342 w0 W g f0 f1 f2) (hw:W.grownBy W1 row) (hne:some g≠row):IsS342 w0 W1 g f0 f1 f2:=by
 obtain ⟨A0,c0,hb,hg,hr0⟩:=h
 exact ⟨A0,c0,blk_grown hb hw hne,hg,hr0⟩
theorem IsS342.kept {w0 W:World} {g:Nat} {f0:List Int} {f1:Int} {f2:Bool} {W1:World} {S:Nat→Prop} (h:IsS342 w0 W g f0 f1 f2) (hk:Kept W W1 S) (hne:¬ S g):IsS342 w0 W1 g f0 f1 f2:=by
 obtain ⟨A0,c0,hb,hg,hr0⟩:=h
 exact ⟨A0,c0,blk_kept hb hk hne,hg,hr0⟩
theorem IsS342.below {w0 W:World} {g:Nat} {f0:List Int} {f1:Int} {f2:Bool} {W1:World} (h:IsS342 w0 W g f0 f1 f2) (hw:Below W.heap.size W W1):IsS342 w0 W1 g f0 f1 f2:=h.grown (grown_of_below hw none) (by simp)
theorem IsS342.alloc {w0 W:World} {g:Nat} {f0:List Int} {f1:Int} {f2:Bool} (h:IsS342 w0 W g f0 f1 f2) (o:Obj):IsS342 w0 (W.alloc o) g f0 f1 f2:=h.below (below_alloc (Below.refl _ _) o)
theorem IsS342.drewN {w0 W:World} {g:Nat} {f0:List Int} {f1:Int} {f2:Bool} (h:IsS342 w0 W g f0 f1 f2) (m:Nat):IsS342 w0 (W.drewN m) g f0 f1 f2:=h
theorem IsS342.drew {w0 W:World} {g:Nat} {f0:List Int} {f1:Int} {f2:Bool} (h:IsS342 w0 W g f0 f1 f2):IsS342 w0 W.drew g f0 f1 f2:=h
theorem IsS342.at_ {w0 W:World} {g:Nat} {f0:List Int} {f1:Int} {f2:Bool} {w':World} {m:Nat} (hq:W.drewN m=w') (h:IsS342 w0 W g f0 f1 f2):IsS342 w0 w' g f0 f1 f2:=by subst hq;exact IsS342.drewN h m
theorem IsS342.apart {w0 W:World} {g:Nat} {f0:List Int} {f1:Int} {f2:Bool} {α:Type} {d:Kd α} {e:Nat} {base:Nat} {ok:Nat→Prop} {v:Value} {xs:List α} (h:IsS342 w0 W g f0 f1 f2) (ho:d.R e W base ok v xs) (ht:∀ q,q∈e :: d.E→q≠342):d.R e W base (fun k=>ok k∧k≠g) v xs:=by
 obtain ⟨A0,c0,hb,hg,hr0⟩:=h
 exact Kd.R_types ho hb ht
theorem IsS342.own_ne {w0 W:World} {g:Nat} {f0:List Int} {f1:Int} {f2:Bool} {α:Type} {d:Kd α} {e:Nat} {base:Nat} {ok:Nat→Prop} {v:Value} {xs:List α} (h:IsS342 w0 W g f0 f1 f2) (ho:d.R e W base ok v xs) (ht:e≠342):some g≠v.ownBlock:=by
 obtain ⟨A0,c0,hb,hg,hr0⟩:=h
 exact Kd.R_ne ho hb ht
theorem IsS342.lt {w0 W:World} {g:Nat} {f0:List Int} {f1:Int} {f2:Bool} (h:IsS342 w0 W g f0 f1 f2):g<W.heap.size:=by
 obtain ⟨A0,c0,hb,hg,hr0⟩:=h
 exact blk_lt hb
theorem IsS342.ge {w0 W:World} {g:Nat} {f0:List Int} {f1:Int} {f2:Bool} (h:IsS342 w0 W g f0 f1 f2):w0.heap.size≤g:=by
 obtain ⟨A0,c0,hb,hg,hr0⟩:=h
 exact hg
theorem IsS342.far {w0 W:World} {g:Nat} {f0:List Int} {f1:Int} {f2:Bool} {p:Addr} (h:IsS342 w0 W g f0 f1 f2) (hne:g≠p.block) (u:Value):IsS342 w0 (W.setCell p u) g f0 f1 f2:=by
 obtain ⟨A0,c0,hb,hg,hr0⟩:=h
 exact ⟨A0,c0,blk_far hb hne u,hg,hr0⟩
theorem cellS342_0 {W:World} {g:Nat} {A0:Option Addr} {c0:Nat} {f0:List Int} {f1:Int} {f2:Bool} (h:W.heap[g]?=some (.cells #[.slice A0 f0.length c0,.int .i64 f1,.bool f2] 342 (0,0))):W.cell? ⟨g,0,none⟩=some (.slice A0 f0.length c0):=(blk_cell h 0).trans rfl
theorem cellS342_1 {W:World} {g:Nat} {A0:Option Addr} {c0:Nat} {f0:List Int} {f1:Int} {f2:Bool} (h:W.heap[g]?=some (.cells #[.slice A0 f0.length c0,.int .i64 f1,.bool f2] 342 (0,0))):W.cell? ⟨g,1,none⟩=some (.int .i64 f1):=(blk_cell h 1).trans rfl
theorem IsS342.set_1 {w0 W:World} {g:Nat} {f0:List Int} {f1:Int} {f2:Bool} (h:IsS342 w0 W g f0 f1 f2) (x:Int):IsS342 w0 (W.setCell ⟨g,1,none⟩ (.int .i64 x)) g f0 x f2:=by
 obtain ⟨A0,c0,hb,hg,hr0⟩:=h
 exact ⟨A0,c0,by simpa using blk_set hb 1 (.int .i64 x),hg,hr0⟩
theorem cellS342_2 {W:World} {g:Nat} {A0:Option Addr} {c0:Nat} {f0:List Int} {f1:Int} {f2:Bool} (h:W.heap[g]?=some (.cells #[.slice A0 f0.length c0,.int .i64 f1,.bool f2] 342 (0,0))):W.cell? ⟨g,2,none⟩=some (.bool f2):=(blk_cell h 2).trans rfl
theorem IsS342.set_2 {w0 W:World} {g:Nat} {f0:List Int} {f1:Int} {f2:Bool} (h:IsS342 w0 W g f0 f1 f2) (x:Bool):IsS342 w0 (W.setCell ⟨g,2,none⟩ (.bool x)) g f0 f1 x:=by
 obtain ⟨A0,c0,hb,hg,hr0⟩:=h
 exact ⟨A0,c0,by simpa using blk_set hb 2 (.bool x),hg,hr0⟩
theorem IsS342.new (w0 W:World) (A0:Option Addr) (c0:Nat) (f0:List Int) (f1:Int) (f2:Bool) (hB:Below w0.heap.size w0 W) (hr0:Kd.C (Kd.int .u8) w0 A0 f0.length f0):IsS342 w0 (W.alloc (.cells #[.slice A0 f0.length c0,.int .i64 f1,.bool f2] 342)) W.heap.size f0 f1 f2:=⟨A0,c0,by simpa using heap_alloc_new W _,hB.size,hr0⟩
def bits_Reader_Left.f (s0_0:List Int) (s0_1:Int) (s0_2:Bool):Option (Int×Int×Bool):=some (wrap64 ((wrap64 (8*(s0_0.length:Int)))-s0_1),s0_1,s0_2)
theorem bits_Reader_Left.calls (g:Nat) (s0_0:List Int) (s0_1:Int) (s0_2:Bool) (r1:Int) (r2:Int) (r3:Bool) (w0 w:World) (hI:IsS342 w0 w g s0_0 s0_1 s0_2) (hB:Below w0.heap.size w0 w) (h:bits_Reader_Left.f s0_0 s0_1 s0_2=some (r1,r2,r3)) :
  Calls Tryz.prog 250 #[.pointer (some ⟨g,0,none⟩)] w fun e w'=>e = .returned (.int .i64 r1)∧IsS342 w0 w' g s0_0 r2 r3∧Below w0.heap.size w0 w'∧KeepBut w w' g none:=by
 have HI0:=Aside0.mk hI
 have HK:=Aside0.mk (KeepBut.refl w g none)
 have HL:=Aside0.mk hB.size
 clear hI
 have HW0:=Aside0.mk hB.size
 have HB:=Aside0.mk hB
 clear hB
 have H:(some (wrap64 ((wrap64 (8*(s0_0.length:Int)))-s0_1),s0_1,s0_2))=some (r1,r2,r3):=h
 clear h
 simp only [Option.some.injEq,Prod.mk.injEq] at H
 obtain ⟨rfl,rfl,rfl⟩:=H
 obtain ⟨ASz2_0,cSz2_0,HGz2,hgz2,HSz2_0⟩:=HI0.out
 have hcz2_0:=cellS342_0 HGz2
 have hcz2_1:=cellS342_1 HGz2
 have hcz2_2:=cellS342_2 HGz2
 have hfz2_1:=blk_frozen HGz2 1
 have hfz2_2:=blk_frozen HGz2 2
 clear HGz2 hgz2
 go_enter Tryz.func250,Tryz.ntmps250
 go_wp2
 repeat (go_quiet (fail);try go_wp2)
 go_ret
 exact ⟨by first | rfl | (simp [errW_none,errW_some]<;>rfl) | (simp [*,errW_none,errW_some]<;>rfl),by repeat (first | (with_reducible first | exact HI0.out | apply IsS342.alloc | apply IsS342.drewN | apply IsS342.drew | apply IsS342.set_1 | apply IsS342.set_2) | exact HI0.out),by repeat (first | (with_reducible first | exact HB.out | apply below_alloc | apply pw_below_drewN | apply below_drew1 | refine below_set ?_ (IsS342.ge HI0.out)) | exact HB.out),by repeat (first | (with_reducible first | exact HK.out | apply KeepBut.set_ | apply keep_drewN | apply keep_drew | apply keep_alloc) | exact HK.out)⟩
end
section
attribute [local go_sem] max2_int min2_int max_two min_two max_three min_three max_four min_four
def bits_Reader_Take.l0:Nat→Int→Int→Int→List Int→Int→Bool→Option (Int×Int×Bool)
 | 0,_,_,_,_,_,_=>none
 | k+1,x5,x23,x24,x1000,x1001,x1002=>if x24<x23 then (if 0≤(wrap64 (Int.tdiv x1001 8)) then (if (wrap64 (Int.tdiv x1001 8))<(x1000.length:Int) then (if 0≤(wrap64 (7-(Int.tmod x1001 8))) then (bits_Reader_Take.l0 k (Go.bits .or .u64 (IntKind.u64.wrap (x5*2)) (IntKind.u64.wrap (Go.bits .and .u8 (shr .u8 (rd x1000 (wrap64 (Int.tdiv x1001 8))) (wrap64 (7-(Int.tmod x1001 8)))) 1))) x23 (wrap64 (x24+1)) x1000 (wrap64 (x1001+1)) x1002) else (none)) else (none)) else (none)) else (some (x5,x1001,x1002))
def bits_Reader_Take.f (k:Nat) (s0_0:List Int) (s0_1:Int) (s0_2:Bool) (a1:Int):Option (Int×Int×Bool):=if s0_2=true then (some (0,s0_1,s0_2)) else ((bits_held.f a1).bind fun t286=>((bits_Reader_Left.f s0_0 s0_1 s0_2).bind fun bt287=>(if t286 > bt287.1 then (some (0,bt287.2.1,true)) else ((bits_held.f a1).bind fun t290=>(bits_Reader_Take.l0 k 0 t290 0 s0_0 bt287.2.1 bt287.2.2)))))
theorem bits_Reader_Take.mono_l:∀ k,(∀ y0 y1 y2 y3 y4 y5,LeO (bits_Reader_Take.l0 k y0 y1 y2 y3 y4 y5) (bits_Reader_Take.l0 (k+1) y0 y1 y2 y3 y4 y5))
 | 0=>fun _ _ _ _ _ _ r h=>by simp [bits_Reader_Take.l0] at h
 | k+1=>by
  have ih0:=bits_Reader_Take.mono_l k
  ·intro y0 y1 y2 y3 y4 y5
   unfold bits_Reader_Take.l0
   repeat' first
   | (with_reducible exact ih0 _ _ _ _ _ _)
   | (with_reducible exact LeO.refl _)
   | (with_reducible exact LeO.none _)
   | (with_reducible refine LeO.ite ?_ ?_)
   | (with_reducible refine LeO.bind ?_ (fun _=>?_))
   | exact ih0 _ _ _ _ _ _
   | exact LeO.none _
   | refine LeO.ite ?_ ?_
   | refine LeO.bind ?_ (fun _=>?_)
theorem bits_Reader_Take.mono:∀ a0 a1 a2 a3 k,LeO (bits_Reader_Take.f k a0 a1 a2 a3) (bits_Reader_Take.f (k+1) a0 a1 a2 a3):=by
 intro a0 a1 a2 a3 k
 have ih0:=bits_Reader_Take.mono_l k
 unfold bits_Reader_Take.f
 repeat' first
   | (with_reducible exact ih0 _ _ _ _ _ _)
   | (with_reducible exact LeO.refl _)
   | (with_reducible exact LeO.none _)
   | (with_reducible refine LeO.ite ?_ ?_)
   | (with_reducible refine LeO.bind ?_ (fun _=>?_))
   | exact ih0 _ _ _ _ _ _
   | exact LeO.none _
   | refine LeO.ite ?_ ?_
   | refine LeO.bind ?_ (fun _=>?_)
theorem bits_Reader_Take.calls (k:Nat) (g:Nat) (s0_0:List Int) (s0_1:Int) (s0_2:Bool) (a1:Int) (r1:Int) (r2:Int) (r3:Bool) (w0 w:World) (hI:IsS342 w0 w g s0_0 s0_1 s0_2) (hB:Below w0.heap.size w0 w) (h:bits_Reader_Take.f k s0_0 s0_1 s0_2 a1=some (r1,r2,r3)) :
  Calls Tryz.prog 218 #[.pointer (some ⟨g,0,none⟩),.int .i64 a1] w fun e w'=>e = .returned (.int .u64 r1)∧IsS342 w0 w' g s0_0 r2 r3∧Below w0.heap.size w0 w'∧KeepBut w w' g none:=by
 have HI0:=Aside0.mk hI
 have HK:=Aside0.mk (KeepBut.refl w g none)
 have HL:=Aside0.mk hB.size
 clear hI
 have HW0:=Aside0.mk hB.size
 have HB:=Aside0.mk hB
 clear hB
 have H:(if s0_2=true then (some (0,s0_1,s0_2)) else ((bits_held.f a1).bind fun t286=>((bits_Reader_Left.f s0_0 s0_1 s0_2).bind fun bt287=>(if t286 > bt287.1 then (some (0,bt287.2.1,true)) else ((bits_held.f a1).bind fun t290=>(bits_Reader_Take.l0 k 0 t290 0 s0_0 bt287.2.1 bt287.2.2))))))=some (r1,r2,r3):=h
 clear h
 by_cases c3:s0_2=true
 ·subst c3
  have H1:(some (0,s0_1,true))=some (r1,r2,r3):=by rw [if_pos rfl] at H;exact H
  clear H
  have H:=H1
  clear H1
  simp only [Option.some.injEq,Prod.mk.injEq] at H
  obtain ⟨rfl,rfl,rfl⟩:=H
  obtain ⟨ASz4_0,cSz4_0,HGz4,hgz4,HSz4_0⟩:=HI0.out
  have hcz4_0:=cellS342_0 HGz4
  have hcz4_1:=cellS342_1 HGz4
  have hcz4_2:=cellS342_2 HGz4
  have hfz4_1:=blk_frozen HGz4 1
  have hfz4_2:=blk_frozen HGz4 2
  clear HGz4 hgz4
  go_enter Tryz.func218,Tryz.ntmps218
  go_wp2
  repeat (go_quiet (fail);try go_wp2)
  go_ret
  exact ⟨by first | rfl | (simp [errW_none,errW_some]<;>rfl) | (simp [*,errW_none,errW_some]<;>rfl),by repeat (first | (with_reducible first | exact HI0.out | apply IsS342.alloc | apply IsS342.drewN | apply IsS342.drew | apply IsS342.set_1 | apply IsS342.set_2) | exact HI0.out),by repeat (first | (with_reducible first | exact HB.out | apply below_alloc | apply pw_below_drewN | apply below_drew1 | refine below_set ?_ (IsS342.ge HI0.out)) | exact HB.out),by repeat (first | (with_reducible first | exact HK.out | apply KeepBut.set_ | apply keep_drewN | apply keep_drew | apply keep_alloc) | exact HK.out)⟩
 ·replace c3:=Bool.eq_false_iff.mpr c3
  subst c3
  have H1:((bits_held.f a1).bind fun t286=>((bits_Reader_Left.f s0_0 s0_1 false).bind fun bt287=>(if t286 > bt287.1 then (some (0,bt287.2.1,true)) else ((bits_held.f a1).bind fun t290=>(bits_Reader_Take.l0 k 0 t290 0 s0_0 bt287.2.1 bt287.2.2)))))=some (r1,r2,r3):=by rw [if_neg (show ¬ (false=true) by decide)] at H;exact H
  clear H
  have H:=H1
  clear H1
  replace H:=Option.bind_eq_some_iff.mp H
  obtain ⟨t286,A50,H⟩:=H
  replace H:((bits_Reader_Left.f s0_0 s0_1 false).bind fun bt287=>(if t286 > bt287.1 then (some (0,bt287.2.1,true)) else ((bits_held.f a1).bind fun t290=>(bits_Reader_Take.l0 k 0 t290 0 s0_0 bt287.2.1 bt287.2.2))))=some (r1,r2,r3):=H
  have A5:=Aside0.mk A50
  clear A50
  replace H:=Option.bind_eq_some_iff.mp H
  obtain ⟨⟨t287,t288,t289⟩,A60,H⟩:=H
  replace H:(if t286 > t287 then (some (0,t288,true)) else ((bits_held.f a1).bind fun t290=>(bits_Reader_Take.l0 k 0 t290 0 s0_0 t288 t289)))=some (r1,r2,r3):=H
  have A6:=Aside0.mk A60
  clear A60
  by_cases c7:t286 > t287
  ·rw [if_pos c7] at H
   have c7b0:decide (t287<t286)=true:=decide_eq_true c7
   clear c7
   simp only [Option.some.injEq,Prod.mk.injEq] at H
   obtain ⟨rfl,rfl,rfl⟩:=H
   obtain ⟨ASz8_0,cSz8_0,HGz8,hgz8,HSz8_0⟩:=HI0.out
   have hcz8_0:=cellS342_0 HGz8
   have hcz8_1:=cellS342_1 HGz8
   have hcz8_2:=cellS342_2 HGz8
   have hfz8_1:=blk_frozen HGz8 1
   have hfz8_2:=blk_frozen HGz8 2
   clear HGz8 hgz8
   go_enter Tryz.func218,Tryz.ntmps218
   go_wp2_with (first | (go_at_call 232;(with_reducible refine (bits_held.calls a1 t286 _ A5.out).mono ?_);rintro e w9 ⟨rfl,hb⟩;have n0_:=Aside0.mk (IsS342.below (by repeat (first | (with_reducible first | exact HI0.out | apply IsS342.alloc | apply IsS342.drewN | apply IsS342.drew | apply IsS342.set_1 | apply IsS342.set_2) | exact HI0.out)) hb);have n1_:=Aside0.mk (KeepBut.trans (by repeat (first | (with_reducible first | exact HK.out | apply KeepBut.set_ | apply keep_drewN | apply keep_drew | apply keep_alloc) | exact HK.out)) (KeepBut.of_below hb g none) (.inl rfl));have n2_:=Aside0.mk (below_step (by repeat (first | (with_reducible first | exact HB.out | apply below_alloc | apply pw_below_drewN | apply below_drew1 | refine below_set ?_ (IsS342.ge HI0.out)) | exact HB.out)) hb);clear HI0;clear HK;clear HB;have HI0:=n0_;have HK:=n1_;have HB:=n2_;clear n0_ n1_ n2_;(try clear hb);(try clear hb2);(try clear hk);(try clear hi)) | (go_at_call 250;(with_reducible refine (bits_Reader_Left.calls g s0_0 s0_1 false t287 t288 t289 w0 _ ?side1 ?side2 A6.out).mono ?_);(case side1=>repeat (first | (with_reducible first | exact HI0.out | apply IsS342.alloc | apply IsS342.drewN | apply IsS342.drew | apply IsS342.set_1 | apply IsS342.set_2) | exact HI0.out));(case side2=>repeat (first | (with_reducible first | exact HB.out | apply below_alloc | apply pw_below_drewN | apply below_drew1 | refine below_set ?_ (IsS342.ge HI0.out)) | exact HB.out));rintro e w10 ⟨rfl,hi,hb,hk⟩;have n0_:=Aside0.mk (KeepBut.trans (by repeat (first | (with_reducible first | exact HK.out | apply KeepBut.set_ | apply keep_drewN | apply keep_drew | apply keep_alloc) | exact HK.out)) hk (.inl rfl));have n1_:=Aside0.mk (hb);have n2_:=Aside0.mk (hi);clear HK;clear HB;clear HI0;have HK:=n0_;have HB:=n1_;have HI0:=n2_;clear n0_ n1_ n2_;(try clear hb);(try clear hb2);(try clear hk);(try clear hi);obtain ⟨ASz11_0,cSz11_0,HGz11,hgz11,HSz11_0⟩:=HI0.out;have hcz11_0:=cellS342_0 HGz11;have hcz11_1:=cellS342_1 HGz11;have hcz11_2:=cellS342_2 HGz11;have hfz11_1:=blk_frozen HGz11 1;have hfz11_2:=blk_frozen HGz11 2;clear HGz11 hgz11))
   repeat (go_quiet (first | (go_at_call 232;(with_reducible refine (bits_held.calls a1 t286 _ A5.out).mono ?_);rintro e w9 ⟨rfl,hb⟩;have n0_:=Aside0.mk (IsS342.below (by repeat (first | (with_reducible first | exact HI0.out | apply IsS342.alloc | apply IsS342.drewN | apply IsS342.drew | apply IsS342.set_1 | apply IsS342.set_2) | exact HI0.out)) hb);have n1_:=Aside0.mk (KeepBut.trans (by repeat (first | (with_reducible first | exact HK.out | apply KeepBut.set_ | apply keep_drewN | apply keep_drew | apply keep_alloc) | exact HK.out)) (KeepBut.of_below hb g none) (.inl rfl));have n2_:=Aside0.mk (below_step (by repeat (first | (with_reducible first | exact HB.out | apply below_alloc | apply pw_below_drewN | apply below_drew1 | refine below_set ?_ (IsS342.ge HI0.out)) | exact HB.out)) hb);clear HI0;clear HK;clear HB;have HI0:=n0_;have HK:=n1_;have HB:=n2_;clear n0_ n1_ n2_;(try clear hb);(try clear hb2);(try clear hk);(try clear hi)) | (go_at_call 250;(with_reducible refine (bits_Reader_Left.calls g s0_0 s0_1 false t287 t288 t289 w0 _ ?side1 ?side2 A6.out).mono ?_);(case side1=>repeat (first | (with_reducible first | exact HI0.out | apply IsS342.alloc | apply IsS342.drewN | apply IsS342.drew | apply IsS342.set_1 | apply IsS342.set_2) | exact HI0.out));(case side2=>repeat (first | (with_reducible first | exact HB.out | apply below_alloc | apply pw_below_drewN | apply below_drew1 | refine below_set ?_ (IsS342.ge HI0.out)) | exact HB.out));rintro e w10 ⟨rfl,hi,hb,hk⟩;have n0_:=Aside0.mk (KeepBut.trans (by repeat (first | (with_reducible first | exact HK.out | apply KeepBut.set_ | apply keep_drewN | apply keep_drew | apply keep_alloc) | exact HK.out)) hk (.inl rfl));have n1_:=Aside0.mk (hb);have n2_:=Aside0.mk (hi);clear HK;clear HB;clear HI0;have HK:=n0_;have HB:=n1_;have HI0:=n2_;clear n0_ n1_ n2_;(try clear hb);(try clear hb2);(try clear hk);(try clear hi);obtain ⟨ASz11_0,cSz11_0,HGz11,hgz11,HSz11_0⟩:=HI0.out;have hcz11_0:=cellS342_0 HGz11;have hcz11_1:=cellS342_1 HGz11;have hcz11_2:=cellS342_2 HGz11;have hfz11_1:=blk_frozen HGz11 1;have hfz11_2:=blk_frozen HGz11 2;clear HGz11 hgz11));try go_wp2_with (first | (go_at_call 232;(with_reducible refine (bits_held.calls a1 t286 _ A5.out).mono ?_);rintro e w9 ⟨rfl,hb⟩;have n0_:=Aside0.mk (IsS342.below (by repeat (first | (with_reducible first | exact HI0.out | apply IsS342.alloc | apply IsS342.drewN | apply IsS342.drew | apply IsS342.set_1 | apply IsS342.set_2) | exact HI0.out)) hb);have n1_:=Aside0.mk (KeepBut.trans (by repeat (first | (with_reducible first | exact HK.out | apply KeepBut.set_ | apply keep_drewN | apply keep_drew | apply keep_alloc) | exact HK.out)) (KeepBut.of_below hb g none) (.inl rfl));have n2_:=Aside0.mk (below_step (by repeat (first | (with_reducible first | exact HB.out | apply below_alloc | apply pw_below_drewN | apply below_drew1 | refine below_set ?_ (IsS342.ge HI0.out)) | exact HB.out)) hb);clear HI0;clear HK;clear HB;have HI0:=n0_;have HK:=n1_;have HB:=n2_;clear n0_ n1_ n2_;(try clear hb);(try clear hb2);(try clear hk);(try clear hi)) | (go_at_call 250;(with_reducible refine (bits_Reader_Left.calls g s0_0 s0_1 false t287 t288 t289 w0 _ ?side1 ?side2 A6.out).mono ?_);(case side1=>repeat (first | (with_reducible first | exact HI0.out | apply IsS342.alloc | apply IsS342.drewN | apply IsS342.drew | apply IsS342.set_1 | apply IsS342.set_2) | exact HI0.out));(case side2=>repeat (first | (with_reducible first | exact HB.out | apply below_alloc | apply pw_below_drewN | apply below_drew1 | refine below_set ?_ (IsS342.ge HI0.out)) | exact HB.out));rintro e w10 ⟨rfl,hi,hb,hk⟩;have n0_:=Aside0.mk (KeepBut.trans (by repeat (first | (with_reducible first | exact HK.out | apply KeepBut.set_ | apply keep_drewN | apply keep_drew | apply keep_alloc) | exact HK.out)) hk (.inl rfl));have n1_:=Aside0.mk (hb);have n2_:=Aside0.mk (hi);clear HK;clear HB;clear HI0;have HK:=n0_;have HB:=n1_;have HI0:=n2_;clear n0_ n1_ n2_;(try clear hb);(try clear hb2);(try clear hk);(try clear hi);obtain ⟨ASz11_0,cSz11_0,HGz11,hgz11,HSz11_0⟩:=HI0.out;have hcz11_0:=cellS342_0 HGz11;have hcz11_1:=cellS342_1 HGz11;have hcz11_2:=cellS342_2 HGz11;have hfz11_1:=blk_frozen HGz11 1;have hfz11_2:=blk_frozen HGz11 2;clear HGz11 hgz11)))
   go_ret
   exact ⟨by first | rfl | (simp [errW_none,errW_some]<;>rfl) | (simp [*,errW_none,errW_some]<;>rfl),by repeat (first | (with_reducible first | exact HI0.out | apply IsS342.alloc | apply IsS342.drewN | apply IsS342.drew | apply IsS342.set_1 | apply IsS342.set_2) | exact HI0.out),by repeat (first | (with_reducible first | exact HB.out | apply below_alloc | apply pw_below_drewN | apply below_drew1 | refine below_set ?_ (IsS342.ge HI0.out)) | exact HB.out),by repeat (first | (with_reducible first | exact HK.out | apply KeepBut.set_ | apply keep_drewN | apply keep_drew | apply keep_alloc) | exact HK.out)⟩
  ·rw [if_neg c7] at H
   have c7b0:decide (t287<t286)=false:=decide_eq_false c7
   clear c7
   replace H:=Option.bind_eq_some_iff.mp H
   obtain ⟨t290,A120,H⟩:=H
   replace H:(bits_Reader_Take.l0 k 0 t290 0 s0_0 t288 t289)=some (r1,r2,r3):=H
   have A12:=Aside0.mk A120
   clear A120
   obtain rfl:t286=t290:=Option.some.inj (A5.out.symm.trans A12.out)
   have H':=Aside0.mk H
   clear H
   obtain ⟨ASz13_0,cSz13_0,HGz13,hgz13,HSz13_0⟩:=HI0.out
   have hcz13_0:=cellS342_0 HGz13
   have hcz13_1:=cellS342_1 HGz13
   have hcz13_2:=cellS342_2 HGz13
   have hfz13_1:=blk_frozen HGz13 1
   have hfz13_2:=blk_frozen HGz13 2
   clear HGz13 hgz13
   go_enter Tryz.func218,Tryz.ntmps218
   go_wp2_with (first | (go_at_call 232;(with_reducible refine (bits_held.calls a1 t286 _ A5.out).mono ?_);rintro e w14 ⟨rfl,hb⟩;have n0_:=Aside0.mk (IsS342.below (by repeat (first | (with_reducible first | exact HI0.out | apply IsS342.alloc | apply IsS342.drewN | apply IsS342.drew | apply IsS342.set_1 | apply IsS342.set_2) | exact HI0.out)) hb);have n1_:=Aside0.mk (KeepBut.trans (by repeat (first | (with_reducible first | exact HK.out | apply KeepBut.set_ | apply keep_drewN | apply keep_drew | apply keep_alloc) | exact HK.out)) (KeepBut.of_below hb g none) (.inl rfl));have n2_:=Aside0.mk (below_step (by repeat (first | (with_reducible first | exact HB.out | apply below_alloc | apply pw_below_drewN | apply below_drew1 | refine below_set ?_ (IsS342.ge HI0.out)) | exact HB.out)) hb);clear HI0;clear HK;clear HB;have HI0:=n0_;have HK:=n1_;have HB:=n2_;clear n0_ n1_ n2_;(try clear hb);(try clear hb2);(try clear hk);(try clear hi)) | (go_at_call 250;(with_reducible refine (bits_Reader_Left.calls g s0_0 s0_1 false t287 t288 t289 w0 _ ?side1 ?side2 A6.out).mono ?_);(case side1=>repeat (first | (with_reducible first | exact HI0.out | apply IsS342.alloc | apply IsS342.drewN | apply IsS342.drew | apply IsS342.set_1 | apply IsS342.set_2) | exact HI0.out));(case side2=>repeat (first | (with_reducible first | exact HB.out | apply below_alloc | apply pw_below_drewN | apply below_drew1 | refine below_set ?_ (IsS342.ge HI0.out)) | exact HB.out));rintro e w15 ⟨rfl,hi,hb,hk⟩;have n0_:=Aside0.mk (KeepBut.trans (by repeat (first | (with_reducible first | exact HK.out | apply KeepBut.set_ | apply keep_drewN | apply keep_drew | apply keep_alloc) | exact HK.out)) hk (.inl rfl));have n1_:=Aside0.mk (hb);have n2_:=Aside0.mk (hi);clear HK;clear HB;clear HI0;have HK:=n0_;have HB:=n1_;have HI0:=n2_;clear n0_ n1_ n2_;(try clear hb);(try clear hb2);(try clear hk);(try clear hi)) | (go_at_call 232;(with_reducible refine (bits_held.calls a1 t286 _ A12.out).mono ?_);rintro e w16 ⟨rfl,hb⟩;have n0_:=Aside0.mk (IsS342.below (by repeat (first | (with_reducible first | exact HI0.out | apply IsS342.alloc | apply IsS342.drewN | apply IsS342.drew | apply IsS342.set_1 | apply IsS342.set_2) | exact HI0.out)) hb);have n1_:=Aside0.mk (KeepBut.trans (by repeat (first | (with_reducible first | exact HK.out | apply KeepBut.set_ | apply keep_drewN | apply keep_drew | apply keep_alloc) | exact HK.out)) (KeepBut.of_below hb g none) (.inl rfl));have n2_:=Aside0.mk (below_step (by repeat (first | (with_reducible first | exact HB.out | apply below_alloc | apply pw_below_drewN | apply below_drew1 | refine below_set ?_ (IsS342.ge HI0.out)) | exact HB.out)) hb);clear HI0;clear HK;clear HB;have HI0:=n0_;have HK:=n1_;have HB:=n2_;clear n0_ n1_ n2_;(try clear hb);(try clear hb2);(try clear hk);(try clear hi)))
   repeat (go_quiet (first | (go_at_call 232;(with_reducible refine (bits_held.calls a1 t286 _ A5.out).mono ?_);rintro e w14 ⟨rfl,hb⟩;have n0_:=Aside0.mk (IsS342.below (by repeat (first | (with_reducible first | exact HI0.out | apply IsS342.alloc | apply IsS342.drewN | apply IsS342.drew | apply IsS342.set_1 | apply IsS342.set_2) | exact HI0.out)) hb);have n1_:=Aside0.mk (KeepBut.trans (by repeat (first | (with_reducible first | exact HK.out | apply KeepBut.set_ | apply keep_drewN | apply keep_drew | apply keep_alloc) | exact HK.out)) (KeepBut.of_below hb g none) (.inl rfl));have n2_:=Aside0.mk (below_step (by repeat (first | (with_reducible first | exact HB.out | apply below_alloc | apply pw_below_drewN | apply below_drew1 | refine below_set ?_ (IsS342.ge HI0.out)) | exact HB.out)) hb);clear HI0;clear HK;clear HB;have HI0:=n0_;have HK:=n1_;have HB:=n2_;clear n0_ n1_ n2_;(try clear hb);(try clear hb2);(try clear hk);(try clear hi)) | (go_at_call 250;(with_reducible refine (bits_Reader_Left.calls g s0_0 s0_1 false t287 t288 t289 w0 _ ?side1 ?side2 A6.out).mono ?_);(case side1=>repeat (first | (with_reducible first | exact HI0.out | apply IsS342.alloc | apply IsS342.drewN | apply IsS342.drew | apply IsS342.set_1 | apply IsS342.set_2) | exact HI0.out));(case side2=>repeat (first | (with_reducible first | exact HB.out | apply below_alloc | apply pw_below_drewN | apply below_drew1 | refine below_set ?_ (IsS342.ge HI0.out)) | exact HB.out));rintro e w15 ⟨rfl,hi,hb,hk⟩;have n0_:=Aside0.mk (KeepBut.trans (by repeat (first | (with_reducible first | exact HK.out | apply KeepBut.set_ | apply keep_drewN | apply keep_drew | apply keep_alloc) | exact HK.out)) hk (.inl rfl));have n1_:=Aside0.mk (hb);have n2_:=Aside0.mk (hi);clear HK;clear HB;clear HI0;have HK:=n0_;have HB:=n1_;have HI0:=n2_;clear n0_ n1_ n2_;(try clear hb);(try clear hb2);(try clear hk);(try clear hi)) | (go_at_call 232;(with_reducible refine (bits_held.calls a1 t286 _ A12.out).mono ?_);rintro e w16 ⟨rfl,hb⟩;have n0_:=Aside0.mk (IsS342.below (by repeat (first | (with_reducible first | exact HI0.out | apply IsS342.alloc | apply IsS342.drewN | apply IsS342.drew | apply IsS342.set_1 | apply IsS342.set_2) | exact HI0.out)) hb);have n1_:=Aside0.mk (KeepBut.trans (by repeat (first | (with_reducible first | exact HK.out | apply KeepBut.set_ | apply keep_drewN | apply keep_drew | apply keep_alloc) | exact HK.out)) (KeepBut.of_below hb g none) (.inl rfl));have n2_:=Aside0.mk (below_step (by repeat (first | (with_reducible first | exact HB.out | apply below_alloc | apply pw_below_drewN | apply below_drew1 | refine below_set ?_ (IsS342.ge HI0.out)) | exact HB.out)) hb);clear HI0;clear HK;clear HB;have HI0:=n0_;have HK:=n1_;have HB:=n2_;clear n0_ n1_ n2_;(try clear hb);(try clear hb2);(try clear hk);(try clear hi)));try go_wp2_with (first | (go_at_call 232;(with_reducible refine (bits_held.calls a1 t286 _ A5.out).mono ?_);rintro e w14 ⟨rfl,hb⟩;have n0_:=Aside0.mk (IsS342.below (by repeat (first | (with_reducible first | exact HI0.out | apply IsS342.alloc | apply IsS342.drewN | apply IsS342.drew | apply IsS342.set_1 | apply IsS342.set_2) | exact HI0.out)) hb);have n1_:=Aside0.mk (KeepBut.trans (by repeat (first | (with_reducible first | exact HK.out | apply KeepBut.set_ | apply keep_drewN | apply keep_drew | apply keep_alloc) | exact HK.out)) (KeepBut.of_below hb g none) (.inl rfl));have n2_:=Aside0.mk (below_step (by repeat (first | (with_reducible first | exact HB.out | apply below_alloc | apply pw_below_drewN | apply below_drew1 | refine below_set ?_ (IsS342.ge HI0.out)) | exact HB.out)) hb);clear HI0;clear HK;clear HB;have HI0:=n0_;have HK:=n1_;have HB:=n2_;clear n0_ n1_ n2_;(try clear hb);(try clear hb2);(try clear hk);(try clear hi)) | (go_at_call 250;(with_reducible refine (bits_Reader_Left.calls g s0_0 s0_1 false t287 t288 t289 w0 _ ?side1 ?side2 A6.out).mono ?_);(case side1=>repeat (first | (with_reducible first | exact HI0.out | apply IsS342.alloc | apply IsS342.drewN | apply IsS342.drew | apply IsS342.set_1 | apply IsS342.set_2) | exact HI0.out));(case side2=>repeat (first | (with_reducible first | exact HB.out | apply below_alloc | apply pw_below_drewN | apply below_drew1 | refine below_set ?_ (IsS342.ge HI0.out)) | exact HB.out));rintro e w15 ⟨rfl,hi,hb,hk⟩;have n0_:=Aside0.mk (KeepBut.trans (by repeat (first | (with_reducible first | exact HK.out | apply KeepBut.set_ | apply keep_drewN | apply keep_drew | apply keep_alloc) | exact HK.out)) hk (.inl rfl));have n1_:=Aside0.mk (hb);have n2_:=Aside0.mk (hi);clear HK;clear HB;clear HI0;have HK:=n0_;have HB:=n1_;have HI0:=n2_;clear n0_ n1_ n2_;(try clear hb);(try clear hb2);(try clear hk);(try clear hi)) | (go_at_call 232;(with_reducible refine (bits_held.calls a1 t286 _ A12.out).mono ?_);rintro e w16 ⟨rfl,hb⟩;have n0_:=Aside0.mk (IsS342.below (by repeat (first | (with_reducible first | exact HI0.out | apply IsS342.alloc | apply IsS342.drewN | apply IsS342.drew | apply IsS342.set_1 | apply IsS342.set_2) | exact HI0.out)) hb);have n1_:=Aside0.mk (KeepBut.trans (by repeat (first | (with_reducible first | exact HK.out | apply KeepBut.set_ | apply keep_drewN | apply keep_drew | apply keep_alloc) | exact HK.out)) (KeepBut.of_below hb g none) (.inl rfl));have n2_:=Aside0.mk (below_step (by repeat (first | (with_reducible first | exact HB.out | apply below_alloc | apply pw_below_drewN | apply below_drew1 | refine below_set ?_ (IsS342.ge HI0.out)) | exact HB.out)) hb);clear HI0;clear HK;clear HB;have HI0:=n0_;have HK:=n1_;have HB:=n2_;clear n0_ n1_ n2_;(try clear hb);(try clear hb2);(try clear hk);(try clear hi))))
   go_loopg [5,24] k (fun kq v5 v24 w'=>∃ (x5_1:Int) (x24_1:Int) (x1001_1:Int),v5 = .int .u64 x5_1∧v24 = .int .i64 x24_1∧Aside0 (bits_Reader_Take.l0 kq x5_1 t286 x24_1 s0_0 x1001_1 t289=some (r1,r2,r3))∧Aside0 (kq≤k)∧Aside0 (IsS342 w0 w' g s0_0 x1001_1 t289)∧Aside0 (KeepBut w w' g none)∧Aside0 (Below w0.heap.size w0 w'))
   case atStart=>exact ⟨(0),(0),(t288),(by first | rfl | (simp;done) | (simp [*];done)),(by first | rfl | (simp;done) | (simp [*];done)),H',⟨Nat.le_refl _⟩,⟨by repeat (first | (with_reducible first | exact HI0.out | apply IsS342.alloc | apply IsS342.drewN | apply IsS342.drew | apply IsS342.set_1 | apply IsS342.set_2) | exact HI0.out)⟩,⟨by repeat (first | (with_reducible first | exact HK.out | apply KeepBut.set_ | apply keep_drewN | apply keep_drew | apply keep_alloc) | exact HK.out)⟩,⟨by repeat (first | (with_reducible first | exact HB.out | apply below_alloc | apply pw_below_drewN | apply below_drew1 | refine below_set ?_ (IsS342.ge HI0.out)) | exact HB.out)⟩⟩
   case round=>
    clear H'
    try clear c2
    try clear p2
    try clear c3
    try clear c7
    try clear c7b0
    try clear hcz11_0
    try clear hcz11_1
    try clear hcz11_2
    try clear hcz13_0
    try clear hcz13_1
    try clear hcz13_2
    try clear hcz4_0
    try clear hcz4_1
    try clear hcz4_2
    try clear hcz8_0
    try clear hcz8_1
    try clear hcz8_2
    try clear hfz11_1
    try clear hfz11_2
    try clear hfz13_1
    try clear hfz13_2
    try clear hfz4_1
    try clear hfz4_2
    try clear hfz8_1
    try clear hfz8_2
    obtain ⟨x5_1,x24_1,x1001_1,rfl,rfl,HA,HK1,HI0,HK,HB⟩:=hrel
    cases gk with
    | zero=>exact absurd HA.out (by simp [bits_Reader_Take.l0])
    | succ k1=>
     have H:=HA.out
     clear HA
     simp only [bits_Reader_Take.l0] at H
     by_cases c17:x24_1<t286
     ·rw [if_pos c17] at H
      have c17b0:decide (x24_1<t286)=true:=decide_eq_true c17
      clear c17
      obtain ⟨ji18,hji18⟩:∃ j_:Int,(wrap64 (Int.tdiv x1001_1 8))=j_:=⟨_,rfl⟩
      replace H:(if 0≤(ji18) then (if (ji18)<(s0_0.length:Int) then (if 0≤(wrap64 (7-(Int.tmod x1001_1 8))) then (bits_Reader_Take.l0 k1 (Go.bits .or .u64 (IntKind.u64.wrap (x5_1*2)) (IntKind.u64.wrap (Go.bits .and .u8 (shr .u8 (rd s0_0 (ji18)) (wrap64 (7-(Int.tmod x1001_1 8)))) 1))) t286 (wrap64 (x24_1+1)) s0_0 (wrap64 (x1001_1+1)) t289) else (none)) else (none)) else (none))=some (r1,r2,r3):=by first | (rw [hji18] at H;exact H) | (simp only [hji18] at H ⊢;exact H)
      have hji18w:(IntKind.i64.wrap (Int.tdiv x1001_1 8))=ji18:=(i64_w _).trans hji18
      by_cases c19:0≤(ji18)
      ·rw [if_pos c19] at H
       have c19b0:decide (0≤(ji18))=true:=decide_eq_true c19
       clear c19
       by_cases c20:(ji18)<(s0_0.length:Int)
       ·rw [if_pos c20] at H
        have c20b0:decide ((ji18)<(s0_0.length:Int))=true:=decide_eq_true c20
        clear c20
        obtain ⟨ji21,hji21⟩:∃ j_:Int,(wrap64 (7-(Int.tmod x1001_1 8)))=j_:=⟨_,rfl⟩
        replace H:(if 0≤(ji21) then (bits_Reader_Take.l0 k1 (Go.bits .or .u64 (IntKind.u64.wrap (x5_1*2)) (IntKind.u64.wrap (Go.bits .and .u8 (shr .u8 (rd s0_0 (ji18)) (ji21)) 1))) t286 (wrap64 (x24_1+1)) s0_0 (wrap64 (x1001_1+1)) t289) else (none))=some (r1,r2,r3):=by first | (rw [hji21] at H;exact H) | (simp only [hji21] at H ⊢;exact H)
        have hji21w:(IntKind.i64.wrap (7-(Int.tmod x1001_1 8)))=ji21:=(i64_w _).trans hji21
        by_cases c22:0≤(ji21)
        ·rw [if_pos c22] at H
         have c22b0:=eq_true c22
         have c22b1:decide (0≤(ji21))=true:=decide_eq_true c22
         clear c22
         obtain ⟨ji23,hji23⟩:∃ j_:Int,(shr .u8 (rd s0_0 (ji18)) (ji21))=j_:=⟨_,rfl⟩
         replace H:(bits_Reader_Take.l0 k1 (Go.bits .or .u64 (IntKind.u64.wrap (x5_1*2)) (IntKind.u64.wrap (Go.bits .and .u8 (ji23) 1))) t286 (wrap64 (x24_1+1)) s0_0 (wrap64 (x1001_1+1)) t289)=some (r1,r2,r3):=by first | (rw [hji23] at H;exact H) | (simp only [hji23] at H ⊢;exact H)
         have hji23_:((rd s0_0 (ji18)) / 2 ^ min (ji21).toNat 8)=ji23:=hji23
         have hji23z:(ji21)≤8→((rd s0_0 (ji18)) / 2 ^ (ji21).toNat)=ji23:=shr_small hji23
         have H':=Aside0.mk H
         clear H
         obtain ⟨ASz24_0,cSz24_0,HGz24,hgz24,HSz24_0⟩:=HI0.out
         have hcz24_0:=cellS342_0 HGz24
         have hcz24_1:=cellS342_1 HGz24
         have hcz24_2:=cellS342_2 HGz24
         have hfz24_1:=blk_frozen HGz24 1
         have hfz24_2:=blk_frozen HGz24 2
         clear HGz24 hgz24
         have p291:0≤((ji18):Int):=of_decide_eq_true (by first | (with_reducible assumption) | assumption)
         have q291:(ji18)<(s0_0.length:Int):=of_decide_eq_true (by first | (with_reducible assumption) | assumption)
         obtain ⟨ad291,e291,hx291_0⟩:=Kd.at_int HSz24_0 (ji18) p291 q291
         cases e291
         replace hx291_0:=pw_cell_below HB.out hx291_0
         replace p291:=eq_true p291
         replace q291:=eq_true q291
         go_wp2
         repeat (go_quiet (fail);try go_wp2)
         go_roundg k1
         case measure=>have:=HK1.out;omega
         case rel=>exact ⟨(Go.bits .or .u64 (IntKind.u64.wrap (x5_1*2)) (IntKind.u64.wrap (Go.bits .and .u8 (ji23) 1))),(wrap64 (x24_1+1)),(wrap64 (x1001_1+1)),(by first | rfl | (simp;done) | (simp only [← hji23]<;>(first | rfl | simp)) | (simp [*];done)),(by first | rfl | (simp;done) | (simp [*];done)),H',⟨by have:=HK1.out;omega⟩,⟨by repeat (first | (with_reducible first | exact HI0.out | apply IsS342.alloc | apply IsS342.drewN | apply IsS342.drew | apply IsS342.set_1 | apply IsS342.set_2) | exact HI0.out)⟩,⟨by repeat (first | (with_reducible first | exact HK.out | apply KeepBut.set_ | apply keep_drewN | apply keep_drew | apply keep_alloc) | exact HK.out)⟩,⟨by repeat (first | (with_reducible first | exact HB.out | apply below_alloc | apply pw_below_drewN | apply below_drew1 | refine below_set ?_ (IsS342.ge HI0.out)) | exact HB.out)⟩⟩
        ·rw [if_neg c22] at H
         exact absurd H (by simp)
       ·rw [if_neg c20] at H
        exact absurd H (by simp)
      ·rw [if_neg c19] at H
       exact absurd H (by simp)
     ·rw [if_neg c17] at H
      have c17b0:decide (x24_1<t286)=false:=decide_eq_false c17
      clear c17
      simp only [Option.some.injEq,Prod.mk.injEq] at H
      obtain ⟨rfl,rfl,rfl⟩:=H
      go_wp2
      repeat (go_quiet (fail);try go_wp2)
      go_ret
      exact ⟨by first | rfl | (simp [errW_none,errW_some]<;>rfl) | (simp [*,errW_none,errW_some]<;>rfl),by repeat (first | (with_reducible first | exact HI0.out | apply IsS342.alloc | apply IsS342.drewN | apply IsS342.drew | apply IsS342.set_1 | apply IsS342.set_2) | exact HI0.out),by repeat (first | (with_reducible first | exact HB.out | apply below_alloc | apply pw_below_drewN | apply below_drew1 | refine below_set ?_ (IsS342.ge HI0.out)) | exact HB.out),by repeat (first | (with_reducible first | exact HK.out | apply KeepBut.set_ | apply keep_drewN | apply keep_drew | apply keep_alloc) | exact HK.out)⟩
end
section
attribute [local go_sem] max2_int min2_int max_two min_two max_three min_three max_four min_four
def bits_Reader_Bad.f (s0_0:List Int) (s0_1:Int) (s0_2:Bool):Option (Bool×Int×Bool):=some (s0_2,s0_1,s0_2)
theorem bits_Reader_Bad.calls (g:Nat) (s0_0:List Int) (s0_1:Int) (s0_2:Bool) (r1:Bool) (r2:Int) (r3:Bool) (w0 w:World) (hI:IsS342 w0 w g s0_0 s0_1 s0_2) (hB:Below w0.heap.size w0 w) (h:bits_Reader_Bad.f s0_0 s0_1 s0_2=some (r1,r2,r3)) :
  Calls Tryz.prog 220 #[.pointer (some ⟨g,0,none⟩)] w fun e w'=>e = .returned (.bool r1)∧IsS342 w0 w' g s0_0 r2 r3∧Below w0.heap.size w0 w'∧KeepBut w w' g none:=by
 have HI0:=Aside0.mk hI
 have HK:=Aside0.mk (KeepBut.refl w g none)
 have HL:=Aside0.mk hB.size
 clear hI
 have HW0:=Aside0.mk hB.size
 have HB:=Aside0.mk hB
 clear hB
 have H:(some (s0_2,s0_1,s0_2))=some (r1,r2,r3):=h
 clear h
 simp only [Option.some.injEq,Prod.mk.injEq] at H
 obtain ⟨rfl,rfl,rfl⟩:=H
 obtain ⟨ASz2_0,cSz2_0,HGz2,hgz2,HSz2_0⟩:=HI0.out
 have hcz2_0:=cellS342_0 HGz2
 have hcz2_1:=cellS342_1 HGz2
 have hcz2_2:=cellS342_2 HGz2
 have hfz2_1:=blk_frozen HGz2 1
 have hfz2_2:=blk_frozen HGz2 2
 clear HGz2 hgz2
 go_enter Tryz.func220,Tryz.ntmps220
 go_wp2
 go_ret
 exact ⟨by first | rfl | (simp [errW_none,errW_some]<;>rfl) | (simp [*,errW_none,errW_some]<;>rfl),by repeat (first | (with_reducible first | exact HI0.out | apply IsS342.alloc | apply IsS342.drewN | apply IsS342.drew | apply IsS342.set_1 | apply IsS342.set_2) | exact HI0.out),by repeat (first | (with_reducible first | exact HB.out | apply below_alloc | apply pw_below_drewN | apply below_drew1 | refine below_set ?_ (IsS342.ge HI0.out)) | exact HB.out),by repeat (first | (with_reducible first | exact HK.out | apply KeepBut.set_ | apply keep_drewN | apply keep_drew | apply keep_alloc) | exact HK.out)⟩
end
end Go.Proofs.YtnhkikebfinejaaGreatDoor.X
namespace Go.Proofs.YtnhkikebfinejaaGreatDoor.W04
open Go Go.RowKit Go.Proofs.YtnhkikebfinejaaGreatDoorW.PrintWords Go.Proofs.YtnhkikebfinejaaGreatDoorW.PrintLast Go.Proofs.YtnhkikebfinejaaGreatDoorW.PrintMore Go.Proofs.YtnhkikebfinejaaGreatDoor.S Go.Proofs.YtnhkikebfinejaaGreatDoor.B Go.Proofs.YtnhkikebfinejaaGreatDoor.X
section
attribute [local go_sem] max2_int min2_int max_two min_two max_three min_three max_four min_four
theorem packB_small {l:List Int} (h:l.length<1000000000000):bytes_Clone.f (packB l)=some (packB l):=by
 unfold bytes_Clone.f
 rw [if_pos (by rw [packB_len];omega)]
def Gives (B:Nat) (xs:List Int) (w:World) (e:Ending) (w':World):Prop:=
 ∃ v0:Value,e = .returned v0∧Kd.R (Kd.int .u8) 5 w' B (fun _=>True) v0 xs∧Below w.heap.size w w'
theorem bytes_calls (g:Nat) (v:Value) (l:List Int) (w0 w:World) (hI:WAt w0 w g v l) (hl:l.length<1000000000000) :
  Calls Tryz.prog 193 #[.pointer (some ⟨g,0,none⟩)] w (Gives w.heap.size (packB l) w):=by
 obtain ⟨A,c,rfl,hc,hr⟩:=Kd.R_reads hI.2.2.1
 have hc0:=hI.cell0
 have HC:=Aside0.mk hc
 have HR:=Aside0.mk hr
 have HP:=Aside0.mk (packB_small hl)
 clear hI hc hr hl
 go_enter Tryz.func193,Tryz.ntmps193
 go_wp2_with (go_at_call 39;(with_reducible refine (bytes_Clone.calls _ _ (packB l) (packB l) _ HR.out HC.out HP.out).mono ?_);rintro e w1 ⟨v0,rfl,hR,hB⟩;have HRR:=Aside0.mk hR;have HBB:=Aside0.mk hB;clear hR hB)
 go_ret
 exact ⟨_,rfl,HRR.out,HBB.out⟩
def NewAt (l:List Int) (w:World) (e:Ending) (w':World):Prop:=
 ∃ (g:Nat) (w1:World),e = .returned (.pointer (some ⟨g,0,none⟩))∧Below w.heap.size w w1∧IsS342 w1 w' g l 0 false∧Below w1.heap.size w1 w'
theorem new_calls (A0:Option Addr) (c0:Nat) (l:List Int) (w:World) (hr0:Kd.C (Kd.int .u8) w A0 l.length l) (hc0:l.length≤c0) (hl:l.length<140737488355328) :
  Calls Tryz.prog 217 #[.slice A0 l.length c0] w (NewAt l w):=by
 have HR:=Aside0.mk hr0
 have HC:=Aside0.mk hc0
 have HP:Aside0 (bytes_Clone.f l=some l):=⟨by unfold bytes_Clone.f;rw [if_pos hl]⟩
 clear hr0 hc0 hl
 go_enter Tryz.func217,Tryz.ntmps217
 go_wp2_with (go_at_call 39;(with_reducible refine (bytes_Clone.calls _ _ l l _ HR.out HC.out HP.out).mono ?_);rintro e w1 ⟨v0,rfl,hR,hB⟩;obtain ⟨A1,c1,rfl,hc1,hr1⟩:=Kd.R_reads hR;have HRR:=Aside0.mk hr1;have HBB:=Aside0.mk hB;clear hR hB hc1 hr1)
 go_ret
 exact ⟨_,w1,rfl,HBB.out,IsS342.new w1 w1 A1 c1 l 0 false (Below.refl _ _) HRR.out,(Below.refl _ _).alloc (Nat.le_refl _) _⟩
end
theorem wat_new (w0 W:World) (hB:Below w0.heap.size w0 W):WAt w0 (W.alloc (.cells #[.slice none 0 0,.int .i64 0] 289)) W.heap.size (.slice none 0 0) []:=
 ⟨by simpa using heap_alloc_new W _,hB.size,Kd.R_nil _ _ _ _ _,Bits.nil⟩
end Go.Proofs.YtnhkikebfinejaaGreatDoor.W04
