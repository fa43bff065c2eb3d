/- Texts of this claim, laid together. No conditions. -/
import Derived.Test.YtnhkikebfinejaaGreatDoorMRickMany3
import Derived.Test.YtnhkikebfinejaaGreatDoorMRickMany6
import Derived.Test.YtnhkikebfinejaaGreatDoorMRickMany1
import Derived.Deep.MidRow
import Derived.Deep.RegionHeld3
set_option linter.unusedVariables false
set_option linter.unusedSimpArgs false
set_option maxRecDepth 100000
set_option maxHeartbeats 16000000
namespace Go.Proofs.YtnhkikebfinejaaGreatDoor.X
open Go.RowKit Go.Proofs.YtnhkikebfinejaaGreatDoorW.PrintWords Go.Proofs.YtnhkikebfinejaaGreatDoorW.PrintLast Go.Proofs.YtnhkikebfinejaaGreatDoorW.PrintMore
section
attribute [local go_sem] max2_int min2_int max_two min_two max_three min_three max_four min_four
def super_right.j0:Nat→Bool→Int→Int→Int→Int→Int→Option (Bool)
 | 0,_,_,_,_,_,_=>none
 | k+1,x23,x119000,x119001,x119002,x119003,x119004=>if x23=true then (some false) else (if x119002=0 then (some (x119001 == 0)) else (if x119002 > 0 then (if x119002≤5 then ((super_within.f x119001 x119004).bind fun t120=>(if t120=true then (some (x119001 != x119003)) else (some false))) else (some false)) else (some false)))
def super_right.f (k:Nat) (a0_0:Int) (a0_1:Int) (a0_2:Int) (a0_3:Int) (a0_4:Int):Option (Bool):=if a0_0=0 then (super_right.j0 k true a0_0 a0_1 a0_2 a0_3 a0_4) else (if a0_4<8 then (super_right.j0 k true a0_0 a0_1 a0_2 a0_3 a0_4) else (if a0_4 > 512 then (super_right.j0 k true a0_0 a0_1 a0_2 a0_3 a0_4) else ((super_within.f a0_3 a0_4).bind fun t119=>(super_right.j0 k (!t119) a0_0 a0_1 a0_2 a0_3 a0_4))))
theorem super_right.mono_l:∀ k,(∀ y0 y1 y2 y3 y4 y5,LeO (super_right.j0 k y0 y1 y2 y3 y4 y5) (super_right.j0 (k+1) y0 y1 y2 y3 y4 y5))
 | 0=>fun _ _ _ _ _ _ r h=>by simp [super_right.j0] at h
 | k+1=>by
  have ih0:=super_right.mono_l k
  ·intro y0 y1 y2 y3 y4 y5
   unfold super_right.j0
   repeat' first
   | (with_reducible exact ih0 _ _ _ _ _ _)
   | (with_reducible exact LeO.refl _)
   | (with_reducible exact LeO.none _)
   | (with_reducible refine LeO.ite ?_ ?_)
   | (with_reducible refine LeO.bind ?_ (fun _=>?_))
   | exact ih0 _ _ _ _ _ _
   | exact LeO.none _
   | refine LeO.ite ?_ ?_
   | refine LeO.bind ?_ (fun _=>?_)
theorem super_right.mono:∀ a0 a1 a2 a3 a4 k,LeO (super_right.f k a0 a1 a2 a3 a4) (super_right.f (k+1) a0 a1 a2 a3 a4):=by
 intro a0 a1 a2 a3 a4 k
 have ih0:=super_right.mono_l k
 unfold super_right.f
 repeat' first
   | (with_reducible exact ih0 _ _ _ _ _ _)
   | (with_reducible exact LeO.refl _)
   | (with_reducible exact LeO.none _)
   | (with_reducible refine LeO.ite ?_ ?_)
   | (with_reducible refine LeO.bind ?_ (fun _=>?_))
   | exact ih0 _ _ _ _ _ _
   | exact LeO.none _
   | refine LeO.ite ?_ ?_
   | refine LeO.bind ?_ (fun _=>?_)
theorem super_right.calls (k:Nat) (a0_0:Int) (a0_1:Int) (a0_2:Int) (a0_3:Int) (a0_4:Int) (r:Bool) (w:World) (h:super_right.f k a0_0 a0_1 a0_2 a0_3 a0_4=some r) :
  Calls Tryz.prog 140 #[.agg #[.int .u64 a0_0,.int .i64 a0_1,.int .i64 a0_2,.int .i64 a0_3,.int .i64 a0_4]] w fun e w'=>e = .returned (.bool r)∧Below w.heap.size w w':=by
 have hu98:=Tryz.underlying98
 have HB:=Aside0.mk (Below.refl w.heap.size w)
 have H:(if a0_0=0 then (super_right.j0 k true a0_0 a0_1 a0_2 a0_3 a0_4) else (if a0_4<8 then (super_right.j0 k true a0_0 a0_1 a0_2 a0_3 a0_4) else (if a0_4 > 512 then (super_right.j0 k true a0_0 a0_1 a0_2 a0_3 a0_4) else ((super_within.f a0_3 a0_4).bind fun t119=>(super_right.j0 k (!t119) a0_0 a0_1 a0_2 a0_3 a0_4)))))=some r:=h
 clear h
 have HC2:=Aside0.mk H
 clear H
 go_enter Tryz.func140,Tryz.ntmps140
 go_upto_region 1 with (first | ((with_reducible refine gate_dst (N:=1) rfl ?_);refine box_event ?hg (N:=1) ?hd (cs:=#[.int .u64 a0_0,.int .i64 a0_1,.int .i64 a0_2,.int .i64 a0_3,.int .i64 a0_4]) (t:=98) ?hr ?_;(case hd=>rfl);(case hg=>rfl);(case hr=>first | (go_simp;done) | (go_simp;rfl));intro gb118 hg w3 hbox hb;have n0_:=Aside0.mk (below_step (by repeat (first | (with_reducible first | exact HB.out | apply below_alloc | apply pw_below_drewN | apply below_drew1) | exact HB.out)) hb);have n1_:=Aside0.mk (hbox);have n2_:=Aside0.mk ((by rw [hg];exact (below_size (by repeat (first | (with_reducible first | exact HB.out | apply below_alloc | apply pw_below_drewN | apply below_drew1) | exact HB.out))):w.heap.size≤gb118));have n3_:=Aside0.mk ((by rw [hg];exact (below_size (by repeat (first | (with_reducible first | exact HB.out | apply below_alloc | apply pw_below_drewN | apply below_drew1) | exact HB.out))):w.heap.size≤gb118));clear HB;have HB:=n0_;have BK118:=n1_;have GW118:=n2_;have GE118:=n3_;clear n0_ n1_ n2_ n3_;clear hb hbox hg))
 (try simp only [Act.put,List.setIfInBounds_toArray,List.set_cons_zero,List.set_cons_succ])
 go_cut [23] (fun v23 wc=>∃ (kq:Nat) (x23_1:Bool),v23 = .bool x23_1∧Aside0 (super_right.j0 kq x23_1 a0_0 a0_1 a0_2 a0_3 a0_4=some r)∧Aside0 (kq≤k)∧Aside0 (wc.heap[gb118]?=some (.cells #[.int .u64 a0_0,.int .i64 a0_1,.int .i64 a0_2,.int .i64 a0_3,.int .i64 a0_4] 98 (0,0)))∧Aside0 (Below w.heap.size w wc))
 case first=>
  have H:=HC2.out
  clear HC2
  by_cases c4:a0_0=0
  ·rw [if_pos c4] at H
   have c4b0:(a0_0 == 0)=true:=beq_iff_eq.mpr c4
   have c4b1:(a0_0 != 0)=false:=bne_eq_false_iff_eq.mpr c4
   clear c4
   (first | rw [c4b0] | (simp only [i64_w,i32_w];rw [c4b0]) | skip)
   have H':=Aside0.mk H
   clear H
   have hcz5_0:w3.cell? ⟨gb118,0,none⟩=some (.int .u64 a0_0):=(blk_cell BK118.out 0).trans rfl
   have hcz5_1:w3.cell? ⟨gb118,1,none⟩=some (.int .i64 a0_1):=(blk_cell BK118.out 1).trans rfl
   have hcz5_2:w3.cell? ⟨gb118,2,none⟩=some (.int .i64 a0_2):=(blk_cell BK118.out 2).trans rfl
   have hcz5_3:w3.cell? ⟨gb118,3,none⟩=some (.int .i64 a0_3):=(blk_cell BK118.out 3).trans rfl
   have hcz5_4:w3.cell? ⟨gb118,4,none⟩=some (.int .i64 a0_4):=(blk_cell BK118.out 4).trans rfl
   have hfz5_0:=blk_frozen BK118.out 0
   have hfz5_1:=blk_frozen BK118.out 1
   have hfz5_2:=blk_frozen BK118.out 2
   have hfz5_3:=blk_frozen BK118.out 3
   have hfz5_4:=blk_frozen BK118.out 4
   go_wp2
   go_meet
   case rel=>exact ⟨_,(true),(by first | rfl | (simp;done) | (simp [*];done)),H',⟨by first | omega | exact Nat.le_refl _⟩,⟨by (with_reducible repeat (first | refine blk_drewN ?_ _ | refine blk_drew ?_ | refine blk_alloc ?_ _));exact BK118.out⟩,⟨by repeat (first | (with_reducible first | exact HB.out | apply below_alloc | apply pw_below_drewN | apply below_drew1 | refine below_set ?_ GE118.out) | exact HB.out)⟩⟩
  ·rw [if_neg c4] at H
   have c4b0:(a0_0 == 0)=false:=beq_eq_false_iff_ne.mpr c4
   have c4b1:(a0_0 != 0)=true:=bne_iff_ne.mpr c4
   (first | rw [c4b0] | (simp only [i64_w,i32_w];rw [c4b0]) | skip)
   by_cases c6:a0_4<8
   ·rw [if_pos c6] at H
    have c6b0:decide (a0_4<8)=true:=decide_eq_true c6
    clear c6
    have H':=Aside0.mk H
    clear H
    have hcz7_0:w3.cell? ⟨gb118,0,none⟩=some (.int .u64 a0_0):=(blk_cell BK118.out 0).trans rfl
    have hcz7_1:w3.cell? ⟨gb118,1,none⟩=some (.int .i64 a0_1):=(blk_cell BK118.out 1).trans rfl
    have hcz7_2:w3.cell? ⟨gb118,2,none⟩=some (.int .i64 a0_2):=(blk_cell BK118.out 2).trans rfl
    have hcz7_3:w3.cell? ⟨gb118,3,none⟩=some (.int .i64 a0_3):=(blk_cell BK118.out 3).trans rfl
    have hcz7_4:w3.cell? ⟨gb118,4,none⟩=some (.int .i64 a0_4):=(blk_cell BK118.out 4).trans rfl
    have hfz7_0:=blk_frozen BK118.out 0
    have hfz7_1:=blk_frozen BK118.out 1
    have hfz7_2:=blk_frozen BK118.out 2
    have hfz7_3:=blk_frozen BK118.out 3
    have hfz7_4:=blk_frozen BK118.out 4
    go_wp2
    go_meet
    case rel=>exact ⟨_,(true),(by first | rfl | (simp;done) | (simp [*];done)),H',⟨by first | omega | exact Nat.le_refl _⟩,⟨by (with_reducible repeat (first | refine blk_drewN ?_ _ | refine blk_drew ?_ | refine blk_alloc ?_ _));exact BK118.out⟩,⟨by repeat (first | (with_reducible first | exact HB.out | apply below_alloc | apply pw_below_drewN | apply below_drew1 | refine below_set ?_ GE118.out) | exact HB.out)⟩⟩
   ·rw [if_neg c6] at H
    have c6b0:decide (a0_4<8)=false:=decide_eq_false c6
    clear c6
    by_cases c8:a0_4 > 512
    ·rw [if_pos c8] at H
     have c8b0:decide (512<a0_4)=true:=decide_eq_true c8
     clear c8
     have H':=Aside0.mk H
     clear H
     have hcz9_0:w3.cell? ⟨gb118,0,none⟩=some (.int .u64 a0_0):=(blk_cell BK118.out 0).trans rfl
     have hcz9_1:w3.cell? ⟨gb118,1,none⟩=some (.int .i64 a0_1):=(blk_cell BK118.out 1).trans rfl
     have hcz9_2:w3.cell? ⟨gb118,2,none⟩=some (.int .i64 a0_2):=(blk_cell BK118.out 2).trans rfl
     have hcz9_3:w3.cell? ⟨gb118,3,none⟩=some (.int .i64 a0_3):=(blk_cell BK118.out 3).trans rfl
     have hcz9_4:w3.cell? ⟨gb118,4,none⟩=some (.int .i64 a0_4):=(blk_cell BK118.out 4).trans rfl
     have hfz9_0:=blk_frozen BK118.out 0
     have hfz9_1:=blk_frozen BK118.out 1
     have hfz9_2:=blk_frozen BK118.out 2
     have hfz9_3:=blk_frozen BK118.out 3
     have hfz9_4:=blk_frozen BK118.out 4
     go_wp2
     go_meet
     case rel=>exact ⟨_,(true),(by first | rfl | (simp;done) | (simp [*];done)),H',⟨by first | omega | exact Nat.le_refl _⟩,⟨by (with_reducible repeat (first | refine blk_drewN ?_ _ | refine blk_drew ?_ | refine blk_alloc ?_ _));exact BK118.out⟩,⟨by repeat (first | (with_reducible first | exact HB.out | apply below_alloc | apply pw_below_drewN | apply below_drew1 | refine below_set ?_ GE118.out) | exact HB.out)⟩⟩
    ·rw [if_neg c8] at H
     have c8b0:decide (512<a0_4)=false:=decide_eq_false c8
     clear c8
     replace H:=Option.bind_eq_some_iff.mp H
     obtain ⟨t119,A100,H⟩:=H
     replace H:(super_right.j0 k (!t119) a0_0 a0_1 a0_2 a0_3 a0_4)=some r:=H
     have A10:=Aside0.mk A100
     clear A100
     have H':=Aside0.mk H
     clear H
     have hcz11_0:w3.cell? ⟨gb118,0,none⟩=some (.int .u64 a0_0):=(blk_cell BK118.out 0).trans rfl
     have hcz11_1:w3.cell? ⟨gb118,1,none⟩=some (.int .i64 a0_1):=(blk_cell BK118.out 1).trans rfl
     have hcz11_2:w3.cell? ⟨gb118,2,none⟩=some (.int .i64 a0_2):=(blk_cell BK118.out 2).trans rfl
     have hcz11_3:w3.cell? ⟨gb118,3,none⟩=some (.int .i64 a0_3):=(blk_cell BK118.out 3).trans rfl
     have hcz11_4:w3.cell? ⟨gb118,4,none⟩=some (.int .i64 a0_4):=(blk_cell BK118.out 4).trans rfl
     have hfz11_0:=blk_frozen BK118.out 0
     have hfz11_1:=blk_frozen BK118.out 1
     have hfz11_2:=blk_frozen BK118.out 2
     have hfz11_3:=blk_frozen BK118.out 3
     have hfz11_4:=blk_frozen BK118.out 4
     go_wp2_with (first | (go_at_call 190;(with_reducible refine (super_within.calls a0_3 a0_4 t119 _ A10.out).mono ?_);rintro e w' ⟨rfl,⟨nd,rfl⟩⟩))
     go_meet
     case rel=>exact ⟨_,(!t119),(by first | rfl | (simp;done) | (simp [*];done)),H',⟨by first | omega | exact Nat.le_refl _⟩,⟨by (with_reducible repeat (first | refine blk_drewN ?_ _ | refine blk_drew ?_ | refine blk_alloc ?_ _));exact BK118.out⟩,⟨by repeat (first | (with_reducible first | exact HB.out | apply below_alloc | apply pw_below_drewN | apply below_drew1 | refine below_set ?_ GE118.out) | exact HB.out)⟩⟩
 case rest=>
  clear HC2
  try clear c1
  try clear p2
  try clear c4
  try clear c4b0
  try clear c4b1
  try clear c6
  try clear c6b0
  try clear c8
  try clear c8b0
  try clear hcz11_0
  try clear hcz11_1
  try clear hcz11_2
  try clear hcz11_3
  try clear hcz11_4
  try clear hcz5_0
  try clear hcz5_1
  try clear hcz5_2
  try clear hcz5_3
  try clear hcz5_4
  try clear hcz7_0
  try clear hcz7_1
  try clear hcz7_2
  try clear hcz7_3
  try clear hcz7_4
  try clear hcz9_0
  try clear hcz9_1
  try clear hcz9_2
  try clear hcz9_3
  try clear hcz9_4
  try clear hfz11_0
  try clear hfz11_1
  try clear hfz11_2
  try clear hfz11_3
  try clear hfz11_4
  try clear hfz5_0
  try clear hfz5_1
  try clear hfz5_2
  try clear hfz5_3
  try clear hfz5_4
  try clear hfz7_0
  try clear hfz7_1
  try clear hfz7_2
  try clear hfz7_3
  try clear hfz7_4
  try clear hfz9_0
  try clear hfz9_1
  try clear hfz9_2
  try clear hfz9_3
  try clear hfz9_4
  obtain ⟨kq,x23_1,rfl,HA,HJ1,BK118,HB⟩:=hcut
  cases kq with
  | zero=>exact absurd HA.out (by simp [super_right.j0])
  | succ kj1=>
   have H:=HA.out
   clear HA
   simp only [super_right.j0] at H
   by_cases c12:x23_1=true
   ·subst c12
    have H1:(some false)=some r:=by rw [if_pos rfl] at H;exact H
    clear H
    have H:=H1
    clear H1
    obtain rfl:=Option.some.inj H
    go_wp2
    go_ret
    exact ⟨by first | rfl | (simp [errW_none,errW_some]<;>rfl) | (simp [*,errW_none,errW_some]<;>rfl),by repeat (first | (with_reducible first | exact HB.out | apply below_alloc | apply pw_below_drewN | apply below_drew1 | refine below_set ?_ GE118.out) | exact HB.out)⟩
   ·replace c12:=Bool.eq_false_iff.mpr c12
    subst c12
    have H1:(if a0_2=0 then (some (a0_1 == 0)) else (if a0_2 > 0 then (if a0_2≤5 then ((super_within.f a0_1 a0_4).bind fun t120=>(if t120=true then (some (a0_1 != a0_3)) else (some false))) else (some false)) else (some false)))=some r:=by rw [if_neg (show ¬ (false=true) by decide)] at H;exact H
    clear H
    have H:=H1
    clear H1
    by_cases c13:a0_2=0
    ·rw [if_pos c13] at H
     have c13b0:(a0_2 == 0)=true:=beq_iff_eq.mpr c13
     have c13b1:(a0_2 != 0)=false:=bne_eq_false_iff_eq.mpr c13
     clear c13
     obtain rfl:=Option.some.inj H
     have hcz14_0:wc.cell? ⟨gb118,0,none⟩=some (.int .u64 a0_0):=(blk_cell BK118.out 0).trans rfl
     have hcz14_1:wc.cell? ⟨gb118,1,none⟩=some (.int .i64 a0_1):=(blk_cell BK118.out 1).trans rfl
     have hcz14_2:wc.cell? ⟨gb118,2,none⟩=some (.int .i64 a0_2):=(blk_cell BK118.out 2).trans rfl
     have hcz14_3:wc.cell? ⟨gb118,3,none⟩=some (.int .i64 a0_3):=(blk_cell BK118.out 3).trans rfl
     have hcz14_4:wc.cell? ⟨gb118,4,none⟩=some (.int .i64 a0_4):=(blk_cell BK118.out 4).trans rfl
     have hfz14_0:=blk_frozen BK118.out 0
     have hfz14_1:=blk_frozen BK118.out 1
     have hfz14_2:=blk_frozen BK118.out 2
     have hfz14_3:=blk_frozen BK118.out 3
     have hfz14_4:=blk_frozen BK118.out 4
     go_wp2
     go_ret
     exact ⟨by first | rfl | (simp [errW_none,errW_some]<;>rfl) | (simp [*,errW_none,errW_some]<;>rfl),by repeat (first | (with_reducible first | exact HB.out | apply below_alloc | apply pw_below_drewN | apply below_drew1 | refine below_set ?_ GE118.out) | exact HB.out)⟩
    ·rw [if_neg c13] at H
     have c13b0:(a0_2 == 0)=false:=beq_eq_false_iff_ne.mpr c13
     have c13b1:(a0_2 != 0)=true:=bne_iff_ne.mpr c13
     by_cases c15:a0_2 > 0
     ·rw [if_pos c15] at H
      have c15b0:decide (0<a0_2)=true:=decide_eq_true c15
      clear c15
      by_cases c16:a0_2≤5
      ·rw [if_pos c16] at H
       have c16b0:decide (a0_2≤5)=true:=decide_eq_true c16
       clear c16
       replace H:=Option.bind_eq_some_iff.mp H
       obtain ⟨t120,A170,H⟩:=H
       replace H:(if t120=true then (some (a0_1 != a0_3)) else (some false))=some r:=H
       have A17:=Aside0.mk A170
       clear A170
       by_cases c18:t120=true
       ·subst c18
        have H1:(some (a0_1 != a0_3))=some r:=by rw [if_pos rfl] at H;exact H
        clear H
        have H:=H1
        clear H1
        obtain rfl:=Option.some.inj H
        have hcz19_0:wc.cell? ⟨gb118,0,none⟩=some (.int .u64 a0_0):=(blk_cell BK118.out 0).trans rfl
        have hcz19_1:wc.cell? ⟨gb118,1,none⟩=some (.int .i64 a0_1):=(blk_cell BK118.out 1).trans rfl
        have hcz19_2:wc.cell? ⟨gb118,2,none⟩=some (.int .i64 a0_2):=(blk_cell BK118.out 2).trans rfl
        have hcz19_3:wc.cell? ⟨gb118,3,none⟩=some (.int .i64 a0_3):=(blk_cell BK118.out 3).trans rfl
        have hcz19_4:wc.cell? ⟨gb118,4,none⟩=some (.int .i64 a0_4):=(blk_cell BK118.out 4).trans rfl
        have hfz19_0:=blk_frozen BK118.out 0
        have hfz19_1:=blk_frozen BK118.out 1
        have hfz19_2:=blk_frozen BK118.out 2
        have hfz19_3:=blk_frozen BK118.out 3
        have hfz19_4:=blk_frozen BK118.out 4
        go_wp2_with (first | (go_at_call 190;(with_reducible refine (super_within.calls a0_1 a0_4 true _ A17.out).mono ?_);rintro e w' ⟨rfl,⟨nd,rfl⟩⟩))
        go_ret
        exact ⟨by first | rfl | (simp [errW_none,errW_some]<;>rfl) | (simp [*,errW_none,errW_some]<;>rfl),by repeat (first | (with_reducible first | exact HB.out | apply below_alloc | apply pw_below_drewN | apply below_drew1 | refine below_set ?_ GE118.out) | exact HB.out)⟩
       ·replace c18:=Bool.eq_false_iff.mpr c18
        subst c18
        have H1:(some false)=some r:=by rw [if_neg (show ¬ (false=true) by decide)] at H;exact H
        clear H
        have H:=H1
        clear H1
        obtain rfl:=Option.some.inj H
        have hcz20_0:wc.cell? ⟨gb118,0,none⟩=some (.int .u64 a0_0):=(blk_cell BK118.out 0).trans rfl
        have hcz20_1:wc.cell? ⟨gb118,1,none⟩=some (.int .i64 a0_1):=(blk_cell BK118.out 1).trans rfl
        have hcz20_2:wc.cell? ⟨gb118,2,none⟩=some (.int .i64 a0_2):=(blk_cell BK118.out 2).trans rfl
        have hcz20_3:wc.cell? ⟨gb118,3,none⟩=some (.int .i64 a0_3):=(blk_cell BK118.out 3).trans rfl
        have hcz20_4:wc.cell? ⟨gb118,4,none⟩=some (.int .i64 a0_4):=(blk_cell BK118.out 4).trans rfl
        have hfz20_0:=blk_frozen BK118.out 0
        have hfz20_1:=blk_frozen BK118.out 1
        have hfz20_2:=blk_frozen BK118.out 2
        have hfz20_3:=blk_frozen BK118.out 3
        have hfz20_4:=blk_frozen BK118.out 4
        go_wp2_with (first | (go_at_call 190;(with_reducible refine (super_within.calls a0_1 a0_4 false _ A17.out).mono ?_);rintro e w' ⟨rfl,⟨nd,rfl⟩⟩))
        go_ret
        exact ⟨by first | rfl | (simp [errW_none,errW_some]<;>rfl) | (simp [*,errW_none,errW_some]<;>rfl),by repeat (first | (with_reducible first | exact HB.out | apply below_alloc | apply pw_below_drewN | apply below_drew1 | refine below_set ?_ GE118.out) | exact HB.out)⟩
      ·rw [if_neg c16] at H
       have c16b0:decide (a0_2≤5)=false:=decide_eq_false c16
       clear c16
       obtain rfl:=Option.some.inj H
       have hcz21_0:wc.cell? ⟨gb118,0,none⟩=some (.int .u64 a0_0):=(blk_cell BK118.out 0).trans rfl
       have hcz21_1:wc.cell? ⟨gb118,1,none⟩=some (.int .i64 a0_1):=(blk_cell BK118.out 1).trans rfl
       have hcz21_2:wc.cell? ⟨gb118,2,none⟩=some (.int .i64 a0_2):=(blk_cell BK118.out 2).trans rfl
       have hcz21_3:wc.cell? ⟨gb118,3,none⟩=some (.int .i64 a0_3):=(blk_cell BK118.out 3).trans rfl
       have hcz21_4:wc.cell? ⟨gb118,4,none⟩=some (.int .i64 a0_4):=(blk_cell BK118.out 4).trans rfl
       have hfz21_0:=blk_frozen BK118.out 0
       have hfz21_1:=blk_frozen BK118.out 1
       have hfz21_2:=blk_frozen BK118.out 2
       have hfz21_3:=blk_frozen BK118.out 3
       have hfz21_4:=blk_frozen BK118.out 4
       go_wp2
       go_ret
       exact ⟨by first | rfl | (simp [errW_none,errW_some]<;>rfl) | (simp [*,errW_none,errW_some]<;>rfl),by repeat (first | (with_reducible first | exact HB.out | apply below_alloc | apply pw_below_drewN | apply below_drew1 | refine below_set ?_ GE118.out) | exact HB.out)⟩
     ·rw [if_neg c15] at H
      have c15b0:decide (0<a0_2)=false:=decide_eq_false c15
      clear c15
      obtain rfl:=Option.some.inj H
      have hcz22_0:wc.cell? ⟨gb118,0,none⟩=some (.int .u64 a0_0):=(blk_cell BK118.out 0).trans rfl
      have hcz22_1:wc.cell? ⟨gb118,1,none⟩=some (.int .i64 a0_1):=(blk_cell BK118.out 1).trans rfl
      have hcz22_2:wc.cell? ⟨gb118,2,none⟩=some (.int .i64 a0_2):=(blk_cell BK118.out 2).trans rfl
      have hcz22_3:wc.cell? ⟨gb118,3,none⟩=some (.int .i64 a0_3):=(blk_cell BK118.out 3).trans rfl
      have hcz22_4:wc.cell? ⟨gb118,4,none⟩=some (.int .i64 a0_4):=(blk_cell BK118.out 4).trans rfl
      have hfz22_0:=blk_frozen BK118.out 0
      have hfz22_1:=blk_frozen BK118.out 1
      have hfz22_2:=blk_frozen BK118.out 2
      have hfz22_3:=blk_frozen BK118.out 3
      have hfz22_4:=blk_frozen BK118.out 4
      go_wp2
      go_ret
      exact ⟨by first | rfl | (simp [errW_none,errW_some]<;>rfl) | (simp [*,errW_none,errW_some]<;>rfl),by repeat (first | (with_reducible first | exact HB.out | apply below_alloc | apply pw_below_drewN | apply below_drew1 | refine below_set ?_ GE118.out) | exact HB.out)⟩
end
section
attribute [local go_sem] max2_int min2_int max_two min_two max_three min_three max_four min_four
def super_Put.f (k:Nat) (a0_0:Int) (a0_1:Int) (a0_2:Int) (a0_3:Int) (a0_4:Int):Option (List Int×Int):=(super_right.f k a0_0 a0_1 a0_2 a0_3 a0_4).bind fun t125=>(if t125=true then ((super_big.f k ([]:List Int) a0_0 8).bind fun t126=>((super_big.f k t126 (IntKind.u64.wrap (a0_1)) 2).bind fun t129=>(if t129.length<140737488355328 then ((super_big.f k (t129++[(a0_2) % 256]) (IntKind.u64.wrap (a0_3)) 2).bind fun t135=>((super_big.f k t135 (IntKind.u64.wrap (a0_4)) 2).bind fun t138=>(some (t138,0)))) else (none)))) else (some (([]:List Int),1)))
theorem super_Put.mono:∀ a0 a1 a2 a3 a4 k,LeO (super_Put.f k a0 a1 a2 a3 a4) (super_Put.f (k+1) a0 a1 a2 a3 a4):=by
 intro a0 a1 a2 a3 a4 k
 unfold super_Put.f
 repeat' first
   | (with_reducible exact super_big.mono _ _ _ _)
   | (with_reducible exact super_right.mono _ _ _ _ _ _)
   | (with_reducible exact LeO.refl _)
   | (with_reducible exact LeO.none _)
   | (with_reducible refine LeO.ite ?_ ?_)
   | (with_reducible refine LeO.bind ?_ (fun _=>?_))
   | exact super_big.mono _ _ _ _
   | exact super_right.mono _ _ _ _ _ _
   | exact LeO.none _
   | refine LeO.ite ?_ ?_
   | refine LeO.bind ?_ (fun _=>?_)
def super_Put.T3:Bool×List (List Nat×List Nat):=(true,[([],[]),([0],[0]),([1],[1]),([],[]),([3],[3]),([4],[4]),([5],[5]),([2,6,2],[2,6]),([7,7,0,1,2,3,4,5,6,7],[7])])
def super_Put.B3:List Nat:=[0,1,3,0,8,24,56,127,255]
theorem super_Put.tab3:rtab .any (opsOf Tryz.f99 3)=super_Put.T3:=by kernel_rfl
theorem super_Put.bits3:waitsOk super_Put.T3.2 super_Put.B3=true:=by kernel_rfl
def super_Put.T5:Bool×List (List Nat×List Nat):=(true,[([],[]),([],[]),([1],[1]),([2],[2]),([0,3],[0,3]),([],[]),([5],[5]),([6],[6]),([4,7,4],[4,7]),([8,8,0,1,2,3,4,5,6,7,8],[8]),([9,0,1,2,3,4,5,6,7,8,9],[])])
def super_Put.B5:List Nat:=[0,0,2,6,15,0,32,96,255,511,1023]
theorem super_Put.tab5:rtab .any (opsOf Tryz.f99 5)=super_Put.T5:=by kernel_rfl
theorem super_Put.bits5:waitsOk super_Put.T5.2 super_Put.B5=true:=by kernel_rfl
theorem super_Put.calls (k:Nat) (a0_0:Int) (a0_1:Int) (a0_2:Int) (a0_3:Int) (a0_4:Int) (r1:List Int) (r2:Int) (w:World) (h:super_Put.f k a0_0 a0_1 a0_2 a0_3 a0_4=some (r1,r2)) :
  Calls Tryz.prog 99 #[.agg #[.int .u64 a0_0,.int .i64 a0_1,.int .i64 a0_2,.int .i64 a0_3,.int .i64 a0_4]] w fun e w'=>∃ v0_:Value,e = .returned (.tuple #[v0_,.int .i64 r2])∧Kd.R (Kd.int .u8) 5 w' w.heap.size (fun _=>True) v0_ r1∧Below w.heap.size w w':=by
 have hu98:=Tryz.underlying98
 have HB:=Aside0.mk (Below.refl w.heap.size w)
 have H:((super_right.f k a0_0 a0_1 a0_2 a0_3 a0_4).bind fun t125=>(if t125=true then ((super_big.f k ([]:List Int) a0_0 8).bind fun t126=>((super_big.f k t126 (IntKind.u64.wrap (a0_1)) 2).bind fun t129=>(if t129.length<140737488355328 then ((super_big.f k (t129++[(a0_2) % 256]) (IntKind.u64.wrap (a0_3)) 2).bind fun t135=>((super_big.f k t135 (IntKind.u64.wrap (a0_4)) 2).bind fun t138=>(some (t138,0)))) else (none)))) else (some (([]:List Int),1))))=some (r1,r2):=h
 clear h
 replace H:=Option.bind_eq_some_iff.mp H
 obtain ⟨t125,A20,H⟩:=H
 replace H:(if t125=true then ((super_big.f k ([]:List Int) a0_0 8).bind fun t126=>((super_big.f k t126 (IntKind.u64.wrap (a0_1)) 2).bind fun t129=>(if t129.length<140737488355328 then ((super_big.f k (t129++[(a0_2) % 256]) (IntKind.u64.wrap (a0_3)) 2).bind fun t135=>((super_big.f k t135 (IntKind.u64.wrap (a0_4)) 2).bind fun t138=>(some (t138,0)))) else (none)))) else (some (([]:List Int),1)))=some (r1,r2):=H
 have A2:=Aside0.mk A20
 clear A20
 by_cases c3:t125=true
 ·subst c3
  have H1:((super_big.f k ([]:List Int) a0_0 8).bind fun t126=>((super_big.f k t126 (IntKind.u64.wrap (a0_1)) 2).bind fun t129=>(if t129.length<140737488355328 then ((super_big.f k (t129++[(a0_2) % 256]) (IntKind.u64.wrap (a0_3)) 2).bind fun t135=>((super_big.f k t135 (IntKind.u64.wrap (a0_4)) 2).bind fun t138=>(some (t138,0)))) else (none))))=some (r1,r2):=by rw [if_pos rfl] at H;exact H
  clear H
  have H:=H1
  clear H1
  replace H:=Option.bind_eq_some_iff.mp H
  obtain ⟨t126,A40,H⟩:=H
  replace H:((super_big.f k t126 (IntKind.u64.wrap (a0_1)) 2).bind fun t129=>(if t129.length<140737488355328 then ((super_big.f k (t129++[(a0_2) % 256]) (IntKind.u64.wrap (a0_3)) 2).bind fun t135=>((super_big.f k t135 (IntKind.u64.wrap (a0_4)) 2).bind fun t138=>(some (t138,0)))) else (none)))=some (r1,r2):=H
  have A4:=Aside0.mk A40
  clear A40
  replace H:=Option.bind_eq_some_iff.mp H
  obtain ⟨t129,A50,H⟩:=H
  replace H:(if t129.length<140737488355328 then ((super_big.f k (t129++[(a0_2) % 256]) (IntKind.u64.wrap (a0_3)) 2).bind fun t135=>((super_big.f k t135 (IntKind.u64.wrap (a0_4)) 2).bind fun t138=>(some (t138,0)))) else (none))=some (r1,r2):=H
  have A5:=Aside0.mk A50
  clear A50
  by_cases c6:t129.length<140737488355328
  ·rw [if_pos c6] at H
   have LMc6:=Aside0.mk c6
   clear c6
   obtain ⟨y132,hy132⟩:∃ y_:List Int,y_=(t129++[(a0_2) % 256]):=⟨_,rfl⟩
   replace H:((super_big.f k y132 (IntKind.u64.wrap (a0_3)) 2).bind fun t135=>((super_big.f k t135 (IntKind.u64.wrap (a0_4)) 2).bind fun t138=>(some (t138,0))))=some (r1,r2):=by first | (rw [hy132];with_reducible exact H) | (have H2_:=(Option.bind_some _ _).symm.trans H;rw [hy132];with_reducible exact H2_) | (have H2_:=(Option.bind_some _ _).symm.trans H;with_reducible exact H2_) | with_reducible exact H | (rw [hy132];exact H) | exact H
   have Ny132:=Aside0.mk hy132
   clear hy132
   replace H:=Option.bind_eq_some_iff.mp H
   obtain ⟨t135,A70,H⟩:=H
   replace H:((super_big.f k t135 (IntKind.u64.wrap (a0_4)) 2).bind fun t138=>(some (t138,0)))=some (r1,r2):=H
   have A7:=Aside0.mk A70
   clear A70
   replace H:=Option.bind_eq_some_iff.mp H
   obtain ⟨t138,A80,H⟩:=H
   replace H:(some (t138,0))=some (r1,r2):=H
   have A8:=Aside0.mk A80
   clear A80
   simp only [Option.some.injEq,Prod.mk.injEq] at H
   obtain ⟨rfl,rfl⟩:=H
   go_enter Tryz.func99,Tryz.ntmps99
   try go_wp2_with (first | ((with_reducible refine gate_dst (N:=1) rfl ?_);refine box_event ?hg (N:=1) ?hd (cs:=#[.int .u64 a0_0,.int .i64 a0_1,.int .i64 a0_2,.int .i64 a0_3,.int .i64 a0_4]) (t:=98) ?hr ?_;(case hd=>rfl);(case hg=>rfl);(case hr=>first | (go_simp;done) | (go_simp;rfl));intro gb124 hg w9 hbox hb;have n0_:=Aside0.mk (below_step (by repeat (first | (with_reducible first | exact HB.out | apply below_alloc | apply pw_below_drewN | apply below_drew1) | exact HB.out)) hb);have n1_:=Aside0.mk (hbox);have n2_:=Aside0.mk ((by rw [hg];exact (below_size (by repeat (first | (with_reducible first | exact HB.out | apply below_alloc | apply pw_below_drewN | apply below_drew1) | exact HB.out))):w.heap.size≤gb124));have n3_:=Aside0.mk ((by rw [hg];exact (below_size (by repeat (first | (with_reducible first | exact HB.out | apply below_alloc | apply pw_below_drewN | apply below_drew1) | exact HB.out))):w.heap.size≤gb124));clear HB;have HB:=n0_;have BK124:=n1_;have GW124:=n2_;have GE124:=n3_;clear n0_ n1_ n2_ n3_;clear hb hbox hg;have hcz10_0:w9.cell? ⟨gb124,0,none⟩=some (.int .u64 a0_0):=(blk_cell BK124.out 0).trans rfl;have hcz10_1:w9.cell? ⟨gb124,1,none⟩=some (.int .i64 a0_1):=(blk_cell BK124.out 1).trans rfl;have hcz10_2:w9.cell? ⟨gb124,2,none⟩=some (.int .i64 a0_2):=(blk_cell BK124.out 2).trans rfl;have hcz10_3:w9.cell? ⟨gb124,3,none⟩=some (.int .i64 a0_3):=(blk_cell BK124.out 3).trans rfl;have hcz10_4:w9.cell? ⟨gb124,4,none⟩=some (.int .i64 a0_4):=(blk_cell BK124.out 4).trans rfl;have hfz10_0:=blk_frozen BK124.out 0;have hfz10_1:=blk_frozen BK124.out 1;have hfz10_2:=blk_frozen BK124.out 2;have hfz10_3:=blk_frozen BK124.out 3;have hfz10_4:=blk_frozen BK124.out 4) | ((with_reducible refine gate_callee (f:=140) rfl ?_);refine goesL_ (some 6) rfl rfl Tryz.func140 (by kernel_rfl) rfl #[.agg #[.int .u64 a0_0,.int .i64 a0_1,.int .i64 a0_2,.int .i64 a0_3,.int .i64 a0_4]] rfl (by (try simp only [List.map_toArray,List.map_cons,List.map_nil]);first | done | rfl | (simp only [List.length_drop,List.length_take];rfl)) ?_;(with_reducible refine (super_right.calls k a0_0 a0_1 a0_2 a0_3 a0_4 true _ A2.out).mono ?_);rintro e w11 ⟨rfl,hb⟩;refine ⟨_,rfl,?_⟩;have n0_:=Aside0.mk (blk_below (g:=gb124) (o:=.cells #[.int .u64 a0_0,.int .i64 a0_1,.int .i64 a0_2,.int .i64 a0_3,.int .i64 a0_4] 98 (0,0)) (by (with_reducible repeat (first | refine blk_drewN ?_ _ | refine blk_drew ?_ | refine blk_alloc ?_ _));exact BK124.out) hb);have n1_:=Aside0.mk (below_step (by repeat (first | (with_reducible first | exact HB.out | apply below_alloc | apply pw_below_drewN | apply below_drew1 | refine below_set ?_ GE124.out) | exact HB.out)) hb);clear BK124;clear HB;have BK124:=n0_;have HB:=n1_;clear n0_ n1_;(try clear hb);(try clear hb2);(try clear hk);(try clear hi)))
   have n0_:=Aside0.mk (blk_drew BK124.out)
   have n1_:=Aside0.mk (below_drew1 HB.out)
   clear BK124
   clear HB
   have BK124:=n0_
   have HB:=n1_
   clear n0_ n1_
   refine start_ (n:=9) (S:=fun w'=>w'.cell? ⟨gb124,0,none⟩=some (.int .u64 a0_0)∧w'.cell? ⟨gb124,1,none⟩=some (.int .i64 a0_1)∧w'.cell? ⟨gb124,2,none⟩=some (.int .i64 a0_2)∧w'.cell? ⟨gb124,3,none⟩=some (.int .i64 a0_3)∧w'.cell? ⟨gb124,4,none⟩=some (.int .i64 a0_4)) (ds:=[]) (fbB 9 0) (by kernel_rfl) rfl rfl ⟨(blk_cell BK124.out 0).trans rfl,(blk_cell BK124.out 1).trans rfl,(blk_cell BK124.out 2).trans rfl,(blk_cell BK124.out 3).trans rfl,(blk_cell BK124.out 4).trans rfl⟩ (fun hHeld=>?_);refine with_tabW super_Put.tab3 super_Put.bits3 (fun HT_ HW_=>?_)
   generalize w11.drew=w12 at BK124 HB hHeld ⊢
   refine pure_ (i:=0) (N:=some 8) (v:=?_) (a':=?_) (fbB 9 1) rfl rfl (any_of HT_.out (by kernel_rfl)) (fun _ _ _ h=>h) (Or.inl ⟨by rfl,?_⟩) ?_ ?_
   rotate_left
   ·intro w'
    go_simp
    with_reducible rfl
   rotate_left
   ·exact acR
   refine pure_ (i:=3) (N:=some 11) (v:=?_) (a':=?_) (fbB 9 9) rfl rfl (any_of HT_.out (by kernel_rfl)) (fun _ _ _ h=>h) (Or.inl ⟨by rfl,?_⟩) ?_ ?_
   rotate_left
   ·intro w'
    go_simp
    with_reducible rfl
   rotate_left
   ·exact acR
   refine pure_ (i:=4) (N:=some 12) (v:=?_) (a':=?_) (fbB 9 25) rfl rfl (any_of HT_.out (by kernel_rfl)) (fun _ _ _ h=>h) (Or.inl ⟨by rfl,?_⟩) ?_ ?_
   rotate_left
   ·intro w'
    go_simp
    with_reducible rfl
   rotate_left
   ·exact acR
   refine take_ (i:=1) (N:=some 9) (v:=?_) (a':=?_) (fbB 9 27) rfl rfl (take_ofW HT_.out HW_.out (by kernel_rfl)) (fun _ _ _ h=>h) (Or.inl ⟨by rfl,?_⟩) hHeld ?_ ?_
   rotate_left
   ·rintro w' ⟨s0,s1,s2,s3,s4⟩
    go_simp
    with_reducible rfl
   rotate_left
   ·exact acR
   refine take_ (i:=5) (N:=some 13) (v:=?_) (a':=?_) (fbB 9 59) rfl rfl (take_ofW HT_.out HW_.out (by kernel_rfl)) (fun _ _ _ h=>h) (Or.inl ⟨by rfl,?_⟩) hHeld ?_ ?_
   rotate_left
   ·rintro w' ⟨s0,s1,s2,s3,s4⟩
    go_simp
    with_reducible rfl
   rotate_left
   ·exact acR
   refine pure_ (i:=6) (N:=some 14) (v:=?_) (a':=?_) (fbB 9 123) rfl rfl (any_of HT_.out (by kernel_rfl)) (fun _ _ _ h=>h) (Or.inl ⟨by rfl,?_⟩) ?_ ?_
   rotate_left
   ·intro w'
    go_simp
    with_reducible rfl
   rotate_left
   ·exact acR
   refine one_ (i:=2) (N:=some 10) (fbB 9 127) rfl rfl (one_of HT_.out (by kernel_rfl)) (by decide) (fun K hK=>?_)
   refine goes_ Tryz.func141 (by kernel_rfl) rfl #[.slice none 0 0,.int .u64 a0_0,.int .i64 8] (by rfl) rfl rfl (by (try simp only [List.map_toArray,List.map_cons,List.map_nil]);first | done | rfl | (simp only [List.length_drop,List.length_take];rfl)) ?_
   refine (super_big.calls k (fun k_=>some k_=(.slice none 0 0:Value).ownBlock) (.slice none 0 0) ([]:List Int) a0_0 8 t126 w _ ?side1 ?side2 A4.out).mono ?_
   (case side1=>repeat (first | (with_reducible first | exact HB.out | apply below_alloc | apply pw_below_drewN | apply below_drew1 | refine below_set ?_ GE124.out) | exact HB.out))
   (case side2=>exact Kd.R_nil _ _ _ _ _)
   rintro e w13 ⟨v127,rfl,ho0,hb,hkp⟩
   refine ⟨_,rfl,?_⟩
   have n0_:=Aside0.mk (blk_kept (by (with_reducible repeat (first | refine blk_drewN ?_ _ | refine blk_drew ?_ | refine blk_alloc ?_ _));exact BK124.out) hkp (fun hs_=>(fun e_=>by simp [Value.ownBlock] at e_) hs_))
   have n1_:=Aside0.mk (Kd.R_mono (ok':=fun k_=>True) ho0 (fun k_ hk_=>trivial))
   have n2_:=Aside0.mk (hb)
   clear BK124
   clear HB
   have BK124:=n0_
   have HO128:=n1_
   have HB:=n2_
   clear n0_ n1_ n2_
   (try clear hb)
   (try clear hkp)
   (try clear ho0)
   obtain ⟨Ao14,co14,eo14⟩:=Kd.R_slice HO128.out
   (first | subst eo14 | (injection eo14 with f1_ f2_ f3_;have f4_:=f1_.symm;have f5_:=f3_.symm;clear f1_ f2_ f3_;subst f4_;subst f5_))
   refine hK.out _ _ ⟨(blk_cell BK124.out 0).trans rfl,(blk_cell BK124.out 1).trans rfl,(blk_cell BK124.out 2).trans rfl,(blk_cell BK124.out 3).trans rfl,(blk_cell BK124.out 4).trans rfl⟩ (fun hHeld=>?_)
   clear hK K
   refine norm_ (a':=?_) ?_ ?_
   rotate_left
   ·show Act.put _ (some 10) _=_
    simp only [Act.put,List.setIfInBounds_toArray,List.set_cons_zero,List.set_cons_succ,i64_w,i32_w]
    rfl
   refine one_ (i:=7) (N:=some 15) (fbB 9 255) rfl rfl (one_of HT_.out (by kernel_rfl)) (by decide) (fun K hK=>?_)
   refine goes_ Tryz.func141 (by kernel_rfl) rfl #[.slice Ao14 t126.length co14,.int .u64 (IntKind.u64.wrap (a0_1)),.int .i64 2] (by rfl) rfl rfl (by (try simp only [List.map_toArray,List.map_cons,List.map_nil]);first | done | rfl | (simp only [List.length_drop,List.length_take];rfl)) ?_
   with_reducible refine (super_big.calls k (fun k_=>some k_=(.slice Ao14 t126.length co14:Value).ownBlock) (.slice Ao14 t126.length co14) t126 (IntKind.u64.wrap (a0_1)) 2 t129 w _ ?side1 ?side2 A5.out).mono ?_
   (case side1=>repeat (first | (with_reducible first | exact HB.out | apply below_alloc | apply pw_below_drewN | apply below_drew1 | refine below_set ?_ GE124.out) | exact HB.out))
   (case side2=>exact Kd.R_tight rfl HO128.out)
   rintro e w15 ⟨v130,rfl,ho0,hb,hkp⟩
   refine ⟨_,rfl,?_⟩
   have n0_:=Aside0.mk (blk_kept (by (with_reducible repeat (first | refine blk_drewN ?_ _ | refine blk_drew ?_ | refine blk_alloc ?_ _));exact BK124.out) hkp (fun hs_=>(fun e_=>(Kd.R_ne HO128.out BK124.out (by decide)) e_) hs_))
   have n1_:=Aside0.mk (Kd.R_mono (ok':=fun k_=>True) ho0 (fun k_ hk_=>trivial))
   have n2_:=Aside0.mk (hb)
   clear BK124
   clear HB
   clear HO128
   have BK124:=n0_
   have HO131:=n1_
   have HB:=n2_
   clear n0_ n1_ n2_
   (try clear hb)
   (try clear hkp)
   (try clear ho0)
   refine hK.out _ _ ⟨(blk_cell BK124.out 0).trans rfl,(blk_cell BK124.out 1).trans rfl,(blk_cell BK124.out 2).trans rfl,(blk_cell BK124.out 3).trans rfl,(blk_cell BK124.out 4).trans rfl⟩ (fun hHeld=>?_)
   clear hK K
   refine norm_ (a':=?_) ?_ ?_
   rotate_left
   ·show Act.put _ (some 15) _=_
    simp only [Act.put,List.setIfInBounds_toArray,List.set_cons_zero,List.set_cons_succ,i64_w,i32_w]
    rfl
   refine pure_ (i:=8) (N:=some 4) (v:=?_) (a':=?_) (fbB 9 511) rfl rfl (any_of HT_.out (by kernel_rfl)) (fun _ _ _ h=>h) (Or.inl ⟨by rfl,?_⟩) ?_ ?_
   rotate_left
   ·intro w'
    go_simp
    with_reducible rfl
   rotate_left
   ·exact acR
   refine done_ (done_of HT_.out (by kernel_rfl)) ?_
   have hcz16_0:w15.cell? ⟨gb124,0,none⟩=some (.int .u64 a0_0):=(blk_cell BK124.out 0).trans rfl
   have hcz16_1:w15.cell? ⟨gb124,1,none⟩=some (.int .i64 a0_1):=(blk_cell BK124.out 1).trans rfl
   have hcz16_2:w15.cell? ⟨gb124,2,none⟩=some (.int .i64 a0_2):=(blk_cell BK124.out 2).trans rfl
   have hcz16_3:w15.cell? ⟨gb124,3,none⟩=some (.int .i64 a0_3):=(blk_cell BK124.out 3).trans rfl
   have hcz16_4:w15.cell? ⟨gb124,4,none⟩=some (.int .i64 a0_4):=(blk_cell BK124.out 4).trans rfl
   have hfz16_0:=blk_frozen BK124.out 0
   have hfz16_1:=blk_frozen BK124.out 1
   have hfz16_2:=blk_frozen BK124.out 2
   have hfz16_3:=blk_frozen BK124.out 3
   have hfz16_4:=blk_frozen BK124.out 4
   try go_wp2_with (first | ((with_reducible refine gate_builtin (b:=.append) (xs:=#[.tmp 16,.tmp 21]) rfl ?_);at_builtin;refine Kd.R_append (Kd.int .u8) (w0:=w) w.heap.size rfl (.tmp 16) (.tmp 21) 46 5 (.int .u8 0) 1 rfl Tryz.underlying46 info5 rfl (by decide) (by omega) v130 t129 ((a0_2) % 256) [.int .u8 ((a0_2) % 256)] (fun _=>True) (fun _=>False) rfl rfl ?aP (fun _ hk=>hk.elim) ?aF ?aO ?aB ?aS ?aL ?_;(case aP=>exact rfl);(case aB=>exact (by repeat (first | (with_reducible first | exact HB.out | apply below_alloc | apply pw_below_drewN | apply below_drew1 | refine below_set ?_ GE124.out) | exact HB.out)));(case aF=>exact (fun _ _=>trivial));(case aO=>exact (by (with_reducible repeat (first | apply Kd.R_alloc | apply Kd.R_drewN | apply Kd.R_drew));exact HO131.out));(case aS=>exact (below_size (by repeat (first | (with_reducible first | exact HB.out | apply below_alloc | apply pw_below_drewN | apply below_drew1 | refine below_set ?_ GE124.out) | exact HB.out))));(case aL=>have:=LMc6.out;omega);intro v133 w17 ho hb hg hat;rw [← Ny132.out] at ho;have n0_:=Aside0.mk (blk_grown (g:=gb124) (o:=.cells #[.int .u64 a0_0,.int .i64 a0_1,.int .i64 a0_2,.int .i64 a0_3,.int .i64 a0_4] 98 (0,0)) (by (with_reducible repeat (first | refine blk_drewN ?_ _ | refine blk_drew ?_ | refine blk_alloc ?_ _));exact BK124.out) hg (Kd.R_ne HO131.out BK124.out (by decide)));have n1_:=Aside0.mk (hb);have n2_:=Aside0.mk (ho);clear BK124;clear HB;clear HO131;have BK124:=n0_;have HB:=n1_;have HO134:=n2_;clear n0_ n1_ n2_;clear ho hb hg hat))
   have n0_:=Aside0.mk (Kd.R_drew HO134.out)
   have n1_:=Aside0.mk (blk_drew BK124.out)
   have n2_:=Aside0.mk (below_drew1 HB.out)
   clear HO134
   clear BK124
   clear HB
   have HO134:=n0_
   have BK124:=n1_
   have HB:=n2_
   clear n0_ n1_ n2_
   obtain ⟨Ao19,co19,eo19⟩:=Kd.R_slice HO134.out
   (first | subst eo19 | (injection eo19 with f1_ f2_ f3_;have f4_:=f1_.symm;have f5_:=f3_.symm;clear f1_ f2_ f3_;subst f4_;subst f5_))
   refine start_ (n:=11) (S:=fun w'=>w'.cell? ⟨gb124,0,none⟩=some (.int .u64 a0_0)∧w'.cell? ⟨gb124,1,none⟩=some (.int .i64 a0_1)∧w'.cell? ⟨gb124,2,none⟩=some (.int .i64 a0_2)∧w'.cell? ⟨gb124,3,none⟩=some (.int .i64 a0_3)∧w'.cell? ⟨gb124,4,none⟩=some (.int .i64 a0_4)) (ds:=[]) (fbB 11 0) (by kernel_rfl) rfl rfl ⟨(blk_cell BK124.out 0).trans rfl,(blk_cell BK124.out 1).trans rfl,(blk_cell BK124.out 2).trans rfl,(blk_cell BK124.out 3).trans rfl,(blk_cell BK124.out 4).trans rfl⟩ (fun hHeld=>?_);refine with_tabW super_Put.tab5 super_Put.bits5 (fun HT_ HW_=>?_)
   generalize w17.drew=w18 at HO134 BK124 HB hHeld ⊢
   refine pure_ (i:=0) (N:=some 23) (v:=?_) (a':=?_) (fbB 11 1) rfl rfl (any_of HT_.out (by kernel_rfl)) (fun _ _ _ h=>h) (Or.inl ⟨by rfl,?_⟩) ?_ ?_
   rotate_left
   ·intro w'
    go_simp
    with_reducible rfl
   rotate_left
   ·exact acR
   refine pure_ (i:=1) (N:=some 24) (v:=?_) (a':=?_) (fbB 11 3) rfl rfl (any_of HT_.out (by kernel_rfl)) (fun _ _ _ h=>h) (Or.inl ⟨by rfl,?_⟩) ?_ ?_
   rotate_left
   ·intro w'
    go_simp
    with_reducible rfl
   rotate_left
   ·exact acR
   refine pure_ (i:=5) (N:=some 28) (v:=?_) (a':=?_) (fbB 11 35) rfl rfl (any_of HT_.out (by kernel_rfl)) (fun _ _ _ h=>h) (Or.inl ⟨by rfl,?_⟩) ?_ ?_
   rotate_left
   ·intro w'
    go_simp
    with_reducible rfl
   rotate_left
   ·exact acR
   refine take_ (i:=2) (N:=some 25) (v:=?_) (a':=?_) (fbB 11 39) rfl rfl (take_ofW HT_.out HW_.out (by kernel_rfl)) (fun _ _ _ h=>h) (Or.inl ⟨by rfl,?_⟩) hHeld ?_ ?_
   rotate_left
   ·rintro w' ⟨s0,s1,s2,s3,s4⟩
    go_simp
    with_reducible rfl
   rotate_left
   ·exact acR
   refine pure_ (i:=3) (N:=some 26) (v:=?_) (a':=?_) (fbB 11 47) rfl rfl (any_of HT_.out (by kernel_rfl)) (fun _ _ _ h=>h) (Or.inl ⟨by rfl,?_⟩) ?_ ?_
   rotate_left
   ·intro w'
    go_simp
    with_reducible rfl
   rotate_left
   ·exact acR
   refine take_ (i:=6) (N:=some 29) (v:=?_) (a':=?_) (fbB 11 111) rfl rfl (take_ofW HT_.out HW_.out (by kernel_rfl)) (fun _ _ _ h=>h) (Or.inl ⟨by rfl,?_⟩) hHeld ?_ ?_
   rotate_left
   ·rintro w' ⟨s0,s1,s2,s3,s4⟩
    go_simp
    with_reducible rfl
   rotate_left
   ·exact acR
   refine pure_ (i:=7) (N:=some 30) (v:=?_) (a':=?_) (fbB 11 239) rfl rfl (any_of HT_.out (by kernel_rfl)) (fun _ _ _ h=>h) (Or.inl ⟨by rfl,?_⟩) ?_ ?_
   rotate_left
   ·intro w'
    go_simp
    with_reducible rfl
   rotate_left
   ·exact acR
   refine one_ (i:=4) (N:=some 27) (fbB 11 255) rfl rfl (one_of HT_.out (by kernel_rfl)) (by decide) (fun K hK=>?_)
   refine goes_ Tryz.func141 (by kernel_rfl) rfl #[.slice Ao19 y132.length co19,.int .u64 (IntKind.u64.wrap (a0_3)),.int .i64 2] (by rfl) rfl rfl (by (try simp only [List.map_toArray,List.map_cons,List.map_nil]);first | done | rfl | (simp only [List.length_drop,List.length_take];rfl)) ?_
   with_reducible refine (super_big.calls k (fun k_=>some k_=(.slice Ao19 y132.length co19:Value).ownBlock) (.slice Ao19 y132.length co19) y132 (IntKind.u64.wrap (a0_3)) 2 t135 w _ ?side1 ?side2 A7.out).mono ?_
   (case side1=>repeat (first | (with_reducible first | exact HB.out | apply below_alloc | apply pw_below_drewN | apply below_drew1 | refine below_set ?_ GE124.out) | exact HB.out))
   (case side2=>exact Kd.R_tight rfl HO134.out)
   rintro e w20 ⟨v136,rfl,ho0,hb,hkp⟩
   refine ⟨_,rfl,?_⟩
   have n0_:=Aside0.mk (blk_kept (by (with_reducible repeat (first | refine blk_drewN ?_ _ | refine blk_drew ?_ | refine blk_alloc ?_ _));exact BK124.out) hkp (fun hs_=>(fun e_=>(Kd.R_ne HO134.out BK124.out (by decide)) e_) hs_))
   have n1_:=Aside0.mk (Kd.R_mono (ok':=fun k_=>True) ho0 (fun k_ hk_=>trivial))
   have n2_:=Aside0.mk (hb)
   clear BK124
   clear HB
   clear HO134
   have BK124:=n0_
   have HO137:=n1_
   have HB:=n2_
   clear n0_ n1_ n2_
   (try clear hb)
   (try clear hkp)
   (try clear ho0)
   obtain ⟨Ao21,co21,eo21⟩:=Kd.R_slice HO137.out
   (first | subst eo21 | (injection eo21 with f1_ f2_ f3_;have f4_:=f1_.symm;have f5_:=f3_.symm;clear f1_ f2_ f3_;subst f4_;subst f5_))
   refine hK.out _ _ ⟨(blk_cell BK124.out 0).trans rfl,(blk_cell BK124.out 1).trans rfl,(blk_cell BK124.out 2).trans rfl,(blk_cell BK124.out 3).trans rfl,(blk_cell BK124.out 4).trans rfl⟩ (fun hHeld=>?_)
   clear hK K
   refine norm_ (a':=?_) ?_ ?_
   rotate_left
   ·show Act.put _ (some 27) _=_
    simp only [Act.put,List.setIfInBounds_toArray,List.set_cons_zero,List.set_cons_succ,i64_w,i32_w]
    rfl
   refine one_ (i:=8) (N:=some 31) (fbB 11 511) rfl rfl (one_of HT_.out (by kernel_rfl)) (by decide) (fun K hK=>?_)
   refine goes_ Tryz.func141 (by kernel_rfl) rfl #[.slice Ao21 t135.length co21,.int .u64 (IntKind.u64.wrap (a0_4)),.int .i64 2] (by rfl) rfl rfl (by (try simp only [List.map_toArray,List.map_cons,List.map_nil]);first | done | rfl | (simp only [List.length_drop,List.length_take];rfl)) ?_
   with_reducible refine (super_big.calls k (fun k_=>some k_=(.slice Ao21 t135.length co21:Value).ownBlock) (.slice Ao21 t135.length co21) t135 (IntKind.u64.wrap (a0_4)) 2 t138 w _ ?side1 ?side2 A8.out).mono ?_
   (case side1=>repeat (first | (with_reducible first | exact HB.out | apply below_alloc | apply pw_below_drewN | apply below_drew1 | refine below_set ?_ GE124.out) | exact HB.out))
   (case side2=>exact Kd.R_tight rfl HO137.out)
   rintro e w22 ⟨v139,rfl,ho0,hb,hkp⟩
   refine ⟨_,rfl,?_⟩
   have n0_:=Aside0.mk (blk_kept (by (with_reducible repeat (first | refine blk_drewN ?_ _ | refine blk_drew ?_ | refine blk_alloc ?_ _));exact BK124.out) hkp (fun hs_=>(fun e_=>(Kd.R_ne HO137.out BK124.out (by decide)) e_) hs_))
   have n1_:=Aside0.mk (Kd.R_mono (ok':=fun k_=>True) ho0 (fun k_ hk_=>trivial))
   have n2_:=Aside0.mk (hb)
   clear BK124
   clear HB
   clear HO137
   have BK124:=n0_
   have HO140:=n1_
   have HB:=n2_
   clear n0_ n1_ n2_
   (try clear hb)
   (try clear hkp)
   (try clear ho0)
   refine hK.out _ _ ⟨(blk_cell BK124.out 0).trans rfl,(blk_cell BK124.out 1).trans rfl,(blk_cell BK124.out 2).trans rfl,(blk_cell BK124.out 3).trans rfl,(blk_cell BK124.out 4).trans rfl⟩ (fun hHeld=>?_)
   clear hK K
   refine norm_ (a':=?_) ?_ ?_
   rotate_left
   ·show Act.put _ (some 31) _=_
    simp only [Act.put,List.setIfInBounds_toArray,List.set_cons_zero,List.set_cons_succ,i64_w,i32_w]
    rfl
   refine pure_ (i:=9) (N:=some 2) (v:=?_) (a':=?_) (fbB 11 1023) rfl rfl (any_of HT_.out (by kernel_rfl)) (fun _ _ _ h=>h) (Or.inl ⟨by rfl,?_⟩) ?_ ?_
   rotate_left
   ·intro w'
    go_simp
    with_reducible rfl
   rotate_left
   ·exact acR
   refine pure_ (i:=10) (N:=some 3) (v:=?_) (a':=?_) (fbB 11 2047) rfl rfl (any_of HT_.out (by kernel_rfl)) (fun _ _ _ h=>h) (Or.inl ⟨by rfl,?_⟩) ?_ ?_
   rotate_left
   ·intro w'
    go_simp
    with_reducible rfl
   rotate_left
   ·exact acR
   refine done_ (done_of HT_.out (by kernel_rfl)) ?_
   try go_wp2
   go_ret2
   exact ⟨_,by first | rfl | (simp [errW_none,errW_some]<;>rfl) | (simp [*,errW_none,errW_some]<;>rfl),by (with_reducible repeat (first | apply Kd.R_alloc | apply Kd.R_drewN | apply Kd.R_drew));exact HO140.out,by repeat (first | (with_reducible first | exact HB.out | apply below_alloc | apply pw_below_drewN | apply below_drew1 | refine below_set ?_ GE124.out) | exact HB.out)⟩
  ·rw [if_neg c6] at H
   exact absurd H (by simp)
 ·replace c3:=Bool.eq_false_iff.mpr c3
  subst c3
  have H1:(some (([]:List Int),1))=some (r1,r2):=by rw [if_neg (show ¬ (false=true) by decide)] at H;exact H
  clear H
  have H:=H1
  clear H1
  simp only [Option.some.injEq,Prod.mk.injEq] at H
  obtain ⟨rfl,rfl⟩:=H
  go_enter Tryz.func99,Tryz.ntmps99
  go_wp2_with (first | ((with_reducible refine gate_dst (N:=1) rfl ?_);refine box_event ?hg (N:=1) ?hd (cs:=#[.int .u64 a0_0,.int .i64 a0_1,.int .i64 a0_2,.int .i64 a0_3,.int .i64 a0_4]) (t:=98) ?hr ?_;(case hd=>rfl);(case hg=>rfl);(case hr=>first | (go_simp;done) | (go_simp;rfl));intro gb124 hg w23 hbox hb;have n0_:=Aside0.mk (below_step (by repeat (first | (with_reducible first | exact HB.out | apply below_alloc | apply pw_below_drewN | apply below_drew1) | exact HB.out)) hb);have n1_:=Aside0.mk (hbox);have n2_:=Aside0.mk ((by rw [hg];exact (below_size (by repeat (first | (with_reducible first | exact HB.out | apply below_alloc | apply pw_below_drewN | apply below_drew1) | exact HB.out))):w.heap.size≤gb124));have n3_:=Aside0.mk ((by rw [hg];exact (below_size (by repeat (first | (with_reducible first | exact HB.out | apply below_alloc | apply pw_below_drewN | apply below_drew1) | exact HB.out))):w.heap.size≤gb124));clear HB;have HB:=n0_;have BK124:=n1_;have GW124:=n2_;have GE124:=n3_;clear n0_ n1_ n2_ n3_;clear hb hbox hg;have hcz24_0:w23.cell? ⟨gb124,0,none⟩=some (.int .u64 a0_0):=(blk_cell BK124.out 0).trans rfl;have hcz24_1:w23.cell? ⟨gb124,1,none⟩=some (.int .i64 a0_1):=(blk_cell BK124.out 1).trans rfl;have hcz24_2:w23.cell? ⟨gb124,2,none⟩=some (.int .i64 a0_2):=(blk_cell BK124.out 2).trans rfl;have hcz24_3:w23.cell? ⟨gb124,3,none⟩=some (.int .i64 a0_3):=(blk_cell BK124.out 3).trans rfl;have hcz24_4:w23.cell? ⟨gb124,4,none⟩=some (.int .i64 a0_4):=(blk_cell BK124.out 4).trans rfl;have hfz24_0:=blk_frozen BK124.out 0;have hfz24_1:=blk_frozen BK124.out 1;have hfz24_2:=blk_frozen BK124.out 2;have hfz24_3:=blk_frozen BK124.out 3;have hfz24_4:=blk_frozen BK124.out 4) | ((with_reducible refine gate_callee (f:=140) rfl ?_);refine goesL_ (some 6) rfl rfl Tryz.func140 (by kernel_rfl) rfl #[.agg #[.int .u64 a0_0,.int .i64 a0_1,.int .i64 a0_2,.int .i64 a0_3,.int .i64 a0_4]] rfl (by (try simp only [List.map_toArray,List.map_cons,List.map_nil]);first | done | rfl | (simp only [List.length_drop,List.length_take];rfl)) ?_;(with_reducible refine (super_right.calls k a0_0 a0_1 a0_2 a0_3 a0_4 false _ A2.out).mono ?_);rintro e w25 ⟨rfl,hb⟩;refine ⟨_,rfl,?_⟩;have n0_:=Aside0.mk (blk_below (g:=gb124) (o:=.cells #[.int .u64 a0_0,.int .i64 a0_1,.int .i64 a0_2,.int .i64 a0_3,.int .i64 a0_4] 98 (0,0)) (by (with_reducible repeat (first | refine blk_drewN ?_ _ | refine blk_drew ?_ | refine blk_alloc ?_ _));exact BK124.out) hb);have n1_:=Aside0.mk (below_step (by repeat (first | (with_reducible first | exact HB.out | apply below_alloc | apply pw_below_drewN | apply below_drew1 | refine below_set ?_ GE124.out) | exact HB.out)) hb);clear BK124;clear HB;have BK124:=n0_;have HB:=n1_;clear n0_ n1_;(try clear hb);(try clear hb2);(try clear hk);(try clear hi)))
  go_ret2
  exact ⟨_,by first | rfl | (simp [errW_none,errW_some]<;>rfl) | (simp [*,errW_none,errW_some]<;>rfl),by first | exact Kd.R_nil _ _ _ _ _ | exact Kd.N_nil _ _ _ _ _ | exact Kd.V_nil _ _ _ _ _ | exact Kd.Q_nil _ _ _ _ _ | exact Kd.S_nil _ _ _ _ _,by repeat (first | (with_reducible first | exact HB.out | apply below_alloc | apply pw_below_drewN | apply below_drew1 | refine below_set ?_ GE124.out) | exact HB.out)⟩
end
section
attribute [local go_sem] max2_int min2_int max_two min_two max_three min_three max_four min_four
def super_place.f (a0:Int):Option (Int):=some (wrap64 (Int.tmod a0 2))
theorem super_place.calls (a0:Int) (r:Int) (w:World) (h:super_place.f a0=some r) :
  Calls Tryz.prog 100 #[.int .u64 a0] w fun e w'=>e = .returned (.int .i64 r)∧Drawn0 w w':=by
 have H:(some (wrap64 (Int.tmod a0 2)))=some r:=h
 clear h
 obtain rfl:=Option.some.inj H
 go_enter Tryz.func100,Tryz.ntmps100
 go_wp2
 go_ret
 exact ⟨by first | rfl | (simp;done) | (simp [*];done),by repeat (first | exact Drawn0.refl _ | apply Drawn0.step)⟩
end
end Go.Proofs.YtnhkikebfinejaaGreatDoor.X
namespace Go.Proofs.YtnhkikebfinejaaGreatDoor.Z
open Go Go.RowKit Go.Proofs.YtnhkikebfinejaaGreatDoorW.PrintWords Go.Proofs.YtnhkikebfinejaaGreatDoorW.PrintLast Go.Proofs.YtnhkikebfinejaaGreatDoorW.PrintMore Go.Proofs.YtnhkikebfinejaaGreatDoor.S Go.Proofs.YtnhkikebfinejaaGreatDoor.X
attribute [local go_sem ↓] Go.wp_at_zero Go.wp_at_succ
structure Sup where
 gen:Nat
 ra:Nat
 rh:Nat
 bm:Nat
 N:Nat
structure SupOk (s:Sup):Prop where
 g0:0<s.gen
 g1:s.gen<1000000
 n8:8≤s.N
 n5:s.N≤512
 b2:2≤s.bm
 bN:s.bm<s.N
 r0:s.rh=0→s.ra=0
 r1:s.rh≠0→s.rh≤5∧2≤s.ra∧s.ra<s.N∧s.ra≠s.bm
def supC (s:Sup):List Value:=[.int .u64 (s.gen:Int),.int .i64 (s.ra:Int),.int .i64 (s.rh:Int),.int .i64 (s.bm:Int),.int .i64 (s.N:Int)]
def supB (s:Sup):List Int:=low (s.gen:Int) 8++low (s.ra:Int) 2++[(s.rh:Int)]++low (s.bm:Int) 2++low (s.N:Int) 2
theorem supB_len (s:Sup):(supB s).length=15:=by simp [supB,low_len]
theorem supB_bs {s:Sup} (h:SupOk s):Bs (supB s):=by
 have h1:Bs [(s.rh:Int)]:=fun x hx=>by
  have h0:=h.r0
  have h1:=h.r1
  simp at hx;omega
 exact ((((low_bs _ _).append (low_bs _ _)).append h1).append (low_bs _ _)).append (low_bs _ _)
theorem sbig_run (x:Int):∀ (i k:Nat) (l:List Int),i≤8→l.length+i<140737488355329→super_big.l0 (k+i+1) l x ((i:Int)-1)=some (l++low x i):=by
 intro i
 induction i with
 | zero=>intro k l _ _;rw [super_big.l0,if_neg (by omega),low,List.append_nil]
 | succ i ih=>
  intro k l hi hl
  have e:((i+1:Nat):Int)-1=(i:Int):=by omega
  have e2:wrap64 ((i:Int)-1)=(i:Int)-1:=wrap64_id (by omega) (by omega)
  have e3:shr .u64 x (wrap64 (8*(i:Int)))=x / 2 ^ (8*i):=by
   rw [wrap64_id (by omega) (by omega)]
   unfold shr
   rw [show (8*(i:Int)).toNat=8*i by omega,Nat.min_eq_left (by show 8*i≤64;omega)]
  rw [e,super_big.l0,if_pos (by omega),if_pos (by rw [wrap64_id]<;>omega),if_pos (by omega),e3,e2,← Nat.add_assoc,ih k _ (by omega) (by rw [List.length_append];simp;omega),low,List.append_assoc,List.singleton_append]
theorem sbig_f (l:List Int) (x:Int) (i:Nat) (hi:i≤8) (hl:l.length<1000000):super_big.f 20 l x (i:Int)=some (l++low x i):=by
 unfold super_big.f
 rw [wrap64_id (n:=(i:Int)-1) (by omega) (by omega),show 20=(19-i)+i+1 by omega]
 exact sbig_run x i _ l hi (by omega)
theorem u64_nat {n:Nat} (h:n<1000000):IntKind.u64.wrap (n:Int)=(n:Int):=by simp [IntKind.wrap,IntKind.bits,IntKind.signed];omega
theorem supput_f {s:Sup} (h:SupOk s):super_Put.f 20 s.gen s.ra s.rh s.bm s.N=some (supB s,0):=by
 have hw:∀ a:Nat,2≤a→a<s.N→super_within.f (a:Int) (s.N:Int)=some true:=fun a h1 h2=>by
  unfold super_within.f
  rw [if_pos (by omega),decide_eq_true (by omega)]
 have hr:super_right.f 20 s.gen s.ra s.rh s.bm s.N=some true:=by
  unfold super_right.f
  rw [if_neg (by have:=h.g0;omega),if_neg (by have:=h.n8;omega),if_neg (by have:=h.n5;omega),hw _ h.b2 h.bN]
  simp only [Option.bind_some]
  rw [show (20:Nat)=19+1 from rfl,super_right.j0,if_neg (by decide)]
  by_cases h0:s.rh=0
  ·rw [if_pos (by omega),h.r0 h0];rfl
  ·have h1:=h.r1 h0
   rw [if_neg (by omega),if_pos (by omega),if_pos (by omega),hw _ h1.2.1 h1.2.2.1]
   simp only [Option.bind_some,if_true]
   congr 1
   rw [bne_iff_ne]
   omega
 unfold super_Put.f
 rw [hr]
 simp only [Option.bind_some,if_true]
 rw [show (8:Int)=((8:Nat):Int) from rfl,show (2:Int)=((2:Nat):Int) from rfl,sbig_f _ _ 8 (by omega) (by simp)]
 simp only [Option.bind_some,List.nil_append]
 rw [u64_nat (n:=s.ra) (by have:=h.r0;have:=h.r1;have:=h.n5;omega),sbig_f _ _ 2 (by omega) (by simp [low_len])]
 simp only [Option.bind_some]
 rw [if_pos (by simp [low_len]),u64_nat (n:=s.bm) (by have:=h.bN;have:=h.n5;omega),sbig_f _ _ 2 (by omega) (by simp [low_len])]
 simp only [Option.bind_some]
 rw [u64_nat (n:=s.N) (by have:=h.n5;omega),sbig_f _ _ 2 (by omega) (by simp [low_len])]
 simp only [Option.bind_some]
 rw [show (s.rh:Int) % 256=(s.rh:Int) by have:=h.r1;omega]
 rfl
theorem supput_calls [Inhabited Sanct] {w:World} {s:Sup} (h:SupOk s) :
  Calls Tryz.prog 99 #[.agg #[.int .u64 (s.gen:Int),.int .i64 (s.ra:Int),.int .i64 (s.rh:Int),.int .i64 (s.bm:Int),.int .i64 (s.N:Int)]] w fun e w'=>∃ v,e = .returned (.tuple #[v,.int .i64 0])∧Kd.R (Kd.int .u8) 5 w' w.heap.size (fun _=>True) v (supB s)∧Below w.heap.size w w':=by
 exact super_Put.calls 20 _ _ _ _ _ _ _ w (supput_f h)
theorem place_calls [Inhabited Sanct] {w:World} {g:Nat} (h:g<1000000):Calls Tryz.prog 100 #[.int .u64 (g:Int)] w fun e w'=>e = .returned (.int .i64 ((g % 2:Nat):Int))∧Below w.heap.size w w':=by
 refine (super_place.calls (g:Int) ((g % 2:Nat):Int) w ?_).mono (fun e w' h=>⟨h.1,h.2.below⟩)
 unfold super_place.f
 rw [Int.tmod_eq_emod_of_nonneg (by omega),wrap64_id (by omega) (by omega)]
 congr 1
theorem tab_range {w:World} {g:Nat} (h:w.heap[g]?=some (Obj.cells tabA 74)):w.rangeAt g 0 tabA.toList:=fun j v hv=>by
 rw [cell_of_row w g (0+j) _ _ _ h,Nat.zero_add]
 simpa using hv
theorem tab_size [Inhabited Sanct]:(Tryz.prog.info? 74).map (·.size)=some tabA.toList.length:=by rw [Array.length_toList];exact tabA_size
theorem superwrite_calls [Inhabited Sanct] {w:World} {d N nw:Nat} {f:Nat→List Int} (h:DT w d N nw f) {s:Sup} (hs:SupOk s) (hN:s.N=N) (hw:nw+2048<1000000) :
  Calls Tryz.prog 61 #[.agg tabA,.pointer (some ⟨d,0,none⟩),.agg #[.int .u64 (s.gen:Int),.int .i64 (s.ra:Int),.int .i64 (s.rh:Int),.int .i64 (s.bm:Int),.int .i64 (s.N:Int)]] w fun e w'=>e = .returned (.int .i64 0)∧FrT dT w w' ∧ ∃ f',DT w' d N (nw+4) f'∧Wrote f f' (s.gen % 2) 83 (supB s):=by
 obtain ⟨gen,ra,rh,bm,N2⟩:=s
 obtain rfl:N2=N:=hN
 obtain ⟨SC,hSC⟩:∃ L,#[Value.int .u64 (gen:Int),.int .i64 (ra:Int),.int .i64 (rh:Int),.int .i64 (bm:Int),.int .i64 (N2:Int)]=L:=⟨_,rfl⟩
 have hgen:gen<1000000:=hs.g1
 obtain ⟨pl,hpl⟩:∃ pl:Int,((gen % 2:Nat):Int)=pl:=⟨_,rfl⟩
 have HPL:Aside0 (∀ W,Calls Tryz.prog 100 #[.int .u64 (gen:Int)] W fun e w'=>e = .returned (.int .i64 pl)∧Below W.heap.size W w'):=⟨fun W=>by rw [← hpl];exact place_calls hgen⟩
 have HPUT:Aside0 (∀ W,Calls Tryz.prog 99 #[.agg #[.int .u64 (gen:Int),.int .i64 (ra:Int),.int .i64 (rh:Int),.int .i64 (bm:Int),.int .i64 (N2:Int)]] W fun e w'=>∃ v,e = .returned (.tuple #[v,.int .i64 0])∧Kd.R (Kd.int .u8) 5 w' W.heap.size (fun _=>True) v (supB ⟨gen,ra,rh,bm,N2⟩)∧Below W.heap.size W w'):=⟨fun W=>supput_calls (w:=W) hs⟩
 have HWR:Aside0 (∀ W A c,Below w.heap.size w W→Kd.C (Kd.int .u8) W A (supB ⟨gen,ra,rh,bm,N2⟩).length (supB ⟨gen,ra,rh,bm,N2⟩)→Calls Tryz.prog 95 #[.agg tabA,.pointer (some ⟨d,0,none⟩),.agg #[.int .u8 83,.int .i64 pl,.int .u64 (gen:Int),.slice A 15 c]] W fun e w'=>e = .returned (.int .i64 0)∧FrT dT W w' ∧ ∃ f',DT w' d N2 (nw+4) f'∧Wrote f f' (gen % 2) 83 (supB ⟨gen,ra,rh,bm,N2⟩)):=
  ⟨fun W A c hW hC=>by rw [← hpl];exact pagewrite_calls (h.below hW) (gen % 2) 83 (gen:Int) A 15 c _ (supB_len _) hC (supB_bs hs) (Or.inl rfl) (by have:=hs.n8;simp at this;omega) (by decide) (by omega) hw⟩
 obtain ⟨W0,hW0⟩:∃ W,(w.alloc (Obj.cells tabA 74)).alloc (Obj.cells #[Value.int .u64 (gen:Int),.int .i64 (ra:Int),.int .i64 (rh:Int),.int .i64 (bm:Int),.int .i64 (N2:Int)] 98)=W:=⟨_,rfl⟩
 have HX:Aside0 (W0.heap[w.heap.size]?=some (Obj.cells tabA 74)):=⟨by rw [← hW0];exact heap_alloc2_old w _ _⟩
 have HY:Aside0 (W0.heap[w.heap.size+1]?=some (Obj.cells #[Value.int .u64 (gen:Int),.int .i64 (ra:Int),.int .i64 (rh:Int),.int .i64 (bm:Int),.int .i64 (N2:Int)] 98)):=⟨by rw [← hW0];exact heap_alloc2_new w _ _⟩
 have HB:Aside0 (Below w.heap.size w W0):=⟨by rw [← hW0];exact below_alloc (below_alloc (Below.refl _ _) _) _⟩
 have q0:=blk_cell HY.out 0
 have q1:=blk_cell HY.out 1
 have q2:=blk_cell HY.out 2
 have q3:=blk_cell HY.out 3
 have q4:=blk_cell HY.out 4
 simp only [List.getElem?_toArray,List.getElem?_cons_zero,List.getElem?_cons_succ] at q0 q1 q2 q3 q4
 clear hSC hs h hpl
 go_enter Tryz.func61,Tryz.ntmps61
 go_wp2_with (go_at_call 99;(with_reducible refine (HPUT.out _).mono ?_);rintro e w1 ⟨v1,rfl,ho,hb⟩;obtain ⟨A1,c1,rfl⟩:=Kd.R_slice ho;rw [supB_len] at ho ⊢;have HC1:Aside0 (Kd.C (Kd.int .u8) w1 A1 (supB ⟨gen,ra,rh,bm,N2⟩).length (supB ⟨gen,ra,rh,bm,N2⟩)):=⟨(Kd.R_reads' ho).2.2⟩;have HB1:=Aside0.mk (below_step HB.out hb);have hx:=blkb hb HX.out;have hy:=blkb hb HY.out;have HX1:=Aside0.mk hx;have HY1:=Aside0.mk hy;have p0:=blk_cell hy 0;simp only [List.getElem?_toArray,List.getElem?_cons_zero,List.getElem?_cons_succ] at p0;clear ho hb hx hy)
 clear hW0 q0 q1 q2 q3 q4
 have hu74:Tryz.prog.underlying 74=some (.array 256 71):=Tryz.underlying74
 have hs74:=tab_size
 have hr1:w1.drew.rangeAt w.heap.size 0 tabA.toList:=tab_range HX1.out
 have hp1:w1.drew.cell? ⟨w.heap.size+1,0,none⟩=some (.int .u64 (gen:Int)):=p0
 go_region_held3 (fun w'=>w'.rangeAt w.heap.size 0 tabA.toList∧w'.cell? ⟨w.heap.size+1,0,none⟩=some (.int .u64 (gen:Int))) (first | exact ⟨hr1,hp1⟩ | exact ⟨hr2,hp2⟩ | exact ⟨hr3,hp3⟩)
  (first
   | (go_at_call 100;(with_reducible refine (HPL.out _).mono ?_);rintro e w2 ⟨rfl,hb2⟩;have hX2:=blkb hb2 (show w1.drew.heap[w.heap.size]?=_ from HX1.out);have hY2:=blkb hb2 (show w1.drew.heap[w.heap.size+1]?=_ from HY1.out);have hr2:=tab_range hX2;have hp2:w2.cell? ⟨w.heap.size+1,0,none⟩=some (.int .u64 (gen:Int)):=by simpa using blk_cell hY2 0)
   | (go_at_call 95;(with_reducible refine (HWR.out _ A1 c1 (below_step (below_drew HB1.out) hb2) (Kd.C_below (Kd.C_drew HC1.out) hb2)).mono ?_);rintro e w3 ⟨rfl,hf3,hd3⟩;have hr3:w3.rangeAt w.heap.size 0 tabA.toList:=tab_range (hf3.blk hX2 (by decide));have hp3:w3.cell? ⟨w.heap.size+1,0,none⟩=some (.int .u64 (gen:Int)):=by simpa using blk_cell (hf3.blk hY2 (by decide)) 0))
 all_goals
  have H3:=Aside0.mk (And.intro hb2 (And.intro hf3 hd3))
  clear hb2 hf3 hd3 hr1 hp1 hr2 hp2 hr3 hp3 hX2 hY2 p0
  go_wp2
  go_ret
  exact ⟨rfl,(FrT.of_below (below_step (below_drew HB1.out) H3.out.1) _).trans H3.out.2.1,H3.out.2.2⟩
end Go.Proofs.YtnhkikebfinejaaGreatDoor.Z
