/- Texts of this claim, laid together (wip/merge.py): XRickref06Put, Q06d, XRicklaw06Puts, Q06e, PureRunsMany. No conditions. -/
import Derived.Test.YtmlbppfcpejlpaaMRunsMany1
import Derived.Test.YtmlbppfcpejlpaaMRunsMany3
import Derived.Test.YtmlbppfcpejlpaaMRunsMany2
import Derived.Laws.BitsAllLaws
-- Printed by this session's own program (wip/xprint.py) over the translation; its external functions are hand-written. Lean checks it.
namespace Go.Proofs.Ytmlbppfcpejlpaa.X
open Go.RowKit Go.Proofs.YtmlbppfcpejlpaaW.PrintWords Go.Proofs.YtmlbppfcpejlpaaW.PrintLast Go.Proofs.YtmlbppfcpejlpaaW.PrintMore
attribute [local go_sem] max2_int min2_int max_two min_two max_three min_three max_four min_four   -- for this text's walks alone
set_option linter.unusedVariables false
set_option linter.unusedSimpArgs false

/-! ### rickref06_Put: function 42 -/
mutual
def rickref06_Put.l0 : Nat → List Int → Int → Int → Int → Option (List Int)
  | 0, _, _, _, _ => none
  | k + 1, x0, x3, x4, x5 => if x5 < (x0.length : Int) then (if 0 ≤ x5 then (rickref06_Put.l0 k x0 (mn x3 (rd x0 x5)) (mx x4 (rd x0 x5)) (wrap64 (x5 + 1))) else (none)) else (rickref06_Put.l1 k x0 x3 x4 0)
def rickref06_Put.j2 : Nat → List Int → Int → Int → Option (List Int)
  | 0, _, _, _ => none
  | k + 1, x0, x3, x6 => rickref06_Put.l2 k x0 x3 x6 ([] : List Int) 0
def rickref06_Put.l2 : Nat → List Int → Int → Int → List Int → Int → Option (List Int)
  | 0, _, _, _, _, _ => none
  | k + 1, x0, x3, x6, x7, x8 => if x8 < (x0.length : Int) then (if 0 ≤ x8 then ((rickref04_Put.f k x7 (IntKind.u64.wrap ((rd x0 x8) - x3)) x6).bind fun t373 => (rickref06_Put.l2 k x0 x3 x6 t373 (wrap64 (x8 + 1)))) else (none)) else ((rickref06_Raw.f k x3).bind fun t376 => (if t376.length < 140737488355328 then ((some (t376 ++ [(x6) % 256] : List Int)).bind fun y379 => ((rickref04_Bytes.f k x7).bind fun t382 => (if y379.length + t382.length < 140737488355328 then (some (y379 ++ t382)) else (none)))) else (none)))
def rickref06_Put.l1 : Nat → List Int → Int → Int → Int → Option (List Int)
  | 0, _, _, _, _ => none
  | k + 1, x0, x3, x4, x6 => if x6 < 64 then (if 0 ≤ x6 then (if (shr .u64 (IntKind.u64.wrap (x4 - x3)) x6) > 0 then (rickref06_Put.l1 k x0 x3 x4 (wrap64 (x6 + 1))) else (rickref06_Put.j2 k x0 x3 x6)) else (none)) else (rickref06_Put.j2 k x0 x3 x6)
end
def rickref06_Put.f (k : Nat) (l0 : List Int) : Option (List Int) := if (l0.length : Int) = 0 then (some ([] : List Int)) else (if 0 < (l0.length : Int) then (rickref06_Put.l0 k l0 (rd l0 0) (rd l0 0) 0) else (none))
theorem rickref06_Put.mono_l : ∀ k, (∀ y0 y1 y2 y3, LeO (rickref06_Put.l0 k y0 y1 y2 y3) (rickref06_Put.l0 (k + 1) y0 y1 y2 y3)) ∧ (∀ y0 y1 y2, LeO (rickref06_Put.j2 k y0 y1 y2) (rickref06_Put.j2 (k + 1) y0 y1 y2)) ∧ (∀ y0 y1 y2 y3 y4, LeO (rickref06_Put.l2 k y0 y1 y2 y3 y4) (rickref06_Put.l2 (k + 1) y0 y1 y2 y3 y4)) ∧ (∀ y0 y1 y2 y3, LeO (rickref06_Put.l1 k y0 y1 y2 y3) (rickref06_Put.l1 (k + 1) y0 y1 y2 y3))
  | 0 => ⟨fun _ _ _ _ r h => by simp [rickref06_Put.l0] at h, fun _ _ _ r h => by simp [rickref06_Put.j2] at h, fun _ _ _ _ _ r h => by simp [rickref06_Put.l2] at h, fun _ _ _ _ r h => by simp [rickref06_Put.l1] at h⟩
  | k + 1 => by
    obtain ⟨ih0, ih1, ih2, ih3⟩ := rickref06_Put.mono_l k
    refine ⟨?_, ?_, ?_, ?_⟩
    · intro y0 y1 y2 y3
      unfold rickref06_Put.l0
      repeat' first
      | (with_reducible exact ih0 _ _ _ _)
      | (with_reducible exact ih1 _ _ _)
      | (with_reducible exact ih2 _ _ _ _ _)
      | (with_reducible exact ih3 _ _ _ _)
      | (with_reducible exact rickref04_Bytes.mono _ _)
      | (with_reducible exact rickref04_Put.mono _ _ _ _)
      | (with_reducible exact rickref06_Raw.mono _ _)
      | (with_reducible exact LeO.refl _)
      | (with_reducible exact LeO.none _)
      | (with_reducible refine LeO.ite ?_ ?_)
      | (with_reducible refine LeO.bind ?_ (fun _ => ?_))
      | exact ih0 _ _ _ _
      | exact ih1 _ _ _
      | exact ih2 _ _ _ _ _
      | exact ih3 _ _ _ _
      | exact rickref04_Bytes.mono _ _
      | exact rickref04_Put.mono _ _ _ _
      | exact rickref06_Raw.mono _ _
      | exact LeO.none _
      | refine LeO.ite ?_ ?_
      | refine LeO.bind ?_ (fun _ => ?_)
    · intro y0 y1 y2
      unfold rickref06_Put.j2
      repeat' first
      | (with_reducible exact ih0 _ _ _ _)
      | (with_reducible exact ih1 _ _ _)
      | (with_reducible exact ih2 _ _ _ _ _)
      | (with_reducible exact ih3 _ _ _ _)
      | (with_reducible exact rickref04_Bytes.mono _ _)
      | (with_reducible exact rickref04_Put.mono _ _ _ _)
      | (with_reducible exact rickref06_Raw.mono _ _)
      | (with_reducible exact LeO.refl _)
      | (with_reducible exact LeO.none _)
      | (with_reducible refine LeO.ite ?_ ?_)
      | (with_reducible refine LeO.bind ?_ (fun _ => ?_))
      | exact ih0 _ _ _ _
      | exact ih1 _ _ _
      | exact ih2 _ _ _ _ _
      | exact ih3 _ _ _ _
      | exact rickref04_Bytes.mono _ _
      | exact rickref04_Put.mono _ _ _ _
      | exact rickref06_Raw.mono _ _
      | exact LeO.none _
      | refine LeO.ite ?_ ?_
      | refine LeO.bind ?_ (fun _ => ?_)
    · intro y0 y1 y2 y3 y4
      unfold rickref06_Put.l2
      repeat' first
      | (with_reducible exact ih0 _ _ _ _)
      | (with_reducible exact ih1 _ _ _)
      | (with_reducible exact ih2 _ _ _ _ _)
      | (with_reducible exact ih3 _ _ _ _)
      | (with_reducible exact rickref04_Bytes.mono _ _)
      | (with_reducible exact rickref04_Put.mono _ _ _ _)
      | (with_reducible exact rickref06_Raw.mono _ _)
      | (with_reducible exact LeO.refl _)
      | (with_reducible exact LeO.none _)
      | (with_reducible refine LeO.ite ?_ ?_)
      | (with_reducible refine LeO.bind ?_ (fun _ => ?_))
      | exact ih0 _ _ _ _
      | exact ih1 _ _ _
      | exact ih2 _ _ _ _ _
      | exact ih3 _ _ _ _
      | exact rickref04_Bytes.mono _ _
      | exact rickref04_Put.mono _ _ _ _
      | exact rickref06_Raw.mono _ _
      | exact LeO.none _
      | refine LeO.ite ?_ ?_
      | refine LeO.bind ?_ (fun _ => ?_)
    · intro y0 y1 y2 y3
      unfold rickref06_Put.l1
      repeat' first
      | (with_reducible exact ih0 _ _ _ _)
      | (with_reducible exact ih1 _ _ _)
      | (with_reducible exact ih2 _ _ _ _ _)
      | (with_reducible exact ih3 _ _ _ _)
      | (with_reducible exact rickref04_Bytes.mono _ _)
      | (with_reducible exact rickref04_Put.mono _ _ _ _)
      | (with_reducible exact rickref06_Raw.mono _ _)
      | (with_reducible exact LeO.refl _)
      | (with_reducible exact LeO.none _)
      | (with_reducible refine LeO.ite ?_ ?_)
      | (with_reducible refine LeO.bind ?_ (fun _ => ?_))
      | exact ih0 _ _ _ _
      | exact ih1 _ _ _
      | exact ih2 _ _ _ _ _
      | exact ih3 _ _ _ _
      | exact rickref04_Bytes.mono _ _
      | exact rickref04_Put.mono _ _ _ _
      | exact rickref06_Raw.mono _ _
      | exact LeO.none _
      | refine LeO.ite ?_ ?_
      | refine LeO.bind ?_ (fun _ => ?_)
theorem rickref06_Put.mono : ∀ a0 k, LeO (rickref06_Put.f k a0) (rickref06_Put.f (k + 1) a0) := by
  intro a0 k
  obtain ⟨ih0, ih1, ih2, ih3⟩ := rickref06_Put.mono_l k
  unfold rickref06_Put.f
  repeat' first
      | (with_reducible exact ih0 _ _ _ _)
      | (with_reducible exact ih1 _ _ _)
      | (with_reducible exact ih2 _ _ _ _ _)
      | (with_reducible exact ih3 _ _ _ _)
      | (with_reducible exact rickref04_Bytes.mono _ _)
      | (with_reducible exact rickref04_Put.mono _ _ _ _)
      | (with_reducible exact rickref06_Raw.mono _ _)
      | (with_reducible exact LeO.refl _)
      | (with_reducible exact LeO.none _)
      | (with_reducible refine LeO.ite ?_ ?_)
      | (with_reducible refine LeO.bind ?_ (fun _ => ?_))
      | exact ih0 _ _ _ _
      | exact ih1 _ _ _
      | exact ih2 _ _ _ _ _
      | exact ih3 _ _ _ _
      | exact rickref04_Bytes.mono _ _
      | exact rickref04_Put.mono _ _ _ _
      | exact rickref06_Raw.mono _ _
      | exact LeO.none _
      | refine LeO.ite ?_ ?_
      | refine LeO.bind ?_ (fun _ => ?_)
set_option maxHeartbeats 8000000 in
set_option maxRecDepth 100000 in
theorem rickref06_Put.calls (k : Nat) (A0 : Option Addr) (c0 : Nat) (l0 : List Int) (r : List Int) (w : World) (hr0 : Kd.C (Kd.int .u64) w A0 l0.length l0) (hc0 : l0.length ≤ c0) (h : rickref06_Put.f k l0 = some r) :
    Calls Try.prog 42 #[.slice A0 l0.length c0] w fun e w' => ∃ v0_ : Value, e = .returned (v0_) ∧ Kd.R (Kd.int .u8) 5 w' w.heap.size (fun _ => True) v0_ r ∧ Below w.heap.size w w' := by
  have HR0 := Aside0.mk hr0
  have HC0 := Aside0.mk hc0
  clear hr0 hc0
  have HB := Aside0.mk (Below.refl w.heap.size w)
  have H : (if (l0.length : Int) = 0 then (some ([] : List Int)) else (if 0 < (l0.length : Int) then (rickref06_Put.l0 k l0 (rd l0 0) (rd l0 0) 0) else (none))) = some r := h
  clear h
  by_cases c2 : (l0.length : Int) = 0
  · rw [if_pos c2] at H
    have c2b0 : ((l0.length : Int) == 0) = true := beq_iff_eq.mpr c2
    have c2b1 : ((l0.length : Int) != 0) = false := bne_eq_false_iff_eq.mpr c2
    clear c2
    obtain rfl := Option.some.inj H
    go_enter Try.func42, Try.ntmps42
    go_wp2
    repeat (go_quiet (fail); try go_wp2)
    go_ret
    exact ⟨_, by first | rfl | (simp [errW_none, errW_some] <;> rfl) | (simp [*, errW_none, errW_some] <;> rfl), by first | exact Kd.R_nil _ _ _ _ _ | exact Kd.N_nil _ _ _ _ _ | exact Kd.V_nil _ _ _ _ _ | exact Kd.Q_nil _ _ _ _ _ | exact Kd.S_nil _ _ _ _ _, by repeat (first | (with_reducible first | exact HB.out | apply below_alloc | apply pw_below_drewN | apply below_drew1) | exact HB.out)⟩
  · rw [if_neg c2] at H
    have c2b0 : ((l0.length : Int) == 0) = false := beq_eq_false_iff_ne.mpr c2
    have c2b1 : ((l0.length : Int) != 0) = true := bne_iff_ne.mpr c2
    have c2b2 : ¬ (l0 = []) := fun h_ => c2 (by rw [h_]; rfl)
    by_cases c3 : 0 < (l0.length : Int)
    · rw [if_pos c3] at H
      have c3b0 : decide (0 < (l0.length : Int)) = true := decide_eq_true c3
      have c3b1 : decide (0 < l0.length) = true := decide_eq_true (by omega)
      clear c3
      have H' := Aside0.mk H
      clear H
      have p368 : 0 ≤ (0 : Int) := (by omega)
      have q368 : 0 < (l0.length : Int) := of_decide_eq_true (by first | (with_reducible assumption) | assumption)
      obtain ⟨ad368, e368, hx368_0⟩ := Kd.at_int HR0.out 0 p368 q368
      cases e368
      have qi368 : (0 < l0.length) = True := eq_true (by omega)
      (try rw [show ((0 : Int)).toNat = 0 from rfl] at hx368_0)
      (try rw [Addr.add_zero'] at hx368_0)
      replace p368 := eq_true p368
      replace q368 := eq_true q368
      have p369 : 0 ≤ (0 : Int) := (by omega)
      have q369 : 0 < (l0.length : Int) := of_decide_eq_true (by first | (with_reducible assumption) | assumption)
      obtain ⟨ad369, e369, hx369_0⟩ := Kd.at_int HR0.out 0 p369 q369
      obtain rfl : ad368 = ad369 := (by injection e369)
      have qi369 : (0 < l0.length) = True := eq_true (by omega)
      (try rw [show ((0 : Int)).toNat = 0 from rfl] at hx369_0)
      (try rw [Addr.add_zero'] at hx369_0)
      replace p369 := eq_true p369
      replace q369 := eq_true q369
      go_enter Try.func42, Try.ntmps42
      go_wp2
      repeat (go_quiet (fail); try go_wp2)
      go_loopg [3, 4, 5] k (fun kq v3 v4 v5 w' => ∃ (x3_1 : Int) (x4_1 : Int) (x5_1 : Int), v3 = .int .u64 x3_1 ∧ v4 = .int .u64 x4_1 ∧ v5 = .int .i64 x5_1 ∧ Aside0 (rickref06_Put.l0 kq l0 x3_1 x4_1 x5_1 = some r) ∧ Aside0 (kq ≤ k) ∧ Aside0 (Below w.heap.size w w'))
      case atStart => exact ⟨(rd l0 0), (rd l0 0), (0), (by first | rfl | (simp; done) | (simp [*]; done)), (by first | rfl | (simp; done) | (simp [*]; done)), (by first | rfl | (simp; done) | (simp [*]; done)), H', ⟨Nat.le_refl _⟩, ⟨by repeat (first | (with_reducible first | exact HB.out | apply below_alloc | apply pw_below_drewN | apply below_drew1) | exact HB.out)⟩⟩
      case round =>
        clear H'
        try clear c2
        try clear c2b0
        try clear c2b1
        try clear c2b2
        try clear p2
        try clear c3
        try clear c3b0
        try clear c3b1
        try clear p3
        try clear q3
        try clear hx3
        try clear qi3
        try clear hx368_0
        try clear hx369_0
        try clear p368
        try clear p369
        try clear q368
        try clear q369
        obtain ⟨x3_1, x4_1, x5_1, rfl, rfl, rfl, HA, HK1, HB⟩ := hrel
        cases gk with
        | zero => exact absurd HA.out (by simp [rickref06_Put.l0])
        | succ k1 =>
          have H := HA.out
          clear HA
          simp only [rickref06_Put.l0] at H
          by_cases c4 : x5_1 < (l0.length : Int)
          · rw [if_pos c4] at H
            have c4b0 : decide (x5_1 < (l0.length : Int)) = true := decide_eq_true c4
            clear c4
            by_cases c5 : 0 ≤ x5_1
            · rw [if_pos c5] at H
              have c5b0 : decide (0 ≤ x5_1) = true := decide_eq_true c5
              clear c5
              obtain ⟨ji6, hji6⟩ : ∃ j_ : Int, (mn x3_1 (rd l0 x5_1)) = j_ := ⟨_, rfl⟩
              replace H : (rickref06_Put.l0 k1 l0 ji6 (mx x4_1 (rd l0 x5_1)) (wrap64 (x5_1 + 1))) = some r := by first | (rw [hji6] at H; exact H) | (simp only [hji6] at H ⊢; exact H)
              have hji6_ : (if (rd l0 x5_1) < x3_1 then (rd l0 x5_1) else x3_1) = ji6 := hji6
              obtain ⟨ji7, hji7⟩ : ∃ j_ : Int, (mx x4_1 (rd l0 x5_1)) = j_ := ⟨_, rfl⟩
              replace H : (rickref06_Put.l0 k1 l0 ji6 ji7 (wrap64 (x5_1 + 1))) = some r := by first | (rw [hji7] at H; exact H) | (simp only [hji7] at H ⊢; exact H)
              have hji7_ : (if x4_1 < (rd l0 x5_1) then (rd l0 x5_1) else x4_1) = ji7 := hji7
              have H' := Aside0.mk H
              clear H
              have p370 : 0 ≤ (x5_1 : Int) := of_decide_eq_true (by first | (with_reducible assumption) | assumption)
              have q370 : x5_1 < (l0.length : Int) := of_decide_eq_true (by first | (with_reducible assumption) | assumption)
              obtain ⟨ad370, e370, hx370_0⟩ := Kd.at_int HR0.out x5_1 p370 q370
              obtain rfl : ad368 = ad370 := (by injection e370)
              replace hx370_0 := (HB.out.cell (World.block_lt_of_cell? w _ hx370_0)).trans hx370_0
              replace p370 := eq_true p370
              replace q370 := eq_true q370
              have p371 : 0 ≤ (x5_1 : Int) := of_decide_eq_true (by first | (with_reducible assumption) | assumption)
              have q371 : x5_1 < (l0.length : Int) := of_decide_eq_true (by first | (with_reducible assumption) | assumption)
              obtain ⟨ad371, e371, hx371_0⟩ := Kd.at_int HR0.out x5_1 p371 q371
              obtain rfl : ad368 = ad371 := (by injection e371)
              replace hx371_0 := (HB.out.cell (World.block_lt_of_cell? w _ hx371_0)).trans hx371_0
              replace p371 := eq_true p371
              replace q371 := eq_true q371
              go_wp2
              repeat (go_quiet (fail); try go_wp2)
              go_roundg k1
              case measure => have := HK1.out; omega
              case rel => exact ⟨(ji6), (ji7), (wrap64 (x5_1 + 1)), (by first | rfl | (simp; done) | (simp only [← hji6] <;> (first | rfl | simp)) | (simp [*]; done)), (by first | rfl | (simp; done) | (simp only [← hji7] <;> (first | rfl | simp)) | (simp [*]; done)), (by first | rfl | (simp; done) | (simp [*]; done)), H', ⟨by have := HK1.out; omega⟩, ⟨by repeat (first | (with_reducible first | exact HB.out | apply below_alloc | apply pw_below_drewN | apply below_drew1) | exact HB.out)⟩⟩
            · rw [if_neg c5] at H
              exact absurd H (by simp)
          · rw [if_neg c4] at H
            have c4b0 : decide (x5_1 < (l0.length : Int)) = false := decide_eq_false c4
            clear c4
            have HC8 := Aside0.mk H
            clear H
            go_upto_block 2 with (fail)
            repeat (go_quiet (fail); go_upto_block 2 with (fail))
            go_cut [6] (fun v6 wc => ∃ (kq : Nat) (x6_7 : Int), v6 = .int .i64 x6_7 ∧ Aside0 (rickref06_Put.j2 kq l0 x3_1 x6_7 = some r) ∧ Aside0 (kq ≤ k1) ∧ Aside0 (Below w.heap.size w wc))
            case first =>
              have H := HC8.out
              clear HC8
              have H' := Aside0.mk H
              clear H
              go_wp2
              repeat (go_quiet (fail); try go_wp2)
              go_loopg [6] k1 (fun kq v6 w' => ∃ (x6_2 : Int), v6 = .int .i64 x6_2 ∧ Aside0 (rickref06_Put.l1 kq l0 x3_1 x4_1 x6_2 = some r) ∧ Aside0 (kq ≤ k1) ∧ Aside0 (Below w.heap.size w w'))
              case atStart => exact ⟨(0), (by first | rfl | (simp; done) | (simp [*]; done)), H', ⟨Nat.le_refl _⟩, ⟨by repeat (first | (with_reducible first | exact HB.out | apply below_alloc | apply pw_below_drewN | apply below_drew1) | exact HB.out)⟩⟩
              case round =>
                clear H'
                try clear c2
                try clear c2b0
                try clear c2b1
                try clear c2b2
                try clear p2
                try clear c3
                try clear c3b0
                try clear c3b1
                try clear p3
                try clear q3
                try clear hx3
                try clear qi3
                try clear c4
                try clear c4b0
                try clear c5
                try clear c5b0
                try clear p6
                try clear hx368_0
                try clear hx369_0
                try clear hx370_0
                try clear hx371_0
                try clear p2
                try clear p3
                try clear p368
                try clear p369
                try clear p370
                try clear p371
                try clear q3
                try clear q368
                try clear q369
                try clear q370
                try clear q371
                obtain ⟨x6_2, rfl, HA, HK2, HB⟩ := hrel
                cases gk with
                | zero => exact absurd HA.out (by simp [rickref06_Put.l1])
                | succ k2 =>
                  have H := HA.out
                  clear HA
                  simp only [rickref06_Put.l1] at H
                  by_cases c9 : x6_2 < 64
                  · rw [if_pos c9] at H
                    have c9b0 : decide (x6_2 < 64) = true := decide_eq_true c9
                    clear c9
                    (first | rw [c9b0] | (simp only [i64_w, i32_w]; rw [c9b0]) | skip)
                    by_cases c10 : 0 ≤ x6_2
                    · rw [if_pos c10] at H
                      have c10b0 := eq_true c10
                      have c10b1 : decide (0 ≤ x6_2) = true := decide_eq_true c10
                      clear c10
                      obtain ⟨ji11, hji11⟩ : ∃ j_ : Int, (shr .u64 (IntKind.u64.wrap (x4_1 - x3_1)) x6_2) = j_ := ⟨_, rfl⟩
                      replace H : (if (ji11) > 0 then (rickref06_Put.l1 k2 l0 x3_1 x4_1 (wrap64 (x6_2 + 1))) else (rickref06_Put.j2 k2 l0 x3_1 x6_2)) = some r := by first | (rw [hji11] at H; exact H) | (simp only [hji11] at H ⊢; exact H)
                      have hji11_ : ((IntKind.u64.wrap (x4_1 - x3_1)) / 2 ^ min x6_2.toNat 64) = ji11 := hji11
                      have hji11z : x6_2 ≤ 64 → ((IntKind.u64.wrap (x4_1 - x3_1)) / 2 ^ x6_2.toNat) = ji11 := shr_small hji11
                      by_cases c12 : (ji11) > 0
                      · rw [if_pos c12] at H
                        have c12b0 : decide (0 < (ji11)) = true := decide_eq_true c12
                        clear c12
                        have H' := Aside0.mk H
                        clear H
                        go_wp2
                        repeat (go_quiet (fail); try go_wp2)
                        go_roundg k2
                        case measure => have := HK1.out; have := HK2.out; omega
                        case rel => exact ⟨(wrap64 (x6_2 + 1)), (by first | rfl | (simp; done) | (simp [*]; done)), H', ⟨by have := HK1.out; have := HK2.out; omega⟩, ⟨by repeat (first | (with_reducible first | exact HB.out | apply below_alloc | apply pw_below_drewN | apply below_drew1) | exact HB.out)⟩⟩
                      · rw [if_neg c12] at H
                        have c12b0 : decide (0 < (ji11)) = false := decide_eq_false c12
                        clear c12
                        have H' := Aside0.mk H
                        clear H
                        go_wp2
                        repeat (go_quiet (fail); try go_wp2)
                        go_meet
                        case rel => exact ⟨_, (x6_2), (by first | rfl | (simp; done) | (simp [*]; done)), H', ⟨by have := HK1.out; have := HK2.out; first | omega | exact Nat.le_refl _⟩, ⟨by repeat (first | (with_reducible first | exact HB.out | apply below_alloc | apply pw_below_drewN | apply below_drew1) | exact HB.out)⟩⟩
                    · rw [if_neg c10] at H
                      exact absurd H (by simp)
                  · rw [if_neg c9] at H
                    have c9b0 : decide (x6_2 < 64) = false := decide_eq_false c9
                    clear c9
                    (first | rw [c9b0] | (simp only [i64_w, i32_w]; rw [c9b0]) | skip)
                    have H' := Aside0.mk H
                    clear H
                    go_wp2
                    repeat (go_quiet (fail); try go_wp2)
                    go_meet
                    case rel => exact ⟨_, (x6_2), (by first | rfl | (simp; done) | (simp [*]; done)), H', ⟨by have := HK1.out; have := HK2.out; first | omega | exact Nat.le_refl _⟩, ⟨by repeat (first | (with_reducible first | exact HB.out | apply below_alloc | apply pw_below_drewN | apply below_drew1) | exact HB.out)⟩⟩
            case rest =>
              clear HC8
              try clear c1
              try clear c2
              try clear c2b0
              try clear c2b1
              try clear c2b2
              try clear p2
              try clear c3
              try clear c3b0
              try clear c3b1
              try clear p3
              try clear q3
              try clear hx3
              try clear qi3
              try clear c4
              try clear c4b0
              try clear c5
              try clear c5b0
              try clear p6
              try clear c9
              try clear c9b0
              try clear c10
              try clear c10b0
              try clear c10b1
              try clear c12
              try clear c12b0
              try clear hx368_0
              try clear hx369_0
              try clear hx370_0
              try clear hx371_0
              try clear p2
              try clear p3
              try clear p368
              try clear p369
              try clear p370
              try clear p371
              try clear p6
              try clear q3
              try clear q368
              try clear q369
              try clear q370
              try clear q371
              obtain ⟨kq, x6_7, rfl, HA, HJ7, HB⟩ := hcut
              cases kq with
              | zero => exact absurd HA.out (by simp [rickref06_Put.j2])
              | succ kj7 =>
                have H := HA.out
                clear HA
                simp only [rickref06_Put.j2] at H
                have H' := Aside0.mk H
                clear H
                go_wp2
                repeat (go_quiet (fail); try go_wp2)
                go_loopg [7, 8] kj7 (fun kq v7 v8 w' => ∃ (x7_3 : List Int) (x8_3 : Int), v8 = .int .i64 x8_3 ∧ Aside0 (rickref06_Put.l2 kq l0 x3_1 x6_7 x7_3 x8_3 = some r) ∧ Aside0 (kq ≤ kj7) ∧ Aside0 (Kd.R (Kd.int .u8) 5 w' w.heap.size (fun _ => True) v7 x7_3) ∧ Aside0 (Below w.heap.size w w'))
                case atStart => exact ⟨(([] : List Int)), (0), (by first | rfl | (simp; done) | (simp [*]; done)), H', ⟨Nat.le_refl _⟩, ⟨by first | exact Kd.R_nil _ _ _ _ _ | exact Kd.N_nil _ _ _ _ _ | exact Kd.V_nil _ _ _ _ _ | exact Kd.Q_nil _ _ _ _ _ | exact Kd.S_nil _ _ _ _ _⟩, ⟨by repeat (first | (with_reducible first | exact HB.out | apply below_alloc | apply pw_below_drewN | apply below_drew1) | exact HB.out)⟩⟩
                case round =>
                  clear H'
                  try clear c1
                  try clear c2
                  try clear c2b0
                  try clear c2b1
                  try clear c2b2
                  try clear p2
                  try clear c3
                  try clear c3b0
                  try clear c3b1
                  try clear p3
                  try clear q3
                  try clear hx3
                  try clear qi3
                  try clear c4
                  try clear c4b0
                  try clear c5
                  try clear c5b0
                  try clear p6
                  try clear c9
                  try clear c9b0
                  try clear c10
                  try clear c10b0
                  try clear c10b1
                  try clear c12
                  try clear c12b0
                  try clear hx368_0
                  try clear hx369_0
                  try clear hx370_0
                  try clear hx371_0
                  try clear p2
                  try clear p3
                  try clear p368
                  try clear p369
                  try clear p370
                  try clear p371
                  try clear p6
                  try clear q3
                  try clear q368
                  try clear q369
                  try clear q370
                  try clear q371
                  obtain ⟨x7_3, x8_3, rfl, HA, HK3, HO_7, HB⟩ := hrel
                  cases gk with
                  | zero => exact absurd HA.out (by simp [rickref06_Put.l2])
                  | succ k3 =>
                    have H := HA.out
                    clear HA
                    simp only [rickref06_Put.l2] at H
                    by_cases c13 : x8_3 < (l0.length : Int)
                    · rw [if_pos c13] at H
                      have c13b0 : decide (x8_3 < (l0.length : Int)) = true := decide_eq_true c13
                      clear c13
                      by_cases c14 : 0 ≤ x8_3
                      · rw [if_pos c14] at H
                        have c14b0 : decide (0 ≤ x8_3) = true := decide_eq_true c14
                        clear c14
                        replace H := Option.bind_eq_some_iff.mp H
                        obtain ⟨t373, A150, H⟩ := H
                        replace H : (rickref06_Put.l2 k3 l0 x3_1 x6_7 t373 (wrap64 (x8_3 + 1))) = some r := H
                        have A15 := Aside0.mk A150
                        clear A150
                        have H' := Aside0.mk H
                        clear H
                        have p372 : 0 ≤ (x8_3 : Int) := of_decide_eq_true (by first | (with_reducible assumption) | assumption)
                        have q372 : x8_3 < (l0.length : Int) := of_decide_eq_true (by first | (with_reducible assumption) | assumption)
                        obtain ⟨ad372, e372, hx372_0⟩ := Kd.at_int HR0.out x8_3 p372 q372
                        obtain rfl : ad368 = ad372 := (by injection e372)
                        replace hx372_0 := (HB.out.cell (World.block_lt_of_cell? w _ hx372_0)).trans hx372_0
                        replace p372 := eq_true p372
                        replace q372 := eq_true q372
                        obtain ⟨Ao16, co16, eo16⟩ := Kd.R_slice HO_7.out
                        subst eo16
                        go_wp2_with (first | (go_at_call 31; (with_reducible refine (rickref04_Put.calls k3 (fun k_ => some k_ = (.slice Ao16 x7_3.length co16 : Value).ownBlock) (.slice Ao16 x7_3.length co16) x7_3 (IntKind.u64.wrap ((rd l0 x8_3) - x3_1)) x6_7 t373 w _ ?side1 ?side2 A15.out).mono ?_); (case side1 => repeat (first | (with_reducible first | exact HB.out | apply below_alloc | apply pw_below_drewN | apply below_drew1) | exact HB.out)); (case side2 => exact Kd.R_tight rfl HO_7.out); rintro e w17 ⟨v374, rfl, ho0, hb, hkp⟩; have n0_ := Aside0.mk (Kd.R_mono (ok' := fun k_ => True) ho0 (fun k_ hk_ => trivial)); have n1_ := Aside0.mk (hb); clear HB; clear HO_7; have HO375 := n0_; have HB := n1_; clear n0_ n1_; (try clear hb); (try clear hkp); (try clear ho0)))
                        repeat (go_quiet (first | (go_at_call 31; (with_reducible refine (rickref04_Put.calls k3 (fun k_ => some k_ = (.slice Ao16 x7_3.length co16 : Value).ownBlock) (.slice Ao16 x7_3.length co16) x7_3 (IntKind.u64.wrap ((rd l0 x8_3) - x3_1)) x6_7 t373 w _ ?side1 ?side2 A15.out).mono ?_); (case side1 => repeat (first | (with_reducible first | exact HB.out | apply below_alloc | apply pw_below_drewN | apply below_drew1) | exact HB.out)); (case side2 => exact Kd.R_tight rfl HO_7.out); rintro e w17 ⟨v374, rfl, ho0, hb, hkp⟩; have n0_ := Aside0.mk (Kd.R_mono (ok' := fun k_ => True) ho0 (fun k_ hk_ => trivial)); have n1_ := Aside0.mk (hb); clear HB; clear HO_7; have HO375 := n0_; have HB := n1_; clear n0_ n1_; (try clear hb); (try clear hkp); (try clear ho0))); try go_wp2_with (first | (go_at_call 31; (with_reducible refine (rickref04_Put.calls k3 (fun k_ => some k_ = (.slice Ao16 x7_3.length co16 : Value).ownBlock) (.slice Ao16 x7_3.length co16) x7_3 (IntKind.u64.wrap ((rd l0 x8_3) - x3_1)) x6_7 t373 w _ ?side1 ?side2 A15.out).mono ?_); (case side1 => repeat (first | (with_reducible first | exact HB.out | apply below_alloc | apply pw_below_drewN | apply below_drew1) | exact HB.out)); (case side2 => exact Kd.R_tight rfl HO_7.out); rintro e w17 ⟨v374, rfl, ho0, hb, hkp⟩; have n0_ := Aside0.mk (Kd.R_mono (ok' := fun k_ => True) ho0 (fun k_ hk_ => trivial)); have n1_ := Aside0.mk (hb); clear HB; clear HO_7; have HO375 := n0_; have HB := n1_; clear n0_ n1_; (try clear hb); (try clear hkp); (try clear ho0))))
                        go_roundg k3
                        case measure => have := HK1.out; have := HJ7.out; have := HK3.out; omega
                        case rel => exact ⟨(t373), (wrap64 (x8_3 + 1)), (by first | rfl | (simp; done) | (simp [*]; done)), H', ⟨by have := HK1.out; have := HJ7.out; have := HK3.out; omega⟩, ⟨by (with_reducible repeat (first | apply Kd.R_alloc | apply Kd.R_drewN | apply Kd.R_drew)); exact HO375.out⟩, ⟨by repeat (first | (with_reducible first | exact HB.out | apply below_alloc | apply pw_below_drewN | apply below_drew1) | exact HB.out)⟩⟩
                      · rw [if_neg c14] at H
                        exact absurd H (by simp)
                    · rw [if_neg c13] at H
                      have c13b0 : decide (x8_3 < (l0.length : Int)) = false := decide_eq_false c13
                      clear c13
                      replace H := Option.bind_eq_some_iff.mp H
                      obtain ⟨t376, A180, H⟩ := H
                      replace H : (if t376.length < 140737488355328 then ((some (t376 ++ [(x6_7) % 256] : List Int)).bind fun y379 => ((rickref04_Bytes.f k3 x7_3).bind fun t382 => (if y379.length + t382.length < 140737488355328 then (some (y379 ++ t382)) else (none)))) else (none)) = some r := H
                      have A18 := Aside0.mk A180
                      clear A180
                      by_cases c19 : t376.length < 140737488355328
                      · rw [if_pos c19] at H
                        have LMc19 := Aside0.mk c19
                        clear c19
                        obtain ⟨y379, hy379⟩ : ∃ y_ : List Int, y_ = (t376 ++ [(x6_7) % 256]) := ⟨_, rfl⟩
                        replace H : ((rickref04_Bytes.f k3 x7_3).bind fun t382 => (if y379.length + t382.length < 140737488355328 then (some (y379 ++ t382)) else (none))) = some r := by first | (rw [hy379]; with_reducible exact H) | (have H2_ := (Option.bind_some _ _).symm.trans H; rw [hy379]; with_reducible exact H2_) | (have H2_ := (Option.bind_some _ _).symm.trans H; with_reducible exact H2_) | with_reducible exact H | (rw [hy379]; exact H) | exact H
                        have Ny379 := Aside0.mk hy379
                        clear hy379
                        replace H := Option.bind_eq_some_iff.mp H
                        obtain ⟨t382, A200, H⟩ := H
                        replace H : (if y379.length + t382.length < 140737488355328 then (some (y379 ++ t382)) else (none)) = some r := H
                        have A20 := Aside0.mk A200
                        clear A200
                        by_cases c21 : y379.length + t382.length < 140737488355328
                        · rw [if_pos c21] at H
                          have LMc21 := Aside0.mk c21
                          clear c21
                          obtain ⟨y385, hy385⟩ : ∃ y_ : List Int, y_ = (y379 ++ t382) := ⟨_, rfl⟩
                          replace H : (some y385) = some r := by first | (rw [hy385]; with_reducible exact H) | (have H2_ := (Option.bind_some _ _).symm.trans H; rw [hy385]; with_reducible exact H2_) | (have H2_ := (Option.bind_some _ _).symm.trans H; with_reducible exact H2_) | with_reducible exact H | (rw [hy385]; exact H) | exact H
                          have Ny385 := Aside0.mk hy385
                          clear hy385
                          obtain rfl := Option.some.inj H
                          go_wp2_with (first | (go_at_call 59; (with_reducible refine (rickref06_Raw.calls k3 x3_1 t376 _ A18.out).mono ?_); rintro e w22 ⟨v377, rfl, ho0, hb⟩; have n0_ := Aside0.mk (Kd.R_elder' (by (with_reducible repeat (first | apply Kd.R_alloc | apply Kd.R_drewN | apply Kd.R_drew)); exact HO_7.out) (Kd.R_base ho0) hb); have n1_ := Aside0.mk (Kd.R_lower (Kd.R_new' ho0 (Kd.R_lt (by (with_reducible repeat (first | apply Kd.R_alloc | apply Kd.R_drewN | apply Kd.R_drew)); exact HO_7.out))) (below_size (by repeat (first | (with_reducible first | exact HB.out | apply below_alloc | apply pw_below_drewN | apply below_drew1) | exact HB.out)))); have n2_ := Aside0.mk (below_step (by repeat (first | (with_reducible first | exact HB.out | apply below_alloc | apply pw_below_drewN | apply below_drew1) | exact HB.out)) hb); clear HO_7; clear HB; have HO_7 := n0_; have HO378 := n1_; have HB := n2_; clear n0_ n1_ n2_; (try clear hb); (try clear hb2); (try clear hk); (try clear hi); (try clear ho0)) | ((with_reducible refine gate_builtin (b := .append) (xs := #[.tmp 64, .tmp 67]) rfl ?_); at_builtin; refine Kd.R_append (Kd.int .u8) (w0 := w) w.heap.size rfl (.tmp 64) (.tmp 67) 22 5 (.int .u8 0) 1 rfl Try.underlying22 info5 rfl (by decide) (by omega) v377 t376 ((x6_7) % 256) [.int .u8 ((x6_7) % 256)] (fun k_ => some k_ ≠ (u7 : Value).ownBlock) (fun _ => False) rfl rfl ?aP (fun _ hk => hk.elim) ?aF ?aO ?aB ?aS ?aL ?_; (case aP => exact rfl); (case aB => exact (by repeat (first | (with_reducible first | exact HB.out | apply below_alloc | apply pw_below_drewN | apply below_drew1) | exact HB.out))); (case aF => exact (fun k_ hk => Kd.fresh' (Kd.R_lt (by (with_reducible repeat (first | apply Kd.R_alloc | apply Kd.R_drewN | apply Kd.R_drew)); exact HO_7.out)) k_ hk)); (case aO => exact (by (with_reducible repeat (first | apply Kd.R_alloc | apply Kd.R_drewN | apply Kd.R_drew)); exact Kd.R_mono HO378.out (fun _ hk => hk.2))); (case aS => exact (below_size (by repeat (first | (with_reducible first | exact HB.out | apply below_alloc | apply pw_below_drewN | apply below_drew1) | exact HB.out)))); (case aL => have := LMc19.out; omega); intro v380 w23 ho hb hg hat; rw [← Ny379.out] at ho; have n0_ := Aside0.mk (Kd.R_after (ok := (fun _ => True)) (by (with_reducible repeat (first | apply Kd.R_alloc | apply Kd.R_drewN | apply Kd.R_drew)); exact HO_7.out) hg hat); have n1_ := Aside0.mk (hb); have n2_ := Aside0.mk (ho); clear HO_7; clear HB; clear HO378; have HO_7 := n0_; have HB := n1_; have HO381 := n2_; clear n0_ n1_ n2_; clear ho hb hg hat; obtain ⟨Ao24, co24, eo24⟩ := Kd.R_slice HO_7.out; subst eo24) | (go_at_call 32; (with_reducible refine (rickref04_Bytes.calls k3 _ _ x7_3 t382 _ ?side1 ?side2 A20.out).mono ?_); (case side1 => repeat (first | exact (Kd.R_reads' HO_7.out).2.2 | (with_reducible refine Kd.C_alloc ?_ _) | (with_reducible refine Kd.C_drewN ?_ _) | (with_reducible refine Kd.C_drew ?_))); (case side2 => exact (Kd.R_reads' HO_7.out).2.1); rintro e w25 ⟨v383, rfl, ho0, hb⟩; have n0_ := Aside0.mk (Kd.R_elder' (by (with_reducible repeat (first | apply Kd.R_alloc | apply Kd.R_drewN | apply Kd.R_drew)); exact HO_7.out) (Kd.R_base ho0) hb); have n1_ := Aside0.mk (Kd.R_elder' (by (with_reducible repeat (first | apply Kd.R_alloc | apply Kd.R_drewN | apply Kd.R_drew)); exact HO381.out) (Kd.R_base ho0) hb); have n2_ := Aside0.mk (Kd.R_lower (Kd.R_new' (Kd.R_new' ho0 (Kd.R_lt (by (with_reducible repeat (first | apply Kd.R_alloc | apply Kd.R_drewN | apply Kd.R_drew)); exact HO_7.out))) (Kd.R_lt (by (with_reducible repeat (first | apply Kd.R_alloc | apply Kd.R_drewN | apply Kd.R_drew)); exact HO381.out))) (below_size (by repeat (first | (with_reducible first | exact HB.out | apply below_alloc | apply pw_below_drewN | apply below_drew1) | exact HB.out)))); have n3_ := Aside0.mk (below_step (by repeat (first | (with_reducible first | exact HB.out | apply below_alloc | apply pw_below_drewN | apply below_drew1) | exact HB.out)) hb); clear HO_7; clear HO381; clear HB; have HO_7 := n0_; have HO381 := n1_; have HO384 := n2_; have HB := n3_; clear n0_ n1_ n2_ n3_; (try clear hb); (try clear hb2); (try clear hk); (try clear hi); (try clear ho0); obtain ⟨Ao27, co27, eo27⟩ := Kd.R_slice HO384.out; subst eo27) | ((with_reducible refine gate_builtin (b := .append) (xs := #[.tmp 68, .tmp 70]) rfl ?_); at_builtin; refine Kd.R_append_rows (Kd.int .u8) (w0 := w) w.heap.size rfl (.tmp 68) (.tmp 70) 22 5 (.int .u8 0) 1 rfl Try.underlying22 info5 rfl (by decide) (by omega) v380 y379 t382 _ _ _ (fun k_ => some k_ ≠ (.slice Ao24 x7_3.length co24 : Value).ownBlock ∧ some k_ ≠ (.slice Ao27 t382.length co27 : Value).ownBlock) (fun _ => False) rfl rfl ?aO ?aR (fun _ _ h => h) (fun _ h => h.elim) ?aF ?aB ?aS ?aL ?_; (case aR => repeat (first | exact (Kd.R_reads' HO384.out).2.2 | (with_reducible refine Kd.C_alloc ?_ _) | (with_reducible refine Kd.C_drewN ?_ _) | (with_reducible refine Kd.C_drew ?_))); (case aB => exact (by repeat (first | (with_reducible first | exact HB.out | apply below_alloc | apply pw_below_drewN | apply below_drew1) | exact HB.out))); (case aF => exact (fun k_ hk => ⟨Kd.fresh' (Kd.R_lt (by (with_reducible repeat (first | apply Kd.R_alloc | apply Kd.R_drewN | apply Kd.R_drew)); exact HO_7.out)) k_ hk, Kd.fresh' (Kd.R_lt (by (with_reducible repeat (first | apply Kd.R_alloc | apply Kd.R_drewN | apply Kd.R_drew)); exact HO384.out)) k_ hk⟩)); (case aO => exact (by (with_reducible repeat (first | apply Kd.R_alloc | apply Kd.R_drewN | apply Kd.R_drew)); exact HO381.out)); (case aS => exact (below_size (by repeat (first | (with_reducible first | exact HB.out | apply below_alloc | apply pw_below_drewN | apply below_drew1) | exact HB.out)))); (case aL => have := LMc21.out; omega); intro v386 w26 ho hb hg hat; rw [← Ny385.out] at ho; have n0_ := Aside0.mk (Kd.R_after (ok := (fun k_ => some k_ ≠ (.slice Ao27 t382.length co27 : Value).ownBlock)) (by (with_reducible repeat (first | apply Kd.R_alloc | apply Kd.R_drewN | apply Kd.R_drew)); exact Kd.R_mono HO_7.out (fun _ hk => ⟨hk.2, hk.1.2⟩)) hg hat); have n1_ := Aside0.mk (Kd.R_after (ok := (fun k_ => some k_ ≠ (.slice Ao24 x7_3.length co24 : Value).ownBlock)) (by (with_reducible repeat (first | apply Kd.R_alloc | apply Kd.R_drewN | apply Kd.R_drew)); exact Kd.R_mono HO384.out (fun _ hk => ⟨hk.1.2, hk.2⟩)) hg hat); have n2_ := Aside0.mk (hb); have n3_ := Aside0.mk (ho); clear HO_7; clear HO384; clear HB; clear HO381; have HO_7 := n0_; have HO384 := n1_; have HB := n2_; have HO387 := n3_; clear n0_ n1_ n2_ n3_; clear ho hb hg hat))
                          repeat (go_quiet (first | (go_at_call 59; (with_reducible refine (rickref06_Raw.calls k3 x3_1 t376 _ A18.out).mono ?_); rintro e w22 ⟨v377, rfl, ho0, hb⟩; have n0_ := Aside0.mk (Kd.R_elder' (by (with_reducible repeat (first | apply Kd.R_alloc | apply Kd.R_drewN | apply Kd.R_drew)); exact HO_7.out) (Kd.R_base ho0) hb); have n1_ := Aside0.mk (Kd.R_lower (Kd.R_new' ho0 (Kd.R_lt (by (with_reducible repeat (first | apply Kd.R_alloc | apply Kd.R_drewN | apply Kd.R_drew)); exact HO_7.out))) (below_size (by repeat (first | (with_reducible first | exact HB.out | apply below_alloc | apply pw_below_drewN | apply below_drew1) | exact HB.out)))); have n2_ := Aside0.mk (below_step (by repeat (first | (with_reducible first | exact HB.out | apply below_alloc | apply pw_below_drewN | apply below_drew1) | exact HB.out)) hb); clear HO_7; clear HB; have HO_7 := n0_; have HO378 := n1_; have HB := n2_; clear n0_ n1_ n2_; (try clear hb); (try clear hb2); (try clear hk); (try clear hi); (try clear ho0)) | ((with_reducible refine gate_builtin (b := .append) (xs := #[.tmp 64, .tmp 67]) rfl ?_); at_builtin; refine Kd.R_append (Kd.int .u8) (w0 := w) w.heap.size rfl (.tmp 64) (.tmp 67) 22 5 (.int .u8 0) 1 rfl Try.underlying22 info5 rfl (by decide) (by omega) v377 t376 ((x6_7) % 256) [.int .u8 ((x6_7) % 256)] (fun k_ => some k_ ≠ (u7 : Value).ownBlock) (fun _ => False) rfl rfl ?aP (fun _ hk => hk.elim) ?aF ?aO ?aB ?aS ?aL ?_; (case aP => exact rfl); (case aB => exact (by repeat (first | (with_reducible first | exact HB.out | apply below_alloc | apply pw_below_drewN | apply below_drew1) | exact HB.out))); (case aF => exact (fun k_ hk => Kd.fresh' (Kd.R_lt (by (with_reducible repeat (first | apply Kd.R_alloc | apply Kd.R_drewN | apply Kd.R_drew)); exact HO_7.out)) k_ hk)); (case aO => exact (by (with_reducible repeat (first | apply Kd.R_alloc | apply Kd.R_drewN | apply Kd.R_drew)); exact Kd.R_mono HO378.out (fun _ hk => hk.2))); (case aS => exact (below_size (by repeat (first | (with_reducible first | exact HB.out | apply below_alloc | apply pw_below_drewN | apply below_drew1) | exact HB.out)))); (case aL => have := LMc19.out; omega); intro v380 w23 ho hb hg hat; rw [← Ny379.out] at ho; have n0_ := Aside0.mk (Kd.R_after (ok := (fun _ => True)) (by (with_reducible repeat (first | apply Kd.R_alloc | apply Kd.R_drewN | apply Kd.R_drew)); exact HO_7.out) hg hat); have n1_ := Aside0.mk (hb); have n2_ := Aside0.mk (ho); clear HO_7; clear HB; clear HO378; have HO_7 := n0_; have HB := n1_; have HO381 := n2_; clear n0_ n1_ n2_; clear ho hb hg hat; obtain ⟨Ao24, co24, eo24⟩ := Kd.R_slice HO_7.out; subst eo24) | (go_at_call 32; (with_reducible refine (rickref04_Bytes.calls k3 _ _ x7_3 t382 _ ?side1 ?side2 A20.out).mono ?_); (case side1 => repeat (first | exact (Kd.R_reads' HO_7.out).2.2 | (with_reducible refine Kd.C_alloc ?_ _) | (with_reducible refine Kd.C_drewN ?_ _) | (with_reducible refine Kd.C_drew ?_))); (case side2 => exact (Kd.R_reads' HO_7.out).2.1); rintro e w25 ⟨v383, rfl, ho0, hb⟩; have n0_ := Aside0.mk (Kd.R_elder' (by (with_reducible repeat (first | apply Kd.R_alloc | apply Kd.R_drewN | apply Kd.R_drew)); exact HO_7.out) (Kd.R_base ho0) hb); have n1_ := Aside0.mk (Kd.R_elder' (by (with_reducible repeat (first | apply Kd.R_alloc | apply Kd.R_drewN | apply Kd.R_drew)); exact HO381.out) (Kd.R_base ho0) hb); have n2_ := Aside0.mk (Kd.R_lower (Kd.R_new' (Kd.R_new' ho0 (Kd.R_lt (by (with_reducible repeat (first | apply Kd.R_alloc | apply Kd.R_drewN | apply Kd.R_drew)); exact HO_7.out))) (Kd.R_lt (by (with_reducible repeat (first | apply Kd.R_alloc | apply Kd.R_drewN | apply Kd.R_drew)); exact HO381.out))) (below_size (by repeat (first | (with_reducible first | exact HB.out | apply below_alloc | apply pw_below_drewN | apply below_drew1) | exact HB.out)))); have n3_ := Aside0.mk (below_step (by repeat (first | (with_reducible first | exact HB.out | apply below_alloc | apply pw_below_drewN | apply below_drew1) | exact HB.out)) hb); clear HO_7; clear HO381; clear HB; have HO_7 := n0_; have HO381 := n1_; have HO384 := n2_; have HB := n3_; clear n0_ n1_ n2_ n3_; (try clear hb); (try clear hb2); (try clear hk); (try clear hi); (try clear ho0); obtain ⟨Ao27, co27, eo27⟩ := Kd.R_slice HO384.out; subst eo27) | ((with_reducible refine gate_builtin (b := .append) (xs := #[.tmp 68, .tmp 70]) rfl ?_); at_builtin; refine Kd.R_append_rows (Kd.int .u8) (w0 := w) w.heap.size rfl (.tmp 68) (.tmp 70) 22 5 (.int .u8 0) 1 rfl Try.underlying22 info5 rfl (by decide) (by omega) v380 y379 t382 _ _ _ (fun k_ => some k_ ≠ (.slice Ao24 x7_3.length co24 : Value).ownBlock ∧ some k_ ≠ (.slice Ao27 t382.length co27 : Value).ownBlock) (fun _ => False) rfl rfl ?aO ?aR (fun _ _ h => h) (fun _ h => h.elim) ?aF ?aB ?aS ?aL ?_; (case aR => repeat (first | exact (Kd.R_reads' HO384.out).2.2 | (with_reducible refine Kd.C_alloc ?_ _) | (with_reducible refine Kd.C_drewN ?_ _) | (with_reducible refine Kd.C_drew ?_))); (case aB => exact (by repeat (first | (with_reducible first | exact HB.out | apply below_alloc | apply pw_below_drewN | apply below_drew1) | exact HB.out))); (case aF => exact (fun k_ hk => ⟨Kd.fresh' (Kd.R_lt (by (with_reducible repeat (first | apply Kd.R_alloc | apply Kd.R_drewN | apply Kd.R_drew)); exact HO_7.out)) k_ hk, Kd.fresh' (Kd.R_lt (by (with_reducible repeat (first | apply Kd.R_alloc | apply Kd.R_drewN | apply Kd.R_drew)); exact HO384.out)) k_ hk⟩)); (case aO => exact (by (with_reducible repeat (first | apply Kd.R_alloc | apply Kd.R_drewN | apply Kd.R_drew)); exact HO381.out)); (case aS => exact (below_size (by repeat (first | (with_reducible first | exact HB.out | apply below_alloc | apply pw_below_drewN | apply below_drew1) | exact HB.out)))); (case aL => have := LMc21.out; omega); intro v386 w26 ho hb hg hat; rw [← Ny385.out] at ho; have n0_ := Aside0.mk (Kd.R_after (ok := (fun k_ => some k_ ≠ (.slice Ao27 t382.length co27 : Value).ownBlock)) (by (with_reducible repeat (first | apply Kd.R_alloc | apply Kd.R_drewN | apply Kd.R_drew)); exact Kd.R_mono HO_7.out (fun _ hk => ⟨hk.2, hk.1.2⟩)) hg hat); have n1_ := Aside0.mk (Kd.R_after (ok := (fun k_ => some k_ ≠ (.slice Ao24 x7_3.length co24 : Value).ownBlock)) (by (with_reducible repeat (first | apply Kd.R_alloc | apply Kd.R_drewN | apply Kd.R_drew)); exact Kd.R_mono HO384.out (fun _ hk => ⟨hk.1.2, hk.2⟩)) hg hat); have n2_ := Aside0.mk (hb); have n3_ := Aside0.mk (ho); clear HO_7; clear HO384; clear HB; clear HO381; have HO_7 := n0_; have HO384 := n1_; have HB := n2_; have HO387 := n3_; clear n0_ n1_ n2_ n3_; clear ho hb hg hat)); try go_wp2_with (first | (go_at_call 59; (with_reducible refine (rickref06_Raw.calls k3 x3_1 t376 _ A18.out).mono ?_); rintro e w22 ⟨v377, rfl, ho0, hb⟩; have n0_ := Aside0.mk (Kd.R_elder' (by (with_reducible repeat (first | apply Kd.R_alloc | apply Kd.R_drewN | apply Kd.R_drew)); exact HO_7.out) (Kd.R_base ho0) hb); have n1_ := Aside0.mk (Kd.R_lower (Kd.R_new' ho0 (Kd.R_lt (by (with_reducible repeat (first | apply Kd.R_alloc | apply Kd.R_drewN | apply Kd.R_drew)); exact HO_7.out))) (below_size (by repeat (first | (with_reducible first | exact HB.out | apply below_alloc | apply pw_below_drewN | apply below_drew1) | exact HB.out)))); have n2_ := Aside0.mk (below_step (by repeat (first | (with_reducible first | exact HB.out | apply below_alloc | apply pw_below_drewN | apply below_drew1) | exact HB.out)) hb); clear HO_7; clear HB; have HO_7 := n0_; have HO378 := n1_; have HB := n2_; clear n0_ n1_ n2_; (try clear hb); (try clear hb2); (try clear hk); (try clear hi); (try clear ho0)) | ((with_reducible refine gate_builtin (b := .append) (xs := #[.tmp 64, .tmp 67]) rfl ?_); at_builtin; refine Kd.R_append (Kd.int .u8) (w0 := w) w.heap.size rfl (.tmp 64) (.tmp 67) 22 5 (.int .u8 0) 1 rfl Try.underlying22 info5 rfl (by decide) (by omega) v377 t376 ((x6_7) % 256) [.int .u8 ((x6_7) % 256)] (fun k_ => some k_ ≠ (u7 : Value).ownBlock) (fun _ => False) rfl rfl ?aP (fun _ hk => hk.elim) ?aF ?aO ?aB ?aS ?aL ?_; (case aP => exact rfl); (case aB => exact (by repeat (first | (with_reducible first | exact HB.out | apply below_alloc | apply pw_below_drewN | apply below_drew1) | exact HB.out))); (case aF => exact (fun k_ hk => Kd.fresh' (Kd.R_lt (by (with_reducible repeat (first | apply Kd.R_alloc | apply Kd.R_drewN | apply Kd.R_drew)); exact HO_7.out)) k_ hk)); (case aO => exact (by (with_reducible repeat (first | apply Kd.R_alloc | apply Kd.R_drewN | apply Kd.R_drew)); exact Kd.R_mono HO378.out (fun _ hk => hk.2))); (case aS => exact (below_size (by repeat (first | (with_reducible first | exact HB.out | apply below_alloc | apply pw_below_drewN | apply below_drew1) | exact HB.out)))); (case aL => have := LMc19.out; omega); intro v380 w23 ho hb hg hat; rw [← Ny379.out] at ho; have n0_ := Aside0.mk (Kd.R_after (ok := (fun _ => True)) (by (with_reducible repeat (first | apply Kd.R_alloc | apply Kd.R_drewN | apply Kd.R_drew)); exact HO_7.out) hg hat); have n1_ := Aside0.mk (hb); have n2_ := Aside0.mk (ho); clear HO_7; clear HB; clear HO378; have HO_7 := n0_; have HB := n1_; have HO381 := n2_; clear n0_ n1_ n2_; clear ho hb hg hat; obtain ⟨Ao24, co24, eo24⟩ := Kd.R_slice HO_7.out; subst eo24) | (go_at_call 32; (with_reducible refine (rickref04_Bytes.calls k3 _ _ x7_3 t382 _ ?side1 ?side2 A20.out).mono ?_); (case side1 => repeat (first | exact (Kd.R_reads' HO_7.out).2.2 | (with_reducible refine Kd.C_alloc ?_ _) | (with_reducible refine Kd.C_drewN ?_ _) | (with_reducible refine Kd.C_drew ?_))); (case side2 => exact (Kd.R_reads' HO_7.out).2.1); rintro e w25 ⟨v383, rfl, ho0, hb⟩; have n0_ := Aside0.mk (Kd.R_elder' (by (with_reducible repeat (first | apply Kd.R_alloc | apply Kd.R_drewN | apply Kd.R_drew)); exact HO_7.out) (Kd.R_base ho0) hb); have n1_ := Aside0.mk (Kd.R_elder' (by (with_reducible repeat (first | apply Kd.R_alloc | apply Kd.R_drewN | apply Kd.R_drew)); exact HO381.out) (Kd.R_base ho0) hb); have n2_ := Aside0.mk (Kd.R_lower (Kd.R_new' (Kd.R_new' ho0 (Kd.R_lt (by (with_reducible repeat (first | apply Kd.R_alloc | apply Kd.R_drewN | apply Kd.R_drew)); exact HO_7.out))) (Kd.R_lt (by (with_reducible repeat (first | apply Kd.R_alloc | apply Kd.R_drewN | apply Kd.R_drew)); exact HO381.out))) (below_size (by repeat (first | (with_reducible first | exact HB.out | apply below_alloc | apply pw_below_drewN | apply below_drew1) | exact HB.out)))); have n3_ := Aside0.mk (below_step (by repeat (first | (with_reducible first | exact HB.out | apply below_alloc | apply pw_below_drewN | apply below_drew1) | exact HB.out)) hb); clear HO_7; clear HO381; clear HB; have HO_7 := n0_; have HO381 := n1_; have HO384 := n2_; have HB := n3_; clear n0_ n1_ n2_ n3_; (try clear hb); (try clear hb2); (try clear hk); (try clear hi); (try clear ho0); obtain ⟨Ao27, co27, eo27⟩ := Kd.R_slice HO384.out; subst eo27) | ((with_reducible refine gate_builtin (b := .append) (xs := #[.tmp 68, .tmp 70]) rfl ?_); at_builtin; refine Kd.R_append_rows (Kd.int .u8) (w0 := w) w.heap.size rfl (.tmp 68) (.tmp 70) 22 5 (.int .u8 0) 1 rfl Try.underlying22 info5 rfl (by decide) (by omega) v380 y379 t382 _ _ _ (fun k_ => some k_ ≠ (.slice Ao24 x7_3.length co24 : Value).ownBlock ∧ some k_ ≠ (.slice Ao27 t382.length co27 : Value).ownBlock) (fun _ => False) rfl rfl ?aO ?aR (fun _ _ h => h) (fun _ h => h.elim) ?aF ?aB ?aS ?aL ?_; (case aR => repeat (first | exact (Kd.R_reads' HO384.out).2.2 | (with_reducible refine Kd.C_alloc ?_ _) | (with_reducible refine Kd.C_drewN ?_ _) | (with_reducible refine Kd.C_drew ?_))); (case aB => exact (by repeat (first | (with_reducible first | exact HB.out | apply below_alloc | apply pw_below_drewN | apply below_drew1) | exact HB.out))); (case aF => exact (fun k_ hk => ⟨Kd.fresh' (Kd.R_lt (by (with_reducible repeat (first | apply Kd.R_alloc | apply Kd.R_drewN | apply Kd.R_drew)); exact HO_7.out)) k_ hk, Kd.fresh' (Kd.R_lt (by (with_reducible repeat (first | apply Kd.R_alloc | apply Kd.R_drewN | apply Kd.R_drew)); exact HO384.out)) k_ hk⟩)); (case aO => exact (by (with_reducible repeat (first | apply Kd.R_alloc | apply Kd.R_drewN | apply Kd.R_drew)); exact HO381.out)); (case aS => exact (below_size (by repeat (first | (with_reducible first | exact HB.out | apply below_alloc | apply pw_below_drewN | apply below_drew1) | exact HB.out)))); (case aL => have := LMc21.out; omega); intro v386 w26 ho hb hg hat; rw [← Ny385.out] at ho; have n0_ := Aside0.mk (Kd.R_after (ok := (fun k_ => some k_ ≠ (.slice Ao27 t382.length co27 : Value).ownBlock)) (by (with_reducible repeat (first | apply Kd.R_alloc | apply Kd.R_drewN | apply Kd.R_drew)); exact Kd.R_mono HO_7.out (fun _ hk => ⟨hk.2, hk.1.2⟩)) hg hat); have n1_ := Aside0.mk (Kd.R_after (ok := (fun k_ => some k_ ≠ (.slice Ao24 x7_3.length co24 : Value).ownBlock)) (by (with_reducible repeat (first | apply Kd.R_alloc | apply Kd.R_drewN | apply Kd.R_drew)); exact Kd.R_mono HO384.out (fun _ hk => ⟨hk.1.2, hk.2⟩)) hg hat); have n2_ := Aside0.mk (hb); have n3_ := Aside0.mk (ho); clear HO_7; clear HO384; clear HB; clear HO381; have HO_7 := n0_; have HO384 := n1_; have HB := n2_; have HO387 := n3_; clear n0_ n1_ n2_ n3_; clear ho hb hg hat)))
                          go_ret
                          exact ⟨_, by first | rfl | (simp [errW_none, errW_some] <;> rfl) | (simp [*, errW_none, errW_some] <;> rfl), by (with_reducible repeat (first | apply Kd.R_alloc | apply Kd.R_drewN | apply Kd.R_drew)); exact Kd.R_mono HO387.out (fun _ hk => trivial), by repeat (first | (with_reducible first | exact HB.out | apply below_alloc | apply pw_below_drewN | apply below_drew1) | exact HB.out)⟩
                        · rw [if_neg c21] at H
                          exact absurd H (by simp)
                      · rw [if_neg c19] at H
                        exact absurd H (by simp)
    · rw [if_neg c3] at H
      exact absurd H (by simp)

end Go.Proofs.Ytmlbppfcpejlpaa.X

/- What the reference of layer 6 (pack) tells, and that packed numbers are told back. No conditions. -/
namespace Go.Proofs.Ytmlbppfcpejlpaa.Q06
open Go Go.RowKit Go.Proofs.YtmlbppfcpejlpaaW.PrintWords Go.Proofs.YtmlbppfcpejlpaaW.PrintMore Go.Proofs.Ytmlbppfcpejlpaa.S Go.Proofs.Ytmlbppfcpejlpaa.B Go.Proofs.Ytmlbppfcpejlpaa.X Go.Proofs.Ytmlbppfcpejlpaa.Q04
set_option linter.unusedVariables false
set_option linter.unusedSimpArgs false

theorem us_ok {l : List Int} (h : Us l) : pack_Put.ok l = true := List.all_eq_true.2 (fun x hx => by simpa using h x hx)
theorem lo_hi {l : List Int} (hu : Us l) (h0 : 0 < l.length) : 0 ≤ minL l ∧ minL l < 18446744073709551616 ∧ minL l ≤ maxL l ∧ maxL l < 18446744073709551616 ∧ 0 ≤ maxL l - minL l ∧ maxL l - minL l < 18446744073709551616 := by
  have h1 := hu _ (min_facts h0).1
  have h2 := hu _ (max_facts h0).1
  have h3 := (max_facts h0).2 _ (min_facts h0).1
  omega
theorem width_le {l : List Int} (hu : Us l) (h0 : 0 < l.length) : pack_Put.width l ≤ 64 := by
  have := lo_hi hu h0
  exact wd_le (by omega) (by omega)
theorem body_eq (l : List Int) : pack_Put.body l = (l.map (fun n => bitsN (pack_Put.width l) (n - minL l))).flatten := rfl
theorem flat_bits (w : Nat) (lo : Int) (l : List Int) : Bits ((l.map (fun n => bitsN w (n - lo))).flatten) := by
  intro x hx
  obtain ⟨y, hy, hx⟩ := List.mem_flatten.1 hx
  obtain ⟨n, _, rfl⟩ := List.mem_map.1 hy
  exact bitsN_bits _ _ x hx
theorem flat_len (w : Nat) (lo : Int) (l : List Int) : ((l.map (fun n => bitsN w (n - lo))).flatten).length = l.length * w := by
  induction l with
  | nil => simp
  | cons a l ih => rw [List.map_cons, List.flatten_cons, List.length_append, ih, bitsN_len, List.length_cons, Nat.succ_mul]; omega
theorem bits_bits (l : List Int) : Bits (pack_Put.bits l) := ((bitsN_bits _ _).append (bitsN_bits _ _)).append (flat_bits _ _ _)
theorem bits_len (l : List Int) : (pack_Put.bits l).length = 72 + l.length * pack_Put.width l := by
  unfold pack_Put.bits
  rw [List.length_append, List.length_append, bitsN_len, bitsN_len, body_eq, flat_len]

/-! ### a number in eight bytes -/
def raw8 (n : Int) : List Int := (List.range 8).map (fun i => n / 2 ^ (8 * (7 - i)) % 256)
theorem raw_l0 {n : Int} (h0 : 0 ≤ n) (h1 : n < 18446744073709551616) (d : Nat) : ∀ (i k : Nat), i + d = 8 → d < k → rickref06_Raw.l0 k n ((raw8 n).take i) ((d : Int) - 1) = some (raw8 n) := by
  induction d with
  | zero =>
    intro i k hd hk
    obtain ⟨k, rfl⟩ : ∃ q, k = q + 1 := ⟨k - 1, by omega⟩
    simp only [rickref06_Raw.l0]
    rw [if_neg (by omega), List.take_of_length_le (by simp [raw8]; omega)]
  | succ d ih =>
    intro i k hd hk
    obtain ⟨k, rfl⟩ : ∃ q, k = q + 1 := ⟨k - 1, by omega⟩
    have hlt : i < (raw8 n).length := by simp [raw8]; omega
    simp only [rickref06_Raw.l0]
    rw [show ((d + 1 : Nat) : Int) - 1 = (d : Int) by omega, if_pos (by omega), show wrap64 (8 * (d : Int)) = ((8 * d : Nat) : Int) by rw [wrap64_id] <;> omega, if_pos (by omega), if_pos (by rw [List.length_take]; omega), shr_nat .u64 n (by simp [IntKind.bits]; omega), wrap64_id (by omega) (by omega)]
    have := ih (i + 1) k (by omega) (by omega)
    rw [List.take_succ_eq_append_getElem hlt] at this
    have e : (raw8 n)[i] = n / 2 ^ (8 * d) % 256 := by
      simp only [raw8, List.getElem_map, List.getElem_range]
      congr 3; omega
    rw [e] at this
    exact this
theorem raw_spec {k : Nat} {n : Int} (h0 : 0 ≤ n) (h1 : n < 18446744073709551616) (hk : 8 < k) : rickref06_Raw.f k n = some (raw8 n) := by
  unfold rickref06_Raw.f
  have := raw_l0 h0 h1 8 0 k (by omega) hk
  simpa using this
theorem raw8_len (n : Int) : (raw8 n).length = 8 := by simp [raw8]
theorem packB_64 (v : Int) : packB (bitsN 64 v) = raw8 v := packB_bitsN 8 v
theorem bits_packB {l : List Int} (hu : Us l) (h0 : 0 < l.length) : packB (pack_Put.bits l) = raw8 (minL l) ++ [(pack_Put.width l : Int)] ++ packB (pack_Put.body l) := by
  have := width_le hu h0
  unfold pack_Put.bits
  rw [packB_append (by rw [List.length_append, bitsN_len, bitsN_len]), packB_append (by rw [bitsN_len]), packB_64, packB_8 (by omega) (by omega)]

/-! ### the reference's Put -/
theorem ref_l2_end {l : List Int} (hu : Us l) (h0 : 0 < l.length) (hl : l.length ≤ 200) (k : Nat) (hk : 20000 < k) :
    rickref06_Put.l2 (k + 1) l (minL l) (pack_Put.width l : Int) (pack_Put.body l) (l.length : Int) = some (packB (pack_Put.bits l)) := by
  have hlo := lo_hi hu h0
  have hw := width_le hu h0
  have hlen : (pack_Put.body l).length = l.length * pack_Put.width l := flat_len _ _ _
  have hmul : l.length * pack_Put.width l ≤ 200 * 64 := Nat.mul_le_mul hl hw
  have hbits : Bits (pack_Put.body l) := flat_bits _ _ _
  have hpk := bits_packB hu h0
  generalize pack_Put.bits l = L at hpk ⊢
  generalize pack_Put.body l = bd at *
  generalize pack_Put.width l = w at *
  generalize minL l = lo at *
  have e1 := raw_spec (k := k) hlo.1 hlo.2.1 (by omega)
  have e2 := refbytes_spec (k := k) hbits (by omega) (by omega)
  have hr := raw8_len lo
  have hp := packB_len bd
  have hm : (w : Int) % 256 = (w : Int) := Int.emod_eq_of_lt (by omega) (by omega)
  generalize raw8 lo = rr at *
  generalize packB bd = pp at *
  unfold rickref06_Put.l2
  rw [if_neg (by omega), e1, Option.bind_some, if_pos (by omega), Option.bind_some, e2, Option.bind_some, if_pos (by simp; omega), hm, hpk]
theorem ref_l2_step {l : List Int} (hu : Us l) (h0 : 0 < l.length) (hl : l.length ≤ 200) (i k : Nat) (hlt : i < l.length) (hk : 20000 < k) :
    rickref06_Put.l2 (k + 1) l (minL l) (pack_Put.width l : Int) (((l.take i).map (fun n => bitsN (pack_Put.width l) (n - minL l))).flatten) (i : Int) =
      rickref06_Put.l2 k l (minL l) (pack_Put.width l : Int) (((l.take (i + 1)).map (fun n => bitsN (pack_Put.width l) (n - minL l))).flatten) ((i + 1 : Nat) : Int) := by
  have hlo := lo_hi hu h0
  have hw := width_le hu h0
  have hcl : cl (pack_Put.width l : Int) = pack_Put.width l := by rw [cl_id (by omega) (by omega)]; omega
  have hel := hu _ (List.getElem_mem hlt)
  have hge := (min_facts h0).2 _ (List.getElem_mem hlt)
  have hlen := flat_len (pack_Put.width l) (minL l) (l.take i)
  have hmul : (l.take i).length * pack_Put.width l ≤ 200 * 64 := Nat.mul_le_mul (by rw [List.length_take]; omega) hw
  have hs : (((l.take (i + 1)).map (fun n => bitsN (pack_Put.width l) (n - minL l))).flatten) = (((l.take i).map (fun n => bitsN (pack_Put.width l) (n - minL l))).flatten) ++ bitsN (pack_Put.width l) (l[i] - minL l) := by
    rw [List.take_succ_eq_append_getElem hlt]
    simp only [List.map_append, List.flatten_append, List.map_cons, List.map_nil, List.flatten_cons, List.flatten_nil, List.append_nil]
  have e1 := refput_spec (k := k) (l := ((l.take i).map (fun n => bitsN (pack_Put.width l) (n - minL l))).flatten) (v := l[i] - minL l) (m := (pack_Put.width l : Int)) (by omega) (by omega) (by omega) (by omega)
  rw [hcl, ← hs] at e1
  have e2 := wrap_u64_id (n := l[i] - minL l) (by omega) (by omega)
  have e3 : wrap64 ((i : Int) + 1) = ((i + 1 : Nat) : Int) := Q06.succ64 (by omega)
  clear hs hlen hmul hcl
  generalize ((l.take i).map (fun n => bitsN (pack_Put.width l) (n - minL l))).flatten = P at e1 ⊢
  generalize ((l.take (i + 1)).map (fun n => bitsN (pack_Put.width l) (n - minL l))).flatten = P2 at e1 ⊢
  generalize pack_Put.width l = w at *
  rw [rickref06_Put.l2]
  rw [if_pos (by omega), if_pos (by omega), rd_get hlt, e2, e1, Option.bind_some, e3]
theorem ref_l2 {l : List Int} (hu : Us l) (h0 : 0 < l.length) (hl : l.length ≤ 200) (d : Nat) : ∀ (i k : Nat), i + d = l.length → 20001 + d < k →
    rickref06_Put.l2 k l (minL l) (pack_Put.width l : Int) (((l.take i).map (fun n => bitsN (pack_Put.width l) (n - minL l))).flatten) (i : Int) = some (packB (pack_Put.bits l)) := by
  induction d with
  | zero =>
    intro i k hd hk
    obtain ⟨k, rfl⟩ : ∃ q, k = q + 1 := ⟨k - 1, by omega⟩
    have hi : i = l.length := by simpa using hd
    subst hi
    rw [List.take_length]
    exact ref_l2_end hu h0 hl k (by omega)
  | succ d ih =>
    intro i k hd hk
    obtain ⟨k, rfl⟩ : ∃ q, k = q + 1 := ⟨k - 1, by omega⟩
    rw [ref_l2_step hu h0 hl i k (by omega) (by omega)]
    exact ih (i + 1) k (by omega) (by omega)
theorem shift_pos {x : Int} (h0 : 0 ≤ x) (w : Nat) : x / 2 ^ w > 0 ↔ w < wd x := by
  have hp : (0 : Int) < 2 ^ w := Int.pow_pos (by decide)
  obtain ⟨k1, k2⟩ := wd_facts h0
  constructor
  · intro h
    rcases Nat.lt_or_ge w (wd x) with h' | h'
    · exact h'
    · have : (2 : Int) ^ wd x ≤ 2 ^ w := by exact_mod_cast Nat.pow_le_pow_right (by decide) h'
      rw [Int.ediv_eq_zero_of_lt h0 (by omega)] at h
      omega
  · intro h
    have hx : x ≠ 0 := by rintro rfl; simp [wd] at h
    have := k2 hx
    have : (2 : Int) ^ w ≤ 2 ^ (wd x - 1) := by exact_mod_cast Nat.pow_le_pow_right (by decide) (show w ≤ wd x - 1 by omega)
    have := Int.le_ediv_of_mul_le hp (show 1 * 2 ^ w ≤ x by omega)
    omega
theorem ref_l1 {l : List Int} (hu : Us l) (h0 : 0 < l.length) (hl : l.length ≤ 200) (d : Nat) : ∀ (w k : Nat), w + d = pack_Put.width l → 21000 + d < k →
    rickref06_Put.l1 k l (minL l) (maxL l) (w : Int) = some (packB (pack_Put.bits l)) := by
  have hlo := lo_hi hu h0
  have hw := width_le hu h0
  have hj : ∀ k, 20500 < k → rickref06_Put.j2 k l (minL l) (pack_Put.width l : Int) = some (packB (pack_Put.bits l)) := by
    intro k hk
    obtain ⟨k, rfl⟩ : ∃ q, k = q + 1 := ⟨k - 1, by omega⟩
    simp only [rickref06_Put.j2]
    have := ref_l2 hu h0 hl l.length 0 k (by omega) (by omega)
    simpa using this
  induction d with
  | zero =>
    intro w k hd hk
    obtain ⟨k, rfl⟩ : ∃ q, k = q + 1 := ⟨k - 1, by omega⟩
    obtain rfl : w = pack_Put.width l := by omega
    simp only [rickref06_Put.l1]
    by_cases h64 : ((pack_Put.width l : Nat) : Int) < 64
    · have hn : ¬ (maxL l - minL l) / 2 ^ pack_Put.width l > 0 := by rw [shift_pos (by omega)]; unfold pack_Put.width; omega
      rw [if_pos h64, if_pos (by omega), wrap_u64_id (n := maxL l - minL l) (by omega) (by omega), shr_nat .u64 _ (by simp [IntKind.bits]; omega), if_neg hn]
      exact hj k (by omega)
    · rw [if_neg h64]
      exact hj k (by omega)
  | succ d ih =>
    intro w k hd hk
    obtain ⟨k, rfl⟩ : ∃ q, k = q + 1 := ⟨k - 1, by omega⟩
    have hn : (maxL l - minL l) / 2 ^ w > 0 := by rw [shift_pos (by omega)]; unfold pack_Put.width at hd; omega
    simp only [rickref06_Put.l1]
    rw [if_pos (by omega), if_pos (by omega), wrap_u64_id (n := maxL l - minL l) (by omega) (by omega), shr_nat .u64 _ (by simp [IntKind.bits]; omega), if_pos hn, Q06.succ64 (by omega)]
    exact ih (w + 1) k (by omega) (by omega)
theorem ref_l0 {l : List Int} (hu : Us l) (h0 : 0 < l.length) (hl : l.length ≤ 200) (d : Nat) : ∀ (i k : Nat) (a b : Int), i + d = l.length → 22000 + d < k → (l.drop i).foldl mn a = minL l → (l.drop i).foldl mx b = maxL l →
    rickref06_Put.l0 k l a b (i : Int) = some (packB (pack_Put.bits l)) := by
  induction d with
  | zero =>
    intro i k a b hd hk ha hb
    obtain ⟨k, rfl⟩ : ∃ q, k = q + 1 := ⟨k - 1, by omega⟩
    rw [List.drop_eq_nil_of_le (by omega)] at ha hb
    simp only [rickref06_Put.l0]
    rw [if_neg (by omega), show a = minL l from ha, show b = maxL l from hb]
    exact ref_l1 hu h0 hl (pack_Put.width l) 0 k (by omega) (by have := width_le hu h0; omega)
  | succ d ih =>
    intro i k a b hd hk ha hb
    obtain ⟨k, rfl⟩ : ∃ q, k = q + 1 := ⟨k - 1, by omega⟩
    have hlt : i < l.length := by omega
    rw [List.drop_eq_getElem_cons hlt, List.foldl_cons] at ha hb
    simp only [rickref06_Put.l0]
    rw [if_pos (by omega), if_pos (by omega), rd_get hlt, Q06.succ64 (by omega)]
    exact ih (i + 1) k _ _ (by omega) (by omega) ha hb
/-- The bytes of numbers, by the reference. -/
theorem ref6_spec {k : Nat} {l : List Int} (hu : Us l) (hl : l.length ≤ 200) (hk : 23000 < k) : rickref06_Put.f k l = some (if l.length = 0 then [] else packB (pack_Put.bits l)) := by
  unfold rickref06_Put.f
  by_cases h0 : l.length = 0
  · rw [if_pos (by omega), if_pos h0]
  · rw [if_neg (by omega), if_pos (by omega), if_neg h0]
    have hd : l.drop 0 = l := rfl
    obtain ⟨a, t, rfl⟩ : ∃ a t, l = a :: t := by cases l with | nil => simp at h0 | cons a t => exact ⟨a, t, rfl⟩
    have hr : rd (a :: t) 0 = a := rfl
    refine ref_l0 hu (by simp) hl (a :: t).length 0 k _ _ (by omega) (by omega) ?_ ?_
    · rw [List.drop_zero, List.foldl_cons, hr]; unfold minL; rw [show mn a a = a by unfold mn; simp, hr]; rfl
    · rw [List.drop_zero, List.foldl_cons, hr]; unfold maxL; rw [show mx a a = a by unfold mx; simp, hr]; rfl
theorem put6_spec {l : List Int} (hu : Us l) (hl : l.length ≤ 200) : pack_Put.f l = some (if l.length = 0 then [] else packB (pack_Put.bits l), 0) := by
  unfold pack_Put.f
  rw [if_neg (by omega)]
  by_cases h0 : l.length = 0
  · rw [if_pos h0, if_pos h0]
  · rw [if_neg h0, if_neg h0, if_pos (us_ok hu)]

/-! ### packed, and told back -/
theorem drop_len_add (a b : List Int) (n : Nat) : (a ++ b).drop (a.length + n) = b.drop n := by rw [← List.drop_drop, List.drop_left]
theorem body_at {l : List Int} (w : Nat) (lo : Int) {j : Nat} (h : j < l.length) : (((l.map (fun n => bitsN w (n - lo))).flatten).drop (j * w)).take w = bitsN w (l[j] - lo) := by
  induction l generalizing j with
  | nil => simp at h
  | cons a l ih =>
    rw [List.map_cons, List.flatten_cons]
    cases j with
    | zero => simp [bitsN_len]
    | succ j =>
      rw [show (j + 1) * w = (bitsN w (a - lo)).length + j * w by rw [bitsN_len, Nat.succ_mul]; omega, drop_len_add, ih (by simpa using h)]
      simp
theorem outs_packed {l more : List Int} (hu : Us l) (h0 : 0 < l.length) : pack_Get.outs (packB (pack_Put.bits l) ++ more) (minL l) (pack_Put.width l) l.length = l := by
  have hlo := lo_hi hu h0
  apply List.ext_getElem
  · rw [pack_Get.outs_len]
  · intro j h1 h2
    have hel := hu _ (List.getElem_mem h2)
    have hge := (min_facts h0).2 _ (List.getElem_mem h2)
    have hle := (max_facts h0).2 _ (List.getElem_mem h2)
    have hlen := bits_len l
    have hj : (j + 1) * pack_Put.width l ≤ l.length * pack_Put.width l := Nat.mul_le_mul_right _ h2
    rw [Nat.succ_mul] at hj
    simp only [pack_Get.outs, List.getElem_map, List.getElem_range]
    rw [gv_packB (bits_bits l) (by omega)]
    have e : ((pack_Put.bits l).drop (72 + j * pack_Put.width l)).take (pack_Put.width l) = bitsN (pack_Put.width l) (l[j] - minL l) := by
      unfold pack_Put.bits
      rw [show 72 + j * pack_Put.width l = (bitsN 64 (minL l) ++ bitsN 8 (pack_Put.width l : Int)).length + j * pack_Put.width l by rw [List.length_append, bitsN_len, bitsN_len], drop_len_add, body_eq]
      exact body_at _ _ h2
    have hw := (wd_facts (x := maxL l - minL l) (by omega)).1
    rw [e, valB_bitsN _ (by omega), Int.emod_eq_of_lt (by omega) (by unfold pack_Put.width; omega), wrap_u64_id (by omega) (by omega)]
    omega
theorem get6_spec {l more : List Int} (hu : Us l) (hl : l.length ≤ 200) (hm : Bs more) (hml : more.length ≤ 1000) :
    pack_Get.f ((if l.length = 0 then [] else packB (pack_Put.bits l)) ++ more) (l.length : Int) = some (l, ((if l.length = 0 then [] else packB (pack_Put.bits l)).length : Int), 0) := by
  unfold pack_Get.f
  rw [if_neg (by omega)]
  by_cases h0 : l.length = 0
  · have : l = [] := List.length_eq_zero_iff.1 h0
    subst this
    simp
  have h0' : 0 < l.length := by omega
  have hlo := lo_hi hu h0'
  have hw := width_le hu h0'
  have hlen := bits_len l
  have hpl := packB_len (pack_Put.bits l)
  have hmul : l.length * pack_Put.width l ≤ 200 * 64 := Nat.mul_le_mul hl hw
  rw [if_neg h0, if_neg (by omega), if_neg (by rw [List.length_append]; omega)]
  have hbs : Bs (packB (pack_Put.bits l) ++ more) := (packB_bs (bits_bits l)).append hm
  have hrd : rd (packB (pack_Put.bits l) ++ more) 8 = (pack_Put.width l : Int) := by
    have h8 : 8 < (packB (pack_Put.bits l) ++ more).length := by rw [List.length_append]; omega
    have := rd_get (l := packB (pack_Put.bits l) ++ more) (i := 8) h8
    rw [show ((8 : Nat) : Int) = 8 from rfl] at this
    rw [this]
    have e : packB (pack_Put.bits l) ++ more = raw8 (minL l) ++ ((pack_Put.width l : Int) :: (packB (pack_Put.body l) ++ more)) := by rw [bits_packB hu h0']; simp
    simp only [e]
    rw [List.getElem_append_right (by rw [raw8_len]; omega)]
    simp [raw8_len]
  have hlo64 : gv (packB (pack_Put.bits l) ++ more) 0 64 = minL l := by
    rw [gv_packB (bits_bits l) (by omega), List.drop_zero]
    have : (pack_Put.bits l).take 64 = bitsN 64 (minL l) := by
      unfold pack_Put.bits
      rw [List.append_assoc, List.take_append_of_le_length (by rw [bitsN_len]; omega), List.take_of_length_le (by rw [bitsN_len]; omega)]
    rw [this, valB_bitsN _ hlo.1, Int.emod_eq_of_lt hlo.1 (by omega)]
  rw [hrd, if_neg (by omega), if_pos (bs_okB hbs (by rw [List.length_append]; omega)), Int.toNat_natCast, Int.toNat_natCast, if_neg (by rw [List.length_append]; omega), hlo64, outs_packed hu h0', put6_spec hu hl, if_neg h0]
  simp only [Option.bind_some]
  rw [prefix_yes]
  simp
end Go.Proofs.Ytmlbppfcpejlpaa.Q06

-- Printed by this session's own program (wip/xprint.py) over the translation; its external functions are hand-written. Lean checks it.
namespace Go.Proofs.Ytmlbppfcpejlpaa.X
open Go.RowKit Go.Proofs.YtmlbppfcpejlpaaW.PrintWords Go.Proofs.YtmlbppfcpejlpaaW.PrintLast Go.Proofs.YtmlbppfcpejlpaaW.PrintMore
attribute [local go_sem] max2_int min2_int max_two min_two max_three min_three max_four min_four   -- for this text's walks alone
set_option linter.unusedVariables false
set_option linter.unusedSimpArgs false

/-! ### ricklaw06_puts: function 43 -/
def ricklaw06_puts.f  : Option (Bool) := (pack_Put.f (([7, 7] : List Int))).bind fun bt393 => ((pack_Get.f bt393.1 2).bind fun bt397 => (if bt393.2 = 0 then (if bt397.2.2 = 0 then (if (bt393.1.length : Int) = 9 then (if 7 < (bt393.1.length : Int) then (if (rd bt393.1 7) = 7 then (if 8 < (bt393.1.length : Int) then (if (rd bt393.1 8) = 0 then (if bt397.2.1 = 9 then (if (bt397.1.length : Int) = 2 then (if 1 < (bt397.1.length : Int) then (some ((rd bt397.1 1) == 7)) else (none)) else (some false)) else (some false)) else (some false)) else (none)) else (some false)) else (none)) else (some false)) else (some false)) else (some false)))
set_option maxHeartbeats 8000000 in
set_option maxRecDepth 100000 in
theorem ricklaw06_puts.calls  (r : Bool) (w : World) (h : ricklaw06_puts.f  = some r) :
    Calls Try.prog 43 #[] w fun e w' => e = .returned (.bool r) ∧ Below w.heap.size w w' := by
  have HB := Aside0.mk (Below.refl w.heap.size w)
  have H : ((pack_Put.f (([7, 7] : List Int))).bind fun bt393 => ((pack_Get.f bt393.1 2).bind fun bt397 => (if bt393.2 = 0 then (if bt397.2.2 = 0 then (if (bt393.1.length : Int) = 9 then (if 7 < (bt393.1.length : Int) then (if (rd bt393.1 7) = 7 then (if 8 < (bt393.1.length : Int) then (if (rd bt393.1 8) = 0 then (if bt397.2.1 = 9 then (if (bt397.1.length : Int) = 2 then (if 1 < (bt397.1.length : Int) then (some ((rd bt397.1 1) == 7)) else (none)) else (some false)) else (some false)) else (some false)) else (none)) else (some false)) else (none)) else (some false)) else (some false)) else (some false)))) = some r := h
  clear h
  obtain ⟨y390, hy390⟩ : ∃ y_ : List Int, y_ = (([7, 7] : List Int)) := ⟨_, rfl⟩
  replace H : ((pack_Put.f y390).bind fun bt393 => ((pack_Get.f bt393.1 2).bind fun bt397 => (if bt393.2 = 0 then (if bt397.2.2 = 0 then (if (bt393.1.length : Int) = 9 then (if 7 < (bt393.1.length : Int) then (if (rd bt393.1 7) = 7 then (if 8 < (bt393.1.length : Int) then (if (rd bt393.1 8) = 0 then (if bt397.2.1 = 9 then (if (bt397.1.length : Int) = 2 then (if 1 < (bt397.1.length : Int) then (some ((rd bt397.1 1) == 7)) else (none)) else (some false)) else (some false)) else (some false)) else (none)) else (some false)) else (none)) else (some false)) else (some false)) else (some false)))) = some r := by first | (rw [hy390]; with_reducible exact H) | (have H2_ := (Option.bind_some _ _).symm.trans H; rw [hy390]; with_reducible exact H2_) | (have H2_ := (Option.bind_some _ _).symm.trans H; with_reducible exact H2_) | with_reducible exact H | (rw [hy390]; exact H) | exact H
  have Ny390 := Aside0.mk hy390
  clear hy390
  replace H := Option.bind_eq_some_iff.mp H
  obtain ⟨⟨t393, t394⟩, A10, H⟩ := H
  replace H : ((pack_Get.f t393 2).bind fun bt397 => (if t394 = 0 then (if bt397.2.2 = 0 then (if (t393.length : Int) = 9 then (if 7 < (t393.length : Int) then (if (rd t393 7) = 7 then (if 8 < (t393.length : Int) then (if (rd t393 8) = 0 then (if bt397.2.1 = 9 then (if (bt397.1.length : Int) = 2 then (if 1 < (bt397.1.length : Int) then (some ((rd bt397.1 1) == 7)) else (none)) else (some false)) else (some false)) else (some false)) else (none)) else (some false)) else (none)) else (some false)) else (some false)) else (some false))) = some r := H
  have A1 := Aside0.mk A10
  clear A10
  replace H := Option.bind_eq_some_iff.mp H
  obtain ⟨⟨t397, t398, t399⟩, A20, H⟩ := H
  replace H : (if t394 = 0 then (if t399 = 0 then (if (t393.length : Int) = 9 then (if 7 < (t393.length : Int) then (if (rd t393 7) = 7 then (if 8 < (t393.length : Int) then (if (rd t393 8) = 0 then (if t398 = 9 then (if (t397.length : Int) = 2 then (if 1 < (t397.length : Int) then (some ((rd t397 1) == 7)) else (none)) else (some false)) else (some false)) else (some false)) else (none)) else (some false)) else (none)) else (some false)) else (some false)) else (some false)) = some r := H
  have A2 := Aside0.mk A20
  clear A20
  by_cases c3 : t394 = 0
  · rw [if_pos c3] at H
    have c3b0 : (t394 == 0) = true := beq_iff_eq.mpr c3
    have c3b1 : (t394 != 0) = false := bne_eq_false_iff_eq.mpr c3
    clear c3
    by_cases c4 : t399 = 0
    · rw [if_pos c4] at H
      have c4b0 : (t399 == 0) = true := beq_iff_eq.mpr c4
      have c4b1 : (t399 != 0) = false := bne_eq_false_iff_eq.mpr c4
      clear c4
      by_cases c5 : (t393.length : Int) = 9
      · rw [if_pos c5] at H
        have c5b0 : ((t393.length : Int) == 9) = true := beq_iff_eq.mpr c5
        have c5b1 : ((t393.length : Int) != 9) = false := bne_eq_false_iff_eq.mpr c5
        clear c5
        by_cases c6 : 7 < (t393.length : Int)
        · rw [if_pos c6] at H
          have c6b0 : decide (7 < (t393.length : Int)) = true := decide_eq_true c6
          have c6b1 : decide (7 < t393.length) = true := decide_eq_true (by omega)
          clear c6
          by_cases c7 : (rd t393 7) = 7
          · rw [if_pos c7] at H
            have c7b0 : ((rd t393 7) == 7) = true := beq_iff_eq.mpr c7
            have c7b1 : ((rd t393 7) != 7) = false := bne_eq_false_iff_eq.mpr c7
            clear c7
            by_cases c8 : 8 < (t393.length : Int)
            · rw [if_pos c8] at H
              have c8b0 : decide (8 < (t393.length : Int)) = true := decide_eq_true c8
              have c8b1 : decide (8 < t393.length) = true := decide_eq_true (by omega)
              clear c8
              by_cases c9 : (rd t393 8) = 0
              · rw [if_pos c9] at H
                have c9b0 : ((rd t393 8) == 0) = true := beq_iff_eq.mpr c9
                have c9b1 : ((rd t393 8) != 0) = false := bne_eq_false_iff_eq.mpr c9
                clear c9
                by_cases c10 : t398 = 9
                · rw [if_pos c10] at H
                  have c10b0 : (t398 == 9) = true := beq_iff_eq.mpr c10
                  have c10b1 : (t398 != 9) = false := bne_eq_false_iff_eq.mpr c10
                  clear c10
                  by_cases c11 : (t397.length : Int) = 2
                  · rw [if_pos c11] at H
                    have c11b0 : ((t397.length : Int) == 2) = true := beq_iff_eq.mpr c11
                    have c11b1 : ((t397.length : Int) != 2) = false := bne_eq_false_iff_eq.mpr c11
                    clear c11
                    by_cases c12 : 1 < (t397.length : Int)
                    · rw [if_pos c12] at H
                      have c12b0 : decide (1 < (t397.length : Int)) = true := decide_eq_true c12
                      have c12b1 : decide (1 < t397.length) = true := decide_eq_true (by omega)
                      clear c12
                      obtain rfl := Option.some.inj H
                      go_enter Try.func43, Try.ntmps43
                      go_wp2_with (first | ((with_reducible refine gate_dst (N := 7) rfl ?_); (try (refine gate_guard (by rfl) ?_; dsimp only)); refine Kd.R_lit (Kd.int .u64) _ 23 ?hg (N := 7) ?hd (xs := ([7, 7] : List Int)) (inner := [.int .u64 7, .int .u64 7]) (ok := fun _ => True) (okp := fun _ => True) ?hr ?hp (fun _ hk => hk) trivial (Below.refl _ _) (Nat.le_refl _) (by simp) ?_; (case hd => rfl); (case hg => rfl); (case hr => first | (go_simp; done) | (go_simp; rfl)); (case hp => exact (Reps.one (show Kd.M (Kd.int .u64) _ _ _ 7 [.int .u64 7] from rfl) (Reps.one (show Kd.M (Kd.int .u64) _ _ _ 7 [.int .u64 7] from rfl) (Reps.none _ _)))); intro v391 w13 ho14 hb hg_ hnew_; clear hg_ hnew_; (first | rw [← Ny390.out] at ho14 | (simp only [Int.reduceToNat] at ho14; rw [← Ny390.out] at ho14)); have n0_ := Aside0.mk (Kd.R_lower ho14 (below_size (by repeat (first | (with_reducible first | exact HB.out | apply below_alloc | apply pw_below_drewN | apply below_drew1) | exact HB.out)))); have n1_ := Aside0.mk (below_step (by repeat (first | (with_reducible first | exact HB.out | apply below_alloc | apply pw_below_drewN | apply below_drew1) | exact HB.out)) hb); clear HB; have HO392 := n0_; have HB := n1_; clear n0_ n1_; clear hb ho14; obtain ⟨Ao15, co15, eo15⟩ := Kd.R_slice HO392.out; subst eo15) | ((with_reducible refine gate_callee (f := 41) rfl ?_); refine goesL_ (some 8) rfl rfl Try.func41 (by kernel_rfl) rfl #[.slice Ao15 y390.length co15] rfl (by (try simp only [List.map_toArray, List.map_cons, List.map_nil]); first | done | rfl | (simp only [List.length_drop, List.length_take]; rfl)) ?_; (with_reducible refine (pack_Put.calls _ _ y390 t393 t394 _ ?side1 ?side2 A1.out).mono ?_); (case side1 => repeat (first | exact (Kd.R_reads' HO392.out).2.2 | (with_reducible refine Kd.C_alloc ?_ _) | (with_reducible refine Kd.C_drewN ?_ _) | (with_reducible refine Kd.C_drew ?_))); (case side2 => exact (Kd.R_reads' HO392.out).2.1); rintro e w16 ⟨v395, rfl, ho0, hb⟩; refine ⟨_, rfl, ?_⟩; have n0_ := Aside0.mk (Kd.R_below (by (with_reducible repeat (first | apply Kd.R_alloc | apply Kd.R_drewN | apply Kd.R_drew)); exact HO392.out) hb); have n1_ := Aside0.mk (Kd.R_lower ho0 (below_size (by repeat (first | (with_reducible first | exact HB.out | apply below_alloc | apply pw_below_drewN | apply below_drew1) | exact HB.out)))); have n2_ := Aside0.mk (below_step (by repeat (first | (with_reducible first | exact HB.out | apply below_alloc | apply pw_below_drewN | apply below_drew1) | exact HB.out)) hb); clear HO392; clear HB; have HO392 := n0_; have HO396 := n1_; have HB := n2_; clear n0_ n1_ n2_; (try clear hb); (try clear hb2); (try clear hk); (try clear hi); (try clear ho0); obtain ⟨Ao17, co17, eo17⟩ := Kd.R_slice HO396.out; subst eo17) | ((with_reducible refine gate_callee (f := 44) rfl ?_); refine goesL_ (some 13) rfl rfl Try.func44 (by kernel_rfl) rfl #[.slice Ao17 t393.length co17, .int .i64 2] rfl (by (try simp only [List.map_toArray, List.map_cons, List.map_nil]); first | done | rfl | (simp only [List.length_drop, List.length_take]; rfl)) ?_; (with_reducible refine (pack_Get.calls _ _ t393 2 t397 t398 t399 _ ?side1 ?side2 A2.out).mono ?_); (case side1 => repeat (first | exact (Kd.R_reads' HO396.out).2.2 | (with_reducible refine Kd.C_alloc ?_ _) | (with_reducible refine Kd.C_drewN ?_ _) | (with_reducible refine Kd.C_drew ?_))); (case side2 => exact (Kd.R_reads' HO396.out).2.1); rintro e w18 ⟨v400, rfl, ho0, hb⟩; refine ⟨_, rfl, ?_⟩; have n0_ := Aside0.mk (Kd.R_elder' (by (with_reducible repeat (first | apply Kd.R_alloc | apply Kd.R_drewN | apply Kd.R_drew)); exact HO392.out) (Kd.R_base ho0) hb); have n1_ := Aside0.mk (Kd.R_below (by (with_reducible repeat (first | apply Kd.R_alloc | apply Kd.R_drewN | apply Kd.R_drew)); exact HO396.out) hb); have n2_ := Aside0.mk (Kd.R_lower (Kd.R_new' ho0 (Kd.R_lt (by (with_reducible repeat (first | apply Kd.R_alloc | apply Kd.R_drewN | apply Kd.R_drew)); exact HO392.out))) (below_size (by repeat (first | (with_reducible first | exact HB.out | apply below_alloc | apply pw_below_drewN | apply below_drew1) | exact HB.out)))); have n3_ := Aside0.mk (below_step (by repeat (first | (with_reducible first | exact HB.out | apply below_alloc | apply pw_below_drewN | apply below_drew1) | exact HB.out)) hb); clear HO392; clear HO396; clear HB; have HO392 := n0_; have HO396 := n1_; have HO401 := n2_; have HB := n3_; clear n0_ n1_ n2_ n3_; (try clear hb); (try clear hb2); (try clear hk); (try clear hi); (try clear ho0); have p402 : 0 ≤ (7 : Int) := (by omega); have q402 : 7 < (t393.length : Int) := of_decide_eq_true (by first | (with_reducible assumption) | assumption); obtain ⟨ad402, e402, hx402_0⟩ := Kd.at_int (Kd.R_reads' HO396.out).2.2 7 p402 q402; cases e402; (try simp only [show (7 : Int).toNat = 7 from rfl, Nat.reduceMul, Nat.reduceEqDiff, Go.Addr.add, ↓reduceIte] at hx402_0); have qi402 : (7 < t393.length) = True := eq_true (by omega); (try rw [show ((7 : Int)).toNat = 7 from rfl] at hx402_0); replace p402 := eq_true p402; replace q402 := eq_true q402; have p403 : 0 ≤ (8 : Int) := (by omega); have q403 : 8 < (t393.length : Int) := of_decide_eq_true (by first | (with_reducible assumption) | assumption); obtain ⟨ad403, e403, hx403_0⟩ := Kd.at_int (Kd.R_reads' HO396.out).2.2 8 p403 q403; obtain rfl : ad402 = ad403 := (by injection e403); (try simp only [show (8 : Int).toNat = 8 from rfl, Nat.reduceMul, Nat.reduceEqDiff, Go.Addr.add, ↓reduceIte] at hx403_0); have qi403 : (8 < t393.length) = True := eq_true (by omega); (try rw [show ((8 : Int)).toNat = 8 from rfl] at hx403_0); replace p403 := eq_true p403; replace q403 := eq_true q403; obtain ⟨Ao19, co19, eo19⟩ := Kd.R_slice HO401.out; subst eo19; have p404 : 0 ≤ (1 : Int) := (by omega); have q404 : 1 < (t397.length : Int) := of_decide_eq_true (by first | (with_reducible assumption) | assumption); obtain ⟨ad404, e404, hx404_0⟩ := Kd.at_int (Kd.R_reads' HO401.out).2.2 1 p404 q404; cases e404; (try simp only [show (1 : Int).toNat = 1 from rfl, Nat.reduceMul, Nat.reduceEqDiff, Go.Addr.add, ↓reduceIte] at hx404_0); have qi404 : (1 < t397.length) = True := eq_true (by omega); (try rw [show ((1 : Int)).toNat = 1 from rfl] at hx404_0); replace p404 := eq_true p404; replace q404 := eq_true q404))
                      go_ret
                      exact ⟨by first | rfl | (simp [errW_none, errW_some] <;> rfl) | (simp [*, errW_none, errW_some] <;> rfl), by repeat (first | (with_reducible first | exact HB.out | apply below_alloc | apply pw_below_drewN | apply below_drew1) | exact HB.out)⟩
                    · rw [if_neg c12] at H
                      exact absurd H (by simp)
                  · rw [if_neg c11] at H
                    have c11b0 : ((t397.length : Int) == 2) = false := beq_eq_false_iff_ne.mpr c11
                    have c11b1 : ((t397.length : Int) != 2) = true := bne_iff_ne.mpr c11
                    obtain rfl := Option.some.inj H
                    go_enter Try.func43, Try.ntmps43
                    go_wp2_with (first | ((with_reducible refine gate_dst (N := 7) rfl ?_); (try (refine gate_guard (by rfl) ?_; dsimp only)); refine Kd.R_lit (Kd.int .u64) _ 23 ?hg (N := 7) ?hd (xs := ([7, 7] : List Int)) (inner := [.int .u64 7, .int .u64 7]) (ok := fun _ => True) (okp := fun _ => True) ?hr ?hp (fun _ hk => hk) trivial (Below.refl _ _) (Nat.le_refl _) (by simp) ?_; (case hd => rfl); (case hg => rfl); (case hr => first | (go_simp; done) | (go_simp; rfl)); (case hp => exact (Reps.one (show Kd.M (Kd.int .u64) _ _ _ 7 [.int .u64 7] from rfl) (Reps.one (show Kd.M (Kd.int .u64) _ _ _ 7 [.int .u64 7] from rfl) (Reps.none _ _)))); intro v391 w20 ho21 hb hg_ hnew_; clear hg_ hnew_; (first | rw [← Ny390.out] at ho21 | (simp only [Int.reduceToNat] at ho21; rw [← Ny390.out] at ho21)); have n0_ := Aside0.mk (Kd.R_lower ho21 (below_size (by repeat (first | (with_reducible first | exact HB.out | apply below_alloc | apply pw_below_drewN | apply below_drew1) | exact HB.out)))); have n1_ := Aside0.mk (below_step (by repeat (first | (with_reducible first | exact HB.out | apply below_alloc | apply pw_below_drewN | apply below_drew1) | exact HB.out)) hb); clear HB; have HO392 := n0_; have HB := n1_; clear n0_ n1_; clear hb ho21; obtain ⟨Ao22, co22, eo22⟩ := Kd.R_slice HO392.out; subst eo22) | ((with_reducible refine gate_callee (f := 41) rfl ?_); refine goesL_ (some 8) rfl rfl Try.func41 (by kernel_rfl) rfl #[.slice Ao22 y390.length co22] rfl (by (try simp only [List.map_toArray, List.map_cons, List.map_nil]); first | done | rfl | (simp only [List.length_drop, List.length_take]; rfl)) ?_; (with_reducible refine (pack_Put.calls _ _ y390 t393 t394 _ ?side1 ?side2 A1.out).mono ?_); (case side1 => repeat (first | exact (Kd.R_reads' HO392.out).2.2 | (with_reducible refine Kd.C_alloc ?_ _) | (with_reducible refine Kd.C_drewN ?_ _) | (with_reducible refine Kd.C_drew ?_))); (case side2 => exact (Kd.R_reads' HO392.out).2.1); rintro e w23 ⟨v395, rfl, ho0, hb⟩; refine ⟨_, rfl, ?_⟩; have n0_ := Aside0.mk (Kd.R_below (by (with_reducible repeat (first | apply Kd.R_alloc | apply Kd.R_drewN | apply Kd.R_drew)); exact HO392.out) hb); have n1_ := Aside0.mk (Kd.R_lower ho0 (below_size (by repeat (first | (with_reducible first | exact HB.out | apply below_alloc | apply pw_below_drewN | apply below_drew1) | exact HB.out)))); have n2_ := Aside0.mk (below_step (by repeat (first | (with_reducible first | exact HB.out | apply below_alloc | apply pw_below_drewN | apply below_drew1) | exact HB.out)) hb); clear HO392; clear HB; have HO392 := n0_; have HO396 := n1_; have HB := n2_; clear n0_ n1_ n2_; (try clear hb); (try clear hb2); (try clear hk); (try clear hi); (try clear ho0); obtain ⟨Ao24, co24, eo24⟩ := Kd.R_slice HO396.out; subst eo24) | ((with_reducible refine gate_callee (f := 44) rfl ?_); refine goesL_ (some 13) rfl rfl Try.func44 (by kernel_rfl) rfl #[.slice Ao24 t393.length co24, .int .i64 2] rfl (by (try simp only [List.map_toArray, List.map_cons, List.map_nil]); first | done | rfl | (simp only [List.length_drop, List.length_take]; rfl)) ?_; (with_reducible refine (pack_Get.calls _ _ t393 2 t397 t398 t399 _ ?side1 ?side2 A2.out).mono ?_); (case side1 => repeat (first | exact (Kd.R_reads' HO396.out).2.2 | (with_reducible refine Kd.C_alloc ?_ _) | (with_reducible refine Kd.C_drewN ?_ _) | (with_reducible refine Kd.C_drew ?_))); (case side2 => exact (Kd.R_reads' HO396.out).2.1); rintro e w25 ⟨v400, rfl, ho0, hb⟩; refine ⟨_, rfl, ?_⟩; have n0_ := Aside0.mk (Kd.R_elder' (by (with_reducible repeat (first | apply Kd.R_alloc | apply Kd.R_drewN | apply Kd.R_drew)); exact HO392.out) (Kd.R_base ho0) hb); have n1_ := Aside0.mk (Kd.R_below (by (with_reducible repeat (first | apply Kd.R_alloc | apply Kd.R_drewN | apply Kd.R_drew)); exact HO396.out) hb); have n2_ := Aside0.mk (Kd.R_lower (Kd.R_new' ho0 (Kd.R_lt (by (with_reducible repeat (first | apply Kd.R_alloc | apply Kd.R_drewN | apply Kd.R_drew)); exact HO392.out))) (below_size (by repeat (first | (with_reducible first | exact HB.out | apply below_alloc | apply pw_below_drewN | apply below_drew1) | exact HB.out)))); have n3_ := Aside0.mk (below_step (by repeat (first | (with_reducible first | exact HB.out | apply below_alloc | apply pw_below_drewN | apply below_drew1) | exact HB.out)) hb); clear HO392; clear HO396; clear HB; have HO392 := n0_; have HO396 := n1_; have HO401 := n2_; have HB := n3_; clear n0_ n1_ n2_ n3_; (try clear hb); (try clear hb2); (try clear hk); (try clear hi); (try clear ho0); have p402 : 0 ≤ (7 : Int) := (by omega); have q402 : 7 < (t393.length : Int) := of_decide_eq_true (by first | (with_reducible assumption) | assumption); obtain ⟨ad402, e402, hx402_0⟩ := Kd.at_int (Kd.R_reads' HO396.out).2.2 7 p402 q402; cases e402; (try simp only [show (7 : Int).toNat = 7 from rfl, Nat.reduceMul, Nat.reduceEqDiff, Go.Addr.add, ↓reduceIte] at hx402_0); have qi402 : (7 < t393.length) = True := eq_true (by omega); (try rw [show ((7 : Int)).toNat = 7 from rfl] at hx402_0); replace p402 := eq_true p402; replace q402 := eq_true q402; have p403 : 0 ≤ (8 : Int) := (by omega); have q403 : 8 < (t393.length : Int) := of_decide_eq_true (by first | (with_reducible assumption) | assumption); obtain ⟨ad403, e403, hx403_0⟩ := Kd.at_int (Kd.R_reads' HO396.out).2.2 8 p403 q403; obtain rfl : ad402 = ad403 := (by injection e403); (try simp only [show (8 : Int).toNat = 8 from rfl, Nat.reduceMul, Nat.reduceEqDiff, Go.Addr.add, ↓reduceIte] at hx403_0); have qi403 : (8 < t393.length) = True := eq_true (by omega); (try rw [show ((8 : Int)).toNat = 8 from rfl] at hx403_0); replace p403 := eq_true p403; replace q403 := eq_true q403; obtain ⟨Ao26, co26, eo26⟩ := Kd.R_slice HO401.out; subst eo26))
                    go_ret
                    exact ⟨by first | rfl | (simp [errW_none, errW_some] <;> rfl) | (simp [*, errW_none, errW_some] <;> rfl), by repeat (first | (with_reducible first | exact HB.out | apply below_alloc | apply pw_below_drewN | apply below_drew1) | exact HB.out)⟩
                · rw [if_neg c10] at H
                  have c10b0 : (t398 == 9) = false := beq_eq_false_iff_ne.mpr c10
                  have c10b1 : (t398 != 9) = true := bne_iff_ne.mpr c10
                  obtain rfl := Option.some.inj H
                  go_enter Try.func43, Try.ntmps43
                  go_wp2_with (first | ((with_reducible refine gate_dst (N := 7) rfl ?_); (try (refine gate_guard (by rfl) ?_; dsimp only)); refine Kd.R_lit (Kd.int .u64) _ 23 ?hg (N := 7) ?hd (xs := ([7, 7] : List Int)) (inner := [.int .u64 7, .int .u64 7]) (ok := fun _ => True) (okp := fun _ => True) ?hr ?hp (fun _ hk => hk) trivial (Below.refl _ _) (Nat.le_refl _) (by simp) ?_; (case hd => rfl); (case hg => rfl); (case hr => first | (go_simp; done) | (go_simp; rfl)); (case hp => exact (Reps.one (show Kd.M (Kd.int .u64) _ _ _ 7 [.int .u64 7] from rfl) (Reps.one (show Kd.M (Kd.int .u64) _ _ _ 7 [.int .u64 7] from rfl) (Reps.none _ _)))); intro v391 w27 ho28 hb hg_ hnew_; clear hg_ hnew_; (first | rw [← Ny390.out] at ho28 | (simp only [Int.reduceToNat] at ho28; rw [← Ny390.out] at ho28)); have n0_ := Aside0.mk (Kd.R_lower ho28 (below_size (by repeat (first | (with_reducible first | exact HB.out | apply below_alloc | apply pw_below_drewN | apply below_drew1) | exact HB.out)))); have n1_ := Aside0.mk (below_step (by repeat (first | (with_reducible first | exact HB.out | apply below_alloc | apply pw_below_drewN | apply below_drew1) | exact HB.out)) hb); clear HB; have HO392 := n0_; have HB := n1_; clear n0_ n1_; clear hb ho28; obtain ⟨Ao29, co29, eo29⟩ := Kd.R_slice HO392.out; subst eo29) | ((with_reducible refine gate_callee (f := 41) rfl ?_); refine goesL_ (some 8) rfl rfl Try.func41 (by kernel_rfl) rfl #[.slice Ao29 y390.length co29] rfl (by (try simp only [List.map_toArray, List.map_cons, List.map_nil]); first | done | rfl | (simp only [List.length_drop, List.length_take]; rfl)) ?_; (with_reducible refine (pack_Put.calls _ _ y390 t393 t394 _ ?side1 ?side2 A1.out).mono ?_); (case side1 => repeat (first | exact (Kd.R_reads' HO392.out).2.2 | (with_reducible refine Kd.C_alloc ?_ _) | (with_reducible refine Kd.C_drewN ?_ _) | (with_reducible refine Kd.C_drew ?_))); (case side2 => exact (Kd.R_reads' HO392.out).2.1); rintro e w30 ⟨v395, rfl, ho0, hb⟩; refine ⟨_, rfl, ?_⟩; have n0_ := Aside0.mk (Kd.R_below (by (with_reducible repeat (first | apply Kd.R_alloc | apply Kd.R_drewN | apply Kd.R_drew)); exact HO392.out) hb); have n1_ := Aside0.mk (Kd.R_lower ho0 (below_size (by repeat (first | (with_reducible first | exact HB.out | apply below_alloc | apply pw_below_drewN | apply below_drew1) | exact HB.out)))); have n2_ := Aside0.mk (below_step (by repeat (first | (with_reducible first | exact HB.out | apply below_alloc | apply pw_below_drewN | apply below_drew1) | exact HB.out)) hb); clear HO392; clear HB; have HO392 := n0_; have HO396 := n1_; have HB := n2_; clear n0_ n1_ n2_; (try clear hb); (try clear hb2); (try clear hk); (try clear hi); (try clear ho0); obtain ⟨Ao31, co31, eo31⟩ := Kd.R_slice HO396.out; subst eo31) | ((with_reducible refine gate_callee (f := 44) rfl ?_); refine goesL_ (some 13) rfl rfl Try.func44 (by kernel_rfl) rfl #[.slice Ao31 t393.length co31, .int .i64 2] rfl (by (try simp only [List.map_toArray, List.map_cons, List.map_nil]); first | done | rfl | (simp only [List.length_drop, List.length_take]; rfl)) ?_; (with_reducible refine (pack_Get.calls _ _ t393 2 t397 t398 t399 _ ?side1 ?side2 A2.out).mono ?_); (case side1 => repeat (first | exact (Kd.R_reads' HO396.out).2.2 | (with_reducible refine Kd.C_alloc ?_ _) | (with_reducible refine Kd.C_drewN ?_ _) | (with_reducible refine Kd.C_drew ?_))); (case side2 => exact (Kd.R_reads' HO396.out).2.1); rintro e w32 ⟨v400, rfl, ho0, hb⟩; refine ⟨_, rfl, ?_⟩; have n0_ := Aside0.mk (Kd.R_elder' (by (with_reducible repeat (first | apply Kd.R_alloc | apply Kd.R_drewN | apply Kd.R_drew)); exact HO392.out) (Kd.R_base ho0) hb); have n1_ := Aside0.mk (Kd.R_below (by (with_reducible repeat (first | apply Kd.R_alloc | apply Kd.R_drewN | apply Kd.R_drew)); exact HO396.out) hb); have n2_ := Aside0.mk (Kd.R_lower (Kd.R_new' ho0 (Kd.R_lt (by (with_reducible repeat (first | apply Kd.R_alloc | apply Kd.R_drewN | apply Kd.R_drew)); exact HO392.out))) (below_size (by repeat (first | (with_reducible first | exact HB.out | apply below_alloc | apply pw_below_drewN | apply below_drew1) | exact HB.out)))); have n3_ := Aside0.mk (below_step (by repeat (first | (with_reducible first | exact HB.out | apply below_alloc | apply pw_below_drewN | apply below_drew1) | exact HB.out)) hb); clear HO392; clear HO396; clear HB; have HO392 := n0_; have HO396 := n1_; have HO401 := n2_; have HB := n3_; clear n0_ n1_ n2_ n3_; (try clear hb); (try clear hb2); (try clear hk); (try clear hi); (try clear ho0); have p402 : 0 ≤ (7 : Int) := (by omega); have q402 : 7 < (t393.length : Int) := of_decide_eq_true (by first | (with_reducible assumption) | assumption); obtain ⟨ad402, e402, hx402_0⟩ := Kd.at_int (Kd.R_reads' HO396.out).2.2 7 p402 q402; cases e402; (try simp only [show (7 : Int).toNat = 7 from rfl, Nat.reduceMul, Nat.reduceEqDiff, Go.Addr.add, ↓reduceIte] at hx402_0); have qi402 : (7 < t393.length) = True := eq_true (by omega); (try rw [show ((7 : Int)).toNat = 7 from rfl] at hx402_0); replace p402 := eq_true p402; replace q402 := eq_true q402; have p403 : 0 ≤ (8 : Int) := (by omega); have q403 : 8 < (t393.length : Int) := of_decide_eq_true (by first | (with_reducible assumption) | assumption); obtain ⟨ad403, e403, hx403_0⟩ := Kd.at_int (Kd.R_reads' HO396.out).2.2 8 p403 q403; obtain rfl : ad402 = ad403 := (by injection e403); (try simp only [show (8 : Int).toNat = 8 from rfl, Nat.reduceMul, Nat.reduceEqDiff, Go.Addr.add, ↓reduceIte] at hx403_0); have qi403 : (8 < t393.length) = True := eq_true (by omega); (try rw [show ((8 : Int)).toNat = 8 from rfl] at hx403_0); replace p403 := eq_true p403; replace q403 := eq_true q403))
                  go_ret
                  exact ⟨by first | rfl | (simp [errW_none, errW_some] <;> rfl) | (simp [*, errW_none, errW_some] <;> rfl), by repeat (first | (with_reducible first | exact HB.out | apply below_alloc | apply pw_below_drewN | apply below_drew1) | exact HB.out)⟩
              · rw [if_neg c9] at H
                have c9b0 : ((rd t393 8) == 0) = false := beq_eq_false_iff_ne.mpr c9
                have c9b1 : ((rd t393 8) != 0) = true := bne_iff_ne.mpr c9
                obtain rfl := Option.some.inj H
                go_enter Try.func43, Try.ntmps43
                go_wp2_with (first | ((with_reducible refine gate_dst (N := 7) rfl ?_); (try (refine gate_guard (by rfl) ?_; dsimp only)); refine Kd.R_lit (Kd.int .u64) _ 23 ?hg (N := 7) ?hd (xs := ([7, 7] : List Int)) (inner := [.int .u64 7, .int .u64 7]) (ok := fun _ => True) (okp := fun _ => True) ?hr ?hp (fun _ hk => hk) trivial (Below.refl _ _) (Nat.le_refl _) (by simp) ?_; (case hd => rfl); (case hg => rfl); (case hr => first | (go_simp; done) | (go_simp; rfl)); (case hp => exact (Reps.one (show Kd.M (Kd.int .u64) _ _ _ 7 [.int .u64 7] from rfl) (Reps.one (show Kd.M (Kd.int .u64) _ _ _ 7 [.int .u64 7] from rfl) (Reps.none _ _)))); intro v391 w33 ho34 hb hg_ hnew_; clear hg_ hnew_; (first | rw [← Ny390.out] at ho34 | (simp only [Int.reduceToNat] at ho34; rw [← Ny390.out] at ho34)); have n0_ := Aside0.mk (Kd.R_lower ho34 (below_size (by repeat (first | (with_reducible first | exact HB.out | apply below_alloc | apply pw_below_drewN | apply below_drew1) | exact HB.out)))); have n1_ := Aside0.mk (below_step (by repeat (first | (with_reducible first | exact HB.out | apply below_alloc | apply pw_below_drewN | apply below_drew1) | exact HB.out)) hb); clear HB; have HO392 := n0_; have HB := n1_; clear n0_ n1_; clear hb ho34; obtain ⟨Ao35, co35, eo35⟩ := Kd.R_slice HO392.out; subst eo35) | ((with_reducible refine gate_callee (f := 41) rfl ?_); refine goesL_ (some 8) rfl rfl Try.func41 (by kernel_rfl) rfl #[.slice Ao35 y390.length co35] rfl (by (try simp only [List.map_toArray, List.map_cons, List.map_nil]); first | done | rfl | (simp only [List.length_drop, List.length_take]; rfl)) ?_; (with_reducible refine (pack_Put.calls _ _ y390 t393 t394 _ ?side1 ?side2 A1.out).mono ?_); (case side1 => repeat (first | exact (Kd.R_reads' HO392.out).2.2 | (with_reducible refine Kd.C_alloc ?_ _) | (with_reducible refine Kd.C_drewN ?_ _) | (with_reducible refine Kd.C_drew ?_))); (case side2 => exact (Kd.R_reads' HO392.out).2.1); rintro e w36 ⟨v395, rfl, ho0, hb⟩; refine ⟨_, rfl, ?_⟩; have n0_ := Aside0.mk (Kd.R_below (by (with_reducible repeat (first | apply Kd.R_alloc | apply Kd.R_drewN | apply Kd.R_drew)); exact HO392.out) hb); have n1_ := Aside0.mk (Kd.R_lower ho0 (below_size (by repeat (first | (with_reducible first | exact HB.out | apply below_alloc | apply pw_below_drewN | apply below_drew1) | exact HB.out)))); have n2_ := Aside0.mk (below_step (by repeat (first | (with_reducible first | exact HB.out | apply below_alloc | apply pw_below_drewN | apply below_drew1) | exact HB.out)) hb); clear HO392; clear HB; have HO392 := n0_; have HO396 := n1_; have HB := n2_; clear n0_ n1_ n2_; (try clear hb); (try clear hb2); (try clear hk); (try clear hi); (try clear ho0); obtain ⟨Ao37, co37, eo37⟩ := Kd.R_slice HO396.out; subst eo37) | ((with_reducible refine gate_callee (f := 44) rfl ?_); refine goesL_ (some 13) rfl rfl Try.func44 (by kernel_rfl) rfl #[.slice Ao37 t393.length co37, .int .i64 2] rfl (by (try simp only [List.map_toArray, List.map_cons, List.map_nil]); first | done | rfl | (simp only [List.length_drop, List.length_take]; rfl)) ?_; (with_reducible refine (pack_Get.calls _ _ t393 2 t397 t398 t399 _ ?side1 ?side2 A2.out).mono ?_); (case side1 => repeat (first | exact (Kd.R_reads' HO396.out).2.2 | (with_reducible refine Kd.C_alloc ?_ _) | (with_reducible refine Kd.C_drewN ?_ _) | (with_reducible refine Kd.C_drew ?_))); (case side2 => exact (Kd.R_reads' HO396.out).2.1); rintro e w38 ⟨v400, rfl, ho0, hb⟩; refine ⟨_, rfl, ?_⟩; have n0_ := Aside0.mk (Kd.R_elder' (by (with_reducible repeat (first | apply Kd.R_alloc | apply Kd.R_drewN | apply Kd.R_drew)); exact HO392.out) (Kd.R_base ho0) hb); have n1_ := Aside0.mk (Kd.R_below (by (with_reducible repeat (first | apply Kd.R_alloc | apply Kd.R_drewN | apply Kd.R_drew)); exact HO396.out) hb); have n2_ := Aside0.mk (Kd.R_lower (Kd.R_new' ho0 (Kd.R_lt (by (with_reducible repeat (first | apply Kd.R_alloc | apply Kd.R_drewN | apply Kd.R_drew)); exact HO392.out))) (below_size (by repeat (first | (with_reducible first | exact HB.out | apply below_alloc | apply pw_below_drewN | apply below_drew1) | exact HB.out)))); have n3_ := Aside0.mk (below_step (by repeat (first | (with_reducible first | exact HB.out | apply below_alloc | apply pw_below_drewN | apply below_drew1) | exact HB.out)) hb); clear HO392; clear HO396; clear HB; have HO392 := n0_; have HO396 := n1_; have HO401 := n2_; have HB := n3_; clear n0_ n1_ n2_ n3_; (try clear hb); (try clear hb2); (try clear hk); (try clear hi); (try clear ho0); have p402 : 0 ≤ (7 : Int) := (by omega); have q402 : 7 < (t393.length : Int) := of_decide_eq_true (by first | (with_reducible assumption) | assumption); obtain ⟨ad402, e402, hx402_0⟩ := Kd.at_int (Kd.R_reads' HO396.out).2.2 7 p402 q402; cases e402; (try simp only [show (7 : Int).toNat = 7 from rfl, Nat.reduceMul, Nat.reduceEqDiff, Go.Addr.add, ↓reduceIte] at hx402_0); have qi402 : (7 < t393.length) = True := eq_true (by omega); (try rw [show ((7 : Int)).toNat = 7 from rfl] at hx402_0); replace p402 := eq_true p402; replace q402 := eq_true q402; have p403 : 0 ≤ (8 : Int) := (by omega); have q403 : 8 < (t393.length : Int) := of_decide_eq_true (by first | (with_reducible assumption) | assumption); obtain ⟨ad403, e403, hx403_0⟩ := Kd.at_int (Kd.R_reads' HO396.out).2.2 8 p403 q403; obtain rfl : ad402 = ad403 := (by injection e403); (try simp only [show (8 : Int).toNat = 8 from rfl, Nat.reduceMul, Nat.reduceEqDiff, Go.Addr.add, ↓reduceIte] at hx403_0); have qi403 : (8 < t393.length) = True := eq_true (by omega); (try rw [show ((8 : Int)).toNat = 8 from rfl] at hx403_0); replace p403 := eq_true p403; replace q403 := eq_true q403))
                go_ret
                exact ⟨by first | rfl | (simp [errW_none, errW_some] <;> rfl) | (simp [*, errW_none, errW_some] <;> rfl), by repeat (first | (with_reducible first | exact HB.out | apply below_alloc | apply pw_below_drewN | apply below_drew1) | exact HB.out)⟩
            · rw [if_neg c8] at H
              exact absurd H (by simp)
          · rw [if_neg c7] at H
            have c7b0 : ((rd t393 7) == 7) = false := beq_eq_false_iff_ne.mpr c7
            have c7b1 : ((rd t393 7) != 7) = true := bne_iff_ne.mpr c7
            obtain rfl := Option.some.inj H
            go_enter Try.func43, Try.ntmps43
            go_wp2_with (first | ((with_reducible refine gate_dst (N := 7) rfl ?_); (try (refine gate_guard (by rfl) ?_; dsimp only)); refine Kd.R_lit (Kd.int .u64) _ 23 ?hg (N := 7) ?hd (xs := ([7, 7] : List Int)) (inner := [.int .u64 7, .int .u64 7]) (ok := fun _ => True) (okp := fun _ => True) ?hr ?hp (fun _ hk => hk) trivial (Below.refl _ _) (Nat.le_refl _) (by simp) ?_; (case hd => rfl); (case hg => rfl); (case hr => first | (go_simp; done) | (go_simp; rfl)); (case hp => exact (Reps.one (show Kd.M (Kd.int .u64) _ _ _ 7 [.int .u64 7] from rfl) (Reps.one (show Kd.M (Kd.int .u64) _ _ _ 7 [.int .u64 7] from rfl) (Reps.none _ _)))); intro v391 w39 ho40 hb hg_ hnew_; clear hg_ hnew_; (first | rw [← Ny390.out] at ho40 | (simp only [Int.reduceToNat] at ho40; rw [← Ny390.out] at ho40)); have n0_ := Aside0.mk (Kd.R_lower ho40 (below_size (by repeat (first | (with_reducible first | exact HB.out | apply below_alloc | apply pw_below_drewN | apply below_drew1) | exact HB.out)))); have n1_ := Aside0.mk (below_step (by repeat (first | (with_reducible first | exact HB.out | apply below_alloc | apply pw_below_drewN | apply below_drew1) | exact HB.out)) hb); clear HB; have HO392 := n0_; have HB := n1_; clear n0_ n1_; clear hb ho40; obtain ⟨Ao41, co41, eo41⟩ := Kd.R_slice HO392.out; subst eo41) | ((with_reducible refine gate_callee (f := 41) rfl ?_); refine goesL_ (some 8) rfl rfl Try.func41 (by kernel_rfl) rfl #[.slice Ao41 y390.length co41] rfl (by (try simp only [List.map_toArray, List.map_cons, List.map_nil]); first | done | rfl | (simp only [List.length_drop, List.length_take]; rfl)) ?_; (with_reducible refine (pack_Put.calls _ _ y390 t393 t394 _ ?side1 ?side2 A1.out).mono ?_); (case side1 => repeat (first | exact (Kd.R_reads' HO392.out).2.2 | (with_reducible refine Kd.C_alloc ?_ _) | (with_reducible refine Kd.C_drewN ?_ _) | (with_reducible refine Kd.C_drew ?_))); (case side2 => exact (Kd.R_reads' HO392.out).2.1); rintro e w42 ⟨v395, rfl, ho0, hb⟩; refine ⟨_, rfl, ?_⟩; have n0_ := Aside0.mk (Kd.R_below (by (with_reducible repeat (first | apply Kd.R_alloc | apply Kd.R_drewN | apply Kd.R_drew)); exact HO392.out) hb); have n1_ := Aside0.mk (Kd.R_lower ho0 (below_size (by repeat (first | (with_reducible first | exact HB.out | apply below_alloc | apply pw_below_drewN | apply below_drew1) | exact HB.out)))); have n2_ := Aside0.mk (below_step (by repeat (first | (with_reducible first | exact HB.out | apply below_alloc | apply pw_below_drewN | apply below_drew1) | exact HB.out)) hb); clear HO392; clear HB; have HO392 := n0_; have HO396 := n1_; have HB := n2_; clear n0_ n1_ n2_; (try clear hb); (try clear hb2); (try clear hk); (try clear hi); (try clear ho0); obtain ⟨Ao43, co43, eo43⟩ := Kd.R_slice HO396.out; subst eo43) | ((with_reducible refine gate_callee (f := 44) rfl ?_); refine goesL_ (some 13) rfl rfl Try.func44 (by kernel_rfl) rfl #[.slice Ao43 t393.length co43, .int .i64 2] rfl (by (try simp only [List.map_toArray, List.map_cons, List.map_nil]); first | done | rfl | (simp only [List.length_drop, List.length_take]; rfl)) ?_; (with_reducible refine (pack_Get.calls _ _ t393 2 t397 t398 t399 _ ?side1 ?side2 A2.out).mono ?_); (case side1 => repeat (first | exact (Kd.R_reads' HO396.out).2.2 | (with_reducible refine Kd.C_alloc ?_ _) | (with_reducible refine Kd.C_drewN ?_ _) | (with_reducible refine Kd.C_drew ?_))); (case side2 => exact (Kd.R_reads' HO396.out).2.1); rintro e w44 ⟨v400, rfl, ho0, hb⟩; refine ⟨_, rfl, ?_⟩; have n0_ := Aside0.mk (Kd.R_elder' (by (with_reducible repeat (first | apply Kd.R_alloc | apply Kd.R_drewN | apply Kd.R_drew)); exact HO392.out) (Kd.R_base ho0) hb); have n1_ := Aside0.mk (Kd.R_below (by (with_reducible repeat (first | apply Kd.R_alloc | apply Kd.R_drewN | apply Kd.R_drew)); exact HO396.out) hb); have n2_ := Aside0.mk (Kd.R_lower (Kd.R_new' ho0 (Kd.R_lt (by (with_reducible repeat (first | apply Kd.R_alloc | apply Kd.R_drewN | apply Kd.R_drew)); exact HO392.out))) (below_size (by repeat (first | (with_reducible first | exact HB.out | apply below_alloc | apply pw_below_drewN | apply below_drew1) | exact HB.out)))); have n3_ := Aside0.mk (below_step (by repeat (first | (with_reducible first | exact HB.out | apply below_alloc | apply pw_below_drewN | apply below_drew1) | exact HB.out)) hb); clear HO392; clear HO396; clear HB; have HO392 := n0_; have HO396 := n1_; have HO401 := n2_; have HB := n3_; clear n0_ n1_ n2_ n3_; (try clear hb); (try clear hb2); (try clear hk); (try clear hi); (try clear ho0); have p402 : 0 ≤ (7 : Int) := (by omega); have q402 : 7 < (t393.length : Int) := of_decide_eq_true (by first | (with_reducible assumption) | assumption); obtain ⟨ad402, e402, hx402_0⟩ := Kd.at_int (Kd.R_reads' HO396.out).2.2 7 p402 q402; cases e402; (try simp only [show (7 : Int).toNat = 7 from rfl, Nat.reduceMul, Nat.reduceEqDiff, Go.Addr.add, ↓reduceIte] at hx402_0); have qi402 : (7 < t393.length) = True := eq_true (by omega); (try rw [show ((7 : Int)).toNat = 7 from rfl] at hx402_0); replace p402 := eq_true p402; replace q402 := eq_true q402))
            go_ret
            exact ⟨by first | rfl | (simp [errW_none, errW_some] <;> rfl) | (simp [*, errW_none, errW_some] <;> rfl), by repeat (first | (with_reducible first | exact HB.out | apply below_alloc | apply pw_below_drewN | apply below_drew1) | exact HB.out)⟩
        · rw [if_neg c6] at H
          exact absurd H (by simp)
      · rw [if_neg c5] at H
        have c5b0 : ((t393.length : Int) == 9) = false := beq_eq_false_iff_ne.mpr c5
        have c5b1 : ((t393.length : Int) != 9) = true := bne_iff_ne.mpr c5
        obtain rfl := Option.some.inj H
        go_enter Try.func43, Try.ntmps43
        go_wp2_with (first | ((with_reducible refine gate_dst (N := 7) rfl ?_); (try (refine gate_guard (by rfl) ?_; dsimp only)); refine Kd.R_lit (Kd.int .u64) _ 23 ?hg (N := 7) ?hd (xs := ([7, 7] : List Int)) (inner := [.int .u64 7, .int .u64 7]) (ok := fun _ => True) (okp := fun _ => True) ?hr ?hp (fun _ hk => hk) trivial (Below.refl _ _) (Nat.le_refl _) (by simp) ?_; (case hd => rfl); (case hg => rfl); (case hr => first | (go_simp; done) | (go_simp; rfl)); (case hp => exact (Reps.one (show Kd.M (Kd.int .u64) _ _ _ 7 [.int .u64 7] from rfl) (Reps.one (show Kd.M (Kd.int .u64) _ _ _ 7 [.int .u64 7] from rfl) (Reps.none _ _)))); intro v391 w45 ho46 hb hg_ hnew_; clear hg_ hnew_; (first | rw [← Ny390.out] at ho46 | (simp only [Int.reduceToNat] at ho46; rw [← Ny390.out] at ho46)); have n0_ := Aside0.mk (Kd.R_lower ho46 (below_size (by repeat (first | (with_reducible first | exact HB.out | apply below_alloc | apply pw_below_drewN | apply below_drew1) | exact HB.out)))); have n1_ := Aside0.mk (below_step (by repeat (first | (with_reducible first | exact HB.out | apply below_alloc | apply pw_below_drewN | apply below_drew1) | exact HB.out)) hb); clear HB; have HO392 := n0_; have HB := n1_; clear n0_ n1_; clear hb ho46; obtain ⟨Ao47, co47, eo47⟩ := Kd.R_slice HO392.out; subst eo47) | ((with_reducible refine gate_callee (f := 41) rfl ?_); refine goesL_ (some 8) rfl rfl Try.func41 (by kernel_rfl) rfl #[.slice Ao47 y390.length co47] rfl (by (try simp only [List.map_toArray, List.map_cons, List.map_nil]); first | done | rfl | (simp only [List.length_drop, List.length_take]; rfl)) ?_; (with_reducible refine (pack_Put.calls _ _ y390 t393 t394 _ ?side1 ?side2 A1.out).mono ?_); (case side1 => repeat (first | exact (Kd.R_reads' HO392.out).2.2 | (with_reducible refine Kd.C_alloc ?_ _) | (with_reducible refine Kd.C_drewN ?_ _) | (with_reducible refine Kd.C_drew ?_))); (case side2 => exact (Kd.R_reads' HO392.out).2.1); rintro e w48 ⟨v395, rfl, ho0, hb⟩; refine ⟨_, rfl, ?_⟩; have n0_ := Aside0.mk (Kd.R_below (by (with_reducible repeat (first | apply Kd.R_alloc | apply Kd.R_drewN | apply Kd.R_drew)); exact HO392.out) hb); have n1_ := Aside0.mk (Kd.R_lower ho0 (below_size (by repeat (first | (with_reducible first | exact HB.out | apply below_alloc | apply pw_below_drewN | apply below_drew1) | exact HB.out)))); have n2_ := Aside0.mk (below_step (by repeat (first | (with_reducible first | exact HB.out | apply below_alloc | apply pw_below_drewN | apply below_drew1) | exact HB.out)) hb); clear HO392; clear HB; have HO392 := n0_; have HO396 := n1_; have HB := n2_; clear n0_ n1_ n2_; (try clear hb); (try clear hb2); (try clear hk); (try clear hi); (try clear ho0); obtain ⟨Ao49, co49, eo49⟩ := Kd.R_slice HO396.out; subst eo49) | ((with_reducible refine gate_callee (f := 44) rfl ?_); refine goesL_ (some 13) rfl rfl Try.func44 (by kernel_rfl) rfl #[.slice Ao49 t393.length co49, .int .i64 2] rfl (by (try simp only [List.map_toArray, List.map_cons, List.map_nil]); first | done | rfl | (simp only [List.length_drop, List.length_take]; rfl)) ?_; (with_reducible refine (pack_Get.calls _ _ t393 2 t397 t398 t399 _ ?side1 ?side2 A2.out).mono ?_); (case side1 => repeat (first | exact (Kd.R_reads' HO396.out).2.2 | (with_reducible refine Kd.C_alloc ?_ _) | (with_reducible refine Kd.C_drewN ?_ _) | (with_reducible refine Kd.C_drew ?_))); (case side2 => exact (Kd.R_reads' HO396.out).2.1); rintro e w50 ⟨v400, rfl, ho0, hb⟩; refine ⟨_, rfl, ?_⟩; have n0_ := Aside0.mk (Kd.R_elder' (by (with_reducible repeat (first | apply Kd.R_alloc | apply Kd.R_drewN | apply Kd.R_drew)); exact HO392.out) (Kd.R_base ho0) hb); have n1_ := Aside0.mk (Kd.R_below (by (with_reducible repeat (first | apply Kd.R_alloc | apply Kd.R_drewN | apply Kd.R_drew)); exact HO396.out) hb); have n2_ := Aside0.mk (Kd.R_lower (Kd.R_new' ho0 (Kd.R_lt (by (with_reducible repeat (first | apply Kd.R_alloc | apply Kd.R_drewN | apply Kd.R_drew)); exact HO392.out))) (below_size (by repeat (first | (with_reducible first | exact HB.out | apply below_alloc | apply pw_below_drewN | apply below_drew1) | exact HB.out)))); have n3_ := Aside0.mk (below_step (by repeat (first | (with_reducible first | exact HB.out | apply below_alloc | apply pw_below_drewN | apply below_drew1) | exact HB.out)) hb); clear HO392; clear HO396; clear HB; have HO392 := n0_; have HO396 := n1_; have HO401 := n2_; have HB := n3_; clear n0_ n1_ n2_ n3_; (try clear hb); (try clear hb2); (try clear hk); (try clear hi); (try clear ho0)))
        go_ret
        exact ⟨by first | rfl | (simp [errW_none, errW_some] <;> rfl) | (simp [*, errW_none, errW_some] <;> rfl), by repeat (first | (with_reducible first | exact HB.out | apply below_alloc | apply pw_below_drewN | apply below_drew1) | exact HB.out)⟩
    · rw [if_neg c4] at H
      have c4b0 : (t399 == 0) = false := beq_eq_false_iff_ne.mpr c4
      have c4b1 : (t399 != 0) = true := bne_iff_ne.mpr c4
      obtain rfl := Option.some.inj H
      go_enter Try.func43, Try.ntmps43
      go_wp2_with (first | ((with_reducible refine gate_dst (N := 7) rfl ?_); (try (refine gate_guard (by rfl) ?_; dsimp only)); refine Kd.R_lit (Kd.int .u64) _ 23 ?hg (N := 7) ?hd (xs := ([7, 7] : List Int)) (inner := [.int .u64 7, .int .u64 7]) (ok := fun _ => True) (okp := fun _ => True) ?hr ?hp (fun _ hk => hk) trivial (Below.refl _ _) (Nat.le_refl _) (by simp) ?_; (case hd => rfl); (case hg => rfl); (case hr => first | (go_simp; done) | (go_simp; rfl)); (case hp => exact (Reps.one (show Kd.M (Kd.int .u64) _ _ _ 7 [.int .u64 7] from rfl) (Reps.one (show Kd.M (Kd.int .u64) _ _ _ 7 [.int .u64 7] from rfl) (Reps.none _ _)))); intro v391 w51 ho52 hb hg_ hnew_; clear hg_ hnew_; (first | rw [← Ny390.out] at ho52 | (simp only [Int.reduceToNat] at ho52; rw [← Ny390.out] at ho52)); have n0_ := Aside0.mk (Kd.R_lower ho52 (below_size (by repeat (first | (with_reducible first | exact HB.out | apply below_alloc | apply pw_below_drewN | apply below_drew1) | exact HB.out)))); have n1_ := Aside0.mk (below_step (by repeat (first | (with_reducible first | exact HB.out | apply below_alloc | apply pw_below_drewN | apply below_drew1) | exact HB.out)) hb); clear HB; have HO392 := n0_; have HB := n1_; clear n0_ n1_; clear hb ho52; obtain ⟨Ao53, co53, eo53⟩ := Kd.R_slice HO392.out; subst eo53) | ((with_reducible refine gate_callee (f := 41) rfl ?_); refine goesL_ (some 8) rfl rfl Try.func41 (by kernel_rfl) rfl #[.slice Ao53 y390.length co53] rfl (by (try simp only [List.map_toArray, List.map_cons, List.map_nil]); first | done | rfl | (simp only [List.length_drop, List.length_take]; rfl)) ?_; (with_reducible refine (pack_Put.calls _ _ y390 t393 t394 _ ?side1 ?side2 A1.out).mono ?_); (case side1 => repeat (first | exact (Kd.R_reads' HO392.out).2.2 | (with_reducible refine Kd.C_alloc ?_ _) | (with_reducible refine Kd.C_drewN ?_ _) | (with_reducible refine Kd.C_drew ?_))); (case side2 => exact (Kd.R_reads' HO392.out).2.1); rintro e w54 ⟨v395, rfl, ho0, hb⟩; refine ⟨_, rfl, ?_⟩; have n0_ := Aside0.mk (Kd.R_below (by (with_reducible repeat (first | apply Kd.R_alloc | apply Kd.R_drewN | apply Kd.R_drew)); exact HO392.out) hb); have n1_ := Aside0.mk (Kd.R_lower ho0 (below_size (by repeat (first | (with_reducible first | exact HB.out | apply below_alloc | apply pw_below_drewN | apply below_drew1) | exact HB.out)))); have n2_ := Aside0.mk (below_step (by repeat (first | (with_reducible first | exact HB.out | apply below_alloc | apply pw_below_drewN | apply below_drew1) | exact HB.out)) hb); clear HO392; clear HB; have HO392 := n0_; have HO396 := n1_; have HB := n2_; clear n0_ n1_ n2_; (try clear hb); (try clear hb2); (try clear hk); (try clear hi); (try clear ho0); obtain ⟨Ao55, co55, eo55⟩ := Kd.R_slice HO396.out; subst eo55) | ((with_reducible refine gate_callee (f := 44) rfl ?_); refine goesL_ (some 13) rfl rfl Try.func44 (by kernel_rfl) rfl #[.slice Ao55 t393.length co55, .int .i64 2] rfl (by (try simp only [List.map_toArray, List.map_cons, List.map_nil]); first | done | rfl | (simp only [List.length_drop, List.length_take]; rfl)) ?_; (with_reducible refine (pack_Get.calls _ _ t393 2 t397 t398 t399 _ ?side1 ?side2 A2.out).mono ?_); (case side1 => repeat (first | exact (Kd.R_reads' HO396.out).2.2 | (with_reducible refine Kd.C_alloc ?_ _) | (with_reducible refine Kd.C_drewN ?_ _) | (with_reducible refine Kd.C_drew ?_))); (case side2 => exact (Kd.R_reads' HO396.out).2.1); rintro e w56 ⟨v400, rfl, ho0, hb⟩; refine ⟨_, rfl, ?_⟩; have n0_ := Aside0.mk (Kd.R_elder' (by (with_reducible repeat (first | apply Kd.R_alloc | apply Kd.R_drewN | apply Kd.R_drew)); exact HO392.out) (Kd.R_base ho0) hb); have n1_ := Aside0.mk (Kd.R_below (by (with_reducible repeat (first | apply Kd.R_alloc | apply Kd.R_drewN | apply Kd.R_drew)); exact HO396.out) hb); have n2_ := Aside0.mk (Kd.R_lower (Kd.R_new' ho0 (Kd.R_lt (by (with_reducible repeat (first | apply Kd.R_alloc | apply Kd.R_drewN | apply Kd.R_drew)); exact HO392.out))) (below_size (by repeat (first | (with_reducible first | exact HB.out | apply below_alloc | apply pw_below_drewN | apply below_drew1) | exact HB.out)))); have n3_ := Aside0.mk (below_step (by repeat (first | (with_reducible first | exact HB.out | apply below_alloc | apply pw_below_drewN | apply below_drew1) | exact HB.out)) hb); clear HO392; clear HO396; clear HB; have HO392 := n0_; have HO396 := n1_; have HO401 := n2_; have HB := n3_; clear n0_ n1_ n2_ n3_; (try clear hb); (try clear hb2); (try clear hk); (try clear hi); (try clear ho0)))
      go_ret
      exact ⟨by first | rfl | (simp [errW_none, errW_some] <;> rfl) | (simp [*, errW_none, errW_some] <;> rfl), by repeat (first | (with_reducible first | exact HB.out | apply below_alloc | apply pw_below_drewN | apply below_drew1) | exact HB.out)⟩
  · rw [if_neg c3] at H
    have c3b0 : (t394 == 0) = false := beq_eq_false_iff_ne.mpr c3
    have c3b1 : (t394 != 0) = true := bne_iff_ne.mpr c3
    obtain rfl := Option.some.inj H
    go_enter Try.func43, Try.ntmps43
    go_wp2_with (first | ((with_reducible refine gate_dst (N := 7) rfl ?_); (try (refine gate_guard (by rfl) ?_; dsimp only)); refine Kd.R_lit (Kd.int .u64) _ 23 ?hg (N := 7) ?hd (xs := ([7, 7] : List Int)) (inner := [.int .u64 7, .int .u64 7]) (ok := fun _ => True) (okp := fun _ => True) ?hr ?hp (fun _ hk => hk) trivial (Below.refl _ _) (Nat.le_refl _) (by simp) ?_; (case hd => rfl); (case hg => rfl); (case hr => first | (go_simp; done) | (go_simp; rfl)); (case hp => exact (Reps.one (show Kd.M (Kd.int .u64) _ _ _ 7 [.int .u64 7] from rfl) (Reps.one (show Kd.M (Kd.int .u64) _ _ _ 7 [.int .u64 7] from rfl) (Reps.none _ _)))); intro v391 w57 ho58 hb hg_ hnew_; clear hg_ hnew_; (first | rw [← Ny390.out] at ho58 | (simp only [Int.reduceToNat] at ho58; rw [← Ny390.out] at ho58)); have n0_ := Aside0.mk (Kd.R_lower ho58 (below_size (by repeat (first | (with_reducible first | exact HB.out | apply below_alloc | apply pw_below_drewN | apply below_drew1) | exact HB.out)))); have n1_ := Aside0.mk (below_step (by repeat (first | (with_reducible first | exact HB.out | apply below_alloc | apply pw_below_drewN | apply below_drew1) | exact HB.out)) hb); clear HB; have HO392 := n0_; have HB := n1_; clear n0_ n1_; clear hb ho58; obtain ⟨Ao59, co59, eo59⟩ := Kd.R_slice HO392.out; subst eo59) | ((with_reducible refine gate_callee (f := 41) rfl ?_); refine goesL_ (some 8) rfl rfl Try.func41 (by kernel_rfl) rfl #[.slice Ao59 y390.length co59] rfl (by (try simp only [List.map_toArray, List.map_cons, List.map_nil]); first | done | rfl | (simp only [List.length_drop, List.length_take]; rfl)) ?_; (with_reducible refine (pack_Put.calls _ _ y390 t393 t394 _ ?side1 ?side2 A1.out).mono ?_); (case side1 => repeat (first | exact (Kd.R_reads' HO392.out).2.2 | (with_reducible refine Kd.C_alloc ?_ _) | (with_reducible refine Kd.C_drewN ?_ _) | (with_reducible refine Kd.C_drew ?_))); (case side2 => exact (Kd.R_reads' HO392.out).2.1); rintro e w60 ⟨v395, rfl, ho0, hb⟩; refine ⟨_, rfl, ?_⟩; have n0_ := Aside0.mk (Kd.R_below (by (with_reducible repeat (first | apply Kd.R_alloc | apply Kd.R_drewN | apply Kd.R_drew)); exact HO392.out) hb); have n1_ := Aside0.mk (Kd.R_lower ho0 (below_size (by repeat (first | (with_reducible first | exact HB.out | apply below_alloc | apply pw_below_drewN | apply below_drew1) | exact HB.out)))); have n2_ := Aside0.mk (below_step (by repeat (first | (with_reducible first | exact HB.out | apply below_alloc | apply pw_below_drewN | apply below_drew1) | exact HB.out)) hb); clear HO392; clear HB; have HO392 := n0_; have HO396 := n1_; have HB := n2_; clear n0_ n1_ n2_; (try clear hb); (try clear hb2); (try clear hk); (try clear hi); (try clear ho0); obtain ⟨Ao61, co61, eo61⟩ := Kd.R_slice HO396.out; subst eo61) | ((with_reducible refine gate_callee (f := 44) rfl ?_); refine goesL_ (some 13) rfl rfl Try.func44 (by kernel_rfl) rfl #[.slice Ao61 t393.length co61, .int .i64 2] rfl (by (try simp only [List.map_toArray, List.map_cons, List.map_nil]); first | done | rfl | (simp only [List.length_drop, List.length_take]; rfl)) ?_; (with_reducible refine (pack_Get.calls _ _ t393 2 t397 t398 t399 _ ?side1 ?side2 A2.out).mono ?_); (case side1 => repeat (first | exact (Kd.R_reads' HO396.out).2.2 | (with_reducible refine Kd.C_alloc ?_ _) | (with_reducible refine Kd.C_drewN ?_ _) | (with_reducible refine Kd.C_drew ?_))); (case side2 => exact (Kd.R_reads' HO396.out).2.1); rintro e w62 ⟨v400, rfl, ho0, hb⟩; refine ⟨_, rfl, ?_⟩; have n0_ := Aside0.mk (Kd.R_elder' (by (with_reducible repeat (first | apply Kd.R_alloc | apply Kd.R_drewN | apply Kd.R_drew)); exact HO392.out) (Kd.R_base ho0) hb); have n1_ := Aside0.mk (Kd.R_below (by (with_reducible repeat (first | apply Kd.R_alloc | apply Kd.R_drewN | apply Kd.R_drew)); exact HO396.out) hb); have n2_ := Aside0.mk (Kd.R_lower (Kd.R_new' ho0 (Kd.R_lt (by (with_reducible repeat (first | apply Kd.R_alloc | apply Kd.R_drewN | apply Kd.R_drew)); exact HO392.out))) (below_size (by repeat (first | (with_reducible first | exact HB.out | apply below_alloc | apply pw_below_drewN | apply below_drew1) | exact HB.out)))); have n3_ := Aside0.mk (below_step (by repeat (first | (with_reducible first | exact HB.out | apply below_alloc | apply pw_below_drewN | apply below_drew1) | exact HB.out)) hb); clear HO392; clear HO396; clear HB; have HO392 := n0_; have HO396 := n1_; have HO401 := n2_; have HB := n3_; clear n0_ n1_ n2_ n3_; (try clear hb); (try clear hb2); (try clear hk); (try clear hi); (try clear ho0)))
    go_ret
    exact ⟨by first | rfl | (simp [errW_none, errW_some] <;> rfl) | (simp [*, errW_none, errW_some] <;> rfl), by repeat (first | (with_reducible first | exact HB.out | apply below_alloc | apply pw_below_drewN | apply below_drew1) | exact HB.out)⟩

end Go.Proofs.Ytmlbppfcpejlpaa.X

/- Numbers that are the same, and the layer's own example. No conditions. -/
namespace Go.Proofs.Ytmlbppfcpejlpaa.Q06
open Go Go.RowKit Go.Proofs.YtmlbppfcpejlpaaW.PrintWords Go.Proofs.YtmlbppfcpejlpaaW.PrintMore Go.Proofs.Ytmlbppfcpejlpaa.S Go.Proofs.Ytmlbppfcpejlpaa.B Go.Proofs.Ytmlbppfcpejlpaa.X Go.Proofs.Ytmlbppfcpejlpaa.Q04
set_option linter.unusedVariables false
set_option linter.unusedSimpArgs false

theorem same_l0 {l : List Int} (hl : l.length < 1000000000000) (d : Nat) : ∀ (i k : Nat), i + d = l.length → d < k → rickref06_Same.l0 k l l (i : Int) = some true := by
  induction d with
  | zero =>
    intro i k hd hk
    obtain ⟨k, rfl⟩ : ∃ q, k = q + 1 := ⟨k - 1, by omega⟩
    simp only [rickref06_Same.l0]
    rw [if_neg (by omega)]
  | succ d ih =>
    intro i k hd hk
    obtain ⟨k, rfl⟩ : ∃ q, k = q + 1 := ⟨k - 1, by omega⟩
    simp only [rickref06_Same.l0, if_true]
    rw [if_pos (by omega), if_pos (by omega), if_pos (by omega), Q06.succ64 (by omega)]
    exact ih (i + 1) k (by omega) (by omega)
theorem same_spec {k : Nat} {l : List Int} (hl : l.length < 1000000000000) (hk : l.length < k) : rickref06_Same.f k l l = some true := by
  unfold rickref06_Same.f
  rw [if_pos rfl]
  exact same_l0 hl l.length 0 k (by omega) hk
theorem puts6_spec : ricklaw06_puts.f = some true := by
  have hu : Us [7, 7] := by intro x hx; simp at hx; omega
  have e1 := put6_spec (l := [7, 7]) hu (by simp)
  have e2 := get6_spec (l := [7, 7]) (more := []) hu (by simp) (by intro x hx; simp at hx) (by simp)
  have e3 : packB (pack_Put.bits [7, 7]) = [0, 0, 0, 0, 0, 0, 0, 7, 0] := by decide +kernel
  rw [if_neg (by decide), e3] at e1
  rw [if_neg (by decide), List.append_nil, e3] at e2
  unfold ricklaw06_puts.f
  rw [e1, Option.bind_some]
  simp only []
  rw [show pack_Get.f [0, 0, 0, 0, 0, 0, 0, 7, 0] 2 = some ([7, 7], 9, 0) from e2, Option.bind_some]
  decide +kernel
end Go.Proofs.Ytmlbppfcpejlpaa.Q06

/- RunsMany: a value that comes as often as may be has one run; by turns with another one, as many as there are. No conditions. -/
namespace Go.Proofs.Ytmlbppfcpejlpaa.Pure
open Go Go.RowKit Go.Proofs.YtmlbppfcpejlpaaW.PrintWords Go.Proofs.YtmlbppfcpejlpaaW.PrintMore Go.Proofs.Ytmlbppfcpejlpaa.S Go.Proofs.Ytmlbppfcpejlpaa.X Go.Proofs.Ytmlbppfcpejlpaa.Q05 Go.Proofs.Ytmlbppfcpejlpaa.Q09
set_option linter.unusedVariables false
set_option linter.unusedSimpArgs false

/-- Two values by turns. -/
def alt (v u : Int) (n : Nat) : List Int := (List.range n).map (fun (i : Nat) => if i % 2 = 0 then v else u)
theorem alt_len (v u : Int) (n : Nat) : (alt v u n).length = n := by simp [alt]
theorem alt_succ (v u : Int) (n : Nat) : alt v u (n + 1) = alt v u n ++ [if n % 2 = 0 then v else u] := by simp [alt, List.range_succ]
theorem alt_rd (v u : Int) {n i : Nat} (h : i < n) : rd (alt v u n) (i : Int) = if i % 2 = 0 then v else u := by
  rw [rd_get (by rw [alt_len]; exact h)]; simp [alt]
theorem alt_us {v u : Int} (hv : 0 ≤ v ∧ v < 18446744073709551616) (hu : 0 ≤ u ∧ u < 18446744073709551616) (n : Nat) : Us (alt v u n) := by
  intro x hx
  obtain ⟨i, _, rfl⟩ := List.mem_map.1 hx
  show 0 ≤ (if i % 2 = 0 then v else u) ∧ _
  split
  · exact hv
  · exact hu
theorem xor_one {v : Int} (h0 : 0 ≤ v) (h1 : v < 18446744073709551616) : ∃ u, Go.bits .xor .u64 v 1 = u ∧ u ≠ v ∧ 0 ≤ u ∧ u < 18446744073709551616 := by
  refine ⟨_, rfl, ?_, ?_, ?_⟩
  all_goals
    obtain ⟨n, rfl⟩ := Int.eq_ofNat_of_zero_le h0
    rw [show (1 : Int) = ((1 : Nat) : Int) from rfl, u64_xor_nat n 1 (by omega) (by decide)]
    have hx : n ^^^ 1 < 2 ^ 64 := Nat.xor_lt_two_pow (by omega) (by decide)
  · intro e
    have e2 : n ^^^ 1 = n := by exact_mod_cast e
    have h3 := congrArg (fun z => n ^^^ z) e2
    simp only [← Nat.xor_assoc, Nat.xor_self, Nat.zero_xor] at h3
    omega
  · omega
  · omega
theorem xor_zero64 {v : Int} (h0 : 0 ≤ v) (h1 : v < 18446744073709551616) : Go.bits .xor .u64 v 0 = v := by
  obtain ⟨n, rfl⟩ := Int.eq_ofNat_of_zero_le h0
  rw [show (0 : Int) = ((0 : Nat) : Int) from rfl, u64_xor_nat n 0 (by omega) (by decide), Nat.xor_zero]
theorem lead_rep (K : Nat) (v : Int) : runs_Put.lead (List.replicate K v) = K := by
  have h : ∀ K, runs_Put.cnt v (List.replicate K v) = K := by
    intro K
    induction K with
    | zero => rfl
    | succ K ih => rw [List.replicate_succ, runs_Put.cnt, if_pos rfl, ih]
  cases K with
  | zero => rfl
  | succ K => unfold runs_Put.lead; rw [show rd (List.replicate (K + 1) v) 0 = v by rw [List.replicate_succ]; rfl]; exact h _
theorem vb_short : ∀ K : Fin 201, (vb ((K.val : Nat) : Int)).length ≤ 2 := by decide +kernel
theorem rep_short {K : Nat} (hK : 0 < K) (hK2 : K ≤ 200) (v : Int) : (runB 200 (List.replicate K v)).length ≤ 12 := by
  rw [runB, if_neg (by rw [List.length_replicate]; omega), lead_rep, List.drop_of_length_le (by rw [List.length_replicate]; exact Nat.le_refl _)]
  have h1 := vb_short ⟨K, by omega⟩
  have h2 := vb_len (rd (List.replicate K v) 0)
  have h3 : runB 199 [] = [] := by rw [runB, if_pos List.length_nil]
  rw [h3, List.append_nil, List.length_append]
  simp only [] at h1
  omega
theorem turns_long {l : List Int} (hne : ∀ i, i + 1 < l.length → rd l ((i + 1 : Nat) : Int) ≠ rd l (i : Int)) (q : Nat) : ∀ i, l.length ≤ i + q → i ≤ l.length → 2 * (l.length - i) ≤ (runB q (l.drop i)).length := by
  induction q with
  | zero => intro i h1 h2; omega
  | succ q ih =>
    intro i h1 h2
    by_cases h : i < l.length
    · obtain ⟨hp, hle, heq, _⟩ := lead_facts h
      have h1' : runs_Put.lead (l.drop i) = 1 := by
        by_cases e : runs_Put.lead (l.drop i) = 1
        · exact e
        · exact absurd (heq 1 (by omega)) (hne i (by omega))
      rw [runB_step h, h1', List.length_append, List.length_append]
      have := ih (i + 1) (by omega) (by omega)
      have := vb_pos ((1 : Nat) : Int)
      have := vb_pos (rd l (i : Int))
      omega
    · omega
theorem many_end (v u many : Int) (K : Nat) (hK : 0 < K) (hK2 : K ≤ 200) (v0 : 0 ≤ v) (v1 : v < 18446744073709551616) (u0 : 0 ≤ u) (u1 : u < 18446744073709551616) (hne : u ≠ v) (k : Nat) (hk : 300000 < k) :
    ricklaw09_RunsMany.l0 k v (K : Int) (List.replicate K v) (alt v u K) (K : Int) = some true := by
  obtain ⟨k, rfl⟩ : ∃ q, k = q + 1 := ⟨k - 1, by omega⟩
  have hua : Us (List.replicate K v) := fun x hx => by rw [(List.mem_replicate.1 hx).2]; exact ⟨v0, v1⟩
  have hub := alt_us (v := v) (u := u) ⟨v0, v1⟩ ⟨u0, u1⟩ K
  have hla : (List.replicate K v).length = K := List.length_replicate
  have hlb := alt_len v u K
  have hshort := rep_short hK hK2 v
  have hlong := turns_long (l := alt v u K) (fun i hi => by
    rw [hlb] at hi
    rw [alt_rd v u (by omega), alt_rd v u (by omega)]
    by_cases e : i % 2 = 0
    · rw [if_neg (by omega), if_pos e]; exact hne
    · rw [if_pos (by omega), if_neg e]; exact fun z => hne z.symm) 200 0 (by omega) (by omega)
  rw [List.drop_zero, hlb, Nat.sub_zero] at hlong
  have hrb := runB_len 200 (alt v u K)
  have p1 := put9_spec hua (by omega)
  have p2 := put9_spec hub (by omega)
  have r1 := ref9_spec (k := k) hua (by omega) (by omega)
  have r2 := ref9_spec (k := k) hub (by omega) (by omega)
  have g1 := get9_spec (k := k) (more := []) hua (by omega) (by intro x hx; simp at hx) (by simp) (by omega)
  have g2 := get9_spec (k := k) (more := []) hub (by omega) (by intro x hx; simp at hx) (by simp) (by omega)
  have s1 := Q06.same_spec (k := k) (l := List.replicate K v) (by omega) (by omega)
  have s2 := Q06.same_spec (k := k) (l := alt v u K) (by omega) (by omega)
  have hps := puts9_some k (by omega)
  rw [List.append_nil, hla] at g1
  rw [List.append_nil, hlb] at g2
  generalize runB 200 (List.replicate K v) = A at *
  generalize runB 200 (alt v u K) = B at *
  generalize List.replicate K v = a at *
  generalize alt v u K = b at *
  have e2 : wrap64 (2 * (K : Int)) = 2 * (K : Int) := wrap64_id (by omega) (by omega)
  rw [ricklaw09_RunsMany.l0, if_neg (Int.lt_irrefl _), p1, Option.bind_some, p2, Option.bind_some, g1, Option.bind_some, g2, Option.bind_some, hps, Option.bind_some, if_pos rfl, if_pos rfl, if_pos rfl, if_pos rfl, if_pos rfl, r1, Option.bind_some, if_pos rfl, r2, Option.bind_some, if_pos rfl, if_pos rfl, if_pos rfl, s1, Option.bind_some, if_pos rfl, s2, Option.bind_some, if_pos rfl]
  show (if (A.length : Int) ≤ 12 then some (decide ((B.length : Int) ≥ wrap64 (2 * (K : Int)))) else some false) = some true
  rw [if_pos (by omega), e2, decide_eq_true (by omega)]
theorem many_l0 (v u many : Int) (K : Nat) (hK : 0 < K) (hK2 : K ≤ 200) (v0 : 0 ≤ v) (v1 : v < 18446744073709551616) (hu : Go.bits .xor .u64 v 1 = u) (u0 : 0 ≤ u) (u1 : u < 18446744073709551616) (hne : u ≠ v) (d : Nat) : ∀ (i k : Nat), i + d = K → 300000 + d < k →
    ricklaw09_RunsMany.l0 k v (K : Int) (List.replicate i v ++ List.replicate d 0) (alt v u i ++ List.replicate d 0) (i : Int) = some true := by
  induction d with
  | zero =>
    intro i k hd hk
    obtain rfl : i = K := by omega
    rw [List.replicate_zero, List.append_nil, List.append_nil]
    exact many_end v u many i hK hK2 v0 v1 u0 u1 hne k (by omega)
  | succ d ih =>
    intro i k hd hk
    obtain ⟨k, rfl⟩ : ∃ q, k = q + 1 := ⟨k - 1, by omega⟩
    have hx : Go.bits .xor .u64 v (IntKind.u64.wrap (Int.tmod (i : Int) 2)) = if i % 2 = 0 then v else u := by
      rw [Int.tmod_eq_emod_of_nonneg (by omega)]
      by_cases e : i % 2 = 0
      · rw [if_pos e, show (i : Int) % 2 = 0 by omega, show IntKind.u64.wrap 0 = 0 by decide, xor_zero64 v0 v1]
      · rw [if_neg e, show (i : Int) % 2 = 1 by omega, show IntKind.u64.wrap 1 = 1 by decide, hu]
    have e1 : (List.replicate i v ++ List.replicate (d + 1) 0).set i v = List.replicate (i + 1) v ++ List.replicate d 0 := by
      rw [List.replicate_succ, List.set_append_right _ _ (by simp)]
      simp [List.replicate_succ']
    have e3 : (alt v u i ++ List.replicate (d + 1) 0).set i (if i % 2 = 0 then v else u) = alt v u (i + 1) ++ List.replicate d 0 := by
      rw [List.replicate_succ, List.set_append_right _ _ (by rw [alt_len]; exact Nat.le_refl _), alt_len, Nat.sub_self, List.set_cons_zero, alt_succ, List.append_assoc]
      rfl
    rw [ricklaw09_RunsMany.l0, if_pos (by omega), if_pos (by omega), if_pos (by simp; omega), if_pos (by rw [List.length_append, alt_len, List.length_replicate]; omega), Int.toNat_natCast, hx, e1, e3, Q06.succ64 (by omega)]
    exact ih (i + 1) k (by omega) (by omega)
theorem RunsMany : ricklaw09_RunsMany.Pure := by
  intro v many hv hmany
  obtain ⟨v0, v1⟩ := wf_u64 hv
  have hm0 : 0 ≤ IntKind.u64.wrap many := by rw [wrap_u64]; omega
  obtain ⟨K, hK, hK0, hK1⟩ : ∃ K : Nat, wrap64 (1 + wrap64 (Int.tmod (IntKind.u64.wrap many) 200)) = (K : Int) ∧ 0 < K ∧ K ≤ 200 := by
    refine ⟨1 + (IntKind.u64.wrap many % 200).toNat, ?_, by omega, by omega⟩
    rw [Int.tmod_eq_emod_of_nonneg hm0, wrap64_id (n := IntKind.u64.wrap many % 200) (by omega) (by omega), wrap64_id (by omega) (by omega)]
    omega
  obtain ⟨u, hu, hne, u0, u1⟩ := xor_one v0 v1
  refine ⟨300300, ?_⟩
  unfold ricklaw09_RunsMany.f
  rw [hK, if_pos (by omega), if_pos (by rw [Int.toNat_natCast]; omega), Int.toNat_natCast]
  have := many_l0 v u many K hK0 hK1 v0 v1 hu u0 u1 hne K 0 300300 (by omega) (by omega)
  simpa [alt] using this
end Go.Proofs.Ytmlbppfcpejlpaa.Pure
