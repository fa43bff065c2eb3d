/- Texts of this claim, laid together (wip/merge.py): XTimesPut, XTimesGet, XRicklaw07Puts, XRickref07Same, XRicklaw07Timeseven, Q06c, Q06s, Q07, Q07b, PureTimesEven. No conditions. -/
import Derived.Test.YtmlbppfcpejlpaaMTimesEven1
import Derived.Test.YtmlbppfcpejlpaaMTimesEven2
-- Printed by this session's own program (wip/xprint.py) over the translation; its external functions are hand-written. Lean checks it.
namespace Go.Proofs.Ytmlbppfcpejlpaa.X
open Go.RowKit Go.Proofs.YtmlbppfcpejlpaaW.PrintWords Go.Proofs.YtmlbppfcpejlpaaW.PrintLast Go.Proofs.YtmlbppfcpejlpaaW.PrintMore
attribute [local go_sem] max2_int min2_int max_two min_two max_three min_three max_four min_four   -- for this text's walks alone
set_option linter.unusedVariables false
set_option linter.unusedSimpArgs false

/-! ### times_Put: function 46 -/
mutual
def times_Put.j0 : Nat → List Int → Int → Bool → Option (List Int × Int)
  | 0, _, _, _ => none
  | k + 1, x0, x1, x20 => if x20 = true then (some (([] : List Int), 1)) else (if (x0.length : Int) = 0 then (some (([] : List Int), 0)) else (if x1 = 2 then ((times_twice.f x0).bind fun t449 => (some (t449, 0))) else (if x1 = 3 then ((times_packed.f k x0).bind fun t452 => (some (t452, 0))) else (if x1 = 0 then (times_Put.l0 k ([] : List Int) x0 (x0.length : Int) 0) else (if 0 < (x0.length : Int) then ((varint_Zig.f (rd x0 0)).bind fun t460 => ((varint_Put.f k ([] : List Int) t460).bind fun t461 => (times_Put.l1 k x0 t461 1))) else (none))))))
def times_Put.l0 : Nat → List Int → List Int → Int → Int → Option (List Int × Int)
  | 0, _, _, _, _ => none
  | k + 1, x6, x64, x65, x66 => if x66 < x65 then (if 0 ≤ x66 then (if x66 < (x64.length : Int) then ((times_raw.f k x6 (IntKind.u64.wrap (rd x64 x66))).bind fun t456 => (times_Put.l0 k t456 x64 x65 (wrap64 (x66 + 1)))) else (none)) else (none)) else (some (x6, 0))
def times_Put.l1 : Nat → List Int → List Int → Int → Option (List Int × Int)
  | 0, _, _, _ => none
  | k + 1, x0, x6, x9 => if x9 < (x0.length : Int) then (if 0 ≤ x9 then (if 0 ≤ (wrap64 (x9 - 1)) then (if (wrap64 (x9 - 1)) < (x0.length : Int) then ((varint_Put.f k x6 (IntKind.u64.wrap ((IntKind.u64.wrap (rd x0 x9)) - (IntKind.u64.wrap (rd x0 (wrap64 (x9 - 1))))))).bind fun t466 => (times_Put.l1 k x0 t466 (wrap64 (x9 + 1)))) else (none)) else (none)) else (none)) else (some (x6, 0))
end
def times_Put.f (k : Nat) (l0 : List Int) (a1 : Int) : Option (List Int × Int) := if a1 < 0 then (times_Put.j0 k l0 a1 true) else (if a1 > 3 then (times_Put.j0 k l0 a1 true) else (times_Put.j0 k l0 a1 (decide ((l0.length : Int) > 200))))
theorem times_Put.mono_l : ∀ k, (∀ y0 y1 y2, LeO (times_Put.j0 k y0 y1 y2) (times_Put.j0 (k + 1) y0 y1 y2)) ∧ (∀ y0 y1 y2 y3, LeO (times_Put.l0 k y0 y1 y2 y3) (times_Put.l0 (k + 1) y0 y1 y2 y3)) ∧ (∀ y0 y1 y2, LeO (times_Put.l1 k y0 y1 y2) (times_Put.l1 (k + 1) y0 y1 y2))
  | 0 => ⟨fun _ _ _ r h => by simp [times_Put.j0] at h, fun _ _ _ _ r h => by simp [times_Put.l0] at h, fun _ _ _ r h => by simp [times_Put.l1] at h⟩
  | k + 1 => by
    obtain ⟨ih0, ih1, ih2⟩ := times_Put.mono_l k
    refine ⟨?_, ?_, ?_⟩
    · intro y0 y1 y2
      unfold times_Put.j0
      repeat' first
      | (with_reducible exact ih0 _ _ _)
      | (with_reducible exact ih1 _ _ _ _)
      | (with_reducible exact ih2 _ _ _)
      | (with_reducible exact times_packed.mono _ _)
      | (with_reducible exact times_raw.mono _ _ _)
      | (with_reducible exact varint_Put.mono _ _ _)
      | (with_reducible exact LeO.refl _)
      | (with_reducible exact LeO.none _)
      | (with_reducible refine LeO.ite ?_ ?_)
      | (with_reducible refine LeO.bind ?_ (fun _ => ?_))
      | exact ih0 _ _ _
      | exact ih1 _ _ _ _
      | exact ih2 _ _ _
      | exact times_packed.mono _ _
      | exact times_raw.mono _ _ _
      | exact varint_Put.mono _ _ _
      | exact LeO.none _
      | refine LeO.ite ?_ ?_
      | refine LeO.bind ?_ (fun _ => ?_)
    · intro y0 y1 y2 y3
      unfold times_Put.l0
      repeat' first
      | (with_reducible exact ih0 _ _ _)
      | (with_reducible exact ih1 _ _ _ _)
      | (with_reducible exact ih2 _ _ _)
      | (with_reducible exact times_packed.mono _ _)
      | (with_reducible exact times_raw.mono _ _ _)
      | (with_reducible exact varint_Put.mono _ _ _)
      | (with_reducible exact LeO.refl _)
      | (with_reducible exact LeO.none _)
      | (with_reducible refine LeO.ite ?_ ?_)
      | (with_reducible refine LeO.bind ?_ (fun _ => ?_))
      | exact ih0 _ _ _
      | exact ih1 _ _ _ _
      | exact ih2 _ _ _
      | exact times_packed.mono _ _
      | exact times_raw.mono _ _ _
      | exact varint_Put.mono _ _ _
      | exact LeO.none _
      | refine LeO.ite ?_ ?_
      | refine LeO.bind ?_ (fun _ => ?_)
    · intro y0 y1 y2
      unfold times_Put.l1
      repeat' first
      | (with_reducible exact ih0 _ _ _)
      | (with_reducible exact ih1 _ _ _ _)
      | (with_reducible exact ih2 _ _ _)
      | (with_reducible exact times_packed.mono _ _)
      | (with_reducible exact times_raw.mono _ _ _)
      | (with_reducible exact varint_Put.mono _ _ _)
      | (with_reducible exact LeO.refl _)
      | (with_reducible exact LeO.none _)
      | (with_reducible refine LeO.ite ?_ ?_)
      | (with_reducible refine LeO.bind ?_ (fun _ => ?_))
      | exact ih0 _ _ _
      | exact ih1 _ _ _ _
      | exact ih2 _ _ _
      | exact times_packed.mono _ _
      | exact times_raw.mono _ _ _
      | exact varint_Put.mono _ _ _
      | exact LeO.none _
      | refine LeO.ite ?_ ?_
      | refine LeO.bind ?_ (fun _ => ?_)
theorem times_Put.mono : ∀ a0 a1 k, LeO (times_Put.f k a0 a1) (times_Put.f (k + 1) a0 a1) := by
  intro a0 a1 k
  obtain ⟨ih0, ih1, ih2⟩ := times_Put.mono_l k
  unfold times_Put.f
  repeat' first
      | (with_reducible exact ih0 _ _ _)
      | (with_reducible exact ih1 _ _ _ _)
      | (with_reducible exact ih2 _ _ _)
      | (with_reducible exact times_packed.mono _ _)
      | (with_reducible exact times_raw.mono _ _ _)
      | (with_reducible exact varint_Put.mono _ _ _)
      | (with_reducible exact LeO.refl _)
      | (with_reducible exact LeO.none _)
      | (with_reducible refine LeO.ite ?_ ?_)
      | (with_reducible refine LeO.bind ?_ (fun _ => ?_))
      | exact ih0 _ _ _
      | exact ih1 _ _ _ _
      | exact ih2 _ _ _
      | exact times_packed.mono _ _
      | exact times_raw.mono _ _ _
      | exact varint_Put.mono _ _ _
      | exact LeO.none _
      | refine LeO.ite ?_ ?_
      | refine LeO.bind ?_ (fun _ => ?_)
def times_Put.T8 : Bool × List (List Nat × List Nat) := (true, [([], []), ([], []), ([], []), ([1, 2], [1, 2]), ([3], [3]), ([4], [4]), ([], []), ([], []), ([7], [7]), ([6, 8], [6, 8]), ([9], [9]), ([10], [10]), ([5, 11], [5, 11]), ([0, 12], [0, 12]), ([13, 13, 0, 1, 2, 3, 4, 5, 6, 7, 8, 9, 10, 11, 12, 13], [0, 13])])
def times_Put.B8 : List Nat := [0, 0, 0, 6, 14, 30, 0, 0, 128, 448, 960, 1984, 4094, 8191, 16383]
theorem times_Put.tab8 : rtab .any (opsOf Try.f46 8) = times_Put.T8 := by kernel_rfl
theorem times_Put.bits8 : waitsOk times_Put.T8.2 times_Put.B8 = true := by kernel_rfl
set_option maxHeartbeats 8000000 in
set_option maxRecDepth 100000 in
theorem times_Put.calls (k : Nat) (A0 : Option Addr) (c0 : Nat) (l0 : List Int) (a1 : Int) (r1 : List Int) (r2 : Int) (w : World) (hr0 : Kd.C (Kd.int .i64) w A0 l0.length l0) (hc0 : l0.length ≤ c0) (h : times_Put.f k l0 a1 = some (r1, r2)) :
    Calls Try.prog 46 #[.slice A0 l0.length c0, .int .i64 a1] w fun e w' => ∃ v0_ : Value, e = .returned (.tuple #[v0_, .int .i64 r2]) ∧ Kd.R (Kd.int .u8) 5 w' w.heap.size (fun _ => True) v0_ r1 ∧ Below w.heap.size w w' := by
  have HR0 := Aside0.mk hr0
  have HC0 := Aside0.mk hc0
  clear hr0 hc0
  have HB := Aside0.mk (Below.refl w.heap.size w)
  have H : (if a1 < 0 then (times_Put.j0 k l0 a1 true) else (if a1 > 3 then (times_Put.j0 k l0 a1 true) else (times_Put.j0 k l0 a1 (decide ((l0.length : Int) > 200))))) = some (r1, r2) := h
  clear h
  have HC3 := Aside0.mk H
  clear H
  go_enter Try.func46, Try.ntmps46
  go_upto_region 1 with (fail)
  go_cut [20] (fun v20 wc => ∃ (kq : Nat) (x20_2 : Bool), v20 = .bool x20_2 ∧ Aside0 (times_Put.j0 kq l0 a1 x20_2 = some (r1, r2)) ∧ Aside0 (kq ≤ k) ∧ Aside0 (Below w.heap.size w wc))
  case first =>
    have H := HC3.out
    clear HC3
    by_cases c4 : a1 < 0
    · rw [if_pos c4] at H
      have c4b0 : decide (a1 < 0) = true := decide_eq_true c4
      clear c4
      (first | rw [c4b0] | (simp only [i64_w, i32_w]; rw [c4b0]) | skip)
      have H' := Aside0.mk H
      clear H
      go_wp2
      go_meet
      case rel => exact ⟨_, (true), (by first | rfl | (simp; done) | (simp [*]; done)), H', ⟨by first | omega | exact Nat.le_refl _⟩, ⟨by repeat (first | (with_reducible first | exact HB.out | apply below_alloc | apply pw_below_drewN | apply below_drew1) | exact HB.out)⟩⟩
    · rw [if_neg c4] at H
      have c4b0 : decide (a1 < 0) = false := decide_eq_false c4
      clear c4
      (first | rw [c4b0] | (simp only [i64_w, i32_w]; rw [c4b0]) | skip)
      by_cases c5 : a1 > 3
      · rw [if_pos c5] at H
        have c5b0 : decide (3 < a1) = true := decide_eq_true c5
        clear c5
        have H' := Aside0.mk H
        clear H
        go_wp2
        go_meet
        case rel => exact ⟨_, (true), (by first | rfl | (simp; done) | (simp [*]; done)), H', ⟨by first | omega | exact Nat.le_refl _⟩, ⟨by repeat (first | (with_reducible first | exact HB.out | apply below_alloc | apply pw_below_drewN | apply below_drew1) | exact HB.out)⟩⟩
      · rw [if_neg c5] at H
        have c5b0 : decide (3 < a1) = false := decide_eq_false c5
        clear c5
        have H' := Aside0.mk H
        clear H
        go_wp2
        go_meet
        case rel => exact ⟨_, (decide ((l0.length : Int) > 200)), (by first | rfl | (simp; done) | (simp [*]; done)), H', ⟨by first | omega | exact Nat.le_refl _⟩, ⟨by repeat (first | (with_reducible first | exact HB.out | apply below_alloc | apply pw_below_drewN | apply below_drew1) | exact HB.out)⟩⟩
  case rest =>
    clear HC3
    try clear p2
    try clear c4
    try clear c4b0
    try clear c5
    try clear c5b0
    obtain ⟨kq, x20_2, rfl, HA, HJ2, HB⟩ := hcut
    cases kq with
    | zero => exact absurd HA.out (by simp [times_Put.j0])
    | succ kj2 =>
      have H := HA.out
      clear HA
      simp only [times_Put.j0] at H
      by_cases c6 : x20_2 = true
      · subst c6
        have H1 : (some (([] : List Int), 1)) = some (r1, r2) := by rw [if_pos rfl] at H; exact H
        clear H
        have H := H1
        clear H1
        simp only [Option.some.injEq, Prod.mk.injEq] at H
        obtain ⟨rfl, rfl⟩ := H
        go_wp2
        go_ret2
        exact ⟨_, by first | rfl | (simp [errW_none, errW_some] <;> rfl) | (simp [*, errW_none, errW_some] <;> rfl), by first | exact Kd.R_nil _ _ _ _ _ | exact Kd.N_nil _ _ _ _ _ | exact Kd.V_nil _ _ _ _ _ | exact Kd.Q_nil _ _ _ _ _ | exact Kd.S_nil _ _ _ _ _, by repeat (first | (with_reducible first | exact HB.out | apply below_alloc | apply pw_below_drewN | apply below_drew1) | exact HB.out)⟩
      · replace c6 := Bool.eq_false_iff.mpr c6
        subst c6
        have H1 : (if (l0.length : Int) = 0 then (some (([] : List Int), 0)) else (if a1 = 2 then ((times_twice.f l0).bind fun t449 => (some (t449, 0))) else (if a1 = 3 then ((times_packed.f kj2 l0).bind fun t452 => (some (t452, 0))) else (if a1 = 0 then (times_Put.l0 kj2 ([] : List Int) l0 (l0.length : Int) 0) else (if 0 < (l0.length : Int) then ((varint_Zig.f (rd l0 0)).bind fun t460 => ((varint_Put.f kj2 ([] : List Int) t460).bind fun t461 => (times_Put.l1 kj2 l0 t461 1))) else (none)))))) = some (r1, r2) := by rw [if_neg (show ¬ (false = true) by decide)] at H; exact H
        clear H
        have H := H1
        clear H1
        by_cases c7 : (l0.length : Int) = 0
        · rw [if_pos c7] at H
          have c7b0 : ((l0.length : Int) == 0) = true := beq_iff_eq.mpr c7
          have c7b1 : ((l0.length : Int) != 0) = false := bne_eq_false_iff_eq.mpr c7
          clear c7
          simp only [Option.some.injEq, Prod.mk.injEq] at H
          obtain ⟨rfl, rfl⟩ := H
          go_wp2
          go_ret2
          exact ⟨_, by first | rfl | (simp [errW_none, errW_some] <;> rfl) | (simp [*, errW_none, errW_some] <;> rfl), by first | exact Kd.R_nil _ _ _ _ _ | exact Kd.N_nil _ _ _ _ _ | exact Kd.V_nil _ _ _ _ _ | exact Kd.Q_nil _ _ _ _ _ | exact Kd.S_nil _ _ _ _ _, by repeat (first | (with_reducible first | exact HB.out | apply below_alloc | apply pw_below_drewN | apply below_drew1) | exact HB.out)⟩
        · rw [if_neg c7] at H
          have c7b0 : ((l0.length : Int) == 0) = false := beq_eq_false_iff_ne.mpr c7
          have c7b1 : ((l0.length : Int) != 0) = true := bne_iff_ne.mpr c7
          have c7b2 : ¬ (l0 = []) := fun h_ => c7 (by rw [h_]; rfl)
          by_cases c8 : a1 = 2
          · rw [if_pos c8] at H
            have c8b0 : (a1 == 2) = true := beq_iff_eq.mpr c8
            have c8b1 : (a1 != 2) = false := bne_eq_false_iff_eq.mpr c8
            clear c8
            replace H := Option.bind_eq_some_iff.mp H
            obtain ⟨t449, A90, H⟩ := H
            replace H : (some (t449, 0)) = some (r1, r2) := H
            have A9 := Aside0.mk A90
            clear A90
            simp only [Option.some.injEq, Prod.mk.injEq] at H
            obtain ⟨rfl, rfl⟩ := H
            go_wp2_with (first | ((with_reducible refine gate_callee (f := 61) rfl ?_); refine goesL_ (some 55) rfl rfl Try.func61 (by kernel_rfl) rfl #[.slice A0 l0.length c0] rfl (by (try simp only [List.map_toArray, List.map_cons, List.map_nil]); first | done | rfl | (simp only [List.length_drop, List.length_take]; rfl)) ?_; (with_reducible refine (times_twice.calls _ _ l0 t449 _ ?side1 ?side2 A9.out).mono ?_); (case side1 => repeat (first | exact (Kd.C_below HR0.out HB.out) | (with_reducible refine Kd.C_alloc ?_ _) | (with_reducible refine Kd.C_drewN ?_ _) | (with_reducible refine Kd.C_drew ?_))); (case side2 => exact HC0.out); rintro e w10 ⟨v450, rfl, ho0, hb⟩; refine ⟨_, rfl, ?_⟩; have n0_ := Aside0.mk (Kd.R_lower ho0 (below_size (by repeat (first | (with_reducible first | exact HB.out | apply below_alloc | apply pw_below_drewN | apply below_drew1) | exact HB.out)))); have n1_ := Aside0.mk (below_step (by repeat (first | (with_reducible first | exact HB.out | apply below_alloc | apply pw_below_drewN | apply below_drew1) | exact HB.out)) hb); clear HB; have HO451 := n0_; have HB := n1_; clear n0_ n1_; (try clear hb); (try clear hb2); (try clear hk); (try clear hi); (try clear ho0)))
            go_ret2
            exact ⟨_, by first | rfl | (simp [errW_none, errW_some] <;> rfl) | (simp [*, errW_none, errW_some] <;> rfl), by (with_reducible repeat (first | apply Kd.R_alloc | apply Kd.R_drewN | apply Kd.R_drew)); exact HO451.out, by repeat (first | (with_reducible first | exact HB.out | apply below_alloc | apply pw_below_drewN | apply below_drew1) | exact HB.out)⟩
          · rw [if_neg c8] at H
            have c8b0 : (a1 == 2) = false := beq_eq_false_iff_ne.mpr c8
            have c8b1 : (a1 != 2) = true := bne_iff_ne.mpr c8
            by_cases c11 : a1 = 3
            · rw [if_pos c11] at H
              have c11b0 : (a1 == 3) = true := beq_iff_eq.mpr c11
              have c11b1 : (a1 != 3) = false := bne_eq_false_iff_eq.mpr c11
              clear c11
              replace H := Option.bind_eq_some_iff.mp H
              obtain ⟨t452, A120, H⟩ := H
              replace H : (some (t452, 0)) = some (r1, r2) := H
              have A12 := Aside0.mk A120
              clear A120
              simp only [Option.some.injEq, Prod.mk.injEq] at H
              obtain ⟨rfl, rfl⟩ := H
              go_wp2_with (first | ((with_reducible refine gate_callee (f := 62) rfl ?_); refine goesL_ (some 60) rfl rfl Try.func62 (by kernel_rfl) rfl #[.slice A0 l0.length c0] rfl (by (try simp only [List.map_toArray, List.map_cons, List.map_nil]); first | done | rfl | (simp only [List.length_drop, List.length_take]; rfl)) ?_; (with_reducible refine (times_packed.calls kj2 _ _ l0 t452 _ ?side1 ?side2 A12.out).mono ?_); (case side1 => repeat (first | exact (Kd.C_below HR0.out HB.out) | (with_reducible refine Kd.C_alloc ?_ _) | (with_reducible refine Kd.C_drewN ?_ _) | (with_reducible refine Kd.C_drew ?_))); (case side2 => exact HC0.out); rintro e w13 ⟨v453, rfl, ho0, hb⟩; refine ⟨_, rfl, ?_⟩; have n0_ := Aside0.mk (Kd.R_lower ho0 (below_size (by repeat (first | (with_reducible first | exact HB.out | apply below_alloc | apply pw_below_drewN | apply below_drew1) | exact HB.out)))); have n1_ := Aside0.mk (below_step (by repeat (first | (with_reducible first | exact HB.out | apply below_alloc | apply pw_below_drewN | apply below_drew1) | exact HB.out)) hb); clear HB; have HO454 := n0_; have HB := n1_; clear n0_ n1_; (try clear hb); (try clear hb2); (try clear hk); (try clear hi); (try clear ho0)))
              go_ret2
              exact ⟨_, by first | rfl | (simp [errW_none, errW_some] <;> rfl) | (simp [*, errW_none, errW_some] <;> rfl), by (with_reducible repeat (first | apply Kd.R_alloc | apply Kd.R_drewN | apply Kd.R_drew)); exact HO454.out, by repeat (first | (with_reducible first | exact HB.out | apply below_alloc | apply pw_below_drewN | apply below_drew1) | exact HB.out)⟩
            · rw [if_neg c11] at H
              have c11b0 : (a1 == 3) = false := beq_eq_false_iff_ne.mpr c11
              have c11b1 : (a1 != 3) = true := bne_iff_ne.mpr c11
              by_cases c14 : a1 = 0
              · rw [if_pos c14] at H
                have c14b0 : (a1 == 0) = true := beq_iff_eq.mpr c14
                have c14b1 : (a1 != 0) = false := bne_eq_false_iff_eq.mpr c14
                clear c14
                have H' := Aside0.mk H
                clear H
                go_wp2
                go_loopg [6, 66] kj2 (fun kq v6 v66 w' => ∃ (x6_2 : List Int) (x66_2 : Int), v66 = .int .i64 x66_2 ∧ Aside0 (times_Put.l0 kq x6_2 l0 (l0.length : Int) x66_2 = some (r1, r2)) ∧ Aside0 (kq ≤ kj2) ∧ Aside0 (Kd.R (Kd.int .u8) 5 w' w.heap.size (fun _ => True) v6 x6_2) ∧ Aside0 (Below w.heap.size w w'))
                case atStart => exact ⟨(([] : List Int)), (0), (by first | rfl | (simp; done) | (simp [*]; done)), H', ⟨Nat.le_refl _⟩, ⟨by first | exact Kd.R_nil _ _ _ _ _ | exact Kd.N_nil _ _ _ _ _ | exact Kd.V_nil _ _ _ _ _ | exact Kd.Q_nil _ _ _ _ _ | exact Kd.S_nil _ _ _ _ _⟩, ⟨by repeat (first | (with_reducible first | exact HB.out | apply below_alloc | apply pw_below_drewN | apply below_drew1) | exact HB.out)⟩⟩
                case round =>
                  clear H'
                  try clear c1
                  try clear p2
                  try clear c4
                  try clear c4b0
                  try clear c5
                  try clear c5b0
                  try clear c6
                  try clear c7
                  try clear c7b0
                  try clear c7b1
                  try clear c7b2
                  try clear c8
                  try clear c8b0
                  try clear c8b1
                  try clear c11
                  try clear c11b0
                  try clear c11b1
                  try clear c14
                  try clear c14b0
                  try clear c14b1
                  try clear p2
                  obtain ⟨x6_2, x66_2, rfl, HA, HK2, HO_6, HB⟩ := hrel
                  cases gk with
                  | zero => exact absurd HA.out (by simp [times_Put.l0])
                  | succ k2 =>
                    have H := HA.out
                    clear HA
                    simp only [times_Put.l0] at H
                    by_cases c15 : x66_2 < (l0.length : Int)
                    · rw [if_pos c15] at H
                      have c15b0 : decide (x66_2 < (l0.length : Int)) = true := decide_eq_true c15
                      clear c15
                      by_cases c16 : 0 ≤ x66_2
                      · rw [if_pos c16] at H
                        have c16b0 : decide (0 ≤ x66_2) = true := decide_eq_true c16
                        clear c16
                        by_cases c17 : x66_2 < (l0.length : Int)
                        · rw [if_pos c17] at H
                          have c17b0 : decide (x66_2 < (l0.length : Int)) = true := decide_eq_true c17
                          clear c17
                          replace H := Option.bind_eq_some_iff.mp H
                          obtain ⟨t456, A180, H⟩ := H
                          replace H : (times_Put.l0 k2 t456 l0 (l0.length : Int) (wrap64 (x66_2 + 1))) = some (r1, r2) := H
                          have A18 := Aside0.mk A180
                          clear A180
                          have H' := Aside0.mk H
                          clear H
                          have p455 : 0 ≤ (x66_2 : Int) := of_decide_eq_true (by first | (with_reducible assumption) | assumption)
                          have q455 : x66_2 < (l0.length : Int) := of_decide_eq_true (by first | (with_reducible assumption) | assumption)
                          obtain ⟨ad455, e455, hx455_0⟩ := Kd.at_int HR0.out x66_2 p455 q455
                          cases e455
                          replace hx455_0 := (HB.out.cell (World.block_lt_of_cell? w _ hx455_0)).trans hx455_0
                          replace p455 := eq_true p455
                          replace q455 := eq_true q455
                          obtain ⟨Ao19, co19, eo19⟩ := Kd.R_slice HO_6.out
                          subst eo19
                          go_wp2_with (first | ((with_reducible refine gate_callee (f := 63) rfl ?_); refine goesL_ (some 73) rfl rfl Try.func63 (by kernel_rfl) rfl #[.slice Ao19 x6_2.length co19, .int .u64 (IntKind.u64.wrap (rd l0 x66_2))] rfl (by (try simp only [List.map_toArray, List.map_cons, List.map_nil]); first | done | rfl | (simp only [List.length_drop, List.length_take]; rfl)) ?_; (with_reducible refine (times_raw.calls k2 (fun k_ => some k_ = (.slice Ao19 x6_2.length co19 : Value).ownBlock) (.slice Ao19 x6_2.length co19) x6_2 (IntKind.u64.wrap (rd l0 x66_2)) t456 w _ ?side1 ?side2 A18.out).mono ?_); (case side1 => repeat (first | (with_reducible first | exact HB.out | apply below_alloc | apply pw_below_drewN | apply below_drew1) | exact HB.out)); (case side2 => exact Kd.R_tight rfl HO_6.out); rintro e w20 ⟨v457, rfl, ho0, hb, hkp⟩; refine ⟨_, rfl, ?_⟩; have n0_ := Aside0.mk (Kd.R_mono (ok' := fun k_ => True) ho0 (fun k_ hk_ => trivial)); have n1_ := Aside0.mk (hb); clear HB; clear HO_6; have HO458 := n0_; have HB := n1_; clear n0_ n1_; (try clear hb); (try clear hkp); (try clear ho0)))
                          go_roundg k2
                          case measure => have := HJ2.out; have := HK2.out; omega
                          case rel => exact ⟨(t456), (wrap64 (x66_2 + 1)), (by first | rfl | (simp; done) | (simp [*]; done)), H', ⟨by have := HJ2.out; have := HK2.out; omega⟩, ⟨by (with_reducible repeat (first | apply Kd.R_alloc | apply Kd.R_drewN | apply Kd.R_drew)); exact HO458.out⟩, ⟨by repeat (first | (with_reducible first | exact HB.out | apply below_alloc | apply pw_below_drewN | apply below_drew1) | exact HB.out)⟩⟩
                        · rw [if_neg c17] at H
                          exact absurd H (by simp)
                      · rw [if_neg c16] at H
                        exact absurd H (by simp)
                    · rw [if_neg c15] at H
                      have c15b0 : decide (x66_2 < (l0.length : Int)) = false := decide_eq_false c15
                      clear c15
                      simp only [Option.some.injEq, Prod.mk.injEq] at H
                      obtain ⟨rfl, rfl⟩ := H
                      go_wp2
                      go_ret2
                      exact ⟨_, by first | rfl | (simp [errW_none, errW_some] <;> rfl) | (simp [*, errW_none, errW_some] <;> rfl), by (with_reducible repeat (first | apply Kd.R_alloc | apply Kd.R_drewN | apply Kd.R_drew)); exact HO_6.out, by repeat (first | (with_reducible first | exact HB.out | apply below_alloc | apply pw_below_drewN | apply below_drew1) | exact HB.out)⟩
              · rw [if_neg c14] at H
                have c14b0 : (a1 == 0) = false := beq_eq_false_iff_ne.mpr c14
                have c14b1 : (a1 != 0) = true := bne_iff_ne.mpr c14
                by_cases c21 : 0 < (l0.length : Int)
                · rw [if_pos c21] at H
                  have c21b0 : decide (0 < (l0.length : Int)) = true := decide_eq_true c21
                  have c21b1 : decide (0 < l0.length) = true := decide_eq_true (by omega)
                  clear c21
                  replace H := Option.bind_eq_some_iff.mp H
                  obtain ⟨t460, A220, H⟩ := H
                  replace H : ((varint_Put.f kj2 ([] : List Int) t460).bind fun t461 => (times_Put.l1 kj2 l0 t461 1)) = some (r1, r2) := H
                  have A22 := Aside0.mk A220
                  clear A220
                  replace H := Option.bind_eq_some_iff.mp H
                  obtain ⟨t461, A230, H⟩ := H
                  replace H : (times_Put.l1 kj2 l0 t461 1) = some (r1, r2) := H
                  have A23 := Aside0.mk A230
                  clear A230
                  have H' := Aside0.mk H
                  clear H
                  have p459 : 0 ≤ (0 : Int) := (by omega)
                  have q459 : 0 < (l0.length : Int) := of_decide_eq_true (by first | (with_reducible assumption) | assumption)
                  obtain ⟨ad459, e459, hx459_0⟩ := Kd.at_int HR0.out 0 p459 q459
                  cases e459
                  have qi459 : (0 < l0.length) = True := eq_true (by omega)
                  (try rw [show ((0 : Int)).toNat = 0 from rfl] at hx459_0)
                  (try rw [Addr.add_zero'] at hx459_0)
                  replace hx459_0 := (HB.out.cell (World.block_lt_of_cell? w _ hx459_0)).trans hx459_0
                  replace p459 := eq_true p459
                  replace q459 := eq_true q459
                  go_wp2_with (first | ((with_reducible refine gate_callee (f := 21) rfl ?_); refine goesL_ (some 25) rfl rfl Try.func21 (by kernel_rfl) rfl #[.int .i64 (rd l0 0)] rfl (by (try simp only [List.map_toArray, List.map_cons, List.map_nil]); first | done | rfl | (simp only [List.length_drop, List.length_take]; rfl)) ?_; (with_reducible refine (varint_Zig.calls (rd l0 0) t460 _ A22.out).mono ?_); rintro e w' ⟨rfl, ⟨nd, rfl⟩⟩; refine ⟨_, rfl, ?_⟩) | ((with_reducible refine gate_callee (f := 17) rfl ?_); refine goesL_ (some 26) rfl rfl Try.func17 (by kernel_rfl) rfl #[.slice none 0 0, .int .u64 t460] rfl (by (try simp only [List.map_toArray, List.map_cons, List.map_nil]); first | done | rfl | (simp only [List.length_drop, List.length_take]; rfl)) ?_; (refine (varint_Put.calls kj2 _ _ ([] : List Int) t460 t461 _ ?side1 ?side2 A23.out).mono ?_); (case side1 => exact Kd.C_nil _ _); (case side2 => exact Nat.le_refl _); rintro e w24 ⟨v462, rfl, ho0, hb⟩; refine ⟨_, rfl, ?_⟩; have n0_ := Aside0.mk (Kd.R_lower ho0 (below_size (by repeat (first | (with_reducible first | exact HB.out | apply below_alloc | apply pw_below_drewN | apply below_drew1) | exact HB.out)))); have n1_ := Aside0.mk (below_step (by repeat (first | (with_reducible first | exact HB.out | apply below_alloc | apply pw_below_drewN | apply below_drew1) | exact HB.out)) hb); clear HB; have HO463 := n0_; have HB := n1_; clear n0_ n1_; (try clear hb); (try clear hb2); (try clear hk); (try clear hi); (try clear ho0)))
                  go_loopg [6, 9] kj2 (fun kq v6 v9 w' => ∃ (x6_2 : List Int) (x9_2 : Int), v9 = .int .i64 x9_2 ∧ Aside0 (times_Put.l1 kq l0 x6_2 x9_2 = some (r1, r2)) ∧ Aside0 (kq ≤ kj2) ∧ Aside0 (Kd.R (Kd.int .u8) 5 w' w.heap.size (fun _ => True) v6 x6_2) ∧ Aside0 (Below w.heap.size w w'))
                  case atStart => exact ⟨(t461), (1), (by first | rfl | (simp; done) | (simp [*]; done)), H', ⟨Nat.le_refl _⟩, ⟨by (with_reducible repeat (first | apply Kd.R_alloc | apply Kd.R_drewN | apply Kd.R_drew)); exact HO463.out⟩, ⟨by repeat (first | (with_reducible first | exact HB.out | apply below_alloc | apply pw_below_drewN | apply below_drew1) | exact HB.out)⟩⟩
                  case round =>
                    clear H'
                    try clear c1
                    try clear c2
                    try clear p2
                    try clear c4
                    try clear c4b0
                    try clear p4
                    try clear q4
                    try clear hx4
                    try clear qi4
                    try clear c5
                    try clear c5b0
                    try clear c6
                    try clear p6
                    try clear c7
                    try clear c7b0
                    try clear c7b1
                    try clear c7b2
                    try clear c8
                    try clear c8b0
                    try clear c8b1
                    try clear c11
                    try clear c11b0
                    try clear c11b1
                    try clear c14
                    try clear c14b0
                    try clear c14b1
                    try clear c15
                    try clear c15b0
                    try clear c16
                    try clear c16b0
                    try clear c17
                    try clear c17b0
                    try clear c21
                    try clear c21b0
                    try clear c21b1
                    try clear hx455_0
                    try clear hx459_0
                    try clear p2
                    try clear p455
                    try clear p459
                    try clear q455
                    try clear q459
                    obtain ⟨x6_2, x9_2, rfl, HA, HK2, HO_6, HB⟩ := hrel
                    cases gk with
                    | zero => exact absurd HA.out (by simp [times_Put.l1])
                    | succ k2 =>
                      have H := HA.out
                      clear HA
                      simp only [times_Put.l1] at H
                      by_cases c25 : x9_2 < (l0.length : Int)
                      · rw [if_pos c25] at H
                        have c25b0 : decide (x9_2 < (l0.length : Int)) = true := decide_eq_true c25
                        clear c25
                        by_cases c26 : 0 ≤ x9_2
                        · rw [if_pos c26] at H
                          have c26b0 : decide (0 ≤ x9_2) = true := decide_eq_true c26
                          clear c26
                          obtain ⟨ji27, hji27⟩ : ∃ j_ : Int, (wrap64 (x9_2 - 1)) = j_ := ⟨_, rfl⟩
                          replace H : (if 0 ≤ (ji27) then (if (ji27) < (l0.length : Int) then ((varint_Put.f k2 x6_2 (IntKind.u64.wrap ((IntKind.u64.wrap (rd l0 x9_2)) - (IntKind.u64.wrap (rd l0 (ji27)))))).bind fun t466 => (times_Put.l1 k2 l0 t466 (wrap64 (x9_2 + 1)))) else (none)) else (none)) = some (r1, r2) := by first | (rw [hji27] at H; exact H) | (simp only [hji27] at H ⊢; exact H)
                          have hji27w : (IntKind.i64.wrap (x9_2 - 1)) = ji27 := (i64_w _).trans hji27
                          by_cases c28 : 0 ≤ (ji27)
                          · rw [if_pos c28] at H
                            have c28b0 : decide (0 ≤ (ji27)) = true := decide_eq_true c28
                            clear c28
                            by_cases c29 : (ji27) < (l0.length : Int)
                            · rw [if_pos c29] at H
                              have c29b0 : decide ((ji27) < (l0.length : Int)) = true := decide_eq_true c29
                              clear c29
                              replace H := Option.bind_eq_some_iff.mp H
                              obtain ⟨t466, A300, H⟩ := H
                              replace H : (times_Put.l1 k2 l0 t466 (wrap64 (x9_2 + 1))) = some (r1, r2) := H
                              have A30 := Aside0.mk A300
                              clear A300
                              have H' := Aside0.mk H
                              clear H
                              try go_wp2
                              have n0_ := Aside0.mk (Kd.R_drew HO_6.out)
                              have n1_ := Aside0.mk (below_drew1 HB.out)
                              clear HO_6
                              clear HB
                              have HO_6 := n0_
                              have HB := n1_
                              clear n0_ n1_
                              have p464 : 0 ≤ (x9_2 : Int) := of_decide_eq_true (by first | (with_reducible assumption) | assumption)
                              have q464 : x9_2 < (l0.length : Int) := of_decide_eq_true (by first | (with_reducible assumption) | assumption)
                              obtain ⟨ad464, e464, hx464_0⟩ := Kd.at_int HR0.out x9_2 p464 q464
                              have hw464_0 := hx464_0
                              obtain rfl : ad459 = ad464 := (by injection e464)
                              replace hx464_0 := (HB.out.cell (World.block_lt_of_cell? w _ hx464_0)).trans hx464_0
                              replace p464 := eq_true p464
                              replace q464 := eq_true q464
                              have p465 : 0 ≤ ((ji27) : Int) := of_decide_eq_true (by first | (with_reducible assumption) | assumption)
                              have q465 : (ji27) < (l0.length : Int) := of_decide_eq_true (by first | (with_reducible assumption) | assumption)
                              obtain ⟨ad465, e465, hx465_0⟩ := Kd.at_int HR0.out (ji27) p465 q465
                              have hw465_0 := hx465_0
                              obtain rfl : ad459 = ad465 := (by injection e465)
                              replace hx465_0 := (HB.out.cell (World.block_lt_of_cell? w _ hx465_0)).trans hx465_0
                              replace p465 := eq_true p465
                              replace q465 := eq_true q465
                              obtain ⟨Ao32, co32, eo32⟩ := Kd.R_slice HO_6.out
                              (first | subst eo32 | (injection eo32 with f1_ f2_ f3_; have f4_ := f1_.symm; have f5_ := f3_.symm; clear f1_ f2_ f3_; subst f4_; subst f5_))
                              refine start_ (n := 15) (S := fun w' => w'.cell? (ad459.add (x9_2).toNat) = some (.int .i64 (rd l0 x9_2)) ∧ w'.cell? (ad459.add ((ji27)).toNat) = some (.int .i64 (rd l0 (ji27)))) (ds := []) #[false, false, false, false, false, false, false, false, false, false, false, false, false, false, false] (by kernel_rfl) rfl rfl ⟨((HB.out.cell (World.block_lt_of_cell? w _ hw464_0)).trans hw464_0), ((HB.out.cell (World.block_lt_of_cell? w _ hw465_0)).trans hw465_0)⟩ (fun hHeld => ?_); refine with_tabW times_Put.tab8 times_Put.bits8 (fun HT_ HW_ => ?_)
                              generalize wr.drew = w31 at HO_6 HB hx464_0 hx465_0 hHeld ⊢
                              refine pure_ (i := 0) (N := some 33) (v := ?_) (a' := ?_) #[true, false, false, false, false, false, false, false, false, false, false, false, false, false, false] rfl rfl (any_of HT_.out (by kernel_rfl)) (fun _ _ _ h => h) (Or.inl ⟨by rfl, ?_⟩) ?_ ?_
                              rotate_left
                              · intro w'
                                go_simp
                                with_reducible rfl
                              rotate_left
                              · simp only [Act.put, List.setIfInBounds_toArray, List.set_cons_zero, List.set_cons_succ, i64_w, i32_w]
                                rfl
                              refine pure_ (i := 1) (N := some 34) (v := ?_) (a' := ?_) #[true, true, false, false, false, false, false, false, false, false, false, false, false, false, false] rfl rfl (any_of HT_.out (by kernel_rfl)) (fun _ _ _ h => h) (Or.inl ⟨by rfl, ?_⟩) ?_ ?_
                              rotate_left
                              · intro w'
                                go_simp
                                with_reducible rfl
                              rotate_left
                              · simp only [Act.put, List.setIfInBounds_toArray, List.set_cons_zero, List.set_cons_succ, i64_w, i32_w]
                                rfl
                              refine pure_ (i := 2) (N := some 35) (v := ?_) (a' := ?_) #[true, true, true, false, false, false, false, false, false, false, false, false, false, false, false] rfl rfl (any_of HT_.out (by kernel_rfl)) (fun _ _ _ h => h) (Or.inl ⟨by rfl, ?_⟩) ?_ ?_
                              rotate_left
                              · intro w'
                                go_simp
                                with_reducible rfl
                              rotate_left
                              · simp only [Act.put, List.setIfInBounds_toArray, List.set_cons_zero, List.set_cons_succ, i64_w, i32_w]
                                rfl
                              refine pure_ (i := 3) (N := some 36) (v := ?_) (a' := ?_) #[true, true, true, true, false, false, false, false, false, false, false, false, false, false, false] rfl rfl (any_of HT_.out (by kernel_rfl)) (fun _ _ _ h => h) (Or.inl ⟨by rfl, ?_⟩) ?_ ?_
                              rotate_left
                              · intro w'
                                go_simp
                                with_reducible rfl
                              rotate_left
                              · simp only [Act.put, List.setIfInBounds_toArray, List.set_cons_zero, List.set_cons_succ, i64_w, i32_w]
                                rfl
                              refine pure_ (i := 6) (N := some 39) (v := ?_) (a' := ?_) #[true, true, true, true, false, false, true, false, false, false, false, false, false, false, false] rfl rfl (any_of HT_.out (by kernel_rfl)) (fun _ _ _ h => h) (Or.inl ⟨by rfl, ?_⟩) ?_ ?_
                              rotate_left
                              · intro w'
                                go_simp
                                with_reducible rfl
                              rotate_left
                              · simp only [Act.put, List.setIfInBounds_toArray, List.set_cons_zero, List.set_cons_succ, i64_w, i32_w]
                                rfl
                              refine pure_ (i := 7) (N := some 40) (v := ?_) (a' := ?_) #[true, true, true, true, false, false, true, true, false, false, false, false, false, false, false] rfl rfl (any_of HT_.out (by kernel_rfl)) (fun _ _ _ h => h) (Or.inl ⟨by rfl, ?_⟩) ?_ ?_
                              rotate_left
                              · intro w'
                                go_simp
                                with_reducible rfl
                              rotate_left
                              · simp only [Act.put, List.setIfInBounds_toArray, List.set_cons_zero, List.set_cons_succ, i64_w, i32_w]
                                rfl
                              refine pure_ (i := 8) (N := some 41) (v := ?_) (a' := ?_) #[true, true, true, true, false, false, true, true, true, false, false, false, false, false, false] rfl rfl (any_of HT_.out (by kernel_rfl)) (fun _ _ _ h => h) (Or.inl ⟨by rfl, ?_⟩) ?_ ?_
                              rotate_left
                              · intro w'
                                go_simp
                                with_reducible rfl
                              rotate_left
                              · simp only [Act.put, List.setIfInBounds_toArray, List.set_cons_zero, List.set_cons_succ, i64_w, i32_w]
                                rfl
                              refine pure_ (i := 9) (N := some 42) (v := ?_) (a' := ?_) #[true, true, true, true, false, false, true, true, true, true, false, false, false, false, false] rfl rfl (any_of HT_.out (by kernel_rfl)) (fun _ _ _ h => h) (Or.inl ⟨by rfl, ?_⟩) ?_ ?_
                              rotate_left
                              · intro w'
                                go_simp
                                with_reducible rfl
                              rotate_left
                              · simp only [Act.put, List.setIfInBounds_toArray, List.set_cons_zero, List.set_cons_succ, i64_w, i32_w]
                                rfl
                              refine take_ (i := 4) (N := some 37) (v := ?_) (a' := ?_) #[true, true, true, true, true, false, true, true, true, true, false, false, false, false, false] rfl rfl (take_ofW HT_.out HW_.out (by kernel_rfl)) (fun _ _ _ h => h) (Or.inl ⟨by rfl, ?_⟩) hHeld ?_ ?_
                              rotate_left
                              · rintro w' ⟨s0, s1⟩
                                go_simp
                                with_reducible rfl
                              rotate_left
                              · simp only [Act.put, List.setIfInBounds_toArray, List.set_cons_zero, List.set_cons_succ, i64_w, i32_w]
                                rfl
                              refine pure_ (i := 5) (N := some 38) (v := ?_) (a' := ?_) #[true, true, true, true, true, true, true, true, true, true, false, false, false, false, false] rfl rfl (any_of HT_.out (by kernel_rfl)) (fun _ _ _ h => h) (Or.inl ⟨by rfl, ?_⟩) ?_ ?_
                              rotate_left
                              · intro w'
                                go_simp
                                with_reducible rfl
                              rotate_left
                              · simp only [Act.put, List.setIfInBounds_toArray, List.set_cons_zero, List.set_cons_succ, i64_w, i32_w]
                                rfl
                              refine take_ (i := 10) (N := some 43) (v := ?_) (a' := ?_) #[true, true, true, true, true, true, true, true, true, true, true, false, false, false, false] rfl rfl (take_ofW HT_.out HW_.out (by kernel_rfl)) (fun _ _ _ h => h) (Or.inl ⟨by rfl, ?_⟩) hHeld ?_ ?_
                              rotate_left
                              · rintro w' ⟨s0, s1⟩
                                go_simp
                                with_reducible rfl
                              rotate_left
                              · simp only [Act.put, List.setIfInBounds_toArray, List.set_cons_zero, List.set_cons_succ, i64_w, i32_w]
                                rfl
                              refine pure_ (i := 11) (N := some 44) (v := ?_) (a' := ?_) #[true, true, true, true, true, true, true, true, true, true, true, true, false, false, false] rfl rfl (any_of HT_.out (by kernel_rfl)) (fun _ _ _ h => h) (Or.inl ⟨by rfl, ?_⟩) ?_ ?_
                              rotate_left
                              · intro w'
                                go_simp
                                with_reducible rfl
                              rotate_left
                              · simp only [Act.put, List.setIfInBounds_toArray, List.set_cons_zero, List.set_cons_succ, i64_w, i32_w]
                                rfl
                              refine pure_ (i := 12) (N := some 45) (v := ?_) (a' := ?_) #[true, true, true, true, true, true, true, true, true, true, true, true, true, false, false] rfl rfl (any_of HT_.out (by kernel_rfl)) (fun _ _ _ h => h) (Or.inl ⟨by rfl, ?_⟩) ?_ ?_
                              rotate_left
                              · intro w'
                                go_simp
                                with_reducible rfl
                              rotate_left
                              · simp only [Act.put, List.setIfInBounds_toArray, List.set_cons_zero, List.set_cons_succ, i64_w, i32_w]
                                rfl
                              refine one_ (i := 13) (N := some 46) #[true, true, true, true, true, true, true, true, true, true, true, true, true, true, false] rfl rfl (one_of HT_.out (by kernel_rfl)) (by decide) (fun K hK => ?_)
                              refine goes_ Try.func17 (by kernel_rfl) rfl #[.slice Ao32 x6_2.length co32, .int .u64 (IntKind.u64.wrap ((IntKind.u64.wrap (rd l0 x9_2)) - (IntKind.u64.wrap (rd l0 (ji27)))))] (by rfl) rfl rfl (by (try simp only [List.map_toArray, List.map_cons, List.map_nil]); first | done | (simp only [hji27]; rfl) | rfl | (simp only [List.length_drop, List.length_take]; rfl)) ?_
                              with_reducible refine (varint_Put.calls k2 _ _ x6_2 (IntKind.u64.wrap ((IntKind.u64.wrap (rd l0 x9_2)) - (IntKind.u64.wrap (rd l0 (ji27))))) t466 _ ?side1 ?side2 A30.out).mono ?_
                              (case side1 => repeat (first | exact (Kd.R_reads' HO_6.out).2.2 | (with_reducible refine Kd.C_alloc ?_ _) | (with_reducible refine Kd.C_drewN ?_ _) | (with_reducible refine Kd.C_drew ?_)))
                              (case side2 => exact (Kd.R_reads' HO_6.out).2.1)
                              rintro e w33 ⟨v467, rfl, ho0, hb⟩
                              refine ⟨_, rfl, ?_⟩
                              have n0_ := Aside0.mk (Kd.R_elder' (by (with_reducible repeat (first | apply Kd.R_alloc | apply Kd.R_drewN | apply Kd.R_drew)); exact HO_6.out) (Kd.R_base ho0) hb)
                              have n1_ := Aside0.mk (Kd.R_lower (Kd.R_new' ho0 (Kd.R_lt (by (with_reducible repeat (first | apply Kd.R_alloc | apply Kd.R_drewN | apply Kd.R_drew)); exact HO_6.out))) (below_size (by repeat (first | (with_reducible first | exact HB.out | apply below_alloc | apply pw_below_drewN | apply below_drew1) | exact HB.out))))
                              have n2_ := Aside0.mk (below_step (by repeat (first | (with_reducible first | exact HB.out | apply below_alloc | apply pw_below_drewN | apply below_drew1) | exact HB.out)) hb)
                              clear HO_6
                              clear HB
                              have HO_6 := n0_
                              have HO468 := n1_
                              have HB := n2_
                              clear n0_ n1_ n2_
                              (try clear hb)
                              (try clear hb2)
                              (try clear hk)
                              (try clear hi)
                              (try clear ho0)
                              refine hK.out _ _ ⟨((HB.out.cell (World.block_lt_of_cell? w _ hw464_0)).trans hw464_0), ((HB.out.cell (World.block_lt_of_cell? w _ hw465_0)).trans hw465_0)⟩ (fun hHeld => ?_)
                              clear hK K
                              refine norm_ (a' := ?_) ?_ ?_
                              rotate_left
                              · show Act.put _ (some 46) _ = _
                                simp only [Act.put, List.setIfInBounds_toArray, List.set_cons_zero, List.set_cons_succ, i64_w, i32_w]
                                rfl
                              refine pure_ (i := 14) (N := some 6) (v := ?_) (a' := ?_) #[true, true, true, true, true, true, true, true, true, true, true, true, true, true, true] rfl rfl (any_of HT_.out (by kernel_rfl)) (fun _ _ _ h => h) (Or.inl ⟨by rfl, ?_⟩) ?_ ?_
                              rotate_left
                              · intro w'
                                go_simp
                                with_reducible rfl
                              rotate_left
                              · simp only [Act.put, List.setIfInBounds_toArray, List.set_cons_zero, List.set_cons_succ, i64_w, i32_w]
                                rfl
                              refine done_ (done_of HT_.out (by kernel_rfl)) ?_
                              try go_wp2
                              go_roundg k2
                              case measure => have := HJ2.out; have := HK2.out; omega
                              case rel => exact ⟨(t466), (wrap64 (x9_2 + 1)), (by first | rfl | (simp; done) | (simp [*]; done)), H', ⟨by have := HJ2.out; have := HK2.out; omega⟩, ⟨by (with_reducible repeat (first | apply Kd.R_alloc | apply Kd.R_drewN | apply Kd.R_drew)); exact Kd.R_mono HO468.out (fun _ hk => trivial)⟩, ⟨by repeat (first | (with_reducible first | exact HB.out | apply below_alloc | apply pw_below_drewN | apply below_drew1) | exact HB.out)⟩⟩
                            · rw [if_neg c29] at H
                              exact absurd H (by simp)
                          · rw [if_neg c28] at H
                            exact absurd H (by simp)
                        · rw [if_neg c26] at H
                          exact absurd H (by simp)
                      · rw [if_neg c25] at H
                        have c25b0 : decide (x9_2 < (l0.length : Int)) = false := decide_eq_false c25
                        clear c25
                        simp only [Option.some.injEq, Prod.mk.injEq] at H
                        obtain ⟨rfl, rfl⟩ := H
                        go_wp2
                        go_ret2
                        exact ⟨_, by first | rfl | (simp [errW_none, errW_some] <;> rfl) | (simp [*, errW_none, errW_some] <;> rfl), by (with_reducible repeat (first | apply Kd.R_alloc | apply Kd.R_drewN | apply Kd.R_drew)); exact HO_6.out, by repeat (first | (with_reducible first | exact HB.out | apply below_alloc | apply pw_below_drewN | apply below_drew1) | exact HB.out)⟩
                · rw [if_neg c21] at H
                  exact absurd H (by simp)

end Go.Proofs.Ytmlbppfcpejlpaa.X

-- Printed by this session's own program (wip/xprint.py) over the translation; its external functions are hand-written. Lean checks it.
namespace Go.Proofs.Ytmlbppfcpejlpaa.X
open Go.RowKit Go.Proofs.YtmlbppfcpejlpaaW.PrintWords Go.Proofs.YtmlbppfcpejlpaaW.PrintLast Go.Proofs.YtmlbppfcpejlpaaW.PrintMore
attribute [local go_sem] max2_int min2_int max_two min_two max_three min_three max_four min_four   -- for this text's walks alone
set_option linter.unusedVariables false
set_option linter.unusedSimpArgs false

/-! ### times_Get: function 47 -/
def times_Get.j0 : Nat → List Int → Int → Int → Bool → Option (List Int × Int × Int)
  | 0, _, _, _, _ => none
  | k + 1, x0, x1, x2, x13 => if x13 = true then (some (([] : List Int), 0, 1)) else (if x1 = 0 then (some (([] : List Int), 0, 0)) else ((times_got.f k x0 x1 x2).bind fun bt539 => (if bt539.2 = 0 then ((times_Put.f k bt539.1 x2).bind fun bt543 => ((bytes_HasPrefix.f x0 bt543.1).bind fun t547 => (if t547 = true then (some (bt539.1, (bt543.1.length : Int), 0)) else (some (([] : List Int), 0, 3))))) else (some (([] : List Int), 0, bt539.2)))))
def times_Get.f (k : Nat) (l0 : List Int) (a1 : Int) (a2 : Int) : Option (List Int × Int × Int) := if a2 < 0 then (times_Get.j0 k l0 a1 a2 true) else (if a2 > 3 then (times_Get.j0 k l0 a1 a2 true) else (if a1 < 0 then (times_Get.j0 k l0 a1 a2 true) else (times_Get.j0 k l0 a1 a2 (decide (a1 > 200)))))
theorem times_Get.mono_l : ∀ k, (∀ y0 y1 y2 y3, LeO (times_Get.j0 k y0 y1 y2 y3) (times_Get.j0 (k + 1) y0 y1 y2 y3))
  | 0 => fun _ _ _ _ r h => by simp [times_Get.j0] at h
  | k + 1 => by
    have ih0 := times_Get.mono_l k
    · intro y0 y1 y2 y3
      unfold times_Get.j0
      repeat' first
      | (with_reducible exact ih0 _ _ _ _)
      | (with_reducible exact times_Put.mono _ _ _)
      | (with_reducible exact times_got.mono _ _ _ _)
      | (with_reducible exact LeO.refl _)
      | (with_reducible exact LeO.none _)
      | (with_reducible refine LeO.ite ?_ ?_)
      | (with_reducible refine LeO.bind ?_ (fun _ => ?_))
      | exact ih0 _ _ _ _
      | exact times_Put.mono _ _ _
      | exact times_got.mono _ _ _ _
      | exact LeO.none _
      | refine LeO.ite ?_ ?_
      | refine LeO.bind ?_ (fun _ => ?_)
theorem times_Get.mono : ∀ a0 a1 a2 k, LeO (times_Get.f k a0 a1 a2) (times_Get.f (k + 1) a0 a1 a2) := by
  intro a0 a1 a2 k
  have ih0 := times_Get.mono_l k
  unfold times_Get.f
  repeat' first
      | (with_reducible exact ih0 _ _ _ _)
      | (with_reducible exact times_Put.mono _ _ _)
      | (with_reducible exact times_got.mono _ _ _ _)
      | (with_reducible exact LeO.refl _)
      | (with_reducible exact LeO.none _)
      | (with_reducible refine LeO.ite ?_ ?_)
      | (with_reducible refine LeO.bind ?_ (fun _ => ?_))
      | exact ih0 _ _ _ _
      | exact times_Put.mono _ _ _
      | exact times_got.mono _ _ _ _
      | exact LeO.none _
      | refine LeO.ite ?_ ?_
      | refine LeO.bind ?_ (fun _ => ?_)
set_option maxHeartbeats 8000000 in
set_option maxRecDepth 100000 in
theorem times_Get.calls (k : Nat) (A0 : Option Addr) (c0 : Nat) (l0 : List Int) (a1 : Int) (a2 : Int) (r1 : List Int) (r2 : Int) (r3 : Int) (w : World) (hr0 : Kd.C (Kd.int .u8) w A0 l0.length l0) (hc0 : l0.length ≤ c0) (h : times_Get.f k l0 a1 a2 = some (r1, r2, r3)) :
    Calls Try.prog 47 #[.slice A0 l0.length c0, .int .i64 a1, .int .i64 a2] w fun e w' => ∃ v0_ : Value, e = .returned (.tuple #[v0_, .int .i64 r2, .int .i64 r3]) ∧ Kd.R (Kd.int .i64) 2 w' w.heap.size (fun _ => True) v0_ r1 ∧ Below w.heap.size w w' := by
  have HR0 := Aside0.mk hr0
  have HC0 := Aside0.mk hc0
  clear hr0 hc0
  have HB := Aside0.mk (Below.refl w.heap.size w)
  have H : (if a2 < 0 then (times_Get.j0 k l0 a1 a2 true) else (if a2 > 3 then (times_Get.j0 k l0 a1 a2 true) else (if a1 < 0 then (times_Get.j0 k l0 a1 a2 true) else (times_Get.j0 k l0 a1 a2 (decide (a1 > 200)))))) = some (r1, r2, r3) := h
  clear h
  have HC4 := Aside0.mk H
  clear H
  go_enter Try.func47, Try.ntmps47
  go_upto_region 1 with (fail)
  go_cut [13] (fun v13 wc => ∃ (kq : Nat) (x13_3 : Bool), v13 = .bool x13_3 ∧ Aside0 (times_Get.j0 kq l0 a1 a2 x13_3 = some (r1, r2, r3)) ∧ Aside0 (kq ≤ k) ∧ Aside0 (Below w.heap.size w wc))
  case first =>
    have H := HC4.out
    clear HC4
    by_cases c5 : a2 < 0
    · rw [if_pos c5] at H
      have c5b0 : decide (a2 < 0) = true := decide_eq_true c5
      clear c5
      (first | rw [c5b0] | (simp only [i64_w, i32_w]; rw [c5b0]) | skip)
      have H' := Aside0.mk H
      clear H
      go_wp2
      go_meet
      case rel => exact ⟨_, (true), (by first | rfl | (simp; done) | (simp [*]; done)), H', ⟨by first | omega | exact Nat.le_refl _⟩, ⟨by repeat (first | (with_reducible first | exact HB.out | apply below_alloc | apply pw_below_drewN | apply below_drew1) | exact HB.out)⟩⟩
    · rw [if_neg c5] at H
      have c5b0 : decide (a2 < 0) = false := decide_eq_false c5
      clear c5
      (first | rw [c5b0] | (simp only [i64_w, i32_w]; rw [c5b0]) | skip)
      by_cases c6 : a2 > 3
      · rw [if_pos c6] at H
        have c6b0 : decide (3 < a2) = true := decide_eq_true c6
        clear c6
        have H' := Aside0.mk H
        clear H
        go_wp2
        go_meet
        case rel => exact ⟨_, (true), (by first | rfl | (simp; done) | (simp [*]; done)), H', ⟨by first | omega | exact Nat.le_refl _⟩, ⟨by repeat (first | (with_reducible first | exact HB.out | apply below_alloc | apply pw_below_drewN | apply below_drew1) | exact HB.out)⟩⟩
      · rw [if_neg c6] at H
        have c6b0 : decide (3 < a2) = false := decide_eq_false c6
        clear c6
        by_cases c7 : a1 < 0
        · rw [if_pos c7] at H
          have c7b0 : decide (a1 < 0) = true := decide_eq_true c7
          clear c7
          have H' := Aside0.mk H
          clear H
          go_wp2
          go_meet
          case rel => exact ⟨_, (true), (by first | rfl | (simp; done) | (simp [*]; done)), H', ⟨by first | omega | exact Nat.le_refl _⟩, ⟨by repeat (first | (with_reducible first | exact HB.out | apply below_alloc | apply pw_below_drewN | apply below_drew1) | exact HB.out)⟩⟩
        · rw [if_neg c7] at H
          have c7b0 : decide (a1 < 0) = false := decide_eq_false c7
          clear c7
          have H' := Aside0.mk H
          clear H
          go_wp2
          go_meet
          case rel => exact ⟨_, (decide (a1 > 200)), (by first | rfl | (simp; done) | (simp [*]; done)), H', ⟨by first | omega | exact Nat.le_refl _⟩, ⟨by repeat (first | (with_reducible first | exact HB.out | apply below_alloc | apply pw_below_drewN | apply below_drew1) | exact HB.out)⟩⟩
  case rest =>
    clear HC4
    try clear p2
    try clear c4
    try clear c5
    try clear c5b0
    try clear c6
    try clear c6b0
    try clear c7
    try clear c7b0
    obtain ⟨kq, x13_3, rfl, HA, HJ3, HB⟩ := hcut
    cases kq with
    | zero => exact absurd HA.out (by simp [times_Get.j0])
    | succ kj3 =>
      have H := HA.out
      clear HA
      simp only [times_Get.j0] at H
      by_cases c8 : x13_3 = true
      · subst c8
        have H1 : (some (([] : List Int), 0, 1)) = some (r1, r2, r3) := by rw [if_pos rfl] at H; exact H
        clear H
        have H := H1
        clear H1
        simp only [Option.some.injEq, Prod.mk.injEq] at H
        obtain ⟨rfl, rfl, rfl⟩ := H
        go_wp2
        go_ret3
        exact ⟨_, by first | rfl | (simp [errW_none, errW_some] <;> rfl) | (simp [*, errW_none, errW_some] <;> rfl), by first | exact Kd.R_nil _ _ _ _ _ | exact Kd.N_nil _ _ _ _ _ | exact Kd.V_nil _ _ _ _ _ | exact Kd.Q_nil _ _ _ _ _ | exact Kd.S_nil _ _ _ _ _, by repeat (first | (with_reducible first | exact HB.out | apply below_alloc | apply pw_below_drewN | apply below_drew1) | exact HB.out)⟩
      · replace c8 := Bool.eq_false_iff.mpr c8
        subst c8
        have H1 : (if a1 = 0 then (some (([] : List Int), 0, 0)) else ((times_got.f kj3 l0 a1 a2).bind fun bt539 => (if bt539.2 = 0 then ((times_Put.f kj3 bt539.1 a2).bind fun bt543 => ((bytes_HasPrefix.f l0 bt543.1).bind fun t547 => (if t547 = true then (some (bt539.1, (bt543.1.length : Int), 0)) else (some (([] : List Int), 0, 3))))) else (some (([] : List Int), 0, bt539.2))))) = some (r1, r2, r3) := by rw [if_neg (show ¬ (false = true) by decide)] at H; exact H
        clear H
        have H := H1
        clear H1
        by_cases c9 : a1 = 0
        · rw [if_pos c9] at H
          have c9b0 : (a1 == 0) = true := beq_iff_eq.mpr c9
          have c9b1 : (a1 != 0) = false := bne_eq_false_iff_eq.mpr c9
          clear c9
          simp only [Option.some.injEq, Prod.mk.injEq] at H
          obtain ⟨rfl, rfl, rfl⟩ := H
          go_wp2
          go_ret3
          exact ⟨_, by first | rfl | (simp [errW_none, errW_some] <;> rfl) | (simp [*, errW_none, errW_some] <;> rfl), by first | exact Kd.R_nil _ _ _ _ _ | exact Kd.N_nil _ _ _ _ _ | exact Kd.V_nil _ _ _ _ _ | exact Kd.Q_nil _ _ _ _ _ | exact Kd.S_nil _ _ _ _ _, by repeat (first | (with_reducible first | exact HB.out | apply below_alloc | apply pw_below_drewN | apply below_drew1) | exact HB.out)⟩
        · rw [if_neg c9] at H
          have c9b0 : (a1 == 0) = false := beq_eq_false_iff_ne.mpr c9
          have c9b1 : (a1 != 0) = true := bne_iff_ne.mpr c9
          replace H := Option.bind_eq_some_iff.mp H
          obtain ⟨⟨t539, t540⟩, A100, H⟩ := H
          replace H : (if t540 = 0 then ((times_Put.f kj3 t539 a2).bind fun bt543 => ((bytes_HasPrefix.f l0 bt543.1).bind fun t547 => (if t547 = true then (some (t539, (bt543.1.length : Int), 0)) else (some (([] : List Int), 0, 3))))) else (some (([] : List Int), 0, t540))) = some (r1, r2, r3) := H
          have A10 := Aside0.mk A100
          clear A100
          by_cases c11 : t540 = 0
          · rw [if_pos c11] at H
            have c11b0 : (t540 == 0) = true := beq_iff_eq.mpr c11
            have c11b1 : (t540 != 0) = false := bne_eq_false_iff_eq.mpr c11
            clear c11
            replace H := Option.bind_eq_some_iff.mp H
            obtain ⟨⟨t543, t544⟩, A120, H⟩ := H
            replace H : ((bytes_HasPrefix.f l0 t543).bind fun t547 => (if t547 = true then (some (t539, (t543.length : Int), 0)) else (some (([] : List Int), 0, 3)))) = some (r1, r2, r3) := H
            have A12 := Aside0.mk A120
            clear A120
            replace H := Option.bind_eq_some_iff.mp H
            obtain ⟨t547, A130, H⟩ := H
            replace H : (if t547 = true then (some (t539, (t543.length : Int), 0)) else (some (([] : List Int), 0, 3))) = some (r1, r2, r3) := H
            have A13 := Aside0.mk A130
            clear A130
            by_cases c14 : t547 = true
            · subst c14
              have H1 : (some (t539, (t543.length : Int), 0)) = some (r1, r2, r3) := by rw [if_pos rfl] at H; exact H
              clear H
              have H := H1
              clear H1
              simp only [Option.some.injEq, Prod.mk.injEq] at H
              obtain ⟨rfl, rfl, rfl⟩ := H
              go_wp2_with (first | ((with_reducible refine gate_callee (f := 64) rfl ?_); refine goesL_ (some 35) rfl rfl Try.func64 (by kernel_rfl) rfl #[.slice A0 l0.length c0, .int .i64 a1, .int .i64 a2] rfl (by (try simp only [List.map_toArray, List.map_cons, List.map_nil]); first | done | rfl | (simp only [List.length_drop, List.length_take]; rfl)) ?_; (with_reducible refine (times_got.calls kj3 _ _ l0 a1 a2 t539 t540 _ ?side1 ?side2 A10.out).mono ?_); (case side1 => repeat (first | exact (Kd.C_below HR0.out HB.out) | (with_reducible refine Kd.C_alloc ?_ _) | (with_reducible refine Kd.C_drewN ?_ _) | (with_reducible refine Kd.C_drew ?_))); (case side2 => exact HC0.out); rintro e w15 ⟨v541, rfl, ho0, hb⟩; refine ⟨_, rfl, ?_⟩; have n0_ := Aside0.mk (Kd.R_lower ho0 (below_size (by repeat (first | (with_reducible first | exact HB.out | apply below_alloc | apply pw_below_drewN | apply below_drew1) | exact HB.out)))); have n1_ := Aside0.mk (below_step (by repeat (first | (with_reducible first | exact HB.out | apply below_alloc | apply pw_below_drewN | apply below_drew1) | exact HB.out)) hb); clear HB; have HO542 := n0_; have HB := n1_; clear n0_ n1_; (try clear hb); (try clear hb2); (try clear hk); (try clear hi); (try clear ho0); obtain ⟨Ao16, co16, eo16⟩ := Kd.R_slice HO542.out; subst eo16) | ((with_reducible refine gate_callee (f := 46) rfl ?_); refine goesL_ (some 44) rfl rfl Try.func46 (by kernel_rfl) rfl #[.slice Ao16 t539.length co16, .int .i64 a2] rfl (by (try simp only [List.map_toArray, List.map_cons, List.map_nil]); first | done | rfl | (simp only [List.length_drop, List.length_take]; rfl)) ?_; (with_reducible refine (times_Put.calls kj3 _ _ t539 a2 t543 t544 _ ?side1 ?side2 A12.out).mono ?_); (case side1 => repeat (first | exact (Kd.R_reads' HO542.out).2.2 | (with_reducible refine Kd.C_alloc ?_ _) | (with_reducible refine Kd.C_drewN ?_ _) | (with_reducible refine Kd.C_drew ?_))); (case side2 => exact (Kd.R_reads' HO542.out).2.1); rintro e w17 ⟨v545, rfl, ho0, hb⟩; refine ⟨_, rfl, ?_⟩; have n0_ := Aside0.mk (Kd.R_below (by (with_reducible repeat (first | apply Kd.R_alloc | apply Kd.R_drewN | apply Kd.R_drew)); exact HO542.out) hb); have n1_ := Aside0.mk (Kd.R_lower ho0 (below_size (by repeat (first | (with_reducible first | exact HB.out | apply below_alloc | apply pw_below_drewN | apply below_drew1) | exact HB.out)))); have n2_ := Aside0.mk (below_step (by repeat (first | (with_reducible first | exact HB.out | apply below_alloc | apply pw_below_drewN | apply below_drew1) | exact HB.out)) hb); clear HO542; clear HB; have HO542 := n0_; have HO546 := n1_; have HB := n2_; clear n0_ n1_ n2_; (try clear hb); (try clear hb2); (try clear hk); (try clear hi); (try clear ho0); obtain ⟨Ao18, co18, eo18⟩ := Kd.R_slice HO546.out; subst eo18) | ((with_reducible refine gate_callee (f := 60) rfl ?_); refine goesL_ (some 49) rfl rfl Try.func60 (by kernel_rfl) rfl #[.slice A0 l0.length c0, .slice Ao18 t543.length co18] rfl (by (try simp only [List.map_toArray, List.map_cons, List.map_nil]); first | done | rfl | (simp only [List.length_drop, List.length_take]; rfl)) ?_; (with_reducible refine (bytes_HasPrefix.calls _ _ l0 _ _ t543 true _ ?side1 ?side2 ?side3 ?side4 A13.out).mono ?_); (case side1 => repeat (first | exact (Kd.C_below HR0.out HB.out) | (with_reducible refine Kd.C_alloc ?_ _) | (with_reducible refine Kd.C_drewN ?_ _) | (with_reducible refine Kd.C_drew ?_))); (case side2 => exact HC0.out); (case side3 => repeat (first | exact (Kd.R_reads' HO546.out).2.2 | (with_reducible refine Kd.C_alloc ?_ _) | (with_reducible refine Kd.C_drewN ?_ _) | (with_reducible refine Kd.C_drew ?_))); (case side4 => exact (Kd.R_reads' HO546.out).2.1); rintro e w' ⟨rfl, ⟨nd, rfl⟩⟩; refine ⟨_, rfl, ?_⟩))
              go_ret3
              exact ⟨_, by first | rfl | (simp [errW_none, errW_some] <;> rfl) | (simp [*, errW_none, errW_some] <;> rfl), by (with_reducible repeat (first | apply Kd.R_alloc | apply Kd.R_drewN | apply Kd.R_drew)); exact HO542.out, by repeat (first | (with_reducible first | exact HB.out | apply below_alloc | apply pw_below_drewN | apply below_drew1) | exact HB.out)⟩
            · replace c14 := Bool.eq_false_iff.mpr c14
              subst c14
              have H1 : (some (([] : List Int), 0, 3)) = some (r1, r2, r3) := by rw [if_neg (show ¬ (false = true) by decide)] at H; exact H
              clear H
              have H := H1
              clear H1
              simp only [Option.some.injEq, Prod.mk.injEq] at H
              obtain ⟨rfl, rfl, rfl⟩ := H
              go_wp2_with (first | ((with_reducible refine gate_callee (f := 64) rfl ?_); refine goesL_ (some 35) rfl rfl Try.func64 (by kernel_rfl) rfl #[.slice A0 l0.length c0, .int .i64 a1, .int .i64 a2] rfl (by (try simp only [List.map_toArray, List.map_cons, List.map_nil]); first | done | rfl | (simp only [List.length_drop, List.length_take]; rfl)) ?_; (with_reducible refine (times_got.calls kj3 _ _ l0 a1 a2 t539 t540 _ ?side1 ?side2 A10.out).mono ?_); (case side1 => repeat (first | exact (Kd.C_below HR0.out HB.out) | (with_reducible refine Kd.C_alloc ?_ _) | (with_reducible refine Kd.C_drewN ?_ _) | (with_reducible refine Kd.C_drew ?_))); (case side2 => exact HC0.out); rintro e w19 ⟨v541, rfl, ho0, hb⟩; refine ⟨_, rfl, ?_⟩; have n0_ := Aside0.mk (Kd.R_lower ho0 (below_size (by repeat (first | (with_reducible first | exact HB.out | apply below_alloc | apply pw_below_drewN | apply below_drew1) | exact HB.out)))); have n1_ := Aside0.mk (below_step (by repeat (first | (with_reducible first | exact HB.out | apply below_alloc | apply pw_below_drewN | apply below_drew1) | exact HB.out)) hb); clear HB; have HO542 := n0_; have HB := n1_; clear n0_ n1_; (try clear hb); (try clear hb2); (try clear hk); (try clear hi); (try clear ho0); obtain ⟨Ao20, co20, eo20⟩ := Kd.R_slice HO542.out; subst eo20) | ((with_reducible refine gate_callee (f := 46) rfl ?_); refine goesL_ (some 44) rfl rfl Try.func46 (by kernel_rfl) rfl #[.slice Ao20 t539.length co20, .int .i64 a2] rfl (by (try simp only [List.map_toArray, List.map_cons, List.map_nil]); first | done | rfl | (simp only [List.length_drop, List.length_take]; rfl)) ?_; (with_reducible refine (times_Put.calls kj3 _ _ t539 a2 t543 t544 _ ?side1 ?side2 A12.out).mono ?_); (case side1 => repeat (first | exact (Kd.R_reads' HO542.out).2.2 | (with_reducible refine Kd.C_alloc ?_ _) | (with_reducible refine Kd.C_drewN ?_ _) | (with_reducible refine Kd.C_drew ?_))); (case side2 => exact (Kd.R_reads' HO542.out).2.1); rintro e w21 ⟨v545, rfl, ho0, hb⟩; refine ⟨_, rfl, ?_⟩; have n0_ := Aside0.mk (Kd.R_below (by (with_reducible repeat (first | apply Kd.R_alloc | apply Kd.R_drewN | apply Kd.R_drew)); exact HO542.out) hb); have n1_ := Aside0.mk (Kd.R_lower ho0 (below_size (by repeat (first | (with_reducible first | exact HB.out | apply below_alloc | apply pw_below_drewN | apply below_drew1) | exact HB.out)))); have n2_ := Aside0.mk (below_step (by repeat (first | (with_reducible first | exact HB.out | apply below_alloc | apply pw_below_drewN | apply below_drew1) | exact HB.out)) hb); clear HO542; clear HB; have HO542 := n0_; have HO546 := n1_; have HB := n2_; clear n0_ n1_ n2_; (try clear hb); (try clear hb2); (try clear hk); (try clear hi); (try clear ho0); obtain ⟨Ao22, co22, eo22⟩ := Kd.R_slice HO546.out; subst eo22) | ((with_reducible refine gate_callee (f := 60) rfl ?_); refine goesL_ (some 49) rfl rfl Try.func60 (by kernel_rfl) rfl #[.slice A0 l0.length c0, .slice Ao22 t543.length co22] rfl (by (try simp only [List.map_toArray, List.map_cons, List.map_nil]); first | done | rfl | (simp only [List.length_drop, List.length_take]; rfl)) ?_; (with_reducible refine (bytes_HasPrefix.calls _ _ l0 _ _ t543 false _ ?side1 ?side2 ?side3 ?side4 A13.out).mono ?_); (case side1 => repeat (first | exact (Kd.C_below HR0.out HB.out) | (with_reducible refine Kd.C_alloc ?_ _) | (with_reducible refine Kd.C_drewN ?_ _) | (with_reducible refine Kd.C_drew ?_))); (case side2 => exact HC0.out); (case side3 => repeat (first | exact (Kd.R_reads' HO546.out).2.2 | (with_reducible refine Kd.C_alloc ?_ _) | (with_reducible refine Kd.C_drewN ?_ _) | (with_reducible refine Kd.C_drew ?_))); (case side4 => exact (Kd.R_reads' HO546.out).2.1); rintro e w' ⟨rfl, ⟨nd, rfl⟩⟩; refine ⟨_, rfl, ?_⟩))
              go_ret3
              exact ⟨_, by first | rfl | (simp [errW_none, errW_some] <;> rfl) | (simp [*, errW_none, errW_some] <;> rfl), by first | exact Kd.R_nil _ _ _ _ _ | exact Kd.N_nil _ _ _ _ _ | exact Kd.V_nil _ _ _ _ _ | exact Kd.Q_nil _ _ _ _ _ | exact Kd.S_nil _ _ _ _ _, by repeat (first | (with_reducible first | exact HB.out | apply below_alloc | apply pw_below_drewN | apply below_drew1) | exact HB.out)⟩
          · rw [if_neg c11] at H
            have c11b0 : (t540 == 0) = false := beq_eq_false_iff_ne.mpr c11
            have c11b1 : (t540 != 0) = true := bne_iff_ne.mpr c11
            simp only [Option.some.injEq, Prod.mk.injEq] at H
            obtain ⟨rfl, rfl, rfl⟩ := H
            go_wp2_with (first | ((with_reducible refine gate_callee (f := 64) rfl ?_); refine goesL_ (some 35) rfl rfl Try.func64 (by kernel_rfl) rfl #[.slice A0 l0.length c0, .int .i64 a1, .int .i64 a2] rfl (by (try simp only [List.map_toArray, List.map_cons, List.map_nil]); first | done | rfl | (simp only [List.length_drop, List.length_take]; rfl)) ?_; (with_reducible refine (times_got.calls kj3 _ _ l0 a1 a2 t539 t540 _ ?side1 ?side2 A10.out).mono ?_); (case side1 => repeat (first | exact (Kd.C_below HR0.out HB.out) | (with_reducible refine Kd.C_alloc ?_ _) | (with_reducible refine Kd.C_drewN ?_ _) | (with_reducible refine Kd.C_drew ?_))); (case side2 => exact HC0.out); rintro e w23 ⟨v541, rfl, ho0, hb⟩; refine ⟨_, rfl, ?_⟩; have n0_ := Aside0.mk (Kd.R_lower ho0 (below_size (by repeat (first | (with_reducible first | exact HB.out | apply below_alloc | apply pw_below_drewN | apply below_drew1) | exact HB.out)))); have n1_ := Aside0.mk (below_step (by repeat (first | (with_reducible first | exact HB.out | apply below_alloc | apply pw_below_drewN | apply below_drew1) | exact HB.out)) hb); clear HB; have HO542 := n0_; have HB := n1_; clear n0_ n1_; (try clear hb); (try clear hb2); (try clear hk); (try clear hi); (try clear ho0)))
            go_ret3
            exact ⟨_, by first | rfl | (simp [errW_none, errW_some] <;> rfl) | (simp [*, errW_none, errW_some] <;> rfl), by first | exact Kd.R_nil _ _ _ _ _ | exact Kd.N_nil _ _ _ _ _ | exact Kd.V_nil _ _ _ _ _ | exact Kd.Q_nil _ _ _ _ _ | exact Kd.S_nil _ _ _ _ _, by repeat (first | (with_reducible first | exact HB.out | apply below_alloc | apply pw_below_drewN | apply below_drew1) | exact HB.out)⟩

end Go.Proofs.Ytmlbppfcpejlpaa.X

-- Printed by this session's own program (wip/xprint.py) over the translation; its external functions are hand-written. Lean checks it.
namespace Go.Proofs.Ytmlbppfcpejlpaa.X
open Go.RowKit Go.Proofs.YtmlbppfcpejlpaaW.PrintWords Go.Proofs.YtmlbppfcpejlpaaW.PrintLast Go.Proofs.YtmlbppfcpejlpaaW.PrintMore
attribute [local go_sem] max2_int min2_int max_two min_two max_three min_three max_four min_four   -- for this text's walks alone
set_option linter.unusedVariables false
set_option linter.unusedSimpArgs false

/-! ### ricklaw07_puts: function 48 -/
def ricklaw07_puts.f (k : Nat)  : Option (Bool) := (times_Put.f k (([10, 13] : List Int)) 1).bind fun bt551 => ((times_Get.f k bt551.1 2 1).bind fun bt555 => (if bt551.2 = 0 then (if bt555.2.2 = 0 then (if (strOfNums bt551.1).toList = ([20, 3] : List UInt8) then (if bt555.2.1 = 2 then (if (bt555.1.length : Int) = 2 then (if 1 < (bt555.1.length : Int) then (some ((rd bt555.1 1) == 13)) else (none)) else (some false)) else (some false)) else (some false)) else (some false)) else (some false)))
theorem ricklaw07_puts.mono : ∀ k, LeO (ricklaw07_puts.f k ) (ricklaw07_puts.f (k + 1) ) := by
  intro  k
  unfold ricklaw07_puts.f
  repeat' first
      | (with_reducible exact times_Get.mono _ _ _ _)
      | (with_reducible exact times_Put.mono _ _ _)
      | (with_reducible exact LeO.refl _)
      | (with_reducible exact LeO.none _)
      | (with_reducible refine LeO.ite ?_ ?_)
      | (with_reducible refine LeO.bind ?_ (fun _ => ?_))
      | exact times_Get.mono _ _ _ _
      | exact times_Put.mono _ _ _
      | exact LeO.none _
      | refine LeO.ite ?_ ?_
      | refine LeO.bind ?_ (fun _ => ?_)
set_option maxHeartbeats 8000000 in
set_option maxRecDepth 100000 in
theorem ricklaw07_puts.calls (k : Nat)  (r : Bool) (w : World) (h : ricklaw07_puts.f k  = some r) :
    Calls Try.prog 48 #[] w fun e w' => e = .returned (.bool r) ∧ Below w.heap.size w w' := by
  have HB := Aside0.mk (Below.refl w.heap.size w)
  have H : ((times_Put.f k (([10, 13] : List Int)) 1).bind fun bt551 => ((times_Get.f k bt551.1 2 1).bind fun bt555 => (if bt551.2 = 0 then (if bt555.2.2 = 0 then (if (strOfNums bt551.1).toList = ([20, 3] : List UInt8) then (if bt555.2.1 = 2 then (if (bt555.1.length : Int) = 2 then (if 1 < (bt555.1.length : Int) then (some ((rd bt555.1 1) == 13)) else (none)) else (some false)) else (some false)) else (some false)) else (some false)) else (some false)))) = some r := h
  clear h
  obtain ⟨y548, hy548⟩ : ∃ y_ : List Int, y_ = (([10, 13] : List Int)) := ⟨_, rfl⟩
  replace H : ((times_Put.f k y548 1).bind fun bt551 => ((times_Get.f k bt551.1 2 1).bind fun bt555 => (if bt551.2 = 0 then (if bt555.2.2 = 0 then (if (strOfNums bt551.1).toList = ([20, 3] : List UInt8) then (if bt555.2.1 = 2 then (if (bt555.1.length : Int) = 2 then (if 1 < (bt555.1.length : Int) then (some ((rd bt555.1 1) == 13)) else (none)) else (some false)) else (some false)) else (some false)) else (some false)) else (some false)))) = some r := by first | (rw [hy548]; with_reducible exact H) | (have H2_ := (Option.bind_some _ _).symm.trans H; rw [hy548]; with_reducible exact H2_) | (have H2_ := (Option.bind_some _ _).symm.trans H; with_reducible exact H2_) | with_reducible exact H | (rw [hy548]; exact H) | exact H
  have Ny548 := Aside0.mk hy548
  clear hy548
  replace H := Option.bind_eq_some_iff.mp H
  obtain ⟨⟨t551, t552⟩, A10, H⟩ := H
  replace H : ((times_Get.f k t551 2 1).bind fun bt555 => (if t552 = 0 then (if bt555.2.2 = 0 then (if (strOfNums t551).toList = ([20, 3] : List UInt8) then (if bt555.2.1 = 2 then (if (bt555.1.length : Int) = 2 then (if 1 < (bt555.1.length : Int) then (some ((rd bt555.1 1) == 13)) else (none)) else (some false)) else (some false)) else (some false)) else (some false)) else (some false))) = some r := H
  have A1 := Aside0.mk A10
  clear A10
  replace H := Option.bind_eq_some_iff.mp H
  obtain ⟨⟨t555, t556, t557⟩, A20, H⟩ := H
  replace H : (if t552 = 0 then (if t557 = 0 then (if (strOfNums t551).toList = ([20, 3] : List UInt8) then (if t556 = 2 then (if (t555.length : Int) = 2 then (if 1 < (t555.length : Int) then (some ((rd t555 1) == 13)) else (none)) else (some false)) else (some false)) else (some false)) else (some false)) else (some false)) = some r := H
  have A2 := Aside0.mk A20
  clear A20
  by_cases c3 : t552 = 0
  · rw [if_pos c3] at H
    have c3b0 : (t552 == 0) = true := beq_iff_eq.mpr c3
    have c3b1 : (t552 != 0) = false := bne_eq_false_iff_eq.mpr c3
    clear c3
    by_cases c4 : t557 = 0
    · rw [if_pos c4] at H
      have c4b0 : (t557 == 0) = true := beq_iff_eq.mpr c4
      have c4b1 : (t557 != 0) = false := bne_eq_false_iff_eq.mpr c4
      clear c4
      by_cases c5 : (strOfNums t551).toList = ([20, 3] : List UInt8)
      · rw [if_pos c5] at H
        have c5b0 : ((strOfNums t551).toList == ([20, 3] : List UInt8)) = true := beq_iff_eq.mpr c5
        have c5b1 : ((strOfNums t551).toList != ([20, 3] : List UInt8)) = false := bne_eq_false_iff_eq.mpr c5
        clear c5
        by_cases c6 : t556 = 2
        · rw [if_pos c6] at H
          have c6b0 : (t556 == 2) = true := beq_iff_eq.mpr c6
          have c6b1 : (t556 != 2) = false := bne_eq_false_iff_eq.mpr c6
          clear c6
          by_cases c7 : (t555.length : Int) = 2
          · rw [if_pos c7] at H
            have c7b0 : ((t555.length : Int) == 2) = true := beq_iff_eq.mpr c7
            have c7b1 : ((t555.length : Int) != 2) = false := bne_eq_false_iff_eq.mpr c7
            clear c7
            by_cases c8 : 1 < (t555.length : Int)
            · rw [if_pos c8] at H
              have c8b0 : decide (1 < (t555.length : Int)) = true := decide_eq_true c8
              have c8b1 : decide (1 < t555.length) = true := decide_eq_true (by omega)
              clear c8
              obtain rfl := Option.some.inj H
              go_enter Try.func48, Try.ntmps48
              go_wp2_with (first | ((with_reducible refine gate_dst (N := 7) rfl ?_); (try (refine gate_guard (by rfl) ?_; dsimp only)); refine Kd.R_lit (Kd.int .i64) _ 2 ?hg (N := 7) ?hd (xs := ([10, 13] : List Int)) (inner := [.int .i64 10, .int .i64 13]) (ok := fun _ => True) (okp := fun _ => True) ?hr ?hp (fun _ hk => hk) trivial (Below.refl _ _) (Nat.le_refl _) (by simp) ?_; (case hd => rfl); (case hg => rfl); (case hr => first | (go_simp; done) | (go_simp; rfl)); (case hp => exact (Reps.one (show Kd.M (Kd.int .i64) _ _ _ 10 [.int .i64 10] from rfl) (Reps.one (show Kd.M (Kd.int .i64) _ _ _ 13 [.int .i64 13] from rfl) (Reps.none _ _)))); intro v549 w9 ho10 hb hg_ hnew_; clear hg_ hnew_; (first | rw [← Ny548.out] at ho10 | (simp only [Int.reduceToNat] at ho10; rw [← Ny548.out] at ho10)); have n0_ := Aside0.mk (Kd.R_lower ho10 (below_size (by repeat (first | (with_reducible first | exact HB.out | apply below_alloc | apply pw_below_drewN | apply below_drew1) | exact HB.out)))); have n1_ := Aside0.mk (below_step (by repeat (first | (with_reducible first | exact HB.out | apply below_alloc | apply pw_below_drewN | apply below_drew1) | exact HB.out)) hb); clear HB; have HO550 := n0_; have HB := n1_; clear n0_ n1_; clear hb ho10; obtain ⟨Ao11, co11, eo11⟩ := Kd.R_slice HO550.out; subst eo11) | ((with_reducible refine gate_callee (f := 46) rfl ?_); refine goesL_ (some 8) rfl rfl Try.func46 (by kernel_rfl) rfl #[.slice Ao11 y548.length co11, .int .i64 1] rfl (by (try simp only [List.map_toArray, List.map_cons, List.map_nil]); first | done | rfl | (simp only [List.length_drop, List.length_take]; rfl)) ?_; (with_reducible refine (times_Put.calls k _ _ y548 1 t551 t552 _ ?side1 ?side2 A1.out).mono ?_); (case side1 => repeat (first | exact (Kd.R_reads' HO550.out).2.2 | (with_reducible refine Kd.C_alloc ?_ _) | (with_reducible refine Kd.C_drewN ?_ _) | (with_reducible refine Kd.C_drew ?_))); (case side2 => exact (Kd.R_reads' HO550.out).2.1); rintro e w12 ⟨v553, rfl, ho0, hb⟩; refine ⟨_, rfl, ?_⟩; have n0_ := Aside0.mk (Kd.R_below (by (with_reducible repeat (first | apply Kd.R_alloc | apply Kd.R_drewN | apply Kd.R_drew)); exact HO550.out) hb); have n1_ := Aside0.mk (Kd.R_lower ho0 (below_size (by repeat (first | (with_reducible first | exact HB.out | apply below_alloc | apply pw_below_drewN | apply below_drew1) | exact HB.out)))); have n2_ := Aside0.mk (below_step (by repeat (first | (with_reducible first | exact HB.out | apply below_alloc | apply pw_below_drewN | apply below_drew1) | exact HB.out)) hb); clear HO550; clear HB; have HO550 := n0_; have HO554 := n1_; have HB := n2_; clear n0_ n1_ n2_; (try clear hb); (try clear hb2); (try clear hk); (try clear hi); (try clear ho0); obtain ⟨Ao13, co13, eo13⟩ := Kd.R_slice HO554.out; subst eo13) | ((with_reducible refine gate_callee (f := 47) rfl ?_); refine goesL_ (some 13) rfl rfl Try.func47 (by kernel_rfl) rfl #[.slice Ao13 t551.length co13, .int .i64 2, .int .i64 1] rfl (by (try simp only [List.map_toArray, List.map_cons, List.map_nil]); first | done | rfl | (simp only [List.length_drop, List.length_take]; rfl)) ?_; (with_reducible refine (times_Get.calls k _ _ t551 2 1 t555 t556 t557 _ ?side1 ?side2 A2.out).mono ?_); (case side1 => repeat (first | exact (Kd.R_reads' HO554.out).2.2 | (with_reducible refine Kd.C_alloc ?_ _) | (with_reducible refine Kd.C_drewN ?_ _) | (with_reducible refine Kd.C_drew ?_))); (case side2 => exact (Kd.R_reads' HO554.out).2.1); rintro e w14 ⟨v558, rfl, ho0, hb⟩; refine ⟨_, rfl, ?_⟩; have n0_ := Aside0.mk (Kd.R_elder' (by (with_reducible repeat (first | apply Kd.R_alloc | apply Kd.R_drewN | apply Kd.R_drew)); exact HO550.out) (Kd.R_base ho0) hb); have n1_ := Aside0.mk (Kd.R_below (by (with_reducible repeat (first | apply Kd.R_alloc | apply Kd.R_drewN | apply Kd.R_drew)); exact HO554.out) hb); have n2_ := Aside0.mk (Kd.R_lower (Kd.R_new' ho0 (Kd.R_lt (by (with_reducible repeat (first | apply Kd.R_alloc | apply Kd.R_drewN | apply Kd.R_drew)); exact HO550.out))) (below_size (by repeat (first | (with_reducible first | exact HB.out | apply below_alloc | apply pw_below_drewN | apply below_drew1) | exact HB.out)))); have n3_ := Aside0.mk (below_step (by repeat (first | (with_reducible first | exact HB.out | apply below_alloc | apply pw_below_drewN | apply below_drew1) | exact HB.out)) hb); clear HO550; clear HO554; clear HB; have HO550 := n0_; have HO554 := n1_; have HO559 := n2_; have HB := n3_; clear n0_ n1_ n2_ n3_; (try clear hb); (try clear hb2); (try clear hk); (try clear hi); (try clear ho0); have hcv15 := own_string (P := Try.prog) Try.underlying22 Try.underlying5 Try.underlying9 (Kd.own_of_R HO554.out); obtain ⟨Ao16, co16, eo16⟩ := Kd.R_slice HO559.out; subst eo16; have p560 : 0 ≤ (1 : Int) := (by omega); have q560 : 1 < (t555.length : Int) := of_decide_eq_true (by first | (with_reducible assumption) | assumption); obtain ⟨ad560, e560, hx560_0⟩ := Kd.at_int (Kd.R_reads' HO559.out).2.2 1 p560 q560; cases e560; (try simp only [show (1 : Int).toNat = 1 from rfl, Nat.reduceMul, Nat.reduceEqDiff, Go.Addr.add, ↓reduceIte] at hx560_0); have qi560 : (1 < t555.length) = True := eq_true (by omega); (try rw [show ((1 : Int)).toNat = 1 from rfl] at hx560_0); replace p560 := eq_true p560; replace q560 := eq_true q560))
              go_ret
              exact ⟨by first | rfl | (simp [errW_none, errW_some] <;> rfl) | (simp [*, errW_none, errW_some] <;> rfl), by repeat (first | (with_reducible first | exact HB.out | apply below_alloc | apply pw_below_drewN | apply below_drew1) | exact HB.out)⟩
            · rw [if_neg c8] at H
              exact absurd H (by simp)
          · rw [if_neg c7] at H
            have c7b0 : ((t555.length : Int) == 2) = false := beq_eq_false_iff_ne.mpr c7
            have c7b1 : ((t555.length : Int) != 2) = true := bne_iff_ne.mpr c7
            obtain rfl := Option.some.inj H
            go_enter Try.func48, Try.ntmps48
            go_wp2_with (first | ((with_reducible refine gate_dst (N := 7) rfl ?_); (try (refine gate_guard (by rfl) ?_; dsimp only)); refine Kd.R_lit (Kd.int .i64) _ 2 ?hg (N := 7) ?hd (xs := ([10, 13] : List Int)) (inner := [.int .i64 10, .int .i64 13]) (ok := fun _ => True) (okp := fun _ => True) ?hr ?hp (fun _ hk => hk) trivial (Below.refl _ _) (Nat.le_refl _) (by simp) ?_; (case hd => rfl); (case hg => rfl); (case hr => first | (go_simp; done) | (go_simp; rfl)); (case hp => exact (Reps.one (show Kd.M (Kd.int .i64) _ _ _ 10 [.int .i64 10] from rfl) (Reps.one (show Kd.M (Kd.int .i64) _ _ _ 13 [.int .i64 13] from rfl) (Reps.none _ _)))); intro v549 w17 ho18 hb hg_ hnew_; clear hg_ hnew_; (first | rw [← Ny548.out] at ho18 | (simp only [Int.reduceToNat] at ho18; rw [← Ny548.out] at ho18)); have n0_ := Aside0.mk (Kd.R_lower ho18 (below_size (by repeat (first | (with_reducible first | exact HB.out | apply below_alloc | apply pw_below_drewN | apply below_drew1) | exact HB.out)))); have n1_ := Aside0.mk (below_step (by repeat (first | (with_reducible first | exact HB.out | apply below_alloc | apply pw_below_drewN | apply below_drew1) | exact HB.out)) hb); clear HB; have HO550 := n0_; have HB := n1_; clear n0_ n1_; clear hb ho18; obtain ⟨Ao19, co19, eo19⟩ := Kd.R_slice HO550.out; subst eo19) | ((with_reducible refine gate_callee (f := 46) rfl ?_); refine goesL_ (some 8) rfl rfl Try.func46 (by kernel_rfl) rfl #[.slice Ao19 y548.length co19, .int .i64 1] rfl (by (try simp only [List.map_toArray, List.map_cons, List.map_nil]); first | done | rfl | (simp only [List.length_drop, List.length_take]; rfl)) ?_; (with_reducible refine (times_Put.calls k _ _ y548 1 t551 t552 _ ?side1 ?side2 A1.out).mono ?_); (case side1 => repeat (first | exact (Kd.R_reads' HO550.out).2.2 | (with_reducible refine Kd.C_alloc ?_ _) | (with_reducible refine Kd.C_drewN ?_ _) | (with_reducible refine Kd.C_drew ?_))); (case side2 => exact (Kd.R_reads' HO550.out).2.1); rintro e w20 ⟨v553, rfl, ho0, hb⟩; refine ⟨_, rfl, ?_⟩; have n0_ := Aside0.mk (Kd.R_below (by (with_reducible repeat (first | apply Kd.R_alloc | apply Kd.R_drewN | apply Kd.R_drew)); exact HO550.out) hb); have n1_ := Aside0.mk (Kd.R_lower ho0 (below_size (by repeat (first | (with_reducible first | exact HB.out | apply below_alloc | apply pw_below_drewN | apply below_drew1) | exact HB.out)))); have n2_ := Aside0.mk (below_step (by repeat (first | (with_reducible first | exact HB.out | apply below_alloc | apply pw_below_drewN | apply below_drew1) | exact HB.out)) hb); clear HO550; clear HB; have HO550 := n0_; have HO554 := n1_; have HB := n2_; clear n0_ n1_ n2_; (try clear hb); (try clear hb2); (try clear hk); (try clear hi); (try clear ho0); obtain ⟨Ao21, co21, eo21⟩ := Kd.R_slice HO554.out; subst eo21) | ((with_reducible refine gate_callee (f := 47) rfl ?_); refine goesL_ (some 13) rfl rfl Try.func47 (by kernel_rfl) rfl #[.slice Ao21 t551.length co21, .int .i64 2, .int .i64 1] rfl (by (try simp only [List.map_toArray, List.map_cons, List.map_nil]); first | done | rfl | (simp only [List.length_drop, List.length_take]; rfl)) ?_; (with_reducible refine (times_Get.calls k _ _ t551 2 1 t555 t556 t557 _ ?side1 ?side2 A2.out).mono ?_); (case side1 => repeat (first | exact (Kd.R_reads' HO554.out).2.2 | (with_reducible refine Kd.C_alloc ?_ _) | (with_reducible refine Kd.C_drewN ?_ _) | (with_reducible refine Kd.C_drew ?_))); (case side2 => exact (Kd.R_reads' HO554.out).2.1); rintro e w22 ⟨v558, rfl, ho0, hb⟩; refine ⟨_, rfl, ?_⟩; have n0_ := Aside0.mk (Kd.R_elder' (by (with_reducible repeat (first | apply Kd.R_alloc | apply Kd.R_drewN | apply Kd.R_drew)); exact HO550.out) (Kd.R_base ho0) hb); have n1_ := Aside0.mk (Kd.R_below (by (with_reducible repeat (first | apply Kd.R_alloc | apply Kd.R_drewN | apply Kd.R_drew)); exact HO554.out) hb); have n2_ := Aside0.mk (Kd.R_lower (Kd.R_new' ho0 (Kd.R_lt (by (with_reducible repeat (first | apply Kd.R_alloc | apply Kd.R_drewN | apply Kd.R_drew)); exact HO550.out))) (below_size (by repeat (first | (with_reducible first | exact HB.out | apply below_alloc | apply pw_below_drewN | apply below_drew1) | exact HB.out)))); have n3_ := Aside0.mk (below_step (by repeat (first | (with_reducible first | exact HB.out | apply below_alloc | apply pw_below_drewN | apply below_drew1) | exact HB.out)) hb); clear HO550; clear HO554; clear HB; have HO550 := n0_; have HO554 := n1_; have HO559 := n2_; have HB := n3_; clear n0_ n1_ n2_ n3_; (try clear hb); (try clear hb2); (try clear hk); (try clear hi); (try clear ho0); have hcv23 := own_string (P := Try.prog) Try.underlying22 Try.underlying5 Try.underlying9 (Kd.own_of_R HO554.out); obtain ⟨Ao24, co24, eo24⟩ := Kd.R_slice HO559.out; subst eo24))
            go_ret
            exact ⟨by first | rfl | (simp [errW_none, errW_some] <;> rfl) | (simp [*, errW_none, errW_some] <;> rfl), by repeat (first | (with_reducible first | exact HB.out | apply below_alloc | apply pw_below_drewN | apply below_drew1) | exact HB.out)⟩
        · rw [if_neg c6] at H
          have c6b0 : (t556 == 2) = false := beq_eq_false_iff_ne.mpr c6
          have c6b1 : (t556 != 2) = true := bne_iff_ne.mpr c6
          obtain rfl := Option.some.inj H
          go_enter Try.func48, Try.ntmps48
          go_wp2_with (first | ((with_reducible refine gate_dst (N := 7) rfl ?_); (try (refine gate_guard (by rfl) ?_; dsimp only)); refine Kd.R_lit (Kd.int .i64) _ 2 ?hg (N := 7) ?hd (xs := ([10, 13] : List Int)) (inner := [.int .i64 10, .int .i64 13]) (ok := fun _ => True) (okp := fun _ => True) ?hr ?hp (fun _ hk => hk) trivial (Below.refl _ _) (Nat.le_refl _) (by simp) ?_; (case hd => rfl); (case hg => rfl); (case hr => first | (go_simp; done) | (go_simp; rfl)); (case hp => exact (Reps.one (show Kd.M (Kd.int .i64) _ _ _ 10 [.int .i64 10] from rfl) (Reps.one (show Kd.M (Kd.int .i64) _ _ _ 13 [.int .i64 13] from rfl) (Reps.none _ _)))); intro v549 w25 ho26 hb hg_ hnew_; clear hg_ hnew_; (first | rw [← Ny548.out] at ho26 | (simp only [Int.reduceToNat] at ho26; rw [← Ny548.out] at ho26)); have n0_ := Aside0.mk (Kd.R_lower ho26 (below_size (by repeat (first | (with_reducible first | exact HB.out | apply below_alloc | apply pw_below_drewN | apply below_drew1) | exact HB.out)))); have n1_ := Aside0.mk (below_step (by repeat (first | (with_reducible first | exact HB.out | apply below_alloc | apply pw_below_drewN | apply below_drew1) | exact HB.out)) hb); clear HB; have HO550 := n0_; have HB := n1_; clear n0_ n1_; clear hb ho26; obtain ⟨Ao27, co27, eo27⟩ := Kd.R_slice HO550.out; subst eo27) | ((with_reducible refine gate_callee (f := 46) rfl ?_); refine goesL_ (some 8) rfl rfl Try.func46 (by kernel_rfl) rfl #[.slice Ao27 y548.length co27, .int .i64 1] rfl (by (try simp only [List.map_toArray, List.map_cons, List.map_nil]); first | done | rfl | (simp only [List.length_drop, List.length_take]; rfl)) ?_; (with_reducible refine (times_Put.calls k _ _ y548 1 t551 t552 _ ?side1 ?side2 A1.out).mono ?_); (case side1 => repeat (first | exact (Kd.R_reads' HO550.out).2.2 | (with_reducible refine Kd.C_alloc ?_ _) | (with_reducible refine Kd.C_drewN ?_ _) | (with_reducible refine Kd.C_drew ?_))); (case side2 => exact (Kd.R_reads' HO550.out).2.1); rintro e w28 ⟨v553, rfl, ho0, hb⟩; refine ⟨_, rfl, ?_⟩; have n0_ := Aside0.mk (Kd.R_below (by (with_reducible repeat (first | apply Kd.R_alloc | apply Kd.R_drewN | apply Kd.R_drew)); exact HO550.out) hb); have n1_ := Aside0.mk (Kd.R_lower ho0 (below_size (by repeat (first | (with_reducible first | exact HB.out | apply below_alloc | apply pw_below_drewN | apply below_drew1) | exact HB.out)))); have n2_ := Aside0.mk (below_step (by repeat (first | (with_reducible first | exact HB.out | apply below_alloc | apply pw_below_drewN | apply below_drew1) | exact HB.out)) hb); clear HO550; clear HB; have HO550 := n0_; have HO554 := n1_; have HB := n2_; clear n0_ n1_ n2_; (try clear hb); (try clear hb2); (try clear hk); (try clear hi); (try clear ho0); obtain ⟨Ao29, co29, eo29⟩ := Kd.R_slice HO554.out; subst eo29) | ((with_reducible refine gate_callee (f := 47) rfl ?_); refine goesL_ (some 13) rfl rfl Try.func47 (by kernel_rfl) rfl #[.slice Ao29 t551.length co29, .int .i64 2, .int .i64 1] rfl (by (try simp only [List.map_toArray, List.map_cons, List.map_nil]); first | done | rfl | (simp only [List.length_drop, List.length_take]; rfl)) ?_; (with_reducible refine (times_Get.calls k _ _ t551 2 1 t555 t556 t557 _ ?side1 ?side2 A2.out).mono ?_); (case side1 => repeat (first | exact (Kd.R_reads' HO554.out).2.2 | (with_reducible refine Kd.C_alloc ?_ _) | (with_reducible refine Kd.C_drewN ?_ _) | (with_reducible refine Kd.C_drew ?_))); (case side2 => exact (Kd.R_reads' HO554.out).2.1); rintro e w30 ⟨v558, rfl, ho0, hb⟩; refine ⟨_, rfl, ?_⟩; have n0_ := Aside0.mk (Kd.R_elder' (by (with_reducible repeat (first | apply Kd.R_alloc | apply Kd.R_drewN | apply Kd.R_drew)); exact HO550.out) (Kd.R_base ho0) hb); have n1_ := Aside0.mk (Kd.R_below (by (with_reducible repeat (first | apply Kd.R_alloc | apply Kd.R_drewN | apply Kd.R_drew)); exact HO554.out) hb); have n2_ := Aside0.mk (Kd.R_lower (Kd.R_new' ho0 (Kd.R_lt (by (with_reducible repeat (first | apply Kd.R_alloc | apply Kd.R_drewN | apply Kd.R_drew)); exact HO550.out))) (below_size (by repeat (first | (with_reducible first | exact HB.out | apply below_alloc | apply pw_below_drewN | apply below_drew1) | exact HB.out)))); have n3_ := Aside0.mk (below_step (by repeat (first | (with_reducible first | exact HB.out | apply below_alloc | apply pw_below_drewN | apply below_drew1) | exact HB.out)) hb); clear HO550; clear HO554; clear HB; have HO550 := n0_; have HO554 := n1_; have HO559 := n2_; have HB := n3_; clear n0_ n1_ n2_ n3_; (try clear hb); (try clear hb2); (try clear hk); (try clear hi); (try clear ho0); have hcv31 := own_string (P := Try.prog) Try.underlying22 Try.underlying5 Try.underlying9 (Kd.own_of_R HO554.out)))
          go_ret
          exact ⟨by first | rfl | (simp [errW_none, errW_some] <;> rfl) | (simp [*, errW_none, errW_some] <;> rfl), by repeat (first | (with_reducible first | exact HB.out | apply below_alloc | apply pw_below_drewN | apply below_drew1) | exact HB.out)⟩
      · rw [if_neg c5] at H
        have c5b0 : ((strOfNums t551).toList == ([20, 3] : List UInt8)) = false := beq_eq_false_iff_ne.mpr c5
        have c5b1 : ((strOfNums t551).toList != ([20, 3] : List UInt8)) = true := bne_iff_ne.mpr c5
        obtain rfl := Option.some.inj H
        go_enter Try.func48, Try.ntmps48
        go_wp2_with (first | ((with_reducible refine gate_dst (N := 7) rfl ?_); (try (refine gate_guard (by rfl) ?_; dsimp only)); refine Kd.R_lit (Kd.int .i64) _ 2 ?hg (N := 7) ?hd (xs := ([10, 13] : List Int)) (inner := [.int .i64 10, .int .i64 13]) (ok := fun _ => True) (okp := fun _ => True) ?hr ?hp (fun _ hk => hk) trivial (Below.refl _ _) (Nat.le_refl _) (by simp) ?_; (case hd => rfl); (case hg => rfl); (case hr => first | (go_simp; done) | (go_simp; rfl)); (case hp => exact (Reps.one (show Kd.M (Kd.int .i64) _ _ _ 10 [.int .i64 10] from rfl) (Reps.one (show Kd.M (Kd.int .i64) _ _ _ 13 [.int .i64 13] from rfl) (Reps.none _ _)))); intro v549 w32 ho33 hb hg_ hnew_; clear hg_ hnew_; (first | rw [← Ny548.out] at ho33 | (simp only [Int.reduceToNat] at ho33; rw [← Ny548.out] at ho33)); have n0_ := Aside0.mk (Kd.R_lower ho33 (below_size (by repeat (first | (with_reducible first | exact HB.out | apply below_alloc | apply pw_below_drewN | apply below_drew1) | exact HB.out)))); have n1_ := Aside0.mk (below_step (by repeat (first | (with_reducible first | exact HB.out | apply below_alloc | apply pw_below_drewN | apply below_drew1) | exact HB.out)) hb); clear HB; have HO550 := n0_; have HB := n1_; clear n0_ n1_; clear hb ho33; obtain ⟨Ao34, co34, eo34⟩ := Kd.R_slice HO550.out; subst eo34) | ((with_reducible refine gate_callee (f := 46) rfl ?_); refine goesL_ (some 8) rfl rfl Try.func46 (by kernel_rfl) rfl #[.slice Ao34 y548.length co34, .int .i64 1] rfl (by (try simp only [List.map_toArray, List.map_cons, List.map_nil]); first | done | rfl | (simp only [List.length_drop, List.length_take]; rfl)) ?_; (with_reducible refine (times_Put.calls k _ _ y548 1 t551 t552 _ ?side1 ?side2 A1.out).mono ?_); (case side1 => repeat (first | exact (Kd.R_reads' HO550.out).2.2 | (with_reducible refine Kd.C_alloc ?_ _) | (with_reducible refine Kd.C_drewN ?_ _) | (with_reducible refine Kd.C_drew ?_))); (case side2 => exact (Kd.R_reads' HO550.out).2.1); rintro e w35 ⟨v553, rfl, ho0, hb⟩; refine ⟨_, rfl, ?_⟩; have n0_ := Aside0.mk (Kd.R_below (by (with_reducible repeat (first | apply Kd.R_alloc | apply Kd.R_drewN | apply Kd.R_drew)); exact HO550.out) hb); have n1_ := Aside0.mk (Kd.R_lower ho0 (below_size (by repeat (first | (with_reducible first | exact HB.out | apply below_alloc | apply pw_below_drewN | apply below_drew1) | exact HB.out)))); have n2_ := Aside0.mk (below_step (by repeat (first | (with_reducible first | exact HB.out | apply below_alloc | apply pw_below_drewN | apply below_drew1) | exact HB.out)) hb); clear HO550; clear HB; have HO550 := n0_; have HO554 := n1_; have HB := n2_; clear n0_ n1_ n2_; (try clear hb); (try clear hb2); (try clear hk); (try clear hi); (try clear ho0); obtain ⟨Ao36, co36, eo36⟩ := Kd.R_slice HO554.out; subst eo36) | ((with_reducible refine gate_callee (f := 47) rfl ?_); refine goesL_ (some 13) rfl rfl Try.func47 (by kernel_rfl) rfl #[.slice Ao36 t551.length co36, .int .i64 2, .int .i64 1] rfl (by (try simp only [List.map_toArray, List.map_cons, List.map_nil]); first | done | rfl | (simp only [List.length_drop, List.length_take]; rfl)) ?_; (with_reducible refine (times_Get.calls k _ _ t551 2 1 t555 t556 t557 _ ?side1 ?side2 A2.out).mono ?_); (case side1 => repeat (first | exact (Kd.R_reads' HO554.out).2.2 | (with_reducible refine Kd.C_alloc ?_ _) | (with_reducible refine Kd.C_drewN ?_ _) | (with_reducible refine Kd.C_drew ?_))); (case side2 => exact (Kd.R_reads' HO554.out).2.1); rintro e w37 ⟨v558, rfl, ho0, hb⟩; refine ⟨_, rfl, ?_⟩; have n0_ := Aside0.mk (Kd.R_elder' (by (with_reducible repeat (first | apply Kd.R_alloc | apply Kd.R_drewN | apply Kd.R_drew)); exact HO550.out) (Kd.R_base ho0) hb); have n1_ := Aside0.mk (Kd.R_below (by (with_reducible repeat (first | apply Kd.R_alloc | apply Kd.R_drewN | apply Kd.R_drew)); exact HO554.out) hb); have n2_ := Aside0.mk (Kd.R_lower (Kd.R_new' ho0 (Kd.R_lt (by (with_reducible repeat (first | apply Kd.R_alloc | apply Kd.R_drewN | apply Kd.R_drew)); exact HO550.out))) (below_size (by repeat (first | (with_reducible first | exact HB.out | apply below_alloc | apply pw_below_drewN | apply below_drew1) | exact HB.out)))); have n3_ := Aside0.mk (below_step (by repeat (first | (with_reducible first | exact HB.out | apply below_alloc | apply pw_below_drewN | apply below_drew1) | exact HB.out)) hb); clear HO550; clear HO554; clear HB; have HO550 := n0_; have HO554 := n1_; have HO559 := n2_; have HB := n3_; clear n0_ n1_ n2_ n3_; (try clear hb); (try clear hb2); (try clear hk); (try clear hi); (try clear ho0); have hcv38 := own_string (P := Try.prog) Try.underlying22 Try.underlying5 Try.underlying9 (Kd.own_of_R HO554.out)))
        go_ret
        exact ⟨by first | rfl | (simp [errW_none, errW_some] <;> rfl) | (simp [*, errW_none, errW_some] <;> rfl), by repeat (first | (with_reducible first | exact HB.out | apply below_alloc | apply pw_below_drewN | apply below_drew1) | exact HB.out)⟩
    · rw [if_neg c4] at H
      have c4b0 : (t557 == 0) = false := beq_eq_false_iff_ne.mpr c4
      have c4b1 : (t557 != 0) = true := bne_iff_ne.mpr c4
      obtain rfl := Option.some.inj H
      go_enter Try.func48, Try.ntmps48
      go_wp2_with (first | ((with_reducible refine gate_dst (N := 7) rfl ?_); (try (refine gate_guard (by rfl) ?_; dsimp only)); refine Kd.R_lit (Kd.int .i64) _ 2 ?hg (N := 7) ?hd (xs := ([10, 13] : List Int)) (inner := [.int .i64 10, .int .i64 13]) (ok := fun _ => True) (okp := fun _ => True) ?hr ?hp (fun _ hk => hk) trivial (Below.refl _ _) (Nat.le_refl _) (by simp) ?_; (case hd => rfl); (case hg => rfl); (case hr => first | (go_simp; done) | (go_simp; rfl)); (case hp => exact (Reps.one (show Kd.M (Kd.int .i64) _ _ _ 10 [.int .i64 10] from rfl) (Reps.one (show Kd.M (Kd.int .i64) _ _ _ 13 [.int .i64 13] from rfl) (Reps.none _ _)))); intro v549 w39 ho40 hb hg_ hnew_; clear hg_ hnew_; (first | rw [← Ny548.out] at ho40 | (simp only [Int.reduceToNat] at ho40; rw [← Ny548.out] at ho40)); have n0_ := Aside0.mk (Kd.R_lower ho40 (below_size (by repeat (first | (with_reducible first | exact HB.out | apply below_alloc | apply pw_below_drewN | apply below_drew1) | exact HB.out)))); have n1_ := Aside0.mk (below_step (by repeat (first | (with_reducible first | exact HB.out | apply below_alloc | apply pw_below_drewN | apply below_drew1) | exact HB.out)) hb); clear HB; have HO550 := n0_; have HB := n1_; clear n0_ n1_; clear hb ho40; obtain ⟨Ao41, co41, eo41⟩ := Kd.R_slice HO550.out; subst eo41) | ((with_reducible refine gate_callee (f := 46) rfl ?_); refine goesL_ (some 8) rfl rfl Try.func46 (by kernel_rfl) rfl #[.slice Ao41 y548.length co41, .int .i64 1] rfl (by (try simp only [List.map_toArray, List.map_cons, List.map_nil]); first | done | rfl | (simp only [List.length_drop, List.length_take]; rfl)) ?_; (with_reducible refine (times_Put.calls k _ _ y548 1 t551 t552 _ ?side1 ?side2 A1.out).mono ?_); (case side1 => repeat (first | exact (Kd.R_reads' HO550.out).2.2 | (with_reducible refine Kd.C_alloc ?_ _) | (with_reducible refine Kd.C_drewN ?_ _) | (with_reducible refine Kd.C_drew ?_))); (case side2 => exact (Kd.R_reads' HO550.out).2.1); rintro e w42 ⟨v553, rfl, ho0, hb⟩; refine ⟨_, rfl, ?_⟩; have n0_ := Aside0.mk (Kd.R_below (by (with_reducible repeat (first | apply Kd.R_alloc | apply Kd.R_drewN | apply Kd.R_drew)); exact HO550.out) hb); have n1_ := Aside0.mk (Kd.R_lower ho0 (below_size (by repeat (first | (with_reducible first | exact HB.out | apply below_alloc | apply pw_below_drewN | apply below_drew1) | exact HB.out)))); have n2_ := Aside0.mk (below_step (by repeat (first | (with_reducible first | exact HB.out | apply below_alloc | apply pw_below_drewN | apply below_drew1) | exact HB.out)) hb); clear HO550; clear HB; have HO550 := n0_; have HO554 := n1_; have HB := n2_; clear n0_ n1_ n2_; (try clear hb); (try clear hb2); (try clear hk); (try clear hi); (try clear ho0); obtain ⟨Ao43, co43, eo43⟩ := Kd.R_slice HO554.out; subst eo43) | ((with_reducible refine gate_callee (f := 47) rfl ?_); refine goesL_ (some 13) rfl rfl Try.func47 (by kernel_rfl) rfl #[.slice Ao43 t551.length co43, .int .i64 2, .int .i64 1] rfl (by (try simp only [List.map_toArray, List.map_cons, List.map_nil]); first | done | rfl | (simp only [List.length_drop, List.length_take]; rfl)) ?_; (with_reducible refine (times_Get.calls k _ _ t551 2 1 t555 t556 t557 _ ?side1 ?side2 A2.out).mono ?_); (case side1 => repeat (first | exact (Kd.R_reads' HO554.out).2.2 | (with_reducible refine Kd.C_alloc ?_ _) | (with_reducible refine Kd.C_drewN ?_ _) | (with_reducible refine Kd.C_drew ?_))); (case side2 => exact (Kd.R_reads' HO554.out).2.1); rintro e w44 ⟨v558, rfl, ho0, hb⟩; refine ⟨_, rfl, ?_⟩; have n0_ := Aside0.mk (Kd.R_elder' (by (with_reducible repeat (first | apply Kd.R_alloc | apply Kd.R_drewN | apply Kd.R_drew)); exact HO550.out) (Kd.R_base ho0) hb); have n1_ := Aside0.mk (Kd.R_below (by (with_reducible repeat (first | apply Kd.R_alloc | apply Kd.R_drewN | apply Kd.R_drew)); exact HO554.out) hb); have n2_ := Aside0.mk (Kd.R_lower (Kd.R_new' ho0 (Kd.R_lt (by (with_reducible repeat (first | apply Kd.R_alloc | apply Kd.R_drewN | apply Kd.R_drew)); exact HO550.out))) (below_size (by repeat (first | (with_reducible first | exact HB.out | apply below_alloc | apply pw_below_drewN | apply below_drew1) | exact HB.out)))); have n3_ := Aside0.mk (below_step (by repeat (first | (with_reducible first | exact HB.out | apply below_alloc | apply pw_below_drewN | apply below_drew1) | exact HB.out)) hb); clear HO550; clear HO554; clear HB; have HO550 := n0_; have HO554 := n1_; have HO559 := n2_; have HB := n3_; clear n0_ n1_ n2_ n3_; (try clear hb); (try clear hb2); (try clear hk); (try clear hi); (try clear ho0)))
      go_ret
      exact ⟨by first | rfl | (simp [errW_none, errW_some] <;> rfl) | (simp [*, errW_none, errW_some] <;> rfl), by repeat (first | (with_reducible first | exact HB.out | apply below_alloc | apply pw_below_drewN | apply below_drew1) | exact HB.out)⟩
  · rw [if_neg c3] at H
    have c3b0 : (t552 == 0) = false := beq_eq_false_iff_ne.mpr c3
    have c3b1 : (t552 != 0) = true := bne_iff_ne.mpr c3
    obtain rfl := Option.some.inj H
    go_enter Try.func48, Try.ntmps48
    go_wp2_with (first | ((with_reducible refine gate_dst (N := 7) rfl ?_); (try (refine gate_guard (by rfl) ?_; dsimp only)); refine Kd.R_lit (Kd.int .i64) _ 2 ?hg (N := 7) ?hd (xs := ([10, 13] : List Int)) (inner := [.int .i64 10, .int .i64 13]) (ok := fun _ => True) (okp := fun _ => True) ?hr ?hp (fun _ hk => hk) trivial (Below.refl _ _) (Nat.le_refl _) (by simp) ?_; (case hd => rfl); (case hg => rfl); (case hr => first | (go_simp; done) | (go_simp; rfl)); (case hp => exact (Reps.one (show Kd.M (Kd.int .i64) _ _ _ 10 [.int .i64 10] from rfl) (Reps.one (show Kd.M (Kd.int .i64) _ _ _ 13 [.int .i64 13] from rfl) (Reps.none _ _)))); intro v549 w45 ho46 hb hg_ hnew_; clear hg_ hnew_; (first | rw [← Ny548.out] at ho46 | (simp only [Int.reduceToNat] at ho46; rw [← Ny548.out] at ho46)); have n0_ := Aside0.mk (Kd.R_lower ho46 (below_size (by repeat (first | (with_reducible first | exact HB.out | apply below_alloc | apply pw_below_drewN | apply below_drew1) | exact HB.out)))); have n1_ := Aside0.mk (below_step (by repeat (first | (with_reducible first | exact HB.out | apply below_alloc | apply pw_below_drewN | apply below_drew1) | exact HB.out)) hb); clear HB; have HO550 := n0_; have HB := n1_; clear n0_ n1_; clear hb ho46; obtain ⟨Ao47, co47, eo47⟩ := Kd.R_slice HO550.out; subst eo47) | ((with_reducible refine gate_callee (f := 46) rfl ?_); refine goesL_ (some 8) rfl rfl Try.func46 (by kernel_rfl) rfl #[.slice Ao47 y548.length co47, .int .i64 1] rfl (by (try simp only [List.map_toArray, List.map_cons, List.map_nil]); first | done | rfl | (simp only [List.length_drop, List.length_take]; rfl)) ?_; (with_reducible refine (times_Put.calls k _ _ y548 1 t551 t552 _ ?side1 ?side2 A1.out).mono ?_); (case side1 => repeat (first | exact (Kd.R_reads' HO550.out).2.2 | (with_reducible refine Kd.C_alloc ?_ _) | (with_reducible refine Kd.C_drewN ?_ _) | (with_reducible refine Kd.C_drew ?_))); (case side2 => exact (Kd.R_reads' HO550.out).2.1); rintro e w48 ⟨v553, rfl, ho0, hb⟩; refine ⟨_, rfl, ?_⟩; have n0_ := Aside0.mk (Kd.R_below (by (with_reducible repeat (first | apply Kd.R_alloc | apply Kd.R_drewN | apply Kd.R_drew)); exact HO550.out) hb); have n1_ := Aside0.mk (Kd.R_lower ho0 (below_size (by repeat (first | (with_reducible first | exact HB.out | apply below_alloc | apply pw_below_drewN | apply below_drew1) | exact HB.out)))); have n2_ := Aside0.mk (below_step (by repeat (first | (with_reducible first | exact HB.out | apply below_alloc | apply pw_below_drewN | apply below_drew1) | exact HB.out)) hb); clear HO550; clear HB; have HO550 := n0_; have HO554 := n1_; have HB := n2_; clear n0_ n1_ n2_; (try clear hb); (try clear hb2); (try clear hk); (try clear hi); (try clear ho0); obtain ⟨Ao49, co49, eo49⟩ := Kd.R_slice HO554.out; subst eo49) | ((with_reducible refine gate_callee (f := 47) rfl ?_); refine goesL_ (some 13) rfl rfl Try.func47 (by kernel_rfl) rfl #[.slice Ao49 t551.length co49, .int .i64 2, .int .i64 1] rfl (by (try simp only [List.map_toArray, List.map_cons, List.map_nil]); first | done | rfl | (simp only [List.length_drop, List.length_take]; rfl)) ?_; (with_reducible refine (times_Get.calls k _ _ t551 2 1 t555 t556 t557 _ ?side1 ?side2 A2.out).mono ?_); (case side1 => repeat (first | exact (Kd.R_reads' HO554.out).2.2 | (with_reducible refine Kd.C_alloc ?_ _) | (with_reducible refine Kd.C_drewN ?_ _) | (with_reducible refine Kd.C_drew ?_))); (case side2 => exact (Kd.R_reads' HO554.out).2.1); rintro e w50 ⟨v558, rfl, ho0, hb⟩; refine ⟨_, rfl, ?_⟩; have n0_ := Aside0.mk (Kd.R_elder' (by (with_reducible repeat (first | apply Kd.R_alloc | apply Kd.R_drewN | apply Kd.R_drew)); exact HO550.out) (Kd.R_base ho0) hb); have n1_ := Aside0.mk (Kd.R_below (by (with_reducible repeat (first | apply Kd.R_alloc | apply Kd.R_drewN | apply Kd.R_drew)); exact HO554.out) hb); have n2_ := Aside0.mk (Kd.R_lower (Kd.R_new' ho0 (Kd.R_lt (by (with_reducible repeat (first | apply Kd.R_alloc | apply Kd.R_drewN | apply Kd.R_drew)); exact HO550.out))) (below_size (by repeat (first | (with_reducible first | exact HB.out | apply below_alloc | apply pw_below_drewN | apply below_drew1) | exact HB.out)))); have n3_ := Aside0.mk (below_step (by repeat (first | (with_reducible first | exact HB.out | apply below_alloc | apply pw_below_drewN | apply below_drew1) | exact HB.out)) hb); clear HO550; clear HO554; clear HB; have HO550 := n0_; have HO554 := n1_; have HO559 := n2_; have HB := n3_; clear n0_ n1_ n2_ n3_; (try clear hb); (try clear hb2); (try clear hk); (try clear hi); (try clear ho0)))
    go_ret
    exact ⟨by first | rfl | (simp [errW_none, errW_some] <;> rfl) | (simp [*, errW_none, errW_some] <;> rfl), by repeat (first | (with_reducible first | exact HB.out | apply below_alloc | apply pw_below_drewN | apply below_drew1) | exact HB.out)⟩

end Go.Proofs.Ytmlbppfcpejlpaa.X

-- Printed by this session's own program (wip/xprint.py) over the translation; its external functions are hand-written. Lean checks it.
namespace Go.Proofs.Ytmlbppfcpejlpaa.X
open Go.RowKit Go.Proofs.YtmlbppfcpejlpaaW.PrintWords Go.Proofs.YtmlbppfcpejlpaaW.PrintLast Go.Proofs.YtmlbppfcpejlpaaW.PrintMore
attribute [local go_sem] max2_int min2_int max_two min_two max_three min_three max_four min_four   -- for this text's walks alone
set_option linter.unusedVariables false
set_option linter.unusedSimpArgs false

/-! ### rickref07_Same: function 49 -/
def rickref07_Same.l0 : Nat → List Int → List Int → Int → Option (Bool)
  | 0, _, _, _ => none
  | k + 1, x0, x1, x5 => if x5 < (x0.length : Int) then (if 0 ≤ x5 then (if x5 < (x1.length : Int) then (if (rd x0 x5) = (rd x1 x5) then (rickref07_Same.l0 k x0 x1 (wrap64 (x5 + 1))) else (some false)) else (none)) else (none)) else (some true)
def rickref07_Same.f (k : Nat) (l0 : List Int) (l1 : List Int) : Option (Bool) := if (l0.length : Int) = (l1.length : Int) then (rickref07_Same.l0 k l0 l1 0) else (some false)
theorem rickref07_Same.mono_l : ∀ k, (∀ y0 y1 y2, LeO (rickref07_Same.l0 k y0 y1 y2) (rickref07_Same.l0 (k + 1) y0 y1 y2))
  | 0 => fun _ _ _ r h => by simp [rickref07_Same.l0] at h
  | k + 1 => by
    have ih0 := rickref07_Same.mono_l k
    · intro y0 y1 y2
      unfold rickref07_Same.l0
      repeat' first
      | (with_reducible exact ih0 _ _ _)
      | (with_reducible exact LeO.refl _)
      | (with_reducible exact LeO.none _)
      | (with_reducible refine LeO.ite ?_ ?_)
      | (with_reducible refine LeO.bind ?_ (fun _ => ?_))
      | exact ih0 _ _ _
      | exact LeO.none _
      | refine LeO.ite ?_ ?_
      | refine LeO.bind ?_ (fun _ => ?_)
theorem rickref07_Same.mono : ∀ a0 a1 k, LeO (rickref07_Same.f k a0 a1) (rickref07_Same.f (k + 1) a0 a1) := by
  intro a0 a1 k
  have ih0 := rickref07_Same.mono_l k
  unfold rickref07_Same.f
  repeat' first
      | (with_reducible exact ih0 _ _ _)
      | (with_reducible exact LeO.refl _)
      | (with_reducible exact LeO.none _)
      | (with_reducible refine LeO.ite ?_ ?_)
      | (with_reducible refine LeO.bind ?_ (fun _ => ?_))
      | exact ih0 _ _ _
      | exact LeO.none _
      | refine LeO.ite ?_ ?_
      | refine LeO.bind ?_ (fun _ => ?_)
set_option maxHeartbeats 8000000 in
set_option maxRecDepth 100000 in
theorem rickref07_Same.calls (k : Nat) (A0 : Option Addr) (c0 : Nat) (l0 : List Int) (A1 : Option Addr) (c1 : Nat) (l1 : List Int) (r : Bool) (w : World) (hr0 : Kd.C (Kd.int .i64) w A0 l0.length l0) (hc0 : l0.length ≤ c0) (hr1 : Kd.C (Kd.int .i64) w A1 l1.length l1) (hc1 : l1.length ≤ c1) (h : rickref07_Same.f k l0 l1 = some r) :
    Calls Try.prog 49 #[.slice A0 l0.length c0, .slice A1 l1.length c1] w fun e w' => e = .returned (.bool r) ∧ Drawn0 w w' := by
  have HR0 := Aside0.mk hr0
  have HC0 := Aside0.mk hc0
  clear hr0 hc0
  have HR1 := Aside0.mk hr1
  have HC1 := Aside0.mk hc1
  clear hr1 hc1
  have H : (if (l0.length : Int) = (l1.length : Int) then (rickref07_Same.l0 k l0 l1 0) else (some false)) = some r := h
  clear h
  by_cases c3 : (l0.length : Int) = (l1.length : Int)
  · rw [if_pos c3] at H
    have c3b0 : ((l0.length : Int) == (l1.length : Int)) = true := beq_iff_eq.mpr c3
    have c3b1 : ((l0.length : Int) != (l1.length : Int)) = false := bne_eq_false_iff_eq.mpr c3
    have c3b2 : (l0.length == l1.length) = true := by first | simpa using c3 | (simp at c3 ⊢; omega)
    clear c3
    have H' := Aside0.mk H
    clear H
    go_enter Try.func49, Try.ntmps49
    go_wp2
    repeat (go_quiet (fail); try go_wp2)
    go_loopg [5] k (fun kq v5 w' => ∃ (x5_1 : Int), v5 = .int .i64 x5_1 ∧ Aside0 (rickref07_Same.l0 kq l0 l1 x5_1 = some r) ∧ Aside0 (kq ≤ k) ∧ Drawn0 w w')
    case atStart => exact ⟨(0), (by first | rfl | (simp; done) | (simp [*]; done)), H', ⟨Nat.le_refl _⟩, by repeat (first | exact Drawn0.refl _ | apply Drawn0.step)⟩
    case round =>
      clear H'
      try clear c1
      try clear p2
      try clear c3
      try clear c3b0
      try clear c3b1
      try clear c3b2
      obtain ⟨x5_1, rfl, HA, HK1, ⟨m1, rfl⟩⟩ := hrel
      cases gk with
      | zero => exact absurd HA.out (by simp [rickref07_Same.l0])
      | succ k1 =>
        have H := HA.out
        clear HA
        simp only [rickref07_Same.l0] at H
        by_cases c4 : x5_1 < (l0.length : Int)
        · rw [if_pos c4] at H
          have c4b0 : decide (x5_1 < (l0.length : Int)) = true := decide_eq_true c4
          clear c4
          by_cases c5 : 0 ≤ x5_1
          · rw [if_pos c5] at H
            have c5b0 : decide (0 ≤ x5_1) = true := decide_eq_true c5
            clear c5
            by_cases c6 : x5_1 < (l1.length : Int)
            · rw [if_pos c6] at H
              have c6b0 : decide (x5_1 < (l1.length : Int)) = true := decide_eq_true c6
              clear c6
              by_cases c7 : (rd l0 x5_1) = (rd l1 x5_1)
              · rw [if_pos c7] at H
                have c7b0 : ((rd l0 x5_1) == (rd l1 x5_1)) = true := beq_iff_eq.mpr c7
                have c7b1 : ((rd l0 x5_1) != (rd l1 x5_1)) = false := bne_eq_false_iff_eq.mpr c7
                clear c7
                have H' := Aside0.mk H
                clear H
                have p561 : 0 ≤ (x5_1 : Int) := of_decide_eq_true (by first | (with_reducible assumption) | assumption)
                have q561 : x5_1 < (l0.length : Int) := of_decide_eq_true (by first | (with_reducible assumption) | assumption)
                obtain ⟨ad561, e561, hx561_0⟩ := Kd.at_int HR0.out x5_1 p561 q561
                cases e561
                replace p561 := eq_true p561
                replace q561 := eq_true q561
                have p562 : 0 ≤ (x5_1 : Int) := of_decide_eq_true (by first | (with_reducible assumption) | assumption)
                have q562 : x5_1 < (l1.length : Int) := of_decide_eq_true (by first | (with_reducible assumption) | assumption)
                obtain ⟨ad562, e562, hx562_0⟩ := Kd.at_int HR1.out x5_1 p562 q562
                cases e562
                replace p562 := eq_true p562
                replace q562 := eq_true q562
                go_wp2
                repeat (go_quiet (fail); try go_wp2)
                go_roundg k1
                case measure => have := HK1.out; omega
                case rel => exact ⟨(wrap64 (x5_1 + 1)), (by first | rfl | (simp; done) | (simp [*]; done)), H', ⟨by have := HK1.out; omega⟩, by repeat (first | exact Drawn0.refl _ | apply Drawn0.step)⟩
              · rw [if_neg c7] at H
                have c7b0 : ((rd l0 x5_1) == (rd l1 x5_1)) = false := beq_eq_false_iff_ne.mpr c7
                have c7b1 : ((rd l0 x5_1) != (rd l1 x5_1)) = true := bne_iff_ne.mpr c7
                obtain rfl := Option.some.inj H
                have p561 : 0 ≤ (x5_1 : Int) := of_decide_eq_true (by first | (with_reducible assumption) | assumption)
                have q561 : x5_1 < (l0.length : Int) := of_decide_eq_true (by first | (with_reducible assumption) | assumption)
                obtain ⟨ad561, e561, hx561_0⟩ := Kd.at_int HR0.out x5_1 p561 q561
                cases e561
                replace p561 := eq_true p561
                replace q561 := eq_true q561
                have p562 : 0 ≤ (x5_1 : Int) := of_decide_eq_true (by first | (with_reducible assumption) | assumption)
                have q562 : x5_1 < (l1.length : Int) := of_decide_eq_true (by first | (with_reducible assumption) | assumption)
                obtain ⟨ad562, e562, hx562_0⟩ := Kd.at_int HR1.out x5_1 p562 q562
                cases e562
                replace p562 := eq_true p562
                replace q562 := eq_true q562
                go_wp2
                repeat (go_quiet (fail); try go_wp2)
                go_ret
                exact ⟨by first | rfl | (simp; done) | (simp [*]; done), by repeat (first | exact Drawn0.refl _ | apply Drawn0.step)⟩
            · rw [if_neg c6] at H
              exact absurd H (by simp)
          · rw [if_neg c5] at H
            exact absurd H (by simp)
        · rw [if_neg c4] at H
          have c4b0 : decide (x5_1 < (l0.length : Int)) = false := decide_eq_false c4
          clear c4
          obtain rfl := Option.some.inj H
          go_wp2
          repeat (go_quiet (fail); try go_wp2)
          go_ret
          exact ⟨by first | rfl | (simp; done) | (simp [*]; done), by repeat (first | exact Drawn0.refl _ | apply Drawn0.step)⟩
  · rw [if_neg c3] at H
    have c3b0 : ((l0.length : Int) == (l1.length : Int)) = false := beq_eq_false_iff_ne.mpr c3
    have c3b1 : ((l0.length : Int) != (l1.length : Int)) = true := bne_iff_ne.mpr c3
    have c3b2 : (l0.length == l1.length) = false := by first | simpa using c3 | (simp at c3 ⊢; omega)
    obtain rfl := Option.some.inj H
    go_enter Try.func49, Try.ntmps49
    go_wp2
    repeat (go_quiet (fail); try go_wp2)
    go_ret
    exact ⟨by first | rfl | (simp; done) | (simp [*]; done), by repeat (first | exact Drawn0.refl _ | apply Drawn0.step)⟩

end Go.Proofs.Ytmlbppfcpejlpaa.X

-- Printed by this session's own program (wip/xprint.py) over the translation; its external functions are hand-written. Lean checks it.
namespace Go.Proofs.Ytmlbppfcpejlpaa.X
open Go.RowKit Go.Proofs.YtmlbppfcpejlpaaW.PrintWords Go.Proofs.YtmlbppfcpejlpaaW.PrintLast Go.Proofs.YtmlbppfcpejlpaaW.PrintMore
attribute [local go_sem] max2_int min2_int max_two min_two max_three min_three max_four min_four   -- for this text's walks alone
set_option linter.unusedVariables false
set_option linter.unusedSimpArgs false

/-! ### ricklaw07_TimesEven: function 15 -/
mutual
def ricklaw07_TimesEven.l0 : Nat → Int → Int → List Int → Int → Int → Option (Bool)
  | 0, _, _, _, _, _ => none
  | k + 1, x1, x7, x8, x9, x10 => if x10 < x7 then (if x8.length < 17592186044416 then (ricklaw07_TimesEven.l0 k x1 x7 (x8 ++ [x9]) (wrap64 (x9 + x1)) (wrap64 (x10 + 1))) else (none)) else ((times_Put.f k x8 2).bind fun bt566 => (if x7 = 1 then (ricklaw07_TimesEven.j1 k x7 x8 bt566.1 bt566.2 8) else (ricklaw07_TimesEven.j1 k x7 x8 bt566.1 bt566.2 0)))
def ricklaw07_TimesEven.j1 : Nat → Int → List Int → List Int → Int → Int → Option (Bool)
  | 0, _, _, _, _, _ => none
  | k + 1, x7, x8, x11, x12, x13 => if x7 > 1 then ((times_Get.f k x11 x7 2).bind fun bt570 => ((ricklaw07_puts.f k).bind fun t575 => (if t575 = true then (if x12 = 0 then (if (x11.length : Int) = (wrap64 (16 + (wrap64 (Int.tdiv (wrap64 ((wrap64 (x7 - 2)) + 7)) 8)))) then (if bt570.2.2 = 0 then (if bt570.2.1 = (x11.length : Int) then ((rickref07_Same.f k bt570.1 x8).bind fun t576 => (some t576)) else (some false)) else (some false)) else (some false)) else (some false)) else (some false)))) else ((times_Get.f k x11 x7 2).bind fun bt577 => ((ricklaw07_puts.f k).bind fun t582 => (if t582 = true then (if x12 = 0 then (if (x11.length : Int) = x13 then (if bt577.2.2 = 0 then (if bt577.2.1 = (x11.length : Int) then ((rickref07_Same.f k bt577.1 x8).bind fun t583 => (some t583)) else (some false)) else (some false)) else (some false)) else (some false)) else (some false))))
end
def ricklaw07_TimesEven.f (k : Nat) (a0 : Int) (a1 : Int) (a2 : Int) : Option (Bool) := ricklaw07_TimesEven.l0 k a1 (wrap64 (Int.tmod (IntKind.u64.wrap (a2)) 201)) ([] : List Int) a0 0
theorem ricklaw07_TimesEven.mono_l : ∀ k, (∀ y0 y1 y2 y3 y4, LeO (ricklaw07_TimesEven.l0 k y0 y1 y2 y3 y4) (ricklaw07_TimesEven.l0 (k + 1) y0 y1 y2 y3 y4)) ∧ (∀ y0 y1 y2 y3 y4, LeO (ricklaw07_TimesEven.j1 k y0 y1 y2 y3 y4) (ricklaw07_TimesEven.j1 (k + 1) y0 y1 y2 y3 y4))
  | 0 => ⟨fun _ _ _ _ _ r h => by simp [ricklaw07_TimesEven.l0] at h, fun _ _ _ _ _ r h => by simp [ricklaw07_TimesEven.j1] at h⟩
  | k + 1 => by
    obtain ⟨ih0, ih1⟩ := ricklaw07_TimesEven.mono_l k
    refine ⟨?_, ?_⟩
    · intro y0 y1 y2 y3 y4
      unfold ricklaw07_TimesEven.l0
      repeat' first
      | (with_reducible exact ih0 _ _ _ _ _)
      | (with_reducible exact ih1 _ _ _ _ _)
      | (with_reducible exact ricklaw07_puts.mono _)
      | (with_reducible exact rickref07_Same.mono _ _ _)
      | (with_reducible exact times_Get.mono _ _ _ _)
      | (with_reducible exact times_Put.mono _ _ _)
      | (with_reducible exact LeO.refl _)
      | (with_reducible exact LeO.none _)
      | (with_reducible refine LeO.ite ?_ ?_)
      | (with_reducible refine LeO.bind ?_ (fun _ => ?_))
      | exact ih0 _ _ _ _ _
      | exact ih1 _ _ _ _ _
      | exact ricklaw07_puts.mono _
      | exact rickref07_Same.mono _ _ _
      | exact times_Get.mono _ _ _ _
      | exact times_Put.mono _ _ _
      | exact LeO.none _
      | refine LeO.ite ?_ ?_
      | refine LeO.bind ?_ (fun _ => ?_)
    · intro y0 y1 y2 y3 y4
      unfold ricklaw07_TimesEven.j1
      repeat' first
      | (with_reducible exact ih0 _ _ _ _ _)
      | (with_reducible exact ih1 _ _ _ _ _)
      | (with_reducible exact ricklaw07_puts.mono _)
      | (with_reducible exact rickref07_Same.mono _ _ _)
      | (with_reducible exact times_Get.mono _ _ _ _)
      | (with_reducible exact times_Put.mono _ _ _)
      | (with_reducible exact LeO.refl _)
      | (with_reducible exact LeO.none _)
      | (with_reducible refine LeO.ite ?_ ?_)
      | (with_reducible refine LeO.bind ?_ (fun _ => ?_))
      | exact ih0 _ _ _ _ _
      | exact ih1 _ _ _ _ _
      | exact ricklaw07_puts.mono _
      | exact rickref07_Same.mono _ _ _
      | exact times_Get.mono _ _ _ _
      | exact times_Put.mono _ _ _
      | exact LeO.none _
      | refine LeO.ite ?_ ?_
      | refine LeO.bind ?_ (fun _ => ?_)
theorem ricklaw07_TimesEven.mono : ∀ a0 a1 a2 k, LeO (ricklaw07_TimesEven.f k a0 a1 a2) (ricklaw07_TimesEven.f (k + 1) a0 a1 a2) := by
  intro a0 a1 a2 k
  obtain ⟨ih0, ih1⟩ := ricklaw07_TimesEven.mono_l k
  unfold ricklaw07_TimesEven.f
  repeat' first
      | (with_reducible exact ih0 _ _ _ _ _)
      | (with_reducible exact ih1 _ _ _ _ _)
      | (with_reducible exact ricklaw07_puts.mono _)
      | (with_reducible exact rickref07_Same.mono _ _ _)
      | (with_reducible exact times_Get.mono _ _ _ _)
      | (with_reducible exact times_Put.mono _ _ _)
      | (with_reducible exact LeO.refl _)
      | (with_reducible exact LeO.none _)
      | (with_reducible refine LeO.ite ?_ ?_)
      | (with_reducible refine LeO.bind ?_ (fun _ => ?_))
      | exact ih0 _ _ _ _ _
      | exact ih1 _ _ _ _ _
      | exact ricklaw07_puts.mono _
      | exact rickref07_Same.mono _ _ _
      | exact times_Get.mono _ _ _ _
      | exact times_Put.mono _ _ _
      | exact LeO.none _
      | refine LeO.ite ?_ ?_
      | refine LeO.bind ?_ (fun _ => ?_)
set_option maxHeartbeats 8000000 in
set_option maxRecDepth 100000 in
theorem ricklaw07_TimesEven.calls (k : Nat) (a0 : Int) (a1 : Int) (a2 : Int) (r : Bool) (w : World) (h : ricklaw07_TimesEven.f k a0 a1 a2 = some r) :
    Calls Try.prog 15 #[.int .i64 a0, .int .i64 a1, .int .i64 a2] w fun e w' => e = .returned (.bool r) ∧ Below w.heap.size w w' := by
  have HB := Aside0.mk (Below.refl w.heap.size w)
  have H : (ricklaw07_TimesEven.l0 k a1 (wrap64 (Int.tmod (IntKind.u64.wrap (a2)) 201)) ([] : List Int) a0 0) = some r := h
  clear h
  have H' := Aside0.mk H
  clear H
  go_enter Try.func15, Try.ntmps15
  go_wp2
  go_loopg [8, 9, 10] k (fun kq v8 v9 v10 w' => ∃ (x8_1 : List Int) (x9_1 : Int) (x10_1 : Int), v9 = .int .i64 x9_1 ∧ v10 = .int .i64 x10_1 ∧ Aside0 (ricklaw07_TimesEven.l0 kq a1 (wrap64 (Int.tmod (IntKind.u64.wrap (a2)) 201)) x8_1 x9_1 x10_1 = some r) ∧ Aside0 (kq ≤ k) ∧ Aside0 (Kd.R (Kd.int .i64) 2 w' w.heap.size (fun _ => True) v8 x8_1) ∧ Aside0 (Below w.heap.size w w'))
  case atStart => exact ⟨(([] : List Int)), (a0), (0), (by first | rfl | (simp; done) | (simp [*]; done)), (by first | rfl | (simp; done) | (simp [*]; done)), H', ⟨Nat.le_refl _⟩, ⟨by first | exact Kd.R_nil _ _ _ _ _ | exact Kd.N_nil _ _ _ _ _ | exact Kd.V_nil _ _ _ _ _ | exact Kd.Q_nil _ _ _ _ _ | exact Kd.S_nil _ _ _ _ _⟩, ⟨by repeat (first | (with_reducible first | exact HB.out | apply below_alloc | apply pw_below_drewN | apply below_drew1) | exact HB.out)⟩⟩
  case round =>
    clear H'
    try clear c1
    try clear p2
    obtain ⟨x8_1, x9_1, x10_1, rfl, rfl, HA, HK1, HO_8, HB⟩ := hrel
    cases gk with
    | zero => exact absurd HA.out (by simp [ricklaw07_TimesEven.l0])
    | succ k1 =>
      have H := HA.out
      clear HA
      simp only [ricklaw07_TimesEven.l0] at H
      by_cases c4 : x10_1 < (wrap64 (Int.tmod (IntKind.u64.wrap (a2)) 201))
      · rw [if_pos c4] at H
        have c4b0 : decide (x10_1 < (wrap64 (Int.tmod (IntKind.u64.wrap (a2)) 201))) = true := decide_eq_true c4
        clear c4
        by_cases c5 : x8_1.length < 17592186044416
        · rw [if_pos c5] at H
          have LMc5 := Aside0.mk c5
          clear c5
          obtain ⟨y563, hy563⟩ : ∃ y_ : List Int, y_ = (x8_1 ++ [x9_1]) := ⟨_, rfl⟩
          replace H : (ricklaw07_TimesEven.l0 k1 a1 (wrap64 (Int.tmod (IntKind.u64.wrap (a2)) 201)) y563 (wrap64 (x9_1 + a1)) (wrap64 (x10_1 + 1))) = some r := by first | (rw [hy563]; with_reducible exact H) | (have H2_ := (Option.bind_some _ _).symm.trans H; rw [hy563]; with_reducible exact H2_) | (have H2_ := (Option.bind_some _ _).symm.trans H; with_reducible exact H2_) | with_reducible exact H | (rw [hy563]; exact H) | exact H
          have Ny563 := Aside0.mk hy563
          clear hy563
          have H' := Aside0.mk H
          clear H
          go_wp2_with (first | ((with_reducible refine gate_builtin (b := .append) (xs := #[.tmp 27, .tmp 29]) rfl ?_); (try (refine gate_guard (by rfl) ?_; dsimp only)); at_builtin; refine Kd.R_append (Kd.int .i64) (w0 := w) w.heap.size rfl (.tmp 27) (.tmp 29) 72 2 (.int .i64 0) 8 rfl Try.underlying72 info2 rfl (by decide) (by omega) u8 x8_1 x9_1 [.int .i64 x9_1] (fun _ => True) (fun _ => False) rfl rfl ?aP (fun _ hk => hk.elim) ?aF ?aO ?aB ?aS ?aL ?_; (case aP => exact rfl); (case aB => exact (by repeat (first | (with_reducible first | exact HB.out | apply below_alloc | apply pw_below_drewN | apply below_drew1) | exact HB.out))); (case aF => exact (fun _ _ => trivial)); (case aO => exact (by (with_reducible repeat (first | apply Kd.R_alloc | apply Kd.R_drewN | apply Kd.R_drew)); exact HO_8.out)); (case aS => exact (below_size (by repeat (first | (with_reducible first | exact HB.out | apply below_alloc | apply pw_below_drewN | apply below_drew1) | exact HB.out)))); (case aL => have := LMc5.out; omega); intro v564 w6 ho hb hg hat; rw [← Ny563.out] at ho; have n0_ := Aside0.mk (hb); have n1_ := Aside0.mk (ho); clear HB; clear HO_8; have HB := n0_; have HO565 := n1_; clear n0_ n1_; clear ho hb hg hat))
          go_roundg k1
          case measure => have := HK1.out; omega
          case rel => exact ⟨(y563), (wrap64 (x9_1 + a1)), (wrap64 (x10_1 + 1)), (by first | rfl | (simp; done) | (simp [*]; done)), (by first | rfl | (simp; done) | (simp [*]; done)), H', ⟨by have := HK1.out; omega⟩, ⟨by (with_reducible repeat (first | apply Kd.R_alloc | apply Kd.R_drewN | apply Kd.R_drew)); exact HO565.out⟩, ⟨by repeat (first | (with_reducible first | exact HB.out | apply below_alloc | apply pw_below_drewN | apply below_drew1) | exact HB.out)⟩⟩
        · rw [if_neg c5] at H
          exact absurd H (by simp)
      · rw [if_neg c4] at H
        have c4b0 : decide (x10_1 < (wrap64 (Int.tmod (IntKind.u64.wrap (a2)) 201))) = false := decide_eq_false c4
        clear c4
        replace H := Option.bind_eq_some_iff.mp H
        obtain ⟨⟨t566, t567⟩, A70, H⟩ := H
        replace H : (if (wrap64 (Int.tmod (IntKind.u64.wrap (a2)) 201)) = 1 then (ricklaw07_TimesEven.j1 k1 (wrap64 (Int.tmod (IntKind.u64.wrap (a2)) 201)) x8_1 t566 t567 8) else (ricklaw07_TimesEven.j1 k1 (wrap64 (Int.tmod (IntKind.u64.wrap (a2)) 201)) x8_1 t566 t567 0)) = some r := H
        have A7 := Aside0.mk A70
        clear A70
        have HC8 := Aside0.mk H
        clear H
        obtain ⟨Ao9, co9, eo9⟩ := Kd.R_slice HO_8.out
        subst eo9
        go_upto_if 40 with (first | ((with_reducible refine gate_callee (f := 46) rfl ?_); refine goesL_ (some 36) rfl rfl Try.func46 (by kernel_rfl) rfl #[.slice Ao9 x8_1.length co9, .int .i64 2] rfl (by (try simp only [List.map_toArray, List.map_cons, List.map_nil]); first | done | rfl | (simp only [List.length_drop, List.length_take]; rfl)) ?_; (with_reducible refine (times_Put.calls k1 _ _ x8_1 2 t566 t567 _ ?side1 ?side2 A7.out).mono ?_); (case side1 => repeat (first | exact (Kd.R_reads' HO_8.out).2.2 | (with_reducible refine Kd.C_alloc ?_ _) | (with_reducible refine Kd.C_drewN ?_ _) | (with_reducible refine Kd.C_drew ?_))); (case side2 => exact (Kd.R_reads' HO_8.out).2.1); rintro e w10 ⟨v568, rfl, ho0, hb⟩; refine ⟨_, rfl, ?_⟩; have n0_ := Aside0.mk (Kd.R_below (by (with_reducible repeat (first | apply Kd.R_alloc | apply Kd.R_drewN | apply Kd.R_drew)); exact HO_8.out) hb); have n1_ := Aside0.mk (Kd.R_lower ho0 (below_size (by repeat (first | (with_reducible first | exact HB.out | apply below_alloc | apply pw_below_drewN | apply below_drew1) | exact HB.out)))); have n2_ := Aside0.mk (below_step (by repeat (first | (with_reducible first | exact HB.out | apply below_alloc | apply pw_below_drewN | apply below_drew1) | exact HB.out)) hb); clear HO_8; clear HB; have HO_8 := n0_; have HO569 := n1_; have HB := n2_; clear n0_ n1_ n2_; (try clear hb); (try clear hb2); (try clear hk); (try clear hi); (try clear ho0)))
        (try simp only [Act.put, List.setIfInBounds_toArray, List.set_cons_zero, List.set_cons_succ])
        go_cut [13] (fun v13 wc => ∃ (kq : Nat) (x13_7 : Int), v13 = .int .i64 x13_7 ∧ Aside0 (ricklaw07_TimesEven.j1 kq (wrap64 (Int.tmod (IntKind.u64.wrap (a2)) 201)) x8_1 t566 t567 x13_7 = some r) ∧ Aside0 (kq ≤ k1) ∧ Aside0 (Kd.R (Kd.int .i64) 2 wc w.heap.size (fun _ => True) (.slice Ao9 x8_1.length co9) x8_1) ∧ Aside0 (Kd.R (Kd.int .u8) 5 wc w.heap.size (fun _ => True) v568 t566) ∧ Aside0 (Below w.heap.size w wc))
        case first =>
          have H := HC8.out
          clear HC8
          by_cases c11 : (wrap64 (Int.tmod (IntKind.u64.wrap (a2)) 201)) = 1
          · rw [if_pos c11] at H
            have c11b0 : ((wrap64 (Int.tmod (IntKind.u64.wrap (a2)) 201)) == 1) = true := beq_iff_eq.mpr c11
            have c11b1 : ((wrap64 (Int.tmod (IntKind.u64.wrap (a2)) 201)) != 1) = false := bne_eq_false_iff_eq.mpr c11
            clear c11
            (first | rw [c11b0] | (simp only [i64_w, i32_w]; rw [c11b0]) | skip)
            have H' := Aside0.mk H
            clear H
            go_wp2
            go_meet
            case rel => exact ⟨_, (8), (by first | rfl | (simp; done) | (simp [*]; done)), H', ⟨by have := HK1.out; first | omega | exact Nat.le_refl _⟩, ⟨by (with_reducible repeat (first | apply Kd.R_alloc | apply Kd.R_drewN | apply Kd.R_drew)); exact HO_8.out⟩, ⟨by (with_reducible repeat (first | apply Kd.R_alloc | apply Kd.R_drewN | apply Kd.R_drew)); exact HO569.out⟩, ⟨by repeat (first | (with_reducible first | exact HB.out | apply below_alloc | apply pw_below_drewN | apply below_drew1) | exact HB.out)⟩⟩
          · rw [if_neg c11] at H
            have c11b0 : ((wrap64 (Int.tmod (IntKind.u64.wrap (a2)) 201)) == 1) = false := beq_eq_false_iff_ne.mpr c11
            have c11b1 : ((wrap64 (Int.tmod (IntKind.u64.wrap (a2)) 201)) != 1) = true := bne_iff_ne.mpr c11
            (first | rw [c11b0] | (simp only [i64_w, i32_w]; rw [c11b0]) | skip)
            have H' := Aside0.mk H
            clear H
            go_wp2
            go_meet
            case rel => exact ⟨_, (0), (by first | rfl | (simp; done) | (simp [*]; done)), H', ⟨by have := HK1.out; first | omega | exact Nat.le_refl _⟩, ⟨by (with_reducible repeat (first | apply Kd.R_alloc | apply Kd.R_drewN | apply Kd.R_drew)); exact HO_8.out⟩, ⟨by (with_reducible repeat (first | apply Kd.R_alloc | apply Kd.R_drewN | apply Kd.R_drew)); exact HO569.out⟩, ⟨by repeat (first | (with_reducible first | exact HB.out | apply below_alloc | apply pw_below_drewN | apply below_drew1) | exact HB.out)⟩⟩
        case rest =>
          clear HC8
          try clear c1
          try clear p2
          try clear c4
          try clear c4b0
          try clear c5
          try clear p6
          try clear c11
          try clear c11b0
          try clear c11b1
          try clear p2
          obtain ⟨kq, x13_7, rfl, HA, HJ7, HO_8, HO_11, HB⟩ := hcut
          cases kq with
          | zero => exact absurd HA.out (by simp [ricklaw07_TimesEven.j1])
          | succ kj7 =>
            have H := HA.out
            clear HA
            simp only [ricklaw07_TimesEven.j1] at H
            by_cases c12 : (wrap64 (Int.tmod (IntKind.u64.wrap (a2)) 201)) > 1
            · rw [if_pos c12] at H
              have c12b0 : decide (1 < (wrap64 (Int.tmod (IntKind.u64.wrap (a2)) 201))) = true := decide_eq_true c12
              clear c12
              replace H := Option.bind_eq_some_iff.mp H
              obtain ⟨⟨t570, t571, t572⟩, A130, H⟩ := H
              replace H : ((ricklaw07_puts.f kj7).bind fun t575 => (if t575 = true then (if t567 = 0 then (if (t566.length : Int) = (wrap64 (16 + (wrap64 (Int.tdiv (wrap64 ((wrap64 ((wrap64 (Int.tmod (IntKind.u64.wrap (a2)) 201)) - 2)) + 7)) 8)))) then (if t572 = 0 then (if t571 = (t566.length : Int) then ((rickref07_Same.f kj7 t570 x8_1).bind fun t576 => (some t576)) else (some false)) else (some false)) else (some false)) else (some false)) else (some false))) = some r := H
              have A13 := Aside0.mk A130
              clear A130
              replace H := Option.bind_eq_some_iff.mp H
              obtain ⟨t575, A140, H⟩ := H
              replace H : (if t575 = true then (if t567 = 0 then (if (t566.length : Int) = (wrap64 (16 + (wrap64 (Int.tdiv (wrap64 ((wrap64 ((wrap64 (Int.tmod (IntKind.u64.wrap (a2)) 201)) - 2)) + 7)) 8)))) then (if t572 = 0 then (if t571 = (t566.length : Int) then ((rickref07_Same.f kj7 t570 x8_1).bind fun t576 => (some t576)) else (some false)) else (some false)) else (some false)) else (some false)) else (some false)) = some r := H
              have A14 := Aside0.mk A140
              clear A140
              by_cases c15 : t575 = true
              · subst c15
                have H1 : (if t567 = 0 then (if (t566.length : Int) = (wrap64 (16 + (wrap64 (Int.tdiv (wrap64 ((wrap64 ((wrap64 (Int.tmod (IntKind.u64.wrap (a2)) 201)) - 2)) + 7)) 8)))) then (if t572 = 0 then (if t571 = (t566.length : Int) then ((rickref07_Same.f kj7 t570 x8_1).bind fun t576 => (some t576)) else (some false)) else (some false)) else (some false)) else (some false)) = some r := by rw [if_pos rfl] at H; exact H
                clear H
                have H := H1
                clear H1
                by_cases c16 : t567 = 0
                · rw [if_pos c16] at H
                  have c16b0 : (t567 == 0) = true := beq_iff_eq.mpr c16
                  have c16b1 : (t567 != 0) = false := bne_eq_false_iff_eq.mpr c16
                  clear c16
                  by_cases c17 : (t566.length : Int) = (wrap64 (16 + (wrap64 (Int.tdiv (wrap64 ((wrap64 ((wrap64 (Int.tmod (IntKind.u64.wrap (a2)) 201)) - 2)) + 7)) 8))))
                  · rw [if_pos c17] at H
                    have c17b0 : ((t566.length : Int) == (wrap64 (16 + (wrap64 (Int.tdiv (wrap64 ((wrap64 ((wrap64 (Int.tmod (IntKind.u64.wrap (a2)) 201)) - 2)) + 7)) 8))))) = true := beq_iff_eq.mpr c17
                    have c17b1 : ((t566.length : Int) != (wrap64 (16 + (wrap64 (Int.tdiv (wrap64 ((wrap64 ((wrap64 (Int.tmod (IntKind.u64.wrap (a2)) 201)) - 2)) + 7)) 8))))) = false := bne_eq_false_iff_eq.mpr c17
                    clear c17
                    by_cases c18 : t572 = 0
                    · rw [if_pos c18] at H
                      have c18b0 : (t572 == 0) = true := beq_iff_eq.mpr c18
                      have c18b1 : (t572 != 0) = false := bne_eq_false_iff_eq.mpr c18
                      clear c18
                      by_cases c19 : t571 = (t566.length : Int)
                      · rw [if_pos c19] at H
                        have c19b0 : (t571 == (t566.length : Int)) = true := beq_iff_eq.mpr c19
                        have c19b1 : (t571 != (t566.length : Int)) = false := bne_eq_false_iff_eq.mpr c19
                        clear c19
                        replace H := Option.bind_eq_some_iff.mp H
                        obtain ⟨t576, A200, H⟩ := H
                        replace H : (some t576) = some r := H
                        have A20 := Aside0.mk A200
                        clear A200
                        obtain rfl := Option.some.inj H
                        obtain ⟨Ao21, co21, eo21⟩ := Kd.R_slice HO_11.out
                        subst eo21
                        go_wp2_with (first | ((with_reducible refine gate_callee (f := 47) rfl ?_); refine goesL_ (some 51) rfl rfl Try.func47 (by kernel_rfl) rfl #[.slice Ao21 t566.length co21, .int .i64 (wrap64 (Int.tmod (IntKind.u64.wrap (a2)) 201)), .int .i64 2] rfl (by (try simp only [List.map_toArray, List.map_cons, List.map_nil]); first | done | rfl | (simp only [List.length_drop, List.length_take]; rfl)) ?_; (with_reducible refine (times_Get.calls kj7 _ _ t566 (wrap64 (Int.tmod (IntKind.u64.wrap (a2)) 201)) 2 t570 t571 t572 _ ?side1 ?side2 A13.out).mono ?_); (case side1 => repeat (first | exact (Kd.R_reads' HO_11.out).2.2 | (with_reducible refine Kd.C_alloc ?_ _) | (with_reducible refine Kd.C_drewN ?_ _) | (with_reducible refine Kd.C_drew ?_))); (case side2 => exact (Kd.R_reads' HO_11.out).2.1); rintro e w22 ⟨v573, rfl, ho0, hb⟩; refine ⟨_, rfl, ?_⟩; have n0_ := Aside0.mk (Kd.R_elder' (by (with_reducible repeat (first | apply Kd.R_alloc | apply Kd.R_drewN | apply Kd.R_drew)); exact HO_8.out) (Kd.R_base ho0) hb); have n1_ := Aside0.mk (Kd.R_below (by (with_reducible repeat (first | apply Kd.R_alloc | apply Kd.R_drewN | apply Kd.R_drew)); exact HO_11.out) hb); have n2_ := Aside0.mk (Kd.R_lower (Kd.R_new' ho0 (Kd.R_lt (by (with_reducible repeat (first | apply Kd.R_alloc | apply Kd.R_drewN | apply Kd.R_drew)); exact HO_8.out))) (below_size (by repeat (first | (with_reducible first | exact HB.out | apply below_alloc | apply pw_below_drewN | apply below_drew1) | exact HB.out)))); have n3_ := Aside0.mk (below_step (by repeat (first | (with_reducible first | exact HB.out | apply below_alloc | apply pw_below_drewN | apply below_drew1) | exact HB.out)) hb); clear HO_8; clear HO_11; clear HB; have HO_8 := n0_; have HO_11 := n1_; have HO574 := n2_; have HB := n3_; clear n0_ n1_ n2_ n3_; (try clear hb); (try clear hb2); (try clear hk); (try clear hi); (try clear ho0)) | ((with_reducible refine gate_callee (f := 48) rfl ?_); refine goesL_ (some 55) rfl rfl Try.func48 (by kernel_rfl) rfl #[] rfl (by (try simp only [List.map_toArray, List.map_cons, List.map_nil]); first | done | rfl | (simp only [List.length_drop, List.length_take]; rfl)) ?_; (with_reducible refine (ricklaw07_puts.calls kj7  true _ A14.out).mono ?_); rintro e w23 ⟨rfl, hb⟩; refine ⟨_, rfl, ?_⟩; have n0_ := Aside0.mk (Kd.R_below (by (with_reducible repeat (first | apply Kd.R_alloc | apply Kd.R_drewN | apply Kd.R_drew)); exact HO_8.out) hb); have n1_ := Aside0.mk (Kd.R_below (by (with_reducible repeat (first | apply Kd.R_alloc | apply Kd.R_drewN | apply Kd.R_drew)); exact HO_11.out) hb); have n2_ := Aside0.mk (Kd.R_below (by (with_reducible repeat (first | apply Kd.R_alloc | apply Kd.R_drewN | apply Kd.R_drew)); exact HO574.out) hb); have n3_ := Aside0.mk (below_step (by repeat (first | (with_reducible first | exact HB.out | apply below_alloc | apply pw_below_drewN | apply below_drew1) | exact HB.out)) hb); clear HO_8; clear HO_11; clear HO574; clear HB; have HO_8 := n0_; have HO_11 := n1_; have HO574 := n2_; have HB := n3_; clear n0_ n1_ n2_ n3_; (try clear hb); (try clear hb2); (try clear hk); (try clear hi); obtain ⟨Ao24, co24, eo24⟩ := Kd.R_slice HO574.out; subst eo24) | (go_at_call 49; (with_reducible refine (rickref07_Same.calls kj7 _ _ t570 _ _ x8_1 t576 _ ?side1 ?side2 ?side3 ?side4 A20.out).mono ?_); (case side1 => repeat (first | exact (Kd.R_reads' HO574.out).2.2 | (with_reducible refine Kd.C_alloc ?_ _) | (with_reducible refine Kd.C_drewN ?_ _) | (with_reducible refine Kd.C_drew ?_))); (case side2 => exact (Kd.R_reads' HO574.out).2.1); (case side3 => repeat (first | exact (Kd.R_reads' HO_8.out).2.2 | (with_reducible refine Kd.C_alloc ?_ _) | (with_reducible refine Kd.C_drewN ?_ _) | (with_reducible refine Kd.C_drew ?_))); (case side4 => exact (Kd.R_reads' HO_8.out).2.1); rintro e w' ⟨rfl, ⟨nd, rfl⟩⟩))
                        go_ret
                        exact ⟨by first | rfl | (simp [errW_none, errW_some] <;> rfl) | (simp [*, errW_none, errW_some] <;> rfl), by repeat (first | (with_reducible first | exact HB.out | apply below_alloc | apply pw_below_drewN | apply below_drew1) | exact HB.out)⟩
                      · rw [if_neg c19] at H
                        have c19b0 : (t571 == (t566.length : Int)) = false := beq_eq_false_iff_ne.mpr c19
                        have c19b1 : (t571 != (t566.length : Int)) = true := bne_iff_ne.mpr c19
                        obtain rfl := Option.some.inj H
                        obtain ⟨Ao25, co25, eo25⟩ := Kd.R_slice HO_11.out
                        subst eo25
                        go_wp2_with (first | ((with_reducible refine gate_callee (f := 47) rfl ?_); refine goesL_ (some 51) rfl rfl Try.func47 (by kernel_rfl) rfl #[.slice Ao25 t566.length co25, .int .i64 (wrap64 (Int.tmod (IntKind.u64.wrap (a2)) 201)), .int .i64 2] rfl (by (try simp only [List.map_toArray, List.map_cons, List.map_nil]); first | done | rfl | (simp only [List.length_drop, List.length_take]; rfl)) ?_; (with_reducible refine (times_Get.calls kj7 _ _ t566 (wrap64 (Int.tmod (IntKind.u64.wrap (a2)) 201)) 2 t570 t571 t572 _ ?side1 ?side2 A13.out).mono ?_); (case side1 => repeat (first | exact (Kd.R_reads' HO_11.out).2.2 | (with_reducible refine Kd.C_alloc ?_ _) | (with_reducible refine Kd.C_drewN ?_ _) | (with_reducible refine Kd.C_drew ?_))); (case side2 => exact (Kd.R_reads' HO_11.out).2.1); rintro e w26 ⟨v573, rfl, ho0, hb⟩; refine ⟨_, rfl, ?_⟩; have n0_ := Aside0.mk (Kd.R_elder' (by (with_reducible repeat (first | apply Kd.R_alloc | apply Kd.R_drewN | apply Kd.R_drew)); exact HO_8.out) (Kd.R_base ho0) hb); have n1_ := Aside0.mk (Kd.R_below (by (with_reducible repeat (first | apply Kd.R_alloc | apply Kd.R_drewN | apply Kd.R_drew)); exact HO_11.out) hb); have n2_ := Aside0.mk (Kd.R_lower (Kd.R_new' ho0 (Kd.R_lt (by (with_reducible repeat (first | apply Kd.R_alloc | apply Kd.R_drewN | apply Kd.R_drew)); exact HO_8.out))) (below_size (by repeat (first | (with_reducible first | exact HB.out | apply below_alloc | apply pw_below_drewN | apply below_drew1) | exact HB.out)))); have n3_ := Aside0.mk (below_step (by repeat (first | (with_reducible first | exact HB.out | apply below_alloc | apply pw_below_drewN | apply below_drew1) | exact HB.out)) hb); clear HO_8; clear HO_11; clear HB; have HO_8 := n0_; have HO_11 := n1_; have HO574 := n2_; have HB := n3_; clear n0_ n1_ n2_ n3_; (try clear hb); (try clear hb2); (try clear hk); (try clear hi); (try clear ho0)) | ((with_reducible refine gate_callee (f := 48) rfl ?_); refine goesL_ (some 55) rfl rfl Try.func48 (by kernel_rfl) rfl #[] rfl (by (try simp only [List.map_toArray, List.map_cons, List.map_nil]); first | done | rfl | (simp only [List.length_drop, List.length_take]; rfl)) ?_; (with_reducible refine (ricklaw07_puts.calls kj7  true _ A14.out).mono ?_); rintro e w27 ⟨rfl, hb⟩; refine ⟨_, rfl, ?_⟩; have n0_ := Aside0.mk (Kd.R_below (by (with_reducible repeat (first | apply Kd.R_alloc | apply Kd.R_drewN | apply Kd.R_drew)); exact HO_8.out) hb); have n1_ := Aside0.mk (Kd.R_below (by (with_reducible repeat (first | apply Kd.R_alloc | apply Kd.R_drewN | apply Kd.R_drew)); exact HO_11.out) hb); have n2_ := Aside0.mk (Kd.R_below (by (with_reducible repeat (first | apply Kd.R_alloc | apply Kd.R_drewN | apply Kd.R_drew)); exact HO574.out) hb); have n3_ := Aside0.mk (below_step (by repeat (first | (with_reducible first | exact HB.out | apply below_alloc | apply pw_below_drewN | apply below_drew1) | exact HB.out)) hb); clear HO_8; clear HO_11; clear HO574; clear HB; have HO_8 := n0_; have HO_11 := n1_; have HO574 := n2_; have HB := n3_; clear n0_ n1_ n2_ n3_; (try clear hb); (try clear hb2); (try clear hk); (try clear hi)))
                        go_ret
                        exact ⟨by first | rfl | (simp [errW_none, errW_some] <;> rfl) | (simp [*, errW_none, errW_some] <;> rfl), by repeat (first | (with_reducible first | exact HB.out | apply below_alloc | apply pw_below_drewN | apply below_drew1) | exact HB.out)⟩
                    · rw [if_neg c18] at H
                      have c18b0 : (t572 == 0) = false := beq_eq_false_iff_ne.mpr c18
                      have c18b1 : (t572 != 0) = true := bne_iff_ne.mpr c18
                      obtain rfl := Option.some.inj H
                      obtain ⟨Ao28, co28, eo28⟩ := Kd.R_slice HO_11.out
                      subst eo28
                      go_wp2_with (first | ((with_reducible refine gate_callee (f := 47) rfl ?_); refine goesL_ (some 51) rfl rfl Try.func47 (by kernel_rfl) rfl #[.slice Ao28 t566.length co28, .int .i64 (wrap64 (Int.tmod (IntKind.u64.wrap (a2)) 201)), .int .i64 2] rfl (by (try simp only [List.map_toArray, List.map_cons, List.map_nil]); first | done | rfl | (simp only [List.length_drop, List.length_take]; rfl)) ?_; (with_reducible refine (times_Get.calls kj7 _ _ t566 (wrap64 (Int.tmod (IntKind.u64.wrap (a2)) 201)) 2 t570 t571 t572 _ ?side1 ?side2 A13.out).mono ?_); (case side1 => repeat (first | exact (Kd.R_reads' HO_11.out).2.2 | (with_reducible refine Kd.C_alloc ?_ _) | (with_reducible refine Kd.C_drewN ?_ _) | (with_reducible refine Kd.C_drew ?_))); (case side2 => exact (Kd.R_reads' HO_11.out).2.1); rintro e w29 ⟨v573, rfl, ho0, hb⟩; refine ⟨_, rfl, ?_⟩; have n0_ := Aside0.mk (Kd.R_elder' (by (with_reducible repeat (first | apply Kd.R_alloc | apply Kd.R_drewN | apply Kd.R_drew)); exact HO_8.out) (Kd.R_base ho0) hb); have n1_ := Aside0.mk (Kd.R_below (by (with_reducible repeat (first | apply Kd.R_alloc | apply Kd.R_drewN | apply Kd.R_drew)); exact HO_11.out) hb); have n2_ := Aside0.mk (Kd.R_lower (Kd.R_new' ho0 (Kd.R_lt (by (with_reducible repeat (first | apply Kd.R_alloc | apply Kd.R_drewN | apply Kd.R_drew)); exact HO_8.out))) (below_size (by repeat (first | (with_reducible first | exact HB.out | apply below_alloc | apply pw_below_drewN | apply below_drew1) | exact HB.out)))); have n3_ := Aside0.mk (below_step (by repeat (first | (with_reducible first | exact HB.out | apply below_alloc | apply pw_below_drewN | apply below_drew1) | exact HB.out)) hb); clear HO_8; clear HO_11; clear HB; have HO_8 := n0_; have HO_11 := n1_; have HO574 := n2_; have HB := n3_; clear n0_ n1_ n2_ n3_; (try clear hb); (try clear hb2); (try clear hk); (try clear hi); (try clear ho0)) | ((with_reducible refine gate_callee (f := 48) rfl ?_); refine goesL_ (some 55) rfl rfl Try.func48 (by kernel_rfl) rfl #[] rfl (by (try simp only [List.map_toArray, List.map_cons, List.map_nil]); first | done | rfl | (simp only [List.length_drop, List.length_take]; rfl)) ?_; (with_reducible refine (ricklaw07_puts.calls kj7  true _ A14.out).mono ?_); rintro e w30 ⟨rfl, hb⟩; refine ⟨_, rfl, ?_⟩; have n0_ := Aside0.mk (Kd.R_below (by (with_reducible repeat (first | apply Kd.R_alloc | apply Kd.R_drewN | apply Kd.R_drew)); exact HO_8.out) hb); have n1_ := Aside0.mk (Kd.R_below (by (with_reducible repeat (first | apply Kd.R_alloc | apply Kd.R_drewN | apply Kd.R_drew)); exact HO_11.out) hb); have n2_ := Aside0.mk (Kd.R_below (by (with_reducible repeat (first | apply Kd.R_alloc | apply Kd.R_drewN | apply Kd.R_drew)); exact HO574.out) hb); have n3_ := Aside0.mk (below_step (by repeat (first | (with_reducible first | exact HB.out | apply below_alloc | apply pw_below_drewN | apply below_drew1) | exact HB.out)) hb); clear HO_8; clear HO_11; clear HO574; clear HB; have HO_8 := n0_; have HO_11 := n1_; have HO574 := n2_; have HB := n3_; clear n0_ n1_ n2_ n3_; (try clear hb); (try clear hb2); (try clear hk); (try clear hi)))
                      go_ret
                      exact ⟨by first | rfl | (simp [errW_none, errW_some] <;> rfl) | (simp [*, errW_none, errW_some] <;> rfl), by repeat (first | (with_reducible first | exact HB.out | apply below_alloc | apply pw_below_drewN | apply below_drew1) | exact HB.out)⟩
                  · rw [if_neg c17] at H
                    have c17b0 : ((t566.length : Int) == (wrap64 (16 + (wrap64 (Int.tdiv (wrap64 ((wrap64 ((wrap64 (Int.tmod (IntKind.u64.wrap (a2)) 201)) - 2)) + 7)) 8))))) = false := beq_eq_false_iff_ne.mpr c17
                    have c17b1 : ((t566.length : Int) != (wrap64 (16 + (wrap64 (Int.tdiv (wrap64 ((wrap64 ((wrap64 (Int.tmod (IntKind.u64.wrap (a2)) 201)) - 2)) + 7)) 8))))) = true := bne_iff_ne.mpr c17
                    obtain rfl := Option.some.inj H
                    obtain ⟨Ao31, co31, eo31⟩ := Kd.R_slice HO_11.out
                    subst eo31
                    go_wp2_with (first | ((with_reducible refine gate_callee (f := 47) rfl ?_); refine goesL_ (some 51) rfl rfl Try.func47 (by kernel_rfl) rfl #[.slice Ao31 t566.length co31, .int .i64 (wrap64 (Int.tmod (IntKind.u64.wrap (a2)) 201)), .int .i64 2] rfl (by (try simp only [List.map_toArray, List.map_cons, List.map_nil]); first | done | rfl | (simp only [List.length_drop, List.length_take]; rfl)) ?_; (with_reducible refine (times_Get.calls kj7 _ _ t566 (wrap64 (Int.tmod (IntKind.u64.wrap (a2)) 201)) 2 t570 t571 t572 _ ?side1 ?side2 A13.out).mono ?_); (case side1 => repeat (first | exact (Kd.R_reads' HO_11.out).2.2 | (with_reducible refine Kd.C_alloc ?_ _) | (with_reducible refine Kd.C_drewN ?_ _) | (with_reducible refine Kd.C_drew ?_))); (case side2 => exact (Kd.R_reads' HO_11.out).2.1); rintro e w32 ⟨v573, rfl, ho0, hb⟩; refine ⟨_, rfl, ?_⟩; have n0_ := Aside0.mk (Kd.R_elder' (by (with_reducible repeat (first | apply Kd.R_alloc | apply Kd.R_drewN | apply Kd.R_drew)); exact HO_8.out) (Kd.R_base ho0) hb); have n1_ := Aside0.mk (Kd.R_below (by (with_reducible repeat (first | apply Kd.R_alloc | apply Kd.R_drewN | apply Kd.R_drew)); exact HO_11.out) hb); have n2_ := Aside0.mk (Kd.R_lower (Kd.R_new' ho0 (Kd.R_lt (by (with_reducible repeat (first | apply Kd.R_alloc | apply Kd.R_drewN | apply Kd.R_drew)); exact HO_8.out))) (below_size (by repeat (first | (with_reducible first | exact HB.out | apply below_alloc | apply pw_below_drewN | apply below_drew1) | exact HB.out)))); have n3_ := Aside0.mk (below_step (by repeat (first | (with_reducible first | exact HB.out | apply below_alloc | apply pw_below_drewN | apply below_drew1) | exact HB.out)) hb); clear HO_8; clear HO_11; clear HB; have HO_8 := n0_; have HO_11 := n1_; have HO574 := n2_; have HB := n3_; clear n0_ n1_ n2_ n3_; (try clear hb); (try clear hb2); (try clear hk); (try clear hi); (try clear ho0)) | ((with_reducible refine gate_callee (f := 48) rfl ?_); refine goesL_ (some 55) rfl rfl Try.func48 (by kernel_rfl) rfl #[] rfl (by (try simp only [List.map_toArray, List.map_cons, List.map_nil]); first | done | rfl | (simp only [List.length_drop, List.length_take]; rfl)) ?_; (with_reducible refine (ricklaw07_puts.calls kj7  true _ A14.out).mono ?_); rintro e w33 ⟨rfl, hb⟩; refine ⟨_, rfl, ?_⟩; have n0_ := Aside0.mk (Kd.R_below (by (with_reducible repeat (first | apply Kd.R_alloc | apply Kd.R_drewN | apply Kd.R_drew)); exact HO_8.out) hb); have n1_ := Aside0.mk (Kd.R_below (by (with_reducible repeat (first | apply Kd.R_alloc | apply Kd.R_drewN | apply Kd.R_drew)); exact HO_11.out) hb); have n2_ := Aside0.mk (Kd.R_below (by (with_reducible repeat (first | apply Kd.R_alloc | apply Kd.R_drewN | apply Kd.R_drew)); exact HO574.out) hb); have n3_ := Aside0.mk (below_step (by repeat (first | (with_reducible first | exact HB.out | apply below_alloc | apply pw_below_drewN | apply below_drew1) | exact HB.out)) hb); clear HO_8; clear HO_11; clear HO574; clear HB; have HO_8 := n0_; have HO_11 := n1_; have HO574 := n2_; have HB := n3_; clear n0_ n1_ n2_ n3_; (try clear hb); (try clear hb2); (try clear hk); (try clear hi)))
                    go_ret
                    exact ⟨by first | rfl | (simp [errW_none, errW_some] <;> rfl) | (simp [*, errW_none, errW_some] <;> rfl), by repeat (first | (with_reducible first | exact HB.out | apply below_alloc | apply pw_below_drewN | apply below_drew1) | exact HB.out)⟩
                · rw [if_neg c16] at H
                  have c16b0 : (t567 == 0) = false := beq_eq_false_iff_ne.mpr c16
                  have c16b1 : (t567 != 0) = true := bne_iff_ne.mpr c16
                  obtain rfl := Option.some.inj H
                  obtain ⟨Ao34, co34, eo34⟩ := Kd.R_slice HO_11.out
                  subst eo34
                  go_wp2_with (first | ((with_reducible refine gate_callee (f := 47) rfl ?_); refine goesL_ (some 51) rfl rfl Try.func47 (by kernel_rfl) rfl #[.slice Ao34 t566.length co34, .int .i64 (wrap64 (Int.tmod (IntKind.u64.wrap (a2)) 201)), .int .i64 2] rfl (by (try simp only [List.map_toArray, List.map_cons, List.map_nil]); first | done | rfl | (simp only [List.length_drop, List.length_take]; rfl)) ?_; (with_reducible refine (times_Get.calls kj7 _ _ t566 (wrap64 (Int.tmod (IntKind.u64.wrap (a2)) 201)) 2 t570 t571 t572 _ ?side1 ?side2 A13.out).mono ?_); (case side1 => repeat (first | exact (Kd.R_reads' HO_11.out).2.2 | (with_reducible refine Kd.C_alloc ?_ _) | (with_reducible refine Kd.C_drewN ?_ _) | (with_reducible refine Kd.C_drew ?_))); (case side2 => exact (Kd.R_reads' HO_11.out).2.1); rintro e w35 ⟨v573, rfl, ho0, hb⟩; refine ⟨_, rfl, ?_⟩; have n0_ := Aside0.mk (Kd.R_elder' (by (with_reducible repeat (first | apply Kd.R_alloc | apply Kd.R_drewN | apply Kd.R_drew)); exact HO_8.out) (Kd.R_base ho0) hb); have n1_ := Aside0.mk (Kd.R_below (by (with_reducible repeat (first | apply Kd.R_alloc | apply Kd.R_drewN | apply Kd.R_drew)); exact HO_11.out) hb); have n2_ := Aside0.mk (Kd.R_lower (Kd.R_new' ho0 (Kd.R_lt (by (with_reducible repeat (first | apply Kd.R_alloc | apply Kd.R_drewN | apply Kd.R_drew)); exact HO_8.out))) (below_size (by repeat (first | (with_reducible first | exact HB.out | apply below_alloc | apply pw_below_drewN | apply below_drew1) | exact HB.out)))); have n3_ := Aside0.mk (below_step (by repeat (first | (with_reducible first | exact HB.out | apply below_alloc | apply pw_below_drewN | apply below_drew1) | exact HB.out)) hb); clear HO_8; clear HO_11; clear HB; have HO_8 := n0_; have HO_11 := n1_; have HO574 := n2_; have HB := n3_; clear n0_ n1_ n2_ n3_; (try clear hb); (try clear hb2); (try clear hk); (try clear hi); (try clear ho0)) | ((with_reducible refine gate_callee (f := 48) rfl ?_); refine goesL_ (some 55) rfl rfl Try.func48 (by kernel_rfl) rfl #[] rfl (by (try simp only [List.map_toArray, List.map_cons, List.map_nil]); first | done | rfl | (simp only [List.length_drop, List.length_take]; rfl)) ?_; (with_reducible refine (ricklaw07_puts.calls kj7  true _ A14.out).mono ?_); rintro e w36 ⟨rfl, hb⟩; refine ⟨_, rfl, ?_⟩; have n0_ := Aside0.mk (Kd.R_below (by (with_reducible repeat (first | apply Kd.R_alloc | apply Kd.R_drewN | apply Kd.R_drew)); exact HO_8.out) hb); have n1_ := Aside0.mk (Kd.R_below (by (with_reducible repeat (first | apply Kd.R_alloc | apply Kd.R_drewN | apply Kd.R_drew)); exact HO_11.out) hb); have n2_ := Aside0.mk (Kd.R_below (by (with_reducible repeat (first | apply Kd.R_alloc | apply Kd.R_drewN | apply Kd.R_drew)); exact HO574.out) hb); have n3_ := Aside0.mk (below_step (by repeat (first | (with_reducible first | exact HB.out | apply below_alloc | apply pw_below_drewN | apply below_drew1) | exact HB.out)) hb); clear HO_8; clear HO_11; clear HO574; clear HB; have HO_8 := n0_; have HO_11 := n1_; have HO574 := n2_; have HB := n3_; clear n0_ n1_ n2_ n3_; (try clear hb); (try clear hb2); (try clear hk); (try clear hi)))
                  go_ret
                  exact ⟨by first | rfl | (simp [errW_none, errW_some] <;> rfl) | (simp [*, errW_none, errW_some] <;> rfl), by repeat (first | (with_reducible first | exact HB.out | apply below_alloc | apply pw_below_drewN | apply below_drew1) | exact HB.out)⟩
              · replace c15 := Bool.eq_false_iff.mpr c15
                subst c15
                have H1 : (some false) = some r := by rw [if_neg (show ¬ (false = true) by decide)] at H; exact H
                clear H
                have H := H1
                clear H1
                obtain rfl := Option.some.inj H
                obtain ⟨Ao37, co37, eo37⟩ := Kd.R_slice HO_11.out
                subst eo37
                go_wp2_with (first | ((with_reducible refine gate_callee (f := 47) rfl ?_); refine goesL_ (some 51) rfl rfl Try.func47 (by kernel_rfl) rfl #[.slice Ao37 t566.length co37, .int .i64 (wrap64 (Int.tmod (IntKind.u64.wrap (a2)) 201)), .int .i64 2] rfl (by (try simp only [List.map_toArray, List.map_cons, List.map_nil]); first | done | rfl | (simp only [List.length_drop, List.length_take]; rfl)) ?_; (with_reducible refine (times_Get.calls kj7 _ _ t566 (wrap64 (Int.tmod (IntKind.u64.wrap (a2)) 201)) 2 t570 t571 t572 _ ?side1 ?side2 A13.out).mono ?_); (case side1 => repeat (first | exact (Kd.R_reads' HO_11.out).2.2 | (with_reducible refine Kd.C_alloc ?_ _) | (with_reducible refine Kd.C_drewN ?_ _) | (with_reducible refine Kd.C_drew ?_))); (case side2 => exact (Kd.R_reads' HO_11.out).2.1); rintro e w38 ⟨v573, rfl, ho0, hb⟩; refine ⟨_, rfl, ?_⟩; have n0_ := Aside0.mk (Kd.R_elder' (by (with_reducible repeat (first | apply Kd.R_alloc | apply Kd.R_drewN | apply Kd.R_drew)); exact HO_8.out) (Kd.R_base ho0) hb); have n1_ := Aside0.mk (Kd.R_below (by (with_reducible repeat (first | apply Kd.R_alloc | apply Kd.R_drewN | apply Kd.R_drew)); exact HO_11.out) hb); have n2_ := Aside0.mk (Kd.R_lower (Kd.R_new' ho0 (Kd.R_lt (by (with_reducible repeat (first | apply Kd.R_alloc | apply Kd.R_drewN | apply Kd.R_drew)); exact HO_8.out))) (below_size (by repeat (first | (with_reducible first | exact HB.out | apply below_alloc | apply pw_below_drewN | apply below_drew1) | exact HB.out)))); have n3_ := Aside0.mk (below_step (by repeat (first | (with_reducible first | exact HB.out | apply below_alloc | apply pw_below_drewN | apply below_drew1) | exact HB.out)) hb); clear HO_8; clear HO_11; clear HB; have HO_8 := n0_; have HO_11 := n1_; have HO574 := n2_; have HB := n3_; clear n0_ n1_ n2_ n3_; (try clear hb); (try clear hb2); (try clear hk); (try clear hi); (try clear ho0)) | ((with_reducible refine gate_callee (f := 48) rfl ?_); refine goesL_ (some 55) rfl rfl Try.func48 (by kernel_rfl) rfl #[] rfl (by (try simp only [List.map_toArray, List.map_cons, List.map_nil]); first | done | rfl | (simp only [List.length_drop, List.length_take]; rfl)) ?_; (with_reducible refine (ricklaw07_puts.calls kj7  false _ A14.out).mono ?_); rintro e w39 ⟨rfl, hb⟩; refine ⟨_, rfl, ?_⟩; have n0_ := Aside0.mk (Kd.R_below (by (with_reducible repeat (first | apply Kd.R_alloc | apply Kd.R_drewN | apply Kd.R_drew)); exact HO_8.out) hb); have n1_ := Aside0.mk (Kd.R_below (by (with_reducible repeat (first | apply Kd.R_alloc | apply Kd.R_drewN | apply Kd.R_drew)); exact HO_11.out) hb); have n2_ := Aside0.mk (Kd.R_below (by (with_reducible repeat (first | apply Kd.R_alloc | apply Kd.R_drewN | apply Kd.R_drew)); exact HO574.out) hb); have n3_ := Aside0.mk (below_step (by repeat (first | (with_reducible first | exact HB.out | apply below_alloc | apply pw_below_drewN | apply below_drew1) | exact HB.out)) hb); clear HO_8; clear HO_11; clear HO574; clear HB; have HO_8 := n0_; have HO_11 := n1_; have HO574 := n2_; have HB := n3_; clear n0_ n1_ n2_ n3_; (try clear hb); (try clear hb2); (try clear hk); (try clear hi)))
                go_ret
                exact ⟨by first | rfl | (simp [errW_none, errW_some] <;> rfl) | (simp [*, errW_none, errW_some] <;> rfl), by repeat (first | (with_reducible first | exact HB.out | apply below_alloc | apply pw_below_drewN | apply below_drew1) | exact HB.out)⟩
            · rw [if_neg c12] at H
              have c12b0 : decide (1 < (wrap64 (Int.tmod (IntKind.u64.wrap (a2)) 201))) = false := decide_eq_false c12
              clear c12
              replace H := Option.bind_eq_some_iff.mp H
              obtain ⟨⟨t577, t578, t579⟩, A400, H⟩ := H
              replace H : ((ricklaw07_puts.f kj7).bind fun t582 => (if t582 = true then (if t567 = 0 then (if (t566.length : Int) = x13_7 then (if t579 = 0 then (if t578 = (t566.length : Int) then ((rickref07_Same.f kj7 t577 x8_1).bind fun t583 => (some t583)) else (some false)) else (some false)) else (some false)) else (some false)) else (some false))) = some r := H
              have A40 := Aside0.mk A400
              clear A400
              replace H := Option.bind_eq_some_iff.mp H
              obtain ⟨t582, A410, H⟩ := H
              replace H : (if t582 = true then (if t567 = 0 then (if (t566.length : Int) = x13_7 then (if t579 = 0 then (if t578 = (t566.length : Int) then ((rickref07_Same.f kj7 t577 x8_1).bind fun t583 => (some t583)) else (some false)) else (some false)) else (some false)) else (some false)) else (some false)) = some r := H
              have A41 := Aside0.mk A410
              clear A410
              by_cases c42 : t582 = true
              · subst c42
                have H1 : (if t567 = 0 then (if (t566.length : Int) = x13_7 then (if t579 = 0 then (if t578 = (t566.length : Int) then ((rickref07_Same.f kj7 t577 x8_1).bind fun t583 => (some t583)) else (some false)) else (some false)) else (some false)) else (some false)) = some r := by rw [if_pos rfl] at H; exact H
                clear H
                have H := H1
                clear H1
                by_cases c43 : t567 = 0
                · rw [if_pos c43] at H
                  have c43b0 : (t567 == 0) = true := beq_iff_eq.mpr c43
                  have c43b1 : (t567 != 0) = false := bne_eq_false_iff_eq.mpr c43
                  clear c43
                  by_cases c44 : (t566.length : Int) = x13_7
                  · rw [if_pos c44] at H
                    have c44b0 : ((t566.length : Int) == x13_7) = true := beq_iff_eq.mpr c44
                    have c44b1 : ((t566.length : Int) != x13_7) = false := bne_eq_false_iff_eq.mpr c44
                    clear c44
                    by_cases c45 : t579 = 0
                    · rw [if_pos c45] at H
                      have c45b0 : (t579 == 0) = true := beq_iff_eq.mpr c45
                      have c45b1 : (t579 != 0) = false := bne_eq_false_iff_eq.mpr c45
                      clear c45
                      by_cases c46 : t578 = (t566.length : Int)
                      · rw [if_pos c46] at H
                        have c46b0 : (t578 == (t566.length : Int)) = true := beq_iff_eq.mpr c46
                        have c46b1 : (t578 != (t566.length : Int)) = false := bne_eq_false_iff_eq.mpr c46
                        clear c46
                        replace H := Option.bind_eq_some_iff.mp H
                        obtain ⟨t583, A470, H⟩ := H
                        replace H : (some t583) = some r := H
                        have A47 := Aside0.mk A470
                        clear A470
                        obtain rfl := Option.some.inj H
                        obtain ⟨Ao48, co48, eo48⟩ := Kd.R_slice HO_11.out
                        subst eo48
                        go_wp2_with (first | ((with_reducible refine gate_callee (f := 47) rfl ?_); refine goesL_ (some 51) rfl rfl Try.func47 (by kernel_rfl) rfl #[.slice Ao48 t566.length co48, .int .i64 (wrap64 (Int.tmod (IntKind.u64.wrap (a2)) 201)), .int .i64 2] rfl (by (try simp only [List.map_toArray, List.map_cons, List.map_nil]); first | done | rfl | (simp only [List.length_drop, List.length_take]; rfl)) ?_; (with_reducible refine (times_Get.calls kj7 _ _ t566 (wrap64 (Int.tmod (IntKind.u64.wrap (a2)) 201)) 2 t577 t578 t579 _ ?side1 ?side2 A40.out).mono ?_); (case side1 => repeat (first | exact (Kd.R_reads' HO_11.out).2.2 | (with_reducible refine Kd.C_alloc ?_ _) | (with_reducible refine Kd.C_drewN ?_ _) | (with_reducible refine Kd.C_drew ?_))); (case side2 => exact (Kd.R_reads' HO_11.out).2.1); rintro e w49 ⟨v580, rfl, ho0, hb⟩; refine ⟨_, rfl, ?_⟩; have n0_ := Aside0.mk (Kd.R_elder' (by (with_reducible repeat (first | apply Kd.R_alloc | apply Kd.R_drewN | apply Kd.R_drew)); exact HO_8.out) (Kd.R_base ho0) hb); have n1_ := Aside0.mk (Kd.R_below (by (with_reducible repeat (first | apply Kd.R_alloc | apply Kd.R_drewN | apply Kd.R_drew)); exact HO_11.out) hb); have n2_ := Aside0.mk (Kd.R_lower (Kd.R_new' ho0 (Kd.R_lt (by (with_reducible repeat (first | apply Kd.R_alloc | apply Kd.R_drewN | apply Kd.R_drew)); exact HO_8.out))) (below_size (by repeat (first | (with_reducible first | exact HB.out | apply below_alloc | apply pw_below_drewN | apply below_drew1) | exact HB.out)))); have n3_ := Aside0.mk (below_step (by repeat (first | (with_reducible first | exact HB.out | apply below_alloc | apply pw_below_drewN | apply below_drew1) | exact HB.out)) hb); clear HO_8; clear HO_11; clear HB; have HO_8 := n0_; have HO_11 := n1_; have HO581 := n2_; have HB := n3_; clear n0_ n1_ n2_ n3_; (try clear hb); (try clear hb2); (try clear hk); (try clear hi); (try clear ho0)) | ((with_reducible refine gate_callee (f := 48) rfl ?_); refine goesL_ (some 55) rfl rfl Try.func48 (by kernel_rfl) rfl #[] rfl (by (try simp only [List.map_toArray, List.map_cons, List.map_nil]); first | done | rfl | (simp only [List.length_drop, List.length_take]; rfl)) ?_; (with_reducible refine (ricklaw07_puts.calls kj7  true _ A41.out).mono ?_); rintro e w50 ⟨rfl, hb⟩; refine ⟨_, rfl, ?_⟩; have n0_ := Aside0.mk (Kd.R_below (by (with_reducible repeat (first | apply Kd.R_alloc | apply Kd.R_drewN | apply Kd.R_drew)); exact HO_8.out) hb); have n1_ := Aside0.mk (Kd.R_below (by (with_reducible repeat (first | apply Kd.R_alloc | apply Kd.R_drewN | apply Kd.R_drew)); exact HO_11.out) hb); have n2_ := Aside0.mk (Kd.R_below (by (with_reducible repeat (first | apply Kd.R_alloc | apply Kd.R_drewN | apply Kd.R_drew)); exact HO581.out) hb); have n3_ := Aside0.mk (below_step (by repeat (first | (with_reducible first | exact HB.out | apply below_alloc | apply pw_below_drewN | apply below_drew1) | exact HB.out)) hb); clear HO_8; clear HO_11; clear HO581; clear HB; have HO_8 := n0_; have HO_11 := n1_; have HO581 := n2_; have HB := n3_; clear n0_ n1_ n2_ n3_; (try clear hb); (try clear hb2); (try clear hk); (try clear hi); obtain ⟨Ao51, co51, eo51⟩ := Kd.R_slice HO581.out; subst eo51) | (go_at_call 49; (with_reducible refine (rickref07_Same.calls kj7 _ _ t577 _ _ x8_1 t583 _ ?side1 ?side2 ?side3 ?side4 A47.out).mono ?_); (case side1 => repeat (first | exact (Kd.R_reads' HO581.out).2.2 | (with_reducible refine Kd.C_alloc ?_ _) | (with_reducible refine Kd.C_drewN ?_ _) | (with_reducible refine Kd.C_drew ?_))); (case side2 => exact (Kd.R_reads' HO581.out).2.1); (case side3 => repeat (first | exact (Kd.R_reads' HO_8.out).2.2 | (with_reducible refine Kd.C_alloc ?_ _) | (with_reducible refine Kd.C_drewN ?_ _) | (with_reducible refine Kd.C_drew ?_))); (case side4 => exact (Kd.R_reads' HO_8.out).2.1); rintro e w' ⟨rfl, ⟨nd, rfl⟩⟩))
                        go_ret
                        exact ⟨by first | rfl | (simp [errW_none, errW_some] <;> rfl) | (simp [*, errW_none, errW_some] <;> rfl), by repeat (first | (with_reducible first | exact HB.out | apply below_alloc | apply pw_below_drewN | apply below_drew1) | exact HB.out)⟩
                      · rw [if_neg c46] at H
                        have c46b0 : (t578 == (t566.length : Int)) = false := beq_eq_false_iff_ne.mpr c46
                        have c46b1 : (t578 != (t566.length : Int)) = true := bne_iff_ne.mpr c46
                        obtain rfl := Option.some.inj H
                        obtain ⟨Ao52, co52, eo52⟩ := Kd.R_slice HO_11.out
                        subst eo52
                        go_wp2_with (first | ((with_reducible refine gate_callee (f := 47) rfl ?_); refine goesL_ (some 51) rfl rfl Try.func47 (by kernel_rfl) rfl #[.slice Ao52 t566.length co52, .int .i64 (wrap64 (Int.tmod (IntKind.u64.wrap (a2)) 201)), .int .i64 2] rfl (by (try simp only [List.map_toArray, List.map_cons, List.map_nil]); first | done | rfl | (simp only [List.length_drop, List.length_take]; rfl)) ?_; (with_reducible refine (times_Get.calls kj7 _ _ t566 (wrap64 (Int.tmod (IntKind.u64.wrap (a2)) 201)) 2 t577 t578 t579 _ ?side1 ?side2 A40.out).mono ?_); (case side1 => repeat (first | exact (Kd.R_reads' HO_11.out).2.2 | (with_reducible refine Kd.C_alloc ?_ _) | (with_reducible refine Kd.C_drewN ?_ _) | (with_reducible refine Kd.C_drew ?_))); (case side2 => exact (Kd.R_reads' HO_11.out).2.1); rintro e w53 ⟨v580, rfl, ho0, hb⟩; refine ⟨_, rfl, ?_⟩; have n0_ := Aside0.mk (Kd.R_elder' (by (with_reducible repeat (first | apply Kd.R_alloc | apply Kd.R_drewN | apply Kd.R_drew)); exact HO_8.out) (Kd.R_base ho0) hb); have n1_ := Aside0.mk (Kd.R_below (by (with_reducible repeat (first | apply Kd.R_alloc | apply Kd.R_drewN | apply Kd.R_drew)); exact HO_11.out) hb); have n2_ := Aside0.mk (Kd.R_lower (Kd.R_new' ho0 (Kd.R_lt (by (with_reducible repeat (first | apply Kd.R_alloc | apply Kd.R_drewN | apply Kd.R_drew)); exact HO_8.out))) (below_size (by repeat (first | (with_reducible first | exact HB.out | apply below_alloc | apply pw_below_drewN | apply below_drew1) | exact HB.out)))); have n3_ := Aside0.mk (below_step (by repeat (first | (with_reducible first | exact HB.out | apply below_alloc | apply pw_below_drewN | apply below_drew1) | exact HB.out)) hb); clear HO_8; clear HO_11; clear HB; have HO_8 := n0_; have HO_11 := n1_; have HO581 := n2_; have HB := n3_; clear n0_ n1_ n2_ n3_; (try clear hb); (try clear hb2); (try clear hk); (try clear hi); (try clear ho0)) | ((with_reducible refine gate_callee (f := 48) rfl ?_); refine goesL_ (some 55) rfl rfl Try.func48 (by kernel_rfl) rfl #[] rfl (by (try simp only [List.map_toArray, List.map_cons, List.map_nil]); first | done | rfl | (simp only [List.length_drop, List.length_take]; rfl)) ?_; (with_reducible refine (ricklaw07_puts.calls kj7  true _ A41.out).mono ?_); rintro e w54 ⟨rfl, hb⟩; refine ⟨_, rfl, ?_⟩; have n0_ := Aside0.mk (Kd.R_below (by (with_reducible repeat (first | apply Kd.R_alloc | apply Kd.R_drewN | apply Kd.R_drew)); exact HO_8.out) hb); have n1_ := Aside0.mk (Kd.R_below (by (with_reducible repeat (first | apply Kd.R_alloc | apply Kd.R_drewN | apply Kd.R_drew)); exact HO_11.out) hb); have n2_ := Aside0.mk (Kd.R_below (by (with_reducible repeat (first | apply Kd.R_alloc | apply Kd.R_drewN | apply Kd.R_drew)); exact HO581.out) hb); have n3_ := Aside0.mk (below_step (by repeat (first | (with_reducible first | exact HB.out | apply below_alloc | apply pw_below_drewN | apply below_drew1) | exact HB.out)) hb); clear HO_8; clear HO_11; clear HO581; clear HB; have HO_8 := n0_; have HO_11 := n1_; have HO581 := n2_; have HB := n3_; clear n0_ n1_ n2_ n3_; (try clear hb); (try clear hb2); (try clear hk); (try clear hi)))
                        go_ret
                        exact ⟨by first | rfl | (simp [errW_none, errW_some] <;> rfl) | (simp [*, errW_none, errW_some] <;> rfl), by repeat (first | (with_reducible first | exact HB.out | apply below_alloc | apply pw_below_drewN | apply below_drew1) | exact HB.out)⟩
                    · rw [if_neg c45] at H
                      have c45b0 : (t579 == 0) = false := beq_eq_false_iff_ne.mpr c45
                      have c45b1 : (t579 != 0) = true := bne_iff_ne.mpr c45
                      obtain rfl := Option.some.inj H
                      obtain ⟨Ao55, co55, eo55⟩ := Kd.R_slice HO_11.out
                      subst eo55
                      go_wp2_with (first | ((with_reducible refine gate_callee (f := 47) rfl ?_); refine goesL_ (some 51) rfl rfl Try.func47 (by kernel_rfl) rfl #[.slice Ao55 t566.length co55, .int .i64 (wrap64 (Int.tmod (IntKind.u64.wrap (a2)) 201)), .int .i64 2] rfl (by (try simp only [List.map_toArray, List.map_cons, List.map_nil]); first | done | rfl | (simp only [List.length_drop, List.length_take]; rfl)) ?_; (with_reducible refine (times_Get.calls kj7 _ _ t566 (wrap64 (Int.tmod (IntKind.u64.wrap (a2)) 201)) 2 t577 t578 t579 _ ?side1 ?side2 A40.out).mono ?_); (case side1 => repeat (first | exact (Kd.R_reads' HO_11.out).2.2 | (with_reducible refine Kd.C_alloc ?_ _) | (with_reducible refine Kd.C_drewN ?_ _) | (with_reducible refine Kd.C_drew ?_))); (case side2 => exact (Kd.R_reads' HO_11.out).2.1); rintro e w56 ⟨v580, rfl, ho0, hb⟩; refine ⟨_, rfl, ?_⟩; have n0_ := Aside0.mk (Kd.R_elder' (by (with_reducible repeat (first | apply Kd.R_alloc | apply Kd.R_drewN | apply Kd.R_drew)); exact HO_8.out) (Kd.R_base ho0) hb); have n1_ := Aside0.mk (Kd.R_below (by (with_reducible repeat (first | apply Kd.R_alloc | apply Kd.R_drewN | apply Kd.R_drew)); exact HO_11.out) hb); have n2_ := Aside0.mk (Kd.R_lower (Kd.R_new' ho0 (Kd.R_lt (by (with_reducible repeat (first | apply Kd.R_alloc | apply Kd.R_drewN | apply Kd.R_drew)); exact HO_8.out))) (below_size (by repeat (first | (with_reducible first | exact HB.out | apply below_alloc | apply pw_below_drewN | apply below_drew1) | exact HB.out)))); have n3_ := Aside0.mk (below_step (by repeat (first | (with_reducible first | exact HB.out | apply below_alloc | apply pw_below_drewN | apply below_drew1) | exact HB.out)) hb); clear HO_8; clear HO_11; clear HB; have HO_8 := n0_; have HO_11 := n1_; have HO581 := n2_; have HB := n3_; clear n0_ n1_ n2_ n3_; (try clear hb); (try clear hb2); (try clear hk); (try clear hi); (try clear ho0)) | ((with_reducible refine gate_callee (f := 48) rfl ?_); refine goesL_ (some 55) rfl rfl Try.func48 (by kernel_rfl) rfl #[] rfl (by (try simp only [List.map_toArray, List.map_cons, List.map_nil]); first | done | rfl | (simp only [List.length_drop, List.length_take]; rfl)) ?_; (with_reducible refine (ricklaw07_puts.calls kj7  true _ A41.out).mono ?_); rintro e w57 ⟨rfl, hb⟩; refine ⟨_, rfl, ?_⟩; have n0_ := Aside0.mk (Kd.R_below (by (with_reducible repeat (first | apply Kd.R_alloc | apply Kd.R_drewN | apply Kd.R_drew)); exact HO_8.out) hb); have n1_ := Aside0.mk (Kd.R_below (by (with_reducible repeat (first | apply Kd.R_alloc | apply Kd.R_drewN | apply Kd.R_drew)); exact HO_11.out) hb); have n2_ := Aside0.mk (Kd.R_below (by (with_reducible repeat (first | apply Kd.R_alloc | apply Kd.R_drewN | apply Kd.R_drew)); exact HO581.out) hb); have n3_ := Aside0.mk (below_step (by repeat (first | (with_reducible first | exact HB.out | apply below_alloc | apply pw_below_drewN | apply below_drew1) | exact HB.out)) hb); clear HO_8; clear HO_11; clear HO581; clear HB; have HO_8 := n0_; have HO_11 := n1_; have HO581 := n2_; have HB := n3_; clear n0_ n1_ n2_ n3_; (try clear hb); (try clear hb2); (try clear hk); (try clear hi)))
                      go_ret
                      exact ⟨by first | rfl | (simp [errW_none, errW_some] <;> rfl) | (simp [*, errW_none, errW_some] <;> rfl), by repeat (first | (with_reducible first | exact HB.out | apply below_alloc | apply pw_below_drewN | apply below_drew1) | exact HB.out)⟩
                  · rw [if_neg c44] at H
                    have c44b0 : ((t566.length : Int) == x13_7) = false := beq_eq_false_iff_ne.mpr c44
                    have c44b1 : ((t566.length : Int) != x13_7) = true := bne_iff_ne.mpr c44
                    obtain rfl := Option.some.inj H
                    obtain ⟨Ao58, co58, eo58⟩ := Kd.R_slice HO_11.out
                    subst eo58
                    go_wp2_with (first | ((with_reducible refine gate_callee (f := 47) rfl ?_); refine goesL_ (some 51) rfl rfl Try.func47 (by kernel_rfl) rfl #[.slice Ao58 t566.length co58, .int .i64 (wrap64 (Int.tmod (IntKind.u64.wrap (a2)) 201)), .int .i64 2] rfl (by (try simp only [List.map_toArray, List.map_cons, List.map_nil]); first | done | rfl | (simp only [List.length_drop, List.length_take]; rfl)) ?_; (with_reducible refine (times_Get.calls kj7 _ _ t566 (wrap64 (Int.tmod (IntKind.u64.wrap (a2)) 201)) 2 t577 t578 t579 _ ?side1 ?side2 A40.out).mono ?_); (case side1 => repeat (first | exact (Kd.R_reads' HO_11.out).2.2 | (with_reducible refine Kd.C_alloc ?_ _) | (with_reducible refine Kd.C_drewN ?_ _) | (with_reducible refine Kd.C_drew ?_))); (case side2 => exact (Kd.R_reads' HO_11.out).2.1); rintro e w59 ⟨v580, rfl, ho0, hb⟩; refine ⟨_, rfl, ?_⟩; have n0_ := Aside0.mk (Kd.R_elder' (by (with_reducible repeat (first | apply Kd.R_alloc | apply Kd.R_drewN | apply Kd.R_drew)); exact HO_8.out) (Kd.R_base ho0) hb); have n1_ := Aside0.mk (Kd.R_below (by (with_reducible repeat (first | apply Kd.R_alloc | apply Kd.R_drewN | apply Kd.R_drew)); exact HO_11.out) hb); have n2_ := Aside0.mk (Kd.R_lower (Kd.R_new' ho0 (Kd.R_lt (by (with_reducible repeat (first | apply Kd.R_alloc | apply Kd.R_drewN | apply Kd.R_drew)); exact HO_8.out))) (below_size (by repeat (first | (with_reducible first | exact HB.out | apply below_alloc | apply pw_below_drewN | apply below_drew1) | exact HB.out)))); have n3_ := Aside0.mk (below_step (by repeat (first | (with_reducible first | exact HB.out | apply below_alloc | apply pw_below_drewN | apply below_drew1) | exact HB.out)) hb); clear HO_8; clear HO_11; clear HB; have HO_8 := n0_; have HO_11 := n1_; have HO581 := n2_; have HB := n3_; clear n0_ n1_ n2_ n3_; (try clear hb); (try clear hb2); (try clear hk); (try clear hi); (try clear ho0)) | ((with_reducible refine gate_callee (f := 48) rfl ?_); refine goesL_ (some 55) rfl rfl Try.func48 (by kernel_rfl) rfl #[] rfl (by (try simp only [List.map_toArray, List.map_cons, List.map_nil]); first | done | rfl | (simp only [List.length_drop, List.length_take]; rfl)) ?_; (with_reducible refine (ricklaw07_puts.calls kj7  true _ A41.out).mono ?_); rintro e w60 ⟨rfl, hb⟩; refine ⟨_, rfl, ?_⟩; have n0_ := Aside0.mk (Kd.R_below (by (with_reducible repeat (first | apply Kd.R_alloc | apply Kd.R_drewN | apply Kd.R_drew)); exact HO_8.out) hb); have n1_ := Aside0.mk (Kd.R_below (by (with_reducible repeat (first | apply Kd.R_alloc | apply Kd.R_drewN | apply Kd.R_drew)); exact HO_11.out) hb); have n2_ := Aside0.mk (Kd.R_below (by (with_reducible repeat (first | apply Kd.R_alloc | apply Kd.R_drewN | apply Kd.R_drew)); exact HO581.out) hb); have n3_ := Aside0.mk (below_step (by repeat (first | (with_reducible first | exact HB.out | apply below_alloc | apply pw_below_drewN | apply below_drew1) | exact HB.out)) hb); clear HO_8; clear HO_11; clear HO581; clear HB; have HO_8 := n0_; have HO_11 := n1_; have HO581 := n2_; have HB := n3_; clear n0_ n1_ n2_ n3_; (try clear hb); (try clear hb2); (try clear hk); (try clear hi)))
                    go_ret
                    exact ⟨by first | rfl | (simp [errW_none, errW_some] <;> rfl) | (simp [*, errW_none, errW_some] <;> rfl), by repeat (first | (with_reducible first | exact HB.out | apply below_alloc | apply pw_below_drewN | apply below_drew1) | exact HB.out)⟩
                · rw [if_neg c43] at H
                  have c43b0 : (t567 == 0) = false := beq_eq_false_iff_ne.mpr c43
                  have c43b1 : (t567 != 0) = true := bne_iff_ne.mpr c43
                  obtain rfl := Option.some.inj H
                  obtain ⟨Ao61, co61, eo61⟩ := Kd.R_slice HO_11.out
                  subst eo61
                  go_wp2_with (first | ((with_reducible refine gate_callee (f := 47) rfl ?_); refine goesL_ (some 51) rfl rfl Try.func47 (by kernel_rfl) rfl #[.slice Ao61 t566.length co61, .int .i64 (wrap64 (Int.tmod (IntKind.u64.wrap (a2)) 201)), .int .i64 2] rfl (by (try simp only [List.map_toArray, List.map_cons, List.map_nil]); first | done | rfl | (simp only [List.length_drop, List.length_take]; rfl)) ?_; (with_reducible refine (times_Get.calls kj7 _ _ t566 (wrap64 (Int.tmod (IntKind.u64.wrap (a2)) 201)) 2 t577 t578 t579 _ ?side1 ?side2 A40.out).mono ?_); (case side1 => repeat (first | exact (Kd.R_reads' HO_11.out).2.2 | (with_reducible refine Kd.C_alloc ?_ _) | (with_reducible refine Kd.C_drewN ?_ _) | (with_reducible refine Kd.C_drew ?_))); (case side2 => exact (Kd.R_reads' HO_11.out).2.1); rintro e w62 ⟨v580, rfl, ho0, hb⟩; refine ⟨_, rfl, ?_⟩; have n0_ := Aside0.mk (Kd.R_elder' (by (with_reducible repeat (first | apply Kd.R_alloc | apply Kd.R_drewN | apply Kd.R_drew)); exact HO_8.out) (Kd.R_base ho0) hb); have n1_ := Aside0.mk (Kd.R_below (by (with_reducible repeat (first | apply Kd.R_alloc | apply Kd.R_drewN | apply Kd.R_drew)); exact HO_11.out) hb); have n2_ := Aside0.mk (Kd.R_lower (Kd.R_new' ho0 (Kd.R_lt (by (with_reducible repeat (first | apply Kd.R_alloc | apply Kd.R_drewN | apply Kd.R_drew)); exact HO_8.out))) (below_size (by repeat (first | (with_reducible first | exact HB.out | apply below_alloc | apply pw_below_drewN | apply below_drew1) | exact HB.out)))); have n3_ := Aside0.mk (below_step (by repeat (first | (with_reducible first | exact HB.out | apply below_alloc | apply pw_below_drewN | apply below_drew1) | exact HB.out)) hb); clear HO_8; clear HO_11; clear HB; have HO_8 := n0_; have HO_11 := n1_; have HO581 := n2_; have HB := n3_; clear n0_ n1_ n2_ n3_; (try clear hb); (try clear hb2); (try clear hk); (try clear hi); (try clear ho0)) | ((with_reducible refine gate_callee (f := 48) rfl ?_); refine goesL_ (some 55) rfl rfl Try.func48 (by kernel_rfl) rfl #[] rfl (by (try simp only [List.map_toArray, List.map_cons, List.map_nil]); first | done | rfl | (simp only [List.length_drop, List.length_take]; rfl)) ?_; (with_reducible refine (ricklaw07_puts.calls kj7  true _ A41.out).mono ?_); rintro e w63 ⟨rfl, hb⟩; refine ⟨_, rfl, ?_⟩; have n0_ := Aside0.mk (Kd.R_below (by (with_reducible repeat (first | apply Kd.R_alloc | apply Kd.R_drewN | apply Kd.R_drew)); exact HO_8.out) hb); have n1_ := Aside0.mk (Kd.R_below (by (with_reducible repeat (first | apply Kd.R_alloc | apply Kd.R_drewN | apply Kd.R_drew)); exact HO_11.out) hb); have n2_ := Aside0.mk (Kd.R_below (by (with_reducible repeat (first | apply Kd.R_alloc | apply Kd.R_drewN | apply Kd.R_drew)); exact HO581.out) hb); have n3_ := Aside0.mk (below_step (by repeat (first | (with_reducible first | exact HB.out | apply below_alloc | apply pw_below_drewN | apply below_drew1) | exact HB.out)) hb); clear HO_8; clear HO_11; clear HO581; clear HB; have HO_8 := n0_; have HO_11 := n1_; have HO581 := n2_; have HB := n3_; clear n0_ n1_ n2_ n3_; (try clear hb); (try clear hb2); (try clear hk); (try clear hi)))
                  go_ret
                  exact ⟨by first | rfl | (simp [errW_none, errW_some] <;> rfl) | (simp [*, errW_none, errW_some] <;> rfl), by repeat (first | (with_reducible first | exact HB.out | apply below_alloc | apply pw_below_drewN | apply below_drew1) | exact HB.out)⟩
              · replace c42 := Bool.eq_false_iff.mpr c42
                subst c42
                have H1 : (some false) = some r := by rw [if_neg (show ¬ (false = true) by decide)] at H; exact H
                clear H
                have H := H1
                clear H1
                obtain rfl := Option.some.inj H
                obtain ⟨Ao64, co64, eo64⟩ := Kd.R_slice HO_11.out
                subst eo64
                go_wp2_with (first | ((with_reducible refine gate_callee (f := 47) rfl ?_); refine goesL_ (some 51) rfl rfl Try.func47 (by kernel_rfl) rfl #[.slice Ao64 t566.length co64, .int .i64 (wrap64 (Int.tmod (IntKind.u64.wrap (a2)) 201)), .int .i64 2] rfl (by (try simp only [List.map_toArray, List.map_cons, List.map_nil]); first | done | rfl | (simp only [List.length_drop, List.length_take]; rfl)) ?_; (with_reducible refine (times_Get.calls kj7 _ _ t566 (wrap64 (Int.tmod (IntKind.u64.wrap (a2)) 201)) 2 t577 t578 t579 _ ?side1 ?side2 A40.out).mono ?_); (case side1 => repeat (first | exact (Kd.R_reads' HO_11.out).2.2 | (with_reducible refine Kd.C_alloc ?_ _) | (with_reducible refine Kd.C_drewN ?_ _) | (with_reducible refine Kd.C_drew ?_))); (case side2 => exact (Kd.R_reads' HO_11.out).2.1); rintro e w65 ⟨v580, rfl, ho0, hb⟩; refine ⟨_, rfl, ?_⟩; have n0_ := Aside0.mk (Kd.R_elder' (by (with_reducible repeat (first | apply Kd.R_alloc | apply Kd.R_drewN | apply Kd.R_drew)); exact HO_8.out) (Kd.R_base ho0) hb); have n1_ := Aside0.mk (Kd.R_below (by (with_reducible repeat (first | apply Kd.R_alloc | apply Kd.R_drewN | apply Kd.R_drew)); exact HO_11.out) hb); have n2_ := Aside0.mk (Kd.R_lower (Kd.R_new' ho0 (Kd.R_lt (by (with_reducible repeat (first | apply Kd.R_alloc | apply Kd.R_drewN | apply Kd.R_drew)); exact HO_8.out))) (below_size (by repeat (first | (with_reducible first | exact HB.out | apply below_alloc | apply pw_below_drewN | apply below_drew1) | exact HB.out)))); have n3_ := Aside0.mk (below_step (by repeat (first | (with_reducible first | exact HB.out | apply below_alloc | apply pw_below_drewN | apply below_drew1) | exact HB.out)) hb); clear HO_8; clear HO_11; clear HB; have HO_8 := n0_; have HO_11 := n1_; have HO581 := n2_; have HB := n3_; clear n0_ n1_ n2_ n3_; (try clear hb); (try clear hb2); (try clear hk); (try clear hi); (try clear ho0)) | ((with_reducible refine gate_callee (f := 48) rfl ?_); refine goesL_ (some 55) rfl rfl Try.func48 (by kernel_rfl) rfl #[] rfl (by (try simp only [List.map_toArray, List.map_cons, List.map_nil]); first | done | rfl | (simp only [List.length_drop, List.length_take]; rfl)) ?_; (with_reducible refine (ricklaw07_puts.calls kj7  false _ A41.out).mono ?_); rintro e w66 ⟨rfl, hb⟩; refine ⟨_, rfl, ?_⟩; have n0_ := Aside0.mk (Kd.R_below (by (with_reducible repeat (first | apply Kd.R_alloc | apply Kd.R_drewN | apply Kd.R_drew)); exact HO_8.out) hb); have n1_ := Aside0.mk (Kd.R_below (by (with_reducible repeat (first | apply Kd.R_alloc | apply Kd.R_drewN | apply Kd.R_drew)); exact HO_11.out) hb); have n2_ := Aside0.mk (Kd.R_below (by (with_reducible repeat (first | apply Kd.R_alloc | apply Kd.R_drewN | apply Kd.R_drew)); exact HO581.out) hb); have n3_ := Aside0.mk (below_step (by repeat (first | (with_reducible first | exact HB.out | apply below_alloc | apply pw_below_drewN | apply below_drew1) | exact HB.out)) hb); clear HO_8; clear HO_11; clear HO581; clear HB; have HO_8 := n0_; have HO_11 := n1_; have HO581 := n2_; have HB := n3_; clear n0_ n1_ n2_ n3_; (try clear hb); (try clear hb2); (try clear hk); (try clear hi)))
                go_ret
                exact ⟨by first | rfl | (simp [errW_none, errW_some] <;> rfl) | (simp [*, errW_none, errW_some] <;> rfl), by repeat (first | (with_reducible first | exact HB.out | apply below_alloc | apply pw_below_drewN | apply below_drew1) | exact HB.out)⟩

/-- THE ONE PURE STATEMENT of ricklaw07_TimesEven: yours. -/
def ricklaw07_TimesEven.Pure : Prop := ∀ (a0 : Int) (a1 : Int) (a2 : Int), (Lit.int .i64 a0).wf = true → (Lit.int .i64 a1).wf = true → (Lit.int .i64 a2).wf = true → ∃ k, ricklaw07_TimesEven.f k a0 a1 a2 = some true
theorem ricklaw07_TimesEven.walk (P : ricklaw07_TimesEven.Pure) (a0 : Int) (a1 : Int) (a2 : Int) (w : World) (w0 : (Lit.int .i64 a0).wf = true) (w1 : (Lit.int .i64 a1).wf = true) (w2 : (Lit.int .i64 a2).wf = true) :
    Calls Try.prog 15 #[.int .i64 a0, .int .i64 a1, .int .i64 a2] w fun e w' => e = .returned (.bool true) ∧ Below w.heap.size w w' := by
  obtain ⟨k, h⟩ := P a0 a1 a2 w0 w1 w2
  refine (ricklaw07_TimesEven.calls k a0 a1 a2 true w h).mono ?_
  rintro e w' ⟨rfl, hd⟩
  exact ⟨rfl, hd⟩

end Go.Proofs.Ytmlbppfcpejlpaa.X

/- Bytes of whole numbers, laid end to end; prefixes. No conditions. -/
namespace Go.Proofs.Ytmlbppfcpejlpaa.Q06
open Go Go.RowKit Go.Proofs.YtmlbppfcpejlpaaW.PrintWords Go.Proofs.YtmlbppfcpejlpaaW.PrintMore Go.Proofs.Ytmlbppfcpejlpaa.S Go.Proofs.Ytmlbppfcpejlpaa.B Go.Proofs.Ytmlbppfcpejlpaa.X Go.Proofs.Ytmlbppfcpejlpaa.Q04
set_option linter.unusedVariables false
set_option linter.unusedSimpArgs false

theorem getD_append_left {a b : List Int} {i : Nat} (h : i < a.length) : (a ++ b).getD i 0 = a.getD i 0 := by
  simp only [List.getD_eq_getElem?_getD, List.getElem?_append_left h]
theorem getD_append_right {a b : List Int} {i : Nat} (h : a.length ≤ i) : (a ++ b).getD i 0 = b.getD (i - a.length) 0 := by
  simp only [List.getD_eq_getElem?_getD, List.getElem?_append_right h]
theorem packB_append {a b : List Int} (h : a.length % 8 = 0) : packB (a ++ b) = packB a ++ packB b := by
  apply List.ext_getElem
  · rw [packB_len, List.length_append, List.length_append, packB_len, packB_len]; omega
  · intro i h1 h2
    have e : ∀ (l : List Int) (i : Nat) (h : i < (packB l).length), (packB l)[i] = byteAt l i := fun l i h => by simp [packB, rows]
    rw [e, List.getElem_append]
    split
    · rename_i hi
      rw [packB_len] at hi
      rw [e]
      unfold byteAt
      repeat rw [getD_append_left (by omega)]
    · rename_i hi
      rw [packB_len] at hi
      rw [e]
      unfold byteAt
      have q : ∀ j, (a ++ b).getD (8 * i + j) 0 = b.getD (8 * (i - (packB a).length) + j) 0 := fun j => by
        rw [getD_append_right (by omega), packB_len]; congr 1; omega
      have q0 := q 0
      simp only [Nat.add_zero] at q0
      rw [q0, q 1, q 2, q 3, q 4, q 5, q 6, q 7]
theorem bitsN_getD (n : Nat) (v : Int) : ∀ j, j < n → (bitsN n v).getD j 0 = v / 2 ^ (n - 1 - j) % 2 := by
  induction n with
  | zero => intro j h; omega
  | succ n ih =>
    intro j h
    cases j with
    | zero => simp [bitsN]
    | succ j =>
      have := ih j (by omega)
      rw [bitsN, List.getD_cons_succ, this, show n + 1 - 1 - (j + 1) = n - 1 - j by omega]
theorem byte_split (y : Int) : y / 128 % 2 * 128 + y / 64 % 2 * 64 + y / 32 % 2 * 32 + y / 16 % 2 * 16 + y / 8 % 2 * 8 + y / 4 % 2 * 4 + y / 2 % 2 * 2 + y % 2 = y % 256 := by omega
theorem packB_bitsN (m : Nat) (v : Int) : packB (bitsN (8 * m) v) = (List.range m).map (fun i => v / 2 ^ (8 * (m - 1 - i)) % 256) := by
  apply List.ext_getElem
  · rw [packB_len, bitsN_len, List.length_map, List.length_range]; omega
  · intro i h1 h2
    rw [List.length_map, List.length_range] at h2
    rw [List.getElem_map, List.getElem_range]
    have e : (packB (bitsN (8 * m) v))[i] = byteAt (bitsN (8 * m) v) i := by simp [packB, rows]
    rw [e, ← byte_split]
    unfold byteAt
    have q : ∀ j, j < 8 → (bitsN (8 * m) v).getD (8 * i + j) 0 = v / 2 ^ (8 * (m - 1 - i)) / 2 ^ (7 - j) % 2 := fun j hj => by
      rw [bitsN_getD _ _ _ (by omega), Int.ediv_ediv_of_nonneg (Int.pow_nonneg (by omega)), ← Int.pow_add]
      congr 3; omega
    have q0 := q 0 (by omega)
    simp only [Nat.add_zero] at q0
    rw [q0, q 1 (by omega), q 2 (by omega), q 3 (by omega), q 4 (by omega), q 5 (by omega), q 6 (by omega), q 7 (by omega)]
    simp only [Nat.reduceSub, show (2 : Int) ^ 7 = 128 by decide, show (2 : Int) ^ 6 = 64 by decide, show (2 : Int) ^ 5 = 32 by decide, show (2 : Int) ^ 4 = 16 by decide, show (2 : Int) ^ 3 = 8 by decide, show (2 : Int) ^ 2 = 4 by decide, show (2 : Int) ^ 1 = 2 by decide, show (2 : Int) ^ 0 = 1 by decide, Int.ediv_one]
theorem packB_8 {v : Int} (h0 : 0 ≤ v) (h1 : v < 256) : packB (bitsN 8 v) = [v] := by
  have := packB_bitsN 1 v
  simp at this
  rw [this, Int.emod_eq_of_lt h0 h1]
theorem bitsOf_append (a b : List Int) : bitsOf (a ++ b) = bitsOf a ++ bitsOf b := by
  apply List.ext_getElem
  · simp only [bitsOf_len, List.length_append]; omega
  · intro i h1 h2
    rw [bitsOf_get, List.getElem_append]
    split
    · rename_i hi
      rw [bitsOf_len] at hi
      rw [bitsOf_get]
      unfold bitAt
      rw [getD_append_left (by omega)]
    · rename_i hi
      rw [bitsOf_len] at hi
      rw [bitsOf_get]
      unfold bitAt
      rw [getD_append_right (by omega), bitsOf_len]
      congr 2
      · congr 1; omega
      · congr 1; omega
/-- Of bits that were laid as bytes, some are told at their place. -/
theorem gv_packB {L more : List Int} (hL : Bits L) {at0 n : Nat} (h : at0 + n ≤ L.length) : gv (packB L ++ more) at0 n = valB ((L.drop at0).take n) := by
  unfold gv
  rw [bitsOf_append, bitsOf_packB hL, List.append_assoc, List.drop_append_of_le_length (by omega), List.take_append_of_le_length (by rw [List.length_drop]; omega)]

theorem u8_inj {x y : Int} (hx : 0 ≤ x ∧ x < 256) (hy : 0 ≤ y ∧ y < 256) (h : UInt8.ofNat x.toNat = UInt8.ofNat y.toNat) : x = y := by
  have := congrArg UInt8.toNat h
  simp at this
  omega
theorem strOf_inj {a b : List Int} (ha : Bs a) (hb : Bs b) (h : (strOfNums a).toList = (strOfNums b).toList) : a = b := by
  rw [strOf_toList, strOf_toList] at h
  induction a generalizing b with
  | nil => cases b with | nil => rfl | cons y b => simp at h
  | cons x a ih =>
    cases b with
    | nil => simp at h
    | cons y b =>
      simp only [List.map_cons, List.cons.injEq] at h
      rw [u8_inj (ha x List.mem_cons_self) (hb y List.mem_cons_self) h.1, ih (fun z hz => ha z (List.mem_cons_of_mem _ hz)) (fun z hz => hb z (List.mem_cons_of_mem _ hz)) h.2]
theorem prefix_yes (b more : List Int) : bytes_HasPrefix.f (b ++ more) b = some true := by
  unfold bytes_HasPrefix.f
  rw [if_pos (by rw [List.length_append]; omega), if_pos (by omega), if_pos (by rw [List.length_append]; omega), Int.toNat_natCast, List.take_left]
  simp [bytes_Equal.f]
theorem prefix_spec {a b : List Int} (ha : Bs a) (hb : Bs b) : bytes_HasPrefix.f a b = some (decide (a.take b.length = b)) := by
  unfold bytes_HasPrefix.f
  by_cases h : b.length ≤ a.length
  · rw [if_pos (by omega), if_pos (by omega), if_pos (by omega), Int.toNat_natCast]
    simp only [bytes_Equal.f, Option.bind_some]
    congr 1
    by_cases e : a.take b.length = b
    · rw [e]; simp
    · rw [decide_eq_false e]
      rw [beq_eq_false_iff_ne]
      exact fun h => e (strOf_inj (ha.take _) hb h)
  · rw [if_neg (by omega), decide_eq_false]
    intro e
    have := congrArg List.length e
    rw [List.length_take] at this
    omega
end Go.Proofs.Ytmlbppfcpejlpaa.Q06

/- A row of bits that begins at a place of bytes, and numbers taken from there. No conditions. -/
namespace Go.Proofs.Ytmlbppfcpejlpaa.Q06
open Go Go.RowKit Go.Proofs.YtmlbppfcpejlpaaW.PrintWords Go.Proofs.YtmlbppfcpejlpaaW.PrintMore Go.Proofs.Ytmlbppfcpejlpaa.S Go.Proofs.Ytmlbppfcpejlpaa.B Go.Proofs.Ytmlbppfcpejlpaa.X Go.Proofs.Ytmlbppfcpejlpaa.Q04
set_option linter.unusedVariables false
set_option linter.unusedSimpArgs false

/-- The bits from a place on begin with P. -/
def Starts (b : List Int) (a : Nat) (P : List Int) : Prop := a ≤ 8 * b.length ∧ ∃ R, (bitsOf b).drop a = P ++ R
theorem Starts.of {L : List Int} (hL : Bits L) (more : List Int) : Starts (packB L ++ more) 0 L := by
  refine ⟨Nat.zero_le _, List.replicate (8 * (packB L).length - L.length) 0 ++ bitsOf more, ?_⟩
  rw [bitsOf_append, bitsOf_packB hL, List.drop_zero, List.append_assoc]
theorem Starts.le {b : List Int} {a : Nat} {P : List Int} (h : Starts b a P) : a + P.length ≤ 8 * b.length := by
  obtain ⟨h0, R, hR⟩ := h
  have := congrArg List.length hR
  rw [List.length_drop, bitsOf_len, List.length_append] at this
  omega
theorem Starts.next {b : List Int} {a : Nat} {P Q : List Int} (h : Starts b a (P ++ Q)) : Starts b (a + P.length) Q := by
  have hle := h.le
  obtain ⟨h0, R, hR⟩ := h
  refine ⟨by rw [List.length_append] at hle; omega, R, ?_⟩
  rw [← List.drop_drop, hR, List.append_assoc, List.drop_left]
theorem Starts.left {b : List Int} {a : Nat} {P Q : List Int} (h : Starts b a (P ++ Q)) : Starts b a P := by
  obtain ⟨h0, R, hR⟩ := h
  exact ⟨h0, Q ++ R, by rw [hR, List.append_assoc]⟩
theorem Starts.take {b : List Int} (hb : Bs b) (hl : b.length < 1000000000) {a n : Nat} {v m : Int} {Q : List Int} (h : Starts b a (bitsN n v ++ Q)) (hn : n ≤ 64) (hm : m = (n : Int)) (hv : 0 ≤ v) (k : Nat) (hk : 64 < k) :
    bits_Reader_Take.f k b (a : Int) false m = some (v % 2 ^ n, ((a + n : Nat) : Int), false) ∧ Starts b (a + n) Q := by
  have hc : cl m = n := by rw [cl_id (by omega) (by omega)]; omega
  have hle := h.left.le
  rw [bitsN_len] at hle
  have h2 := h.next
  rw [bitsN_len] at h2
  refine ⟨?_, h2⟩
  rw [take_ok hb (by omega) (by rw [hc]; exact hle) hk, hc]
  obtain ⟨_, R, hR⟩ := h
  rw [hR, List.append_assoc, List.take_append_of_le_length (by rw [bitsN_len]; exact Nat.le_refl _), List.take_of_length_le (by rw [bitsN_len]; exact Nat.le_refl _), valB_bitsN n hv]
end Go.Proofs.Ytmlbppfcpejlpaa.Q06

/- What the functions of layer 7 (times) tell of differences of differences. No conditions. -/
namespace Go.Proofs.Ytmlbppfcpejlpaa.Q07
open Go Go.RowKit Go.Proofs.YtmlbppfcpejlpaaW.PrintWords Go.Proofs.YtmlbppfcpejlpaaW.PrintMore Go.Proofs.Ytmlbppfcpejlpaa.S Go.Proofs.Ytmlbppfcpejlpaa.B Go.Proofs.Ytmlbppfcpejlpaa.X Go.Proofs.Ytmlbppfcpejlpaa.Q04 Go.Proofs.Ytmlbppfcpejlpaa.Q06
set_option linter.unusedVariables false
set_option linter.unusedSimpArgs false

def Is (l : List Int) : Prop := ∀ x ∈ l, -9223372036854775808 ≤ x ∧ x < 9223372036854775808
theorem i64_eq (n : Int) : IntKind.i64.wrap n = (n + 9223372036854775808) % 18446744073709551616 - 9223372036854775808 := by rw [IntKind.wrap_i64]
/-- The sign of a number of 7 bits, and its like. -/
theorem sx7 {d : Int} (h0 : -64 ≤ d) (h1 : d < 64) : shr .i64 (wrap64 (shl .u64 (IntKind.u64.wrap d % 2 ^ 7) (wrap64 (64 - 7)))) (wrap64 (64 - 7)) = d := by
  have e : wrap64 (64 - 7) = 57 := by decide +kernel
  rw [e]
  unfold shl shr
  simp only [show min (57 : Int).toNat IntKind.u64.bits = 57 by decide, show min (57 : Int).toNat IntKind.i64.bits = 57 by decide, wrap_u64, wrap64_eq, show (2 : Int) ^ 57 = 144115188075855872 by decide, show (2 : Int) ^ 7 = 128 by decide]
  omega
theorem sx9 {d : Int} (h0 : -256 ≤ d) (h1 : d < 256) : shr .i64 (wrap64 (shl .u64 (IntKind.u64.wrap d % 2 ^ 9) (wrap64 (64 - 9)))) (wrap64 (64 - 9)) = d := by
  have e : wrap64 (64 - 9) = 55 := by decide +kernel
  rw [e]
  unfold shl shr
  simp only [show min (55 : Int).toNat IntKind.u64.bits = 55 by decide, show min (55 : Int).toNat IntKind.i64.bits = 55 by decide, wrap_u64, wrap64_eq, show (2 : Int) ^ 55 = 36028797018963968 by decide, show (2 : Int) ^ 9 = 512 by decide]
  omega
theorem sx12 {d : Int} (h0 : -2048 ≤ d) (h1 : d < 2048) : shr .i64 (wrap64 (shl .u64 (IntKind.u64.wrap d % 2 ^ 12) (wrap64 (64 - 12)))) (wrap64 (64 - 12)) = d := by
  have e : wrap64 (64 - 12) = 52 := by decide +kernel
  rw [e]
  unfold shl shr
  simp only [show min (52 : Int).toNat IntKind.u64.bits = 52 by decide, show min (52 : Int).toNat IntKind.i64.bits = 52 by decide, wrap_u64, wrap64_eq, show (2 : Int) ^ 52 = 4503599627370496 by decide, show (2 : Int) ^ 12 = 4096 by decide]
  omega
theorem sx64 {d : Int} (h0 : -9223372036854775808 ≤ d) (h1 : d < 9223372036854775808) : shr .i64 (wrap64 (shl .u64 (IntKind.u64.wrap d % 2 ^ 64) (wrap64 (64 - 64)))) (wrap64 (64 - 64)) = d := by
  have e : wrap64 (64 - 64) = 0 := by decide +kernel
  rw [e]
  unfold shl shr
  simp only [show min (0 : Int).toNat IntKind.u64.bits = 0 by decide, show min (0 : Int).toNat IntKind.i64.bits = 0 by decide, wrap_u64, wrap64_eq, show (2 : Int) ^ 0 = 1 by decide, show (2 : Int) ^ 64 = 18446744073709551616 by decide]
  omega
theorem u_rng (d : Int) : 0 ≤ IntKind.u64.wrap d := by rw [wrap_u64]; omega
theorem u_rng2 (d : Int) : 0 ≤ IntKind.u64.wrap d ∧ IntKind.u64.wrap d < 18446744073709551616 := by rw [wrap_u64]; omega
/-- One bit more, and the next class. -/
theorem l0_skip {b : List Int} (hb : Bs b) (hl : b.length < 1000000000) {a i : Nat} {Q : List Int} (hi : i < 3) (h : Starts b a (bitsN 1 1 ++ Q)) (k : Nat) (hk : 100 < k) :
    times_difference.l0 (k + 1) 64 times_second.cls 4 (i : Int) b (a : Int) false = times_difference.l0 k 64 times_second.cls 4 ((i + 1 : Nat) : Int) b ((a + 1 : Nat) : Int) false ∧ Starts b (a + 1) Q := by
  obtain ⟨ht, hs⟩ := h.take hb hl (by omega) (m := 1) rfl (by omega) k (by omega)
  refine ⟨?_, hs⟩
  have hw : (rd_T105 times_second.cls (i : Int)).f2 ≠ 64 := by
    have : i = 0 ∨ i = 1 ∨ i = 2 := by omega
    rcases this with rfl | rfl | rfl <;> decide
  have e : wrap64 ((i : Int) + 1) = ((i + 1 : Nat) : Int) := by rw [wrap64_id] <;> omega
  simp only [times_difference.l0]
  rw [if_pos (by omega), if_pos (by omega), if_pos (by simp [times_second.cls]; omega), if_neg hw, ht, Option.bind_some, if_neg (show ¬ ((1 : Int) % 2 ^ 1 = 0) by decide), e]
/-- A bit of nought: this class. -/
theorem l0_hit {b : List Int} (hb : Bs b) (hl : b.length < 1000000000) {a i w : Nat} {v : Int} {Q : List Int} (hi : i < 3) (hw : (rd_T105 times_second.cls (i : Int)).f2 = (w : Int)) (hw2 : w < 64) (h : Starts b a (bitsN 1 0 ++ (bitsN w v ++ Q))) (hv : 0 ≤ v) (k : Nat) (hk : 100 < k) :
    times_difference.l0 (k + 1) 64 times_second.cls 4 (i : Int) b (a : Int) false = some (shr .i64 (wrap64 (shl .u64 (v % 2 ^ w) (wrap64 (64 - (w : Int))))) (wrap64 (64 - (w : Int))), ((a + 1 + w : Nat) : Int), false) ∧ Starts b (a + 1 + w) Q := by
  obtain ⟨ht, hs⟩ := h.take hb hl (by omega) (m := 1) rfl (by omega) k (by omega)
  obtain ⟨ht2, hs2⟩ := hs.take hb hl (by omega) (m := (w : Int)) rfl hv k (by omega)
  refine ⟨?_, hs2⟩
  simp only [times_difference.l0]
  rw [if_pos (by omega), if_pos (by omega), if_pos (by simp [times_second.cls]; omega), hw, if_neg (by omega), ht, Option.bind_some, if_pos (show (0 : Int) % 2 ^ 1 = 0 by decide), ht2, Option.bind_some, if_pos (by rw [wrap64_id] <;> omega)]
theorem l0_last {b : List Int} (hb : Bs b) (hl : b.length < 1000000000) {a : Nat} {v : Int} {Q : List Int} (h : Starts b a (bitsN 64 v ++ Q)) (hv : 0 ≤ v) (k : Nat) (hk : 100 < k) :
    times_difference.l0 (k + 1) 64 times_second.cls 4 ((3 : Nat) : Int) b (a : Int) false = some (shr .i64 (wrap64 (shl .u64 (v % 2 ^ 64) (wrap64 (64 - 64)))) (wrap64 (64 - 64)), ((a + 64 : Nat) : Int), false) ∧ Starts b (a + 64) Q := by
  obtain ⟨ht2, hs2⟩ := h.take hb hl (by omega) (m := 64) rfl hv k (by omega)
  refine ⟨?_, hs2⟩
  have hw : (rd_T105 times_second.cls ((3 : Nat) : Int)).f2 = 64 := by decide
  simp only [times_difference.l0]
  rw [if_pos (by omega), if_pos (by omega), if_pos (by simp [times_second.cls]), hw, if_pos rfl, ht2, Option.bind_some, if_pos (by decide +kernel)]
theorem diff0 {b : List Int} (hb : Bs b) (hl : b.length < 1000000000) {a : Nat} {Q : List Int} (h : Starts b a (bitsN 1 0 ++ Q)) :
    times_difference.f 200 b (a : Int) false = some (0, ((a + 1 : Nat) : Int), false) ∧ Starts b (a + 1) Q := by
  obtain ⟨ht, hs⟩ := h.take hb hl (by omega) (m := 1) rfl (by omega) 200 (by omega)
  refine ⟨?_, hs⟩
  unfold times_difference.f
  rw [ht, Option.bind_some, if_pos (show (0 : Int) % 2 ^ 1 = 0 by decide)]
theorem f_lead {b : List Int} (hb : Bs b) (hl : b.length < 1000000000) {a : Nat} {Q : List Int} (h : Starts b a (bitsN 1 1 ++ Q)) :
    times_difference.f 200 b (a : Int) false = times_difference.l0 200 64 times_second.cls 4 ((0 : Nat) : Int) b ((a + 1 : Nat) : Int) false ∧ Starts b (a + 1) Q := by
  obtain ⟨ht, hs⟩ := h.take hb hl (by omega) (m := 1) rfl (by omega) 200 (by omega)
  refine ⟨?_, hs⟩
  unfold times_difference.f
  rw [ht, Option.bind_some, if_neg (show ¬ ((1 : Int) % 2 ^ 1 = 0) by decide)]
  rw [show times_classes.f = some times_second.cls from rfl, Option.bind_some, show (times_second.cls.length : Int) = 4 from rfl, show ((0 : Nat) : Int) = 0 from rfl]
theorem diffd {b : List Int} (hb : Bs b) (hl : b.length < 1000000000) {a : Nat} {d : Int} {Q : List Int} (d0 : -9223372036854775808 ≤ d) (d1 : d < 9223372036854775808) (h : Starts b a (times_second.bits d ++ Q)) :
    times_difference.f 200 b (a : Int) false = some (d, ((a + (times_second.bits d).length : Nat) : Int), false) ∧ Starts b (a + (times_second.bits d).length) Q := by
  refine ⟨?_, h.next⟩
  unfold times_second.bits at h ⊢
  by_cases c1 : -64 ≤ d ∧ d < 64
  · rw [if_pos c1] at h ⊢
    rw [show bitsN 2 2 = bitsN 1 1 ++ bitsN 1 0 by decide, List.append_assoc, List.append_assoc] at h
    obtain ⟨e1, h⟩ := f_lead hb hl h
    obtain ⟨e2, h⟩ := l0_hit hb hl (i := 0) (w := 7) (by omega) rfl (by omega) h (u_rng d) 199 (by omega)
    rw [e1, e2, show (((7 : Nat) : Int)) = 7 from rfl, sx7 c1.1 c1.2, List.length_append, bitsN_len, bitsN_len]
  · rw [if_neg c1] at h ⊢
    by_cases c2 : -256 ≤ d ∧ d < 256
    · rw [if_pos c2] at h ⊢
      rw [show bitsN 3 6 = bitsN 1 1 ++ (bitsN 1 1 ++ bitsN 1 0) by decide, List.append_assoc, List.append_assoc, List.append_assoc] at h
      obtain ⟨e1, h⟩ := f_lead hb hl h
      obtain ⟨e2, h⟩ := l0_skip hb hl (i := 0) (by omega) h 199 (by omega)
      obtain ⟨e3, h⟩ := l0_hit hb hl (i := 1) (w := 9) (by omega) rfl (by omega) h (u_rng d) 198 (by omega)
      rw [e1, e2, e3, show (((9 : Nat) : Int)) = 9 from rfl, sx9 c2.1 c2.2, List.length_append, bitsN_len, bitsN_len]
    · rw [if_neg c2] at h ⊢
      by_cases c3 : -2048 ≤ d ∧ d < 2048
      · rw [if_pos c3] at h ⊢
        rw [show bitsN 4 14 = bitsN 1 1 ++ (bitsN 1 1 ++ (bitsN 1 1 ++ bitsN 1 0)) by decide, List.append_assoc, List.append_assoc, List.append_assoc, List.append_assoc] at h
        obtain ⟨e1, h⟩ := f_lead hb hl h
        obtain ⟨e2, h⟩ := l0_skip hb hl (i := 0) (by omega) h 199 (by omega)
        obtain ⟨e3, h⟩ := l0_skip hb hl (i := 1) (by omega) h 198 (by omega)
        obtain ⟨e4, h⟩ := l0_hit hb hl (i := 2) (w := 12) (by omega) rfl (by omega) h (u_rng d) 197 (by omega)
        rw [e1, e2, e3, e4, show (((12 : Nat) : Int)) = 12 from rfl, sx12 c3.1 c3.2, List.length_append, bitsN_len, bitsN_len]
      · rw [if_neg c3] at h ⊢
        rw [show bitsN 4 15 = bitsN 1 1 ++ (bitsN 1 1 ++ (bitsN 1 1 ++ bitsN 1 1)) by decide, List.append_assoc, List.append_assoc, List.append_assoc, List.append_assoc] at h
        obtain ⟨e1, h⟩ := f_lead hb hl h
        obtain ⟨e2, h⟩ := l0_skip hb hl (i := 0) (by omega) h 199 (by omega)
        obtain ⟨e3, h⟩ := l0_skip hb hl (i := 1) (by omega) h 198 (by omega)
        obtain ⟨e4, h⟩ := l0_skip hb hl (i := 2) (by omega) h 197 (by omega)
        obtain ⟨e5, h⟩ := l0_last hb hl h (u_rng d) 196 (by omega)
        rw [e1, e2, e3, e4, e5, sx64 d0 d1, List.length_append, bitsN_len, bitsN_len]
theorem piece_bits (l : List Int) (i : Nat) : Bits (times_twice.piece l i) := by
  unfold times_twice.piece
  split
  · exact bitsN_bits _ _
  · split
    · exact bitsN_bits _ _
    · split
      · exact bitsN_bits _ _
      · unfold times_second.bits
        split
        · exact (bitsN_bits _ _).append (bitsN_bits _ _)
        · split
          · exact (bitsN_bits _ _).append (bitsN_bits _ _)
          · split <;> exact (bitsN_bits _ _).append (bitsN_bits _ _)
theorem part_bits (l : List Int) (i : Nat) : Bits (times_twice.part l i) := by
  induction i with
  | zero => exact Bits.nil
  | succ i ih => exact ih.append (piece_bits l i)
theorem part_split (l : List Int) (d : Nat) : ∀ i, ∃ Q, times_twice.part l (i + d) = times_twice.part l i ++ Q := by
  induction d with
  | zero => exact fun i => ⟨[], by simp⟩
  | succ d ih =>
    intro i
    obtain ⟨Q, hQ⟩ := ih i
    exact ⟨Q ++ times_twice.piece l (i + d), by rw [← Nat.add_assoc, times_twice.part, hQ, List.append_assoc]⟩
theorem wi64_u (d : Int) : IntKind.i64.wrap (IntKind.u64.wrap (IntKind.i64.wrap d) % 2 ^ 64) = IntKind.i64.wrap d := by
  rw [i64_eq, wrap_u64, i64_eq, show (2 : Int) ^ 64 = 18446744073709551616 by decide]; omega
theorem i64_id {n : Int} (h0 : -9223372036854775808 ≤ n) (h1 : n < 9223372036854775808) : IntKind.i64.wrap n = n := by rw [i64_eq]; omega
theorem i64_rng (n : Int) : -9223372036854775808 ≤ IntKind.i64.wrap n ∧ IntKind.i64.wrap n < 9223372036854775808 := by rw [i64_eq]; omega
theorem i64_back (x y : Int) (h0 : -9223372036854775808 ≤ x) (h1 : x < 9223372036854775808) : IntKind.i64.wrap (y + IntKind.i64.wrap (x - y)) = x := by
  rw [i64_eq, i64_eq]; omega
theorem i64_back' (x y : Int) : IntKind.i64.wrap (y + IntKind.i64.wrap (IntKind.i64.wrap x - y)) = IntKind.i64.wrap x := i64_back _ _ (i64_rng x).1 (i64_rng x).2
theorem dif_rng (l : List Int) (i : Nat) : times_twice.dif l i = IntKind.i64.wrap (times_twice.dif l i) := by
  unfold times_twice.dif
  split
  · decide +kernel
  · rw [i64_id (i64_rng _).1 (i64_rng _).2]
theorem run_spec {l more : List Int} (hl : l.length ≤ 200) (hi : Is l) (hm : Bs more) (hml : more.length ≤ 1000) (i : Nat) (h : i ≤ l.length) :
    times_getTwice.run (packB (times_twice.part l l.length) ++ more) i = some (l.take i, times_twice.step l i, ((times_twice.part l i).length : Int), false) := by
  have hb : Bs (packB (times_twice.part l l.length) ++ more) := (packB_bs (part_bits _ _)).append hm
  have hbl : (packB (times_twice.part l l.length) ++ more).length < 1000000000 := by
    rw [List.length_append, packB_len]
    have := times_twice.part_len l l.length
    omega
  have hst := Starts.of (part_bits l l.length) more
  generalize packB (times_twice.part l l.length) ++ more = b at *
  induction i with
  | zero => simp [times_getTwice.run, times_twice.step, times_twice.part]
  | succ i ih =>
    have hlt : i < l.length := by omega
    obtain ⟨Q, hQ⟩ := part_split l (l.length - (i + 1)) (i + 1)
    rw [show i + 1 + (l.length - (i + 1)) = l.length by omega, times_twice.part, List.append_assoc] at hQ
    rw [hQ] at hst
    have h1 := hst.next
    rw [Nat.zero_add] at h1
    have hx := hi _ (List.getElem_mem hlt)
    have hrd : rd l (i : Int) = l[i] := rd_get hlt
    have htk : l.take (i + 1) = l.take i ++ [l[i]] := List.take_succ_eq_append_getElem hlt
    rw [times_getTwice.run, ih (by omega), Option.bind_some]
    simp only []
    generalize hpl : (times_twice.part l i).length = a at *
    have hpl1 : (times_twice.part l (i + 1)).length = a + (times_twice.piece l i).length := by rw [times_twice.part, List.length_append, hpl]
    by_cases c0 : i = 0
    · subst c0
      have hp : times_twice.piece l 0 = bitsN 64 (IntKind.u64.wrap l[0]) := by unfold times_twice.piece; rw [if_pos rfl, ← hrd]
      rw [hp] at h1 hpl1
      obtain ⟨ht, _⟩ := h1.take hb hbl (by omega) (m := 64) rfl (u_rng _) 200 (by omega)
      rw [if_pos rfl, ht, Option.bind_some, hpl1, bitsN_len, htk]
      have e : IntKind.i64.wrap (IntKind.u64.wrap l[0] % 2 ^ 64) = l[0] := by
        have := wi64_u l[0]
        rwa [i64_id hx.1 hx.2] at this
      simp only [e, List.take_zero, List.nil_append]
      rfl
    · rw [if_neg c0]
      have hdl : times_twice.dif l i = IntKind.i64.wrap (l[i] - rd l ((i : Int) - 1)) := by
        unfold times_twice.dif
        rw [if_neg c0, hrd, show ((i - 1 : Nat) : Int) = (i : Int) - 1 by omega]
      have hrd1 : rd (l.take i) ((i : Int) - 1) = rd l ((i : Int) - 1) := by
        rw [show (i : Int) - 1 = ((i - 1 : Nat) : Int) by omega, rd_get (by rw [List.length_take]; omega), rd_get (by omega), List.getElem_take]
      have hback : IntKind.i64.wrap (rd l ((i : Int) - 1) + times_twice.dif l i) = l[i] := by rw [hdl]; exact i64_back _ _ hx.1 hx.2
      have hstep : times_twice.step l (i + 1) = times_twice.dif l i := by unfold times_twice.step; rw [if_neg (by omega)]; rfl
      rw [hrd1, hstep, htk]
      by_cases c1 : i = 1
      · subst c1
        have hp : times_twice.piece l 1 = bitsN 64 (IntKind.u64.wrap (times_twice.dif l 1)) := by unfold times_twice.piece; rw [if_neg (by decide), if_pos rfl]
        rw [hp] at h1 hpl1
        obtain ⟨ht, _⟩ := h1.take hb hbl (by omega) (m := 64) rfl (u_rng _) 200 (by omega)
        have e : IntKind.i64.wrap (IntKind.u64.wrap (times_twice.dif l 1) % 2 ^ 64) = times_twice.dif l 1 := by
          have := wi64_u (times_twice.dif l 1)
          rwa [← dif_rng] at this
        rw [if_pos rfl, ht, Option.bind_some, hpl1, bitsN_len]
        simp only [e, hback]
      · rw [if_neg c1]
        have hs0 : times_twice.step l i = times_twice.dif l (i - 1) := by unfold times_twice.step; rw [if_neg c0]
        rw [hs0]
        by_cases c2 : times_twice.dif l i = times_twice.dif l (i - 1)
        · have hp : times_twice.piece l i = bitsN 1 0 := by unfold times_twice.piece; rw [if_neg c0, if_neg c1, if_pos c2]
          rw [hp] at h1 hpl1
          obtain ⟨ht, _⟩ := diff0 hb hbl h1
          rw [ht, Option.bind_some, hpl1, bitsN_len]
          simp only []
          rw [Int.add_zero, ← c2, ← dif_rng, hback]
        · have hp : times_twice.piece l i = times_second.bits (IntKind.i64.wrap (times_twice.dif l i - times_twice.dif l (i - 1))) := by unfold times_twice.piece; rw [if_neg c0, if_neg c1, if_neg c2]
          rw [hp] at h1 hpl1
          obtain ⟨ht, _⟩ := diffd hb hbl (i64_rng _).1 (i64_rng _).2 h1
          rw [ht, Option.bind_some, hpl1]
          simp only []
          have e : IntKind.i64.wrap (times_twice.dif l (i - 1) + IntKind.i64.wrap (times_twice.dif l i - times_twice.dif l (i - 1))) = times_twice.dif l i := by
            rw [dif_rng l i]; exact i64_back' _ _
          rw [e, hback]
theorem getTwice_spec {l more : List Int} (hl : l.length ≤ 200) (hi : Is l) (hm : Bs more) (hml : more.length ≤ 1000) :
    times_getTwice.f (packB (times_twice.part l l.length) ++ more) (l.length : Int) = some (l, 0) := by
  unfold times_getTwice.f
  have hbl : (packB (times_twice.part l l.length) ++ more).length < 1000000000 := by
    rw [List.length_append, packB_len]
    have := times_twice.part_len l l.length
    omega
  rw [if_pos ⟨by omega, hbl⟩, Int.toNat_natCast, run_spec hl hi hm hml l.length (Nat.le_refl _), Option.bind_some, if_neg (by simp), List.take_length]
end Go.Proofs.Ytmlbppfcpejlpaa.Q07

/- What times.Put and times.Get tell by differences of differences; what is put before. No conditions. -/
namespace Go.Proofs.Ytmlbppfcpejlpaa.Q07
open Go Go.RowKit Go.Proofs.YtmlbppfcpejlpaaW.PrintWords Go.Proofs.YtmlbppfcpejlpaaW.PrintMore Go.Proofs.Ytmlbppfcpejlpaa.S Go.Proofs.Ytmlbppfcpejlpaa.B Go.Proofs.Ytmlbppfcpejlpaa.X Go.Proofs.Ytmlbppfcpejlpaa.Q04 Go.Proofs.Ytmlbppfcpejlpaa.Q06
set_option linter.unusedVariables false
set_option linter.unusedSimpArgs false

theorem packB_nil : packB [] = [] := by decide +kernel
theorem part_nil (l : List Int) : packB (times_twice.part l 0) = [] := by rw [times_twice.part, packB_nil]
theorem put7_spec {k : Nat} {l : List Int} (hl : l.length ≤ 200) (hk : 0 < k) : times_Put.f k l 2 = some (packB (times_twice.part l l.length), 0) := by
  obtain ⟨k, rfl⟩ : ∃ q, k = q + 1 := ⟨k - 1, by omega⟩
  unfold times_Put.f
  rw [if_neg (by omega), if_neg (by omega), decide_eq_false (by omega)]
  simp only [times_Put.j0]
  rw [if_neg (by simp)]
  by_cases h : l.length = 0
  · rw [if_pos (by omega), h, part_nil]
  · rw [if_neg (by omega), if_pos trivial]
    unfold times_twice.f
    rw [if_pos hl, Option.bind_some]
theorem get7_spec {k : Nat} {l more : List Int} (hl : l.length ≤ 200) (hi : Is l) (hm : Bs more) (hml : more.length ≤ 1000) (hk : 1 < k) :
    times_Get.f k (packB (times_twice.part l l.length) ++ more) (l.length : Int) 2 = some (l, ((packB (times_twice.part l l.length)).length : Int), 0) := by
  obtain ⟨k, rfl⟩ : ∃ q, k = q + 1 := ⟨k - 1, by omega⟩
  unfold times_Get.f
  rw [if_neg (by omega), if_neg (by omega), if_neg (by omega), decide_eq_false (by omega)]
  have h1 := getTwice_spec hl hi hm hml
  have h2 := put7_spec (k := k) hl (by omega)
  have h3 := prefix_yes (packB (times_twice.part l l.length)) more
  have h4 : l.length = 0 → packB (times_twice.part l l.length) = [] := fun h => by rw [h, part_nil]
  generalize packB (times_twice.part l l.length) = B1 at *
  simp only [times_Get.j0]
  rw [if_neg (by simp)]
  by_cases h : l.length = 0
  · obtain rfl : l = [] := List.length_eq_zero_iff.1 h
    rw [if_pos (by simp), h4 h]
    rfl
  · rw [if_neg (by omega)]
    unfold times_got.f
    rw [if_neg (by decide), if_neg (by decide), if_pos rfl, h1, Option.bind_some, Option.bind_some]
    simp only []
    rw [if_pos trivial, h2, Option.bind_some]
    simp only []
    rw [h3, Option.bind_some, if_pos rfl]
theorem same_l0 {l : List Int} (hl : l.length < 1000000000000) (d : Nat) : ∀ (i k : Nat), i + d = l.length → d < k → rickref07_Same.l0 k l l (i : Int) = some true := by
  induction d with
  | zero =>
    intro i k hi hk
    obtain ⟨k, rfl⟩ : ∃ q, k = q + 1 := ⟨k - 1, by omega⟩
    simp only [rickref07_Same.l0]
    rw [if_neg (by omega)]
  | succ d ih =>
    intro i k hi hk
    obtain ⟨k, rfl⟩ : ∃ q, k = q + 1 := ⟨k - 1, by omega⟩
    simp only [rickref07_Same.l0, if_true]
    rw [if_pos (by omega), if_pos (by omega), if_pos (by omega), Q06.succ64 (by omega)]
    exact ih (i + 1) k (by omega) (by omega)
theorem same_spec {k : Nat} {l : List Int} (hl : l.length < 1000000000000) (hk : l.length < k) : rickref07_Same.f k l l = some true := by
  unfold rickref07_Same.f
  rw [if_pos rfl]
  exact same_l0 hl l.length 0 k (by omega) hk
theorem puts7_some : ricklaw07_puts.f 40 = some true := by decide +kernel
theorem puts7_spec {k : Nat} (hk : 40 ≤ k) : ricklaw07_puts.f k = some true := at_rounds ricklaw07_puts.mono hk puts7_some
theorem part1_len (l : List Int) : (times_twice.part l 1).length = 64 := by
  rw [times_twice.part, List.length_append]
  unfold times_twice.piece
  rw [if_pos rfl, bitsN_len]; rfl
theorem part2_len (l : List Int) : (times_twice.part l 2).length = 128 := by
  rw [times_twice.part, List.length_append, part1_len]
  unfold times_twice.piece
  rw [if_neg (by decide), if_pos rfl, bitsN_len]
end Go.Proofs.Ytmlbppfcpejlpaa.Q07

/- TimesEven: times with one step between them have, as differences of differences, a bit each behind the second one. No conditions. -/
namespace Go.Proofs.Ytmlbppfcpejlpaa.Pure
open Go Go.RowKit Go.Proofs.YtmlbppfcpejlpaaW.PrintWords Go.Proofs.YtmlbppfcpejlpaaW.PrintMore Go.Proofs.Ytmlbppfcpejlpaa.S Go.Proofs.Ytmlbppfcpejlpaa.B Go.Proofs.Ytmlbppfcpejlpaa.X Go.Proofs.Ytmlbppfcpejlpaa.Q04 Go.Proofs.Ytmlbppfcpejlpaa.Q06 Go.Proofs.Ytmlbppfcpejlpaa.Q07
set_option linter.unusedVariables false
set_option linter.unusedSimpArgs false

/-- n times with one step. -/
def even (a s : Int) (n : Nat) : List Int := (List.range n).map (fun (i : Nat) => wrap64 (a + (i : Int) * s))
theorem even_len (a s : Int) (n : Nat) : (even a s n).length = n := by simp [even]
theorem even_succ (a s : Int) (n : Nat) : even a s (n + 1) = even a s n ++ [wrap64 (a + (n : Int) * s)] := by simp [even, List.range_succ]
theorem even_is (a s : Int) (n : Nat) : Is (even a s n) := by
  intro x hx
  obtain ⟨i, _, rfl⟩ := List.mem_map.1 hx
  generalize a + (i : Int) * s = y
  rw [wrap64_eq]; omega
theorem even_rd (a s : Int) (n i : Nat) (h : i < n) : rd (even a s n) (i : Int) = wrap64 (a + (i : Int) * s) := by
  rw [rd_get (by rw [even_len]; exact h)]; simp [even]
theorem even_dif (a s : Int) (n i : Nat) (h : i + 1 < n) : times_twice.dif (even a s n) (i + 1) = wrap64 s := by
  unfold times_twice.dif
  rw [if_neg (by omega), even_rd a s n (i + 1) h, Nat.add_sub_cancel, even_rd a s n i (by omega), show ((i + 1 : Nat) : Int) * s = (i : Int) * s + s by rw [Int.natCast_add, Int.add_mul]; simp]
  generalize (i : Int) * s = y
  rw [i64_eq, wrap64_eq, wrap64_eq, wrap64_eq]; omega
theorem even_part (a s : Int) (n : Nat) (d : Nat) (h : d + 2 ≤ n) : (times_twice.part (even a s n) (d + 2)).length = 128 + d := by
  induction d with
  | zero => exact part2_len _
  | succ d ih =>
    rw [show d + 1 + 2 = (d + 2) + 1 by omega, times_twice.part, List.length_append, ih (by omega)]
    have hp : times_twice.piece (even a s n) (d + 2) = bitsN 1 0 := by
      unfold times_twice.piece
      rw [if_neg (by omega), if_neg (by omega), if_pos]
      rw [even_dif a s n (d + 1) (by omega), show d + 2 - 1 = d + 1 by omega, even_dif a s n d (by omega)]
    rw [hp, bitsN_len]; omega
theorem even_end (a s : Int) (n : Nat) (hn : n ≤ 200) (k : Nat) (hk : 300 < k) : ricklaw07_TimesEven.l0 k s (n : Int) (even a s n) (wrap64 (a + (n : Int) * s)) (n : Int) = some true := by
  obtain ⟨k, rfl⟩ : ∃ q, k = q + 2 := ⟨k - 2, by omega⟩
  have h1 := put7_spec (k := k + 1) (l := even a s n) (by rw [even_len]; exact hn) (by omega)
  have h2 := get7_spec (k := k) (l := even a s n) (more := []) (by rw [even_len]; exact hn) (even_is a s n) (by intro x hx; simp at hx) (by simp) (by omega)
  have h3 := same_spec (k := k) (l := even a s n) (by rw [even_len]; omega) (by rw [even_len]; omega)
  have h4 := puts7_spec (k := k) (by omega)
  rw [List.append_nil] at h2
  rw [even_len] at h1 h2
  have hlen : (packB (times_twice.part (even a s n) n)).length = ((times_twice.part (even a s n) n).length + 7) / 8 := packB_len _
  have hn0 : n = 0 → (packB (times_twice.part (even a s n) n)).length = 0 := fun h => by rw [h, part_nil]; rfl
  have hn1 : n = 1 → (packB (times_twice.part (even a s n) n)).length = 8 := fun h => by rw [hlen, h, part1_len]
  have hn2 : 1 < n → (packB (times_twice.part (even a s n) n)).length = 16 + (n - 2 + 7) / 8 := fun h => by
    obtain ⟨d, rfl⟩ : ∃ d, n = d + 2 := ⟨n - 2, by omega⟩
    rw [hlen, even_part a s (d + 2) d (by omega)]; omega
  clear hlen
  generalize packB (times_twice.part (even a s n) n) = B1 at *
  generalize even a s n = l at *
  rw [ricklaw07_TimesEven.l0, if_neg (Int.lt_irrefl _), h1, Option.bind_some]
  have hj : ∀ x : Int, (n ≤ 1 → (B1.length : Int) = x) → ricklaw07_TimesEven.j1 (k + 1) (n : Int) l B1 0 x = some true := by
    intro x hx
    rw [ricklaw07_TimesEven.j1]
    by_cases c : 1 < n
    · rw [if_pos (by omega), h2, Option.bind_some, h4, Option.bind_some, if_pos rfl, if_pos rfl]
      have e2 : wrap64 ((n : Int) - 2) = (n : Int) - 2 := wrap64_id (by omega) (by omega)
      have e3 : wrap64 ((n : Int) - 2 + 7) = (n : Int) - 2 + 7 := wrap64_id (by omega) (by omega)
      have e4 : Int.tdiv ((n : Int) - 2 + 7) 8 = ((n : Int) - 2 + 7) / 8 := Int.tdiv_eq_ediv_of_nonneg (by omega)
      have e5 : wrap64 (((n : Int) - 2 + 7) / 8) = ((n : Int) - 2 + 7) / 8 := wrap64_id (by omega) (by omega)
      have e6 : wrap64 (16 + ((n : Int) - 2 + 7) / 8) = 16 + ((n : Int) - 2 + 7) / 8 := wrap64_id (by omega) (by omega)
      have e7 := hn2 c
      rw [e2, e3, e4, e5, e6, if_pos (by omega)]
      simp only [if_true]
      rw [h3, Option.bind_some]
    · rw [if_neg (by omega), h2, Option.bind_some, h4, Option.bind_some, if_pos rfl, if_pos rfl, if_pos (hx (by omega))]
      simp only [if_true]
      rw [h3, Option.bind_some]
  by_cases c1 : n = 1
  · rw [if_pos (by omega)]
    exact hj 8 (fun _ => by rw [hn1 c1]; rfl)
  · rw [if_neg (by omega)]
    exact hj 0 (fun _ => by rw [hn0 (by omega)]; rfl)
theorem even_l0 (a s : Int) (n : Nat) (hn : n ≤ 200) (d : Nat) : ∀ (i k : Nat), i + d = n → 400 + d < k → ricklaw07_TimesEven.l0 k s (n : Int) (even a s i) (wrap64 (a + (i : Int) * s)) (i : Int) = some true := by
  induction d with
  | zero =>
    intro i k hi hk
    obtain rfl : i = n := by omega
    exact even_end a s i hn k (by omega)
  | succ d ih =>
    intro i k hi hk
    obtain ⟨k, rfl⟩ : ∃ q, k = q + 1 := ⟨k - 1, by omega⟩
    have h1 := ih (i + 1) k (by omega) (by omega)
    rw [even_succ] at h1
    have e : wrap64 (wrap64 (a + (i : Int) * s) + s) = wrap64 (a + ((i + 1 : Nat) : Int) * s) := by
      rw [show ((i + 1 : Nat) : Int) * s = (i : Int) * s + s by rw [Int.natCast_add, Int.add_mul]; simp]
      generalize (i : Int) * s = y
      rw [wrap64_eq, wrap64_eq, wrap64_eq]; omega
    rw [ricklaw07_TimesEven.l0, if_pos (by omega), if_pos (by rw [even_len]; omega), e, Q06.succ64 (by omega)]
    exact h1
theorem TimesEven : ricklaw07_TimesEven.Pure := by
  intro first step many h0 h1 h2
  obtain ⟨f0, f1⟩ := wf_i64 h0
  have hm0 : 0 ≤ IntKind.u64.wrap many := by rw [wrap_u64]; omega
  obtain ⟨n, hn, hn1⟩ : ∃ n : Nat, wrap64 (Int.tmod (IntKind.u64.wrap many) 201) = (n : Int) ∧ n ≤ 200 := by
    refine ⟨(IntKind.u64.wrap many % 201).toNat, ?_, by omega⟩
    rw [Int.tmod_eq_emod_of_nonneg hm0, wrap64_id (by omega) (by omega)]
    omega
  refine ⟨1000, ?_⟩
  unfold ricklaw07_TimesEven.f
  rw [hn]
  have := even_l0 first step n hn1 n 0 1000 (by omega) (by omega)
  rw [show wrap64 (first + ((0 : Nat) : Int) * step) = first by rw [show first + ((0 : Nat) : Int) * step = first by simp]; exact wrap64_id f0 f1] at this
  exact this
end Go.Proofs.Ytmlbppfcpejlpaa.Pure
