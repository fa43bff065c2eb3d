/- Texts of this claim, laid together (wip/merge.py): XRicklaw07Timesclasses, Q06c, Q06s, Q07, Q07b, PureTimesClasses. No conditions. -/
import Derived.Test.YtmlbppfcpejlpaaMTimesClasses1
import Derived.Test.YtmlbppfcpejlpaaMTimesClasses3
import Derived.Test.YtmlbppfcpejlpaaMTimesClasses2
-- Printed by this session's own program (wip/xprint.py) over the translation; its external functions are hand-written. Lean checks it.
namespace Go.Proofs.Ytmlbppfcpejlpaa.X
open Go.RowKit Go.Proofs.YtmlbppfcpejlpaaW.PrintWords Go.Proofs.YtmlbppfcpejlpaaW.PrintLast Go.Proofs.YtmlbppfcpejlpaaW.PrintMore
attribute [local go_sem] max2_int min2_int max_two min_two max_three min_three max_four min_four   -- for this text's walks alone
set_option linter.unusedVariables false
set_option linter.unusedSimpArgs false

/-! ### ricklaw07_TimesClasses: function 16 -/
mutual
def ricklaw07_TimesClasses.j0 : Nat → Int → List Int → List Int → Int → Bool → Option (Bool)
  | 0, _, _, _, _, _ => none
  | k + 1, x2, x7, x8, x9, x33 => if x33 = true then ((times_Get.f k x8 3 2).bind fun bt598 => ((ricklaw07_puts.f k).bind fun t603 => (if t603 = true then (if x9 = 0 then (if (x8.length : Int) = 18 then (if bt598.2.2 = 0 then ((rickref07_Same.f k bt598.1 x7).bind fun t604 => (some t604)) else (some false)) else (some false)) else (some false)) else (some false)))) else (if x2 ≥ (-256) then (ricklaw07_TimesClasses.j1 k x2 x7 x8 x9 (decide (x2 < 256))) else (ricklaw07_TimesClasses.j1 k x2 x7 x8 x9 false))
def ricklaw07_TimesClasses.j1 : Nat → Int → List Int → List Int → Int → Bool → Option (Bool)
  | 0, _, _, _, _, _ => none
  | k + 1, x2, x7, x8, x9, x40 => if x40 = true then ((times_Get.f k x8 3 2).bind fun bt605 => ((ricklaw07_puts.f k).bind fun t610 => (if t610 = true then (if x9 = 0 then (if (x8.length : Int) = 18 then (if bt605.2.2 = 0 then ((rickref07_Same.f k bt605.1 x7).bind fun t611 => (some t611)) else (some false)) else (some false)) else (some false)) else (some false)))) else (if x2 ≥ (-2048) then (ricklaw07_TimesClasses.j2 k x7 x8 x9 (decide (x2 < 2048))) else (ricklaw07_TimesClasses.j2 k x7 x8 x9 false))
def ricklaw07_TimesClasses.j2 : Nat → List Int → List Int → Int → Bool → Option (Bool)
  | 0, _, _, _, _ => none
  | k + 1, x7, x8, x9, x47 => if x47 = true then ((times_Get.f k x8 3 2).bind fun bt612 => ((ricklaw07_puts.f k).bind fun t617 => (if t617 = true then (if x9 = 0 then (if (x8.length : Int) = 18 then (if bt612.2.2 = 0 then ((rickref07_Same.f k bt612.1 x7).bind fun t618 => (some t618)) else (some false)) else (some false)) else (some false)) else (some false)))) else ((times_Get.f k x8 3 2).bind fun bt619 => ((ricklaw07_puts.f k).bind fun t624 => (if t624 = true then (if x9 = 0 then (if (x8.length : Int) = 25 then (if bt619.2.2 = 0 then ((rickref07_Same.f k bt619.1 x7).bind fun t625 => (some t625)) else (some false)) else (some false)) else (some false)) else (some false))))
end
def ricklaw07_TimesClasses.f (k : Nat) (a0 : Int) (a1 : Int) (a2 : Int) : Option (Bool) := (some (([a0, wrap64 (a0 + a1), wrap64 ((wrap64 (a0 + (wrap64 (2 * a1)))) + a2)] : List Int) : List Int)).bind fun y584 => ((times_Put.f k y584 2).bind fun bt587 => (if a2 = 0 then ((times_Get.f k bt587.1 3 2).bind fun bt591 => ((ricklaw07_puts.f k).bind fun t596 => (if t596 = true then (if bt587.2 = 0 then (if (bt587.1.length : Int) = 17 then (if bt591.2.2 = 0 then ((rickref07_Same.f k bt591.1 y584).bind fun t597 => (some t597)) else (some false)) else (some false)) else (some false)) else (some false)))) else (if a2 ≥ (-64) then (ricklaw07_TimesClasses.j0 k a2 y584 bt587.1 bt587.2 (decide (a2 < 64))) else (ricklaw07_TimesClasses.j0 k a2 y584 bt587.1 bt587.2 false))))
theorem ricklaw07_TimesClasses.mono_l : ∀ k, (∀ y0 y1 y2 y3 y4, LeO (ricklaw07_TimesClasses.j0 k y0 y1 y2 y3 y4) (ricklaw07_TimesClasses.j0 (k + 1) y0 y1 y2 y3 y4)) ∧ (∀ y0 y1 y2 y3 y4, LeO (ricklaw07_TimesClasses.j1 k y0 y1 y2 y3 y4) (ricklaw07_TimesClasses.j1 (k + 1) y0 y1 y2 y3 y4)) ∧ (∀ y0 y1 y2 y3, LeO (ricklaw07_TimesClasses.j2 k y0 y1 y2 y3) (ricklaw07_TimesClasses.j2 (k + 1) y0 y1 y2 y3))
  | 0 => ⟨fun _ _ _ _ _ r h => by simp [ricklaw07_TimesClasses.j0] at h, fun _ _ _ _ _ r h => by simp [ricklaw07_TimesClasses.j1] at h, fun _ _ _ _ r h => by simp [ricklaw07_TimesClasses.j2] at h⟩
  | k + 1 => by
    obtain ⟨ih0, ih1, ih2⟩ := ricklaw07_TimesClasses.mono_l k
    refine ⟨?_, ?_, ?_⟩
    · intro y0 y1 y2 y3 y4
      unfold ricklaw07_TimesClasses.j0
      repeat' first
      | (with_reducible exact ih0 _ _ _ _ _)
      | (with_reducible exact ih1 _ _ _ _ _)
      | (with_reducible exact ih2 _ _ _ _)
      | (with_reducible exact ricklaw07_puts.mono _)
      | (with_reducible exact rickref07_Same.mono _ _ _)
      | (with_reducible exact times_Get.mono _ _ _ _)
      | (with_reducible exact times_Put.mono _ _ _)
      | (with_reducible exact LeO.refl _)
      | (with_reducible exact LeO.none _)
      | (with_reducible refine LeO.ite ?_ ?_)
      | (with_reducible refine LeO.bind ?_ (fun _ => ?_))
      | exact ih0 _ _ _ _ _
      | exact ih1 _ _ _ _ _
      | exact ih2 _ _ _ _
      | exact ricklaw07_puts.mono _
      | exact rickref07_Same.mono _ _ _
      | exact times_Get.mono _ _ _ _
      | exact times_Put.mono _ _ _
      | exact LeO.none _
      | refine LeO.ite ?_ ?_
      | refine LeO.bind ?_ (fun _ => ?_)
    · intro y0 y1 y2 y3 y4
      unfold ricklaw07_TimesClasses.j1
      repeat' first
      | (with_reducible exact ih0 _ _ _ _ _)
      | (with_reducible exact ih1 _ _ _ _ _)
      | (with_reducible exact ih2 _ _ _ _)
      | (with_reducible exact ricklaw07_puts.mono _)
      | (with_reducible exact rickref07_Same.mono _ _ _)
      | (with_reducible exact times_Get.mono _ _ _ _)
      | (with_reducible exact times_Put.mono _ _ _)
      | (with_reducible exact LeO.refl _)
      | (with_reducible exact LeO.none _)
      | (with_reducible refine LeO.ite ?_ ?_)
      | (with_reducible refine LeO.bind ?_ (fun _ => ?_))
      | exact ih0 _ _ _ _ _
      | exact ih1 _ _ _ _ _
      | exact ih2 _ _ _ _
      | exact ricklaw07_puts.mono _
      | exact rickref07_Same.mono _ _ _
      | exact times_Get.mono _ _ _ _
      | exact times_Put.mono _ _ _
      | exact LeO.none _
      | refine LeO.ite ?_ ?_
      | refine LeO.bind ?_ (fun _ => ?_)
    · intro y0 y1 y2 y3
      unfold ricklaw07_TimesClasses.j2
      repeat' first
      | (with_reducible exact ih0 _ _ _ _ _)
      | (with_reducible exact ih1 _ _ _ _ _)
      | (with_reducible exact ih2 _ _ _ _)
      | (with_reducible exact ricklaw07_puts.mono _)
      | (with_reducible exact rickref07_Same.mono _ _ _)
      | (with_reducible exact times_Get.mono _ _ _ _)
      | (with_reducible exact times_Put.mono _ _ _)
      | (with_reducible exact LeO.refl _)
      | (with_reducible exact LeO.none _)
      | (with_reducible refine LeO.ite ?_ ?_)
      | (with_reducible refine LeO.bind ?_ (fun _ => ?_))
      | exact ih0 _ _ _ _ _
      | exact ih1 _ _ _ _ _
      | exact ih2 _ _ _ _
      | exact ricklaw07_puts.mono _
      | exact rickref07_Same.mono _ _ _
      | exact times_Get.mono _ _ _ _
      | exact times_Put.mono _ _ _
      | exact LeO.none _
      | refine LeO.ite ?_ ?_
      | refine LeO.bind ?_ (fun _ => ?_)
theorem ricklaw07_TimesClasses.mono : ∀ a0 a1 a2 k, LeO (ricklaw07_TimesClasses.f k a0 a1 a2) (ricklaw07_TimesClasses.f (k + 1) a0 a1 a2) := by
  intro a0 a1 a2 k
  obtain ⟨ih0, ih1, ih2⟩ := ricklaw07_TimesClasses.mono_l k
  unfold ricklaw07_TimesClasses.f
  repeat' first
      | (with_reducible exact ih0 _ _ _ _ _)
      | (with_reducible exact ih1 _ _ _ _ _)
      | (with_reducible exact ih2 _ _ _ _)
      | (with_reducible exact ricklaw07_puts.mono _)
      | (with_reducible exact rickref07_Same.mono _ _ _)
      | (with_reducible exact times_Get.mono _ _ _ _)
      | (with_reducible exact times_Put.mono _ _ _)
      | (with_reducible exact LeO.refl _)
      | (with_reducible exact LeO.none _)
      | (with_reducible refine LeO.ite ?_ ?_)
      | (with_reducible refine LeO.bind ?_ (fun _ => ?_))
      | exact ih0 _ _ _ _ _
      | exact ih1 _ _ _ _ _
      | exact ih2 _ _ _ _
      | exact ricklaw07_puts.mono _
      | exact rickref07_Same.mono _ _ _
      | exact times_Get.mono _ _ _ _
      | exact times_Put.mono _ _ _
      | exact LeO.none _
      | refine LeO.ite ?_ ?_
      | refine LeO.bind ?_ (fun _ => ?_)
set_option maxHeartbeats 8000000 in
set_option maxRecDepth 100000 in
theorem ricklaw07_TimesClasses.calls (k : Nat) (a0 : Int) (a1 : Int) (a2 : Int) (r : Bool) (w : World) (h : ricklaw07_TimesClasses.f k a0 a1 a2 = some r) :
    Calls Try.prog 16 #[.int .i64 a0, .int .i64 a1, .int .i64 a2] w fun e w' => e = .returned (.bool r) ∧ Below w.heap.size w w' := by
  have HB := Aside0.mk (Below.refl w.heap.size w)
  have H : ((some (([a0, wrap64 (a0 + a1), wrap64 ((wrap64 (a0 + (wrap64 (2 * a1)))) + a2)] : List Int) : List Int)).bind fun y584 => ((times_Put.f k y584 2).bind fun bt587 => (if a2 = 0 then ((times_Get.f k bt587.1 3 2).bind fun bt591 => ((ricklaw07_puts.f k).bind fun t596 => (if t596 = true then (if bt587.2 = 0 then (if (bt587.1.length : Int) = 17 then (if bt591.2.2 = 0 then ((rickref07_Same.f k bt591.1 y584).bind fun t597 => (some t597)) else (some false)) else (some false)) else (some false)) else (some false)))) else (if a2 ≥ (-64) then (ricklaw07_TimesClasses.j0 k a2 y584 bt587.1 bt587.2 (decide (a2 < 64))) else (ricklaw07_TimesClasses.j0 k a2 y584 bt587.1 bt587.2 false))))) = some r := h
  clear h
  obtain ⟨y584, hy584⟩ : ∃ y_ : List Int, y_ = (([a0, wrap64 (a0 + a1), wrap64 ((wrap64 (a0 + (wrap64 (2 * a1)))) + a2)] : List Int)) := ⟨_, rfl⟩
  replace H : ((times_Put.f k y584 2).bind fun bt587 => (if a2 = 0 then ((times_Get.f k bt587.1 3 2).bind fun bt591 => ((ricklaw07_puts.f k).bind fun t596 => (if t596 = true then (if bt587.2 = 0 then (if (bt587.1.length : Int) = 17 then (if bt591.2.2 = 0 then ((rickref07_Same.f k bt591.1 y584).bind fun t597 => (some t597)) else (some false)) else (some false)) else (some false)) else (some false)))) else (if a2 ≥ (-64) then (ricklaw07_TimesClasses.j0 k a2 y584 bt587.1 bt587.2 (decide (a2 < 64))) else (ricklaw07_TimesClasses.j0 k a2 y584 bt587.1 bt587.2 false)))) = some r := by first | (rw [hy584]; with_reducible exact H) | (have H2_ := (Option.bind_some _ _).symm.trans H; rw [hy584]; with_reducible exact H2_) | (have H2_ := (Option.bind_some _ _).symm.trans H; with_reducible exact H2_) | with_reducible exact H | (rw [hy584]; exact H) | exact H
  have Ny584 := Aside0.mk hy584
  clear hy584
  replace H := Option.bind_eq_some_iff.mp H
  obtain ⟨⟨t587, t588⟩, A40, H⟩ := H
  replace H : (if a2 = 0 then ((times_Get.f k t587 3 2).bind fun bt591 => ((ricklaw07_puts.f k).bind fun t596 => (if t596 = true then (if t588 = 0 then (if (t587.length : Int) = 17 then (if bt591.2.2 = 0 then ((rickref07_Same.f k bt591.1 y584).bind fun t597 => (some t597)) else (some false)) else (some false)) else (some false)) else (some false)))) else (if a2 ≥ (-64) then (ricklaw07_TimesClasses.j0 k a2 y584 t587 t588 (decide (a2 < 64))) else (ricklaw07_TimesClasses.j0 k a2 y584 t587 t588 false))) = some r := H
  have A4 := Aside0.mk A40
  clear A40
  by_cases c5 : a2 = 0
  · rw [if_pos c5] at H
    have c5b0 : (a2 == 0) = true := beq_iff_eq.mpr c5
    have c5b1 : (a2 != 0) = false := bne_eq_false_iff_eq.mpr c5
    clear c5
    replace H := Option.bind_eq_some_iff.mp H
    obtain ⟨⟨t591, t592, t593⟩, A60, H⟩ := H
    replace H : ((ricklaw07_puts.f k).bind fun t596 => (if t596 = true then (if t588 = 0 then (if (t587.length : Int) = 17 then (if t593 = 0 then ((rickref07_Same.f k t591 y584).bind fun t597 => (some t597)) else (some false)) else (some false)) else (some false)) else (some false))) = some r := H
    have A6 := Aside0.mk A60
    clear A60
    replace H := Option.bind_eq_some_iff.mp H
    obtain ⟨t596, A70, H⟩ := H
    replace H : (if t596 = true then (if t588 = 0 then (if (t587.length : Int) = 17 then (if t593 = 0 then ((rickref07_Same.f k t591 y584).bind fun t597 => (some t597)) else (some false)) else (some false)) else (some false)) else (some false)) = some r := H
    have A7 := Aside0.mk A70
    clear A70
    by_cases c8 : t596 = true
    · subst c8
      have H1 : (if t588 = 0 then (if (t587.length : Int) = 17 then (if t593 = 0 then ((rickref07_Same.f k t591 y584).bind fun t597 => (some t597)) else (some false)) else (some false)) else (some false)) = some r := by rw [if_pos rfl] at H; exact H
      clear H
      have H := H1
      clear H1
      by_cases c9 : t588 = 0
      · rw [if_pos c9] at H
        have c9b0 : (t588 == 0) = true := beq_iff_eq.mpr c9
        have c9b1 : (t588 != 0) = false := bne_eq_false_iff_eq.mpr c9
        clear c9
        by_cases c10 : (t587.length : Int) = 17
        · rw [if_pos c10] at H
          have c10b0 : ((t587.length : Int) == 17) = true := beq_iff_eq.mpr c10
          have c10b1 : ((t587.length : Int) != 17) = false := bne_eq_false_iff_eq.mpr c10
          clear c10
          by_cases c11 : t593 = 0
          · rw [if_pos c11] at H
            have c11b0 : (t593 == 0) = true := beq_iff_eq.mpr c11
            have c11b1 : (t593 != 0) = false := bne_eq_false_iff_eq.mpr c11
            clear c11
            replace H := Option.bind_eq_some_iff.mp H
            obtain ⟨t597, A120, H⟩ := H
            replace H : (some t597) = some r := H
            have A12 := Aside0.mk A120
            clear A120
            obtain rfl := Option.some.inj H
            go_enter Try.func16, Try.ntmps16
            go_wp2_with (first | ((with_reducible refine gate_dst (N := 24) rfl ?_); (try (refine gate_guard (by rfl) ?_; dsimp only)); refine Kd.R_lit (Kd.int .i64) _ 2 ?hg (N := 24) ?hd (xs := ([a0, wrap64 (a0 + a1), wrap64 ((wrap64 (a0 + (wrap64 (2 * a1)))) + a2)] : List Int)) (inner := [.int .i64 a0, .int .i64 (wrap64 (a0 + a1)), .int .i64 (wrap64 ((wrap64 (a0 + (wrap64 (2 * a1)))) + a2))]) (ok := fun _ => True) (okp := fun _ => True) ?hr ?hp (fun _ hk => hk) trivial (Below.refl _ _) (Nat.le_refl _) (by simp) ?_; (case hd => rfl); (case hg => rfl); (case hr => first | (go_simp; done) | (go_simp; rfl)); (case hp => exact (Reps.one (show Kd.M (Kd.int .i64) _ _ _ a0 [.int .i64 a0] from rfl) (Reps.one (show Kd.M (Kd.int .i64) _ _ _ (wrap64 (a0 + a1)) [.int .i64 (wrap64 (a0 + a1))] from rfl) (Reps.one (show Kd.M (Kd.int .i64) _ _ _ (wrap64 ((wrap64 (a0 + (wrap64 (2 * a1)))) + a2)) [.int .i64 (wrap64 ((wrap64 (a0 + (wrap64 (2 * a1)))) + a2))] from rfl) (Reps.none _ _))))); intro v585 w13 ho14 hb hg_ hnew_; clear hg_ hnew_; (first | rw [← Ny584.out] at ho14 | (simp only [Int.reduceToNat] at ho14; rw [← Ny584.out] at ho14)); have n0_ := Aside0.mk (Kd.R_lower ho14 (below_size (by repeat (first | (with_reducible first | exact HB.out | apply below_alloc | apply pw_below_drewN | apply below_drew1) | exact HB.out)))); have n1_ := Aside0.mk (below_step (by repeat (first | (with_reducible first | exact HB.out | apply below_alloc | apply pw_below_drewN | apply below_drew1) | exact HB.out)) hb); clear HB; have HO586 := n0_; have HB := n1_; clear n0_ n1_; clear hb ho14; obtain ⟨Ao15, co15, eo15⟩ := Kd.R_slice HO586.out; subst eo15) | ((with_reducible refine gate_callee (f := 46) rfl ?_); refine goesL_ (some 27) rfl rfl Try.func46 (by kernel_rfl) rfl #[.slice Ao15 y584.length co15, .int .i64 2] rfl (by (try simp only [List.map_toArray, List.map_cons, List.map_nil]); first | done | rfl | (simp only [List.length_drop, List.length_take]; rfl)) ?_; (with_reducible refine (times_Put.calls k _ _ y584 2 t587 t588 _ ?side1 ?side2 A4.out).mono ?_); (case side1 => repeat (first | exact (Kd.R_reads' HO586.out).2.2 | (with_reducible refine Kd.C_alloc ?_ _) | (with_reducible refine Kd.C_drewN ?_ _) | (with_reducible refine Kd.C_drew ?_))); (case side2 => exact (Kd.R_reads' HO586.out).2.1); rintro e w16 ⟨v589, rfl, ho0, hb⟩; refine ⟨_, rfl, ?_⟩; have n0_ := Aside0.mk (Kd.R_below (by (with_reducible repeat (first | apply Kd.R_alloc | apply Kd.R_drewN | apply Kd.R_drew)); exact HO586.out) hb); have n1_ := Aside0.mk (Kd.R_lower ho0 (below_size (by repeat (first | (with_reducible first | exact HB.out | apply below_alloc | apply pw_below_drewN | apply below_drew1) | exact HB.out)))); have n2_ := Aside0.mk (below_step (by repeat (first | (with_reducible first | exact HB.out | apply below_alloc | apply pw_below_drewN | apply below_drew1) | exact HB.out)) hb); clear HO586; clear HB; have HO586 := n0_; have HO590 := n1_; have HB := n2_; clear n0_ n1_ n2_; (try clear hb); (try clear hb2); (try clear hk); (try clear hi); (try clear ho0); obtain ⟨Ao17, co17, eo17⟩ := Kd.R_slice HO590.out; subst eo17) | ((with_reducible refine gate_callee (f := 47) rfl ?_); refine goesL_ (some 56) rfl rfl Try.func47 (by kernel_rfl) rfl #[.slice Ao17 t587.length co17, .int .i64 3, .int .i64 2] rfl (by (try simp only [List.map_toArray, List.map_cons, List.map_nil]); first | done | rfl | (simp only [List.length_drop, List.length_take]; rfl)) ?_; (with_reducible refine (times_Get.calls k _ _ t587 3 2 t591 t592 t593 _ ?side1 ?side2 A6.out).mono ?_); (case side1 => repeat (first | exact (Kd.R_reads' HO590.out).2.2 | (with_reducible refine Kd.C_alloc ?_ _) | (with_reducible refine Kd.C_drewN ?_ _) | (with_reducible refine Kd.C_drew ?_))); (case side2 => exact (Kd.R_reads' HO590.out).2.1); rintro e w18 ⟨v594, rfl, ho0, hb⟩; refine ⟨_, rfl, ?_⟩; have n0_ := Aside0.mk (Kd.R_elder' (by (with_reducible repeat (first | apply Kd.R_alloc | apply Kd.R_drewN | apply Kd.R_drew)); exact HO586.out) (Kd.R_base ho0) hb); have n1_ := Aside0.mk (Kd.R_below (by (with_reducible repeat (first | apply Kd.R_alloc | apply Kd.R_drewN | apply Kd.R_drew)); exact HO590.out) hb); have n2_ := Aside0.mk (Kd.R_lower (Kd.R_new' ho0 (Kd.R_lt (by (with_reducible repeat (first | apply Kd.R_alloc | apply Kd.R_drewN | apply Kd.R_drew)); exact HO586.out))) (below_size (by repeat (first | (with_reducible first | exact HB.out | apply below_alloc | apply pw_below_drewN | apply below_drew1) | exact HB.out)))); have n3_ := Aside0.mk (below_step (by repeat (first | (with_reducible first | exact HB.out | apply below_alloc | apply pw_below_drewN | apply below_drew1) | exact HB.out)) hb); clear HO586; clear HO590; clear HB; have HO586 := n0_; have HO590 := n1_; have HO595 := n2_; have HB := n3_; clear n0_ n1_ n2_ n3_; (try clear hb); (try clear hb2); (try clear hk); (try clear hi); (try clear ho0)) | ((with_reducible refine gate_callee (f := 48) rfl ?_); refine goesL_ (some 60) rfl rfl Try.func48 (by kernel_rfl) rfl #[] rfl (by (try simp only [List.map_toArray, List.map_cons, List.map_nil]); first | done | rfl | (simp only [List.length_drop, List.length_take]; rfl)) ?_; (with_reducible refine (ricklaw07_puts.calls k  true _ A7.out).mono ?_); rintro e w19 ⟨rfl, hb⟩; refine ⟨_, rfl, ?_⟩; have n0_ := Aside0.mk (Kd.R_below (by (with_reducible repeat (first | apply Kd.R_alloc | apply Kd.R_drewN | apply Kd.R_drew)); exact HO586.out) hb); have n1_ := Aside0.mk (Kd.R_below (by (with_reducible repeat (first | apply Kd.R_alloc | apply Kd.R_drewN | apply Kd.R_drew)); exact HO590.out) hb); have n2_ := Aside0.mk (Kd.R_below (by (with_reducible repeat (first | apply Kd.R_alloc | apply Kd.R_drewN | apply Kd.R_drew)); exact HO595.out) hb); have n3_ := Aside0.mk (below_step (by repeat (first | (with_reducible first | exact HB.out | apply below_alloc | apply pw_below_drewN | apply below_drew1) | exact HB.out)) hb); clear HO586; clear HO590; clear HO595; clear HB; have HO586 := n0_; have HO590 := n1_; have HO595 := n2_; have HB := n3_; clear n0_ n1_ n2_ n3_; (try clear hb); (try clear hb2); (try clear hk); (try clear hi); obtain ⟨Ao20, co20, eo20⟩ := Kd.R_slice HO595.out; subst eo20) | (go_at_call 49; (with_reducible refine (rickref07_Same.calls k _ _ t591 _ _ y584 t597 _ ?side1 ?side2 ?side3 ?side4 A12.out).mono ?_); (case side1 => repeat (first | exact (Kd.R_reads' HO595.out).2.2 | (with_reducible refine Kd.C_alloc ?_ _) | (with_reducible refine Kd.C_drewN ?_ _) | (with_reducible refine Kd.C_drew ?_))); (case side2 => exact (Kd.R_reads' HO595.out).2.1); (case side3 => repeat (first | exact (Kd.R_reads' HO586.out).2.2 | (with_reducible refine Kd.C_alloc ?_ _) | (with_reducible refine Kd.C_drewN ?_ _) | (with_reducible refine Kd.C_drew ?_))); (case side4 => exact (Kd.R_reads' HO586.out).2.1); rintro e w' ⟨rfl, ⟨nd, rfl⟩⟩))
            go_ret
            exact ⟨by first | rfl | (simp [errW_none, errW_some] <;> rfl) | (simp [*, errW_none, errW_some] <;> rfl), by repeat (first | (with_reducible first | exact HB.out | apply below_alloc | apply pw_below_drewN | apply below_drew1) | exact HB.out)⟩
          · rw [if_neg c11] at H
            have c11b0 : (t593 == 0) = false := beq_eq_false_iff_ne.mpr c11
            have c11b1 : (t593 != 0) = true := bne_iff_ne.mpr c11
            obtain rfl := Option.some.inj H
            go_enter Try.func16, Try.ntmps16
            go_wp2_with (first | ((with_reducible refine gate_dst (N := 24) rfl ?_); (try (refine gate_guard (by rfl) ?_; dsimp only)); refine Kd.R_lit (Kd.int .i64) _ 2 ?hg (N := 24) ?hd (xs := ([a0, wrap64 (a0 + a1), wrap64 ((wrap64 (a0 + (wrap64 (2 * a1)))) + a2)] : List Int)) (inner := [.int .i64 a0, .int .i64 (wrap64 (a0 + a1)), .int .i64 (wrap64 ((wrap64 (a0 + (wrap64 (2 * a1)))) + a2))]) (ok := fun _ => True) (okp := fun _ => True) ?hr ?hp (fun _ hk => hk) trivial (Below.refl _ _) (Nat.le_refl _) (by simp) ?_; (case hd => rfl); (case hg => rfl); (case hr => first | (go_simp; done) | (go_simp; rfl)); (case hp => exact (Reps.one (show Kd.M (Kd.int .i64) _ _ _ a0 [.int .i64 a0] from rfl) (Reps.one (show Kd.M (Kd.int .i64) _ _ _ (wrap64 (a0 + a1)) [.int .i64 (wrap64 (a0 + a1))] from rfl) (Reps.one (show Kd.M (Kd.int .i64) _ _ _ (wrap64 ((wrap64 (a0 + (wrap64 (2 * a1)))) + a2)) [.int .i64 (wrap64 ((wrap64 (a0 + (wrap64 (2 * a1)))) + a2))] from rfl) (Reps.none _ _))))); intro v585 w21 ho22 hb hg_ hnew_; clear hg_ hnew_; (first | rw [← Ny584.out] at ho22 | (simp only [Int.reduceToNat] at ho22; rw [← Ny584.out] at ho22)); have n0_ := Aside0.mk (Kd.R_lower ho22 (below_size (by repeat (first | (with_reducible first | exact HB.out | apply below_alloc | apply pw_below_drewN | apply below_drew1) | exact HB.out)))); have n1_ := Aside0.mk (below_step (by repeat (first | (with_reducible first | exact HB.out | apply below_alloc | apply pw_below_drewN | apply below_drew1) | exact HB.out)) hb); clear HB; have HO586 := n0_; have HB := n1_; clear n0_ n1_; clear hb ho22; obtain ⟨Ao23, co23, eo23⟩ := Kd.R_slice HO586.out; subst eo23) | ((with_reducible refine gate_callee (f := 46) rfl ?_); refine goesL_ (some 27) rfl rfl Try.func46 (by kernel_rfl) rfl #[.slice Ao23 y584.length co23, .int .i64 2] rfl (by (try simp only [List.map_toArray, List.map_cons, List.map_nil]); first | done | rfl | (simp only [List.length_drop, List.length_take]; rfl)) ?_; (with_reducible refine (times_Put.calls k _ _ y584 2 t587 t588 _ ?side1 ?side2 A4.out).mono ?_); (case side1 => repeat (first | exact (Kd.R_reads' HO586.out).2.2 | (with_reducible refine Kd.C_alloc ?_ _) | (with_reducible refine Kd.C_drewN ?_ _) | (with_reducible refine Kd.C_drew ?_))); (case side2 => exact (Kd.R_reads' HO586.out).2.1); rintro e w24 ⟨v589, rfl, ho0, hb⟩; refine ⟨_, rfl, ?_⟩; have n0_ := Aside0.mk (Kd.R_below (by (with_reducible repeat (first | apply Kd.R_alloc | apply Kd.R_drewN | apply Kd.R_drew)); exact HO586.out) hb); have n1_ := Aside0.mk (Kd.R_lower ho0 (below_size (by repeat (first | (with_reducible first | exact HB.out | apply below_alloc | apply pw_below_drewN | apply below_drew1) | exact HB.out)))); have n2_ := Aside0.mk (below_step (by repeat (first | (with_reducible first | exact HB.out | apply below_alloc | apply pw_below_drewN | apply below_drew1) | exact HB.out)) hb); clear HO586; clear HB; have HO586 := n0_; have HO590 := n1_; have HB := n2_; clear n0_ n1_ n2_; (try clear hb); (try clear hb2); (try clear hk); (try clear hi); (try clear ho0); obtain ⟨Ao25, co25, eo25⟩ := Kd.R_slice HO590.out; subst eo25) | ((with_reducible refine gate_callee (f := 47) rfl ?_); refine goesL_ (some 56) rfl rfl Try.func47 (by kernel_rfl) rfl #[.slice Ao25 t587.length co25, .int .i64 3, .int .i64 2] rfl (by (try simp only [List.map_toArray, List.map_cons, List.map_nil]); first | done | rfl | (simp only [List.length_drop, List.length_take]; rfl)) ?_; (with_reducible refine (times_Get.calls k _ _ t587 3 2 t591 t592 t593 _ ?side1 ?side2 A6.out).mono ?_); (case side1 => repeat (first | exact (Kd.R_reads' HO590.out).2.2 | (with_reducible refine Kd.C_alloc ?_ _) | (with_reducible refine Kd.C_drewN ?_ _) | (with_reducible refine Kd.C_drew ?_))); (case side2 => exact (Kd.R_reads' HO590.out).2.1); rintro e w26 ⟨v594, rfl, ho0, hb⟩; refine ⟨_, rfl, ?_⟩; have n0_ := Aside0.mk (Kd.R_elder' (by (with_reducible repeat (first | apply Kd.R_alloc | apply Kd.R_drewN | apply Kd.R_drew)); exact HO586.out) (Kd.R_base ho0) hb); have n1_ := Aside0.mk (Kd.R_below (by (with_reducible repeat (first | apply Kd.R_alloc | apply Kd.R_drewN | apply Kd.R_drew)); exact HO590.out) hb); have n2_ := Aside0.mk (Kd.R_lower (Kd.R_new' ho0 (Kd.R_lt (by (with_reducible repeat (first | apply Kd.R_alloc | apply Kd.R_drewN | apply Kd.R_drew)); exact HO586.out))) (below_size (by repeat (first | (with_reducible first | exact HB.out | apply below_alloc | apply pw_below_drewN | apply below_drew1) | exact HB.out)))); have n3_ := Aside0.mk (below_step (by repeat (first | (with_reducible first | exact HB.out | apply below_alloc | apply pw_below_drewN | apply below_drew1) | exact HB.out)) hb); clear HO586; clear HO590; clear HB; have HO586 := n0_; have HO590 := n1_; have HO595 := n2_; have HB := n3_; clear n0_ n1_ n2_ n3_; (try clear hb); (try clear hb2); (try clear hk); (try clear hi); (try clear ho0)) | ((with_reducible refine gate_callee (f := 48) rfl ?_); refine goesL_ (some 60) rfl rfl Try.func48 (by kernel_rfl) rfl #[] rfl (by (try simp only [List.map_toArray, List.map_cons, List.map_nil]); first | done | rfl | (simp only [List.length_drop, List.length_take]; rfl)) ?_; (with_reducible refine (ricklaw07_puts.calls k  true _ A7.out).mono ?_); rintro e w27 ⟨rfl, hb⟩; refine ⟨_, rfl, ?_⟩; have n0_ := Aside0.mk (Kd.R_below (by (with_reducible repeat (first | apply Kd.R_alloc | apply Kd.R_drewN | apply Kd.R_drew)); exact HO586.out) hb); have n1_ := Aside0.mk (Kd.R_below (by (with_reducible repeat (first | apply Kd.R_alloc | apply Kd.R_drewN | apply Kd.R_drew)); exact HO590.out) hb); have n2_ := Aside0.mk (Kd.R_below (by (with_reducible repeat (first | apply Kd.R_alloc | apply Kd.R_drewN | apply Kd.R_drew)); exact HO595.out) hb); have n3_ := Aside0.mk (below_step (by repeat (first | (with_reducible first | exact HB.out | apply below_alloc | apply pw_below_drewN | apply below_drew1) | exact HB.out)) hb); clear HO586; clear HO590; clear HO595; clear HB; have HO586 := n0_; have HO590 := n1_; have HO595 := n2_; have HB := n3_; clear n0_ n1_ n2_ n3_; (try clear hb); (try clear hb2); (try clear hk); (try clear hi)))
            go_ret
            exact ⟨by first | rfl | (simp [errW_none, errW_some] <;> rfl) | (simp [*, errW_none, errW_some] <;> rfl), by repeat (first | (with_reducible first | exact HB.out | apply below_alloc | apply pw_below_drewN | apply below_drew1) | exact HB.out)⟩
        · rw [if_neg c10] at H
          have c10b0 : ((t587.length : Int) == 17) = false := beq_eq_false_iff_ne.mpr c10
          have c10b1 : ((t587.length : Int) != 17) = true := bne_iff_ne.mpr c10
          obtain rfl := Option.some.inj H
          go_enter Try.func16, Try.ntmps16
          go_wp2_with (first | ((with_reducible refine gate_dst (N := 24) rfl ?_); (try (refine gate_guard (by rfl) ?_; dsimp only)); refine Kd.R_lit (Kd.int .i64) _ 2 ?hg (N := 24) ?hd (xs := ([a0, wrap64 (a0 + a1), wrap64 ((wrap64 (a0 + (wrap64 (2 * a1)))) + a2)] : List Int)) (inner := [.int .i64 a0, .int .i64 (wrap64 (a0 + a1)), .int .i64 (wrap64 ((wrap64 (a0 + (wrap64 (2 * a1)))) + a2))]) (ok := fun _ => True) (okp := fun _ => True) ?hr ?hp (fun _ hk => hk) trivial (Below.refl _ _) (Nat.le_refl _) (by simp) ?_; (case hd => rfl); (case hg => rfl); (case hr => first | (go_simp; done) | (go_simp; rfl)); (case hp => exact (Reps.one (show Kd.M (Kd.int .i64) _ _ _ a0 [.int .i64 a0] from rfl) (Reps.one (show Kd.M (Kd.int .i64) _ _ _ (wrap64 (a0 + a1)) [.int .i64 (wrap64 (a0 + a1))] from rfl) (Reps.one (show Kd.M (Kd.int .i64) _ _ _ (wrap64 ((wrap64 (a0 + (wrap64 (2 * a1)))) + a2)) [.int .i64 (wrap64 ((wrap64 (a0 + (wrap64 (2 * a1)))) + a2))] from rfl) (Reps.none _ _))))); intro v585 w28 ho29 hb hg_ hnew_; clear hg_ hnew_; (first | rw [← Ny584.out] at ho29 | (simp only [Int.reduceToNat] at ho29; rw [← Ny584.out] at ho29)); have n0_ := Aside0.mk (Kd.R_lower ho29 (below_size (by repeat (first | (with_reducible first | exact HB.out | apply below_alloc | apply pw_below_drewN | apply below_drew1) | exact HB.out)))); have n1_ := Aside0.mk (below_step (by repeat (first | (with_reducible first | exact HB.out | apply below_alloc | apply pw_below_drewN | apply below_drew1) | exact HB.out)) hb); clear HB; have HO586 := n0_; have HB := n1_; clear n0_ n1_; clear hb ho29; obtain ⟨Ao30, co30, eo30⟩ := Kd.R_slice HO586.out; subst eo30) | ((with_reducible refine gate_callee (f := 46) rfl ?_); refine goesL_ (some 27) rfl rfl Try.func46 (by kernel_rfl) rfl #[.slice Ao30 y584.length co30, .int .i64 2] rfl (by (try simp only [List.map_toArray, List.map_cons, List.map_nil]); first | done | rfl | (simp only [List.length_drop, List.length_take]; rfl)) ?_; (with_reducible refine (times_Put.calls k _ _ y584 2 t587 t588 _ ?side1 ?side2 A4.out).mono ?_); (case side1 => repeat (first | exact (Kd.R_reads' HO586.out).2.2 | (with_reducible refine Kd.C_alloc ?_ _) | (with_reducible refine Kd.C_drewN ?_ _) | (with_reducible refine Kd.C_drew ?_))); (case side2 => exact (Kd.R_reads' HO586.out).2.1); rintro e w31 ⟨v589, rfl, ho0, hb⟩; refine ⟨_, rfl, ?_⟩; have n0_ := Aside0.mk (Kd.R_below (by (with_reducible repeat (first | apply Kd.R_alloc | apply Kd.R_drewN | apply Kd.R_drew)); exact HO586.out) hb); have n1_ := Aside0.mk (Kd.R_lower ho0 (below_size (by repeat (first | (with_reducible first | exact HB.out | apply below_alloc | apply pw_below_drewN | apply below_drew1) | exact HB.out)))); have n2_ := Aside0.mk (below_step (by repeat (first | (with_reducible first | exact HB.out | apply below_alloc | apply pw_below_drewN | apply below_drew1) | exact HB.out)) hb); clear HO586; clear HB; have HO586 := n0_; have HO590 := n1_; have HB := n2_; clear n0_ n1_ n2_; (try clear hb); (try clear hb2); (try clear hk); (try clear hi); (try clear ho0); obtain ⟨Ao32, co32, eo32⟩ := Kd.R_slice HO590.out; subst eo32) | ((with_reducible refine gate_callee (f := 47) rfl ?_); refine goesL_ (some 56) rfl rfl Try.func47 (by kernel_rfl) rfl #[.slice Ao32 t587.length co32, .int .i64 3, .int .i64 2] rfl (by (try simp only [List.map_toArray, List.map_cons, List.map_nil]); first | done | rfl | (simp only [List.length_drop, List.length_take]; rfl)) ?_; (with_reducible refine (times_Get.calls k _ _ t587 3 2 t591 t592 t593 _ ?side1 ?side2 A6.out).mono ?_); (case side1 => repeat (first | exact (Kd.R_reads' HO590.out).2.2 | (with_reducible refine Kd.C_alloc ?_ _) | (with_reducible refine Kd.C_drewN ?_ _) | (with_reducible refine Kd.C_drew ?_))); (case side2 => exact (Kd.R_reads' HO590.out).2.1); rintro e w33 ⟨v594, rfl, ho0, hb⟩; refine ⟨_, rfl, ?_⟩; have n0_ := Aside0.mk (Kd.R_elder' (by (with_reducible repeat (first | apply Kd.R_alloc | apply Kd.R_drewN | apply Kd.R_drew)); exact HO586.out) (Kd.R_base ho0) hb); have n1_ := Aside0.mk (Kd.R_below (by (with_reducible repeat (first | apply Kd.R_alloc | apply Kd.R_drewN | apply Kd.R_drew)); exact HO590.out) hb); have n2_ := Aside0.mk (Kd.R_lower (Kd.R_new' ho0 (Kd.R_lt (by (with_reducible repeat (first | apply Kd.R_alloc | apply Kd.R_drewN | apply Kd.R_drew)); exact HO586.out))) (below_size (by repeat (first | (with_reducible first | exact HB.out | apply below_alloc | apply pw_below_drewN | apply below_drew1) | exact HB.out)))); have n3_ := Aside0.mk (below_step (by repeat (first | (with_reducible first | exact HB.out | apply below_alloc | apply pw_below_drewN | apply below_drew1) | exact HB.out)) hb); clear HO586; clear HO590; clear HB; have HO586 := n0_; have HO590 := n1_; have HO595 := n2_; have HB := n3_; clear n0_ n1_ n2_ n3_; (try clear hb); (try clear hb2); (try clear hk); (try clear hi); (try clear ho0)) | ((with_reducible refine gate_callee (f := 48) rfl ?_); refine goesL_ (some 60) rfl rfl Try.func48 (by kernel_rfl) rfl #[] rfl (by (try simp only [List.map_toArray, List.map_cons, List.map_nil]); first | done | rfl | (simp only [List.length_drop, List.length_take]; rfl)) ?_; (with_reducible refine (ricklaw07_puts.calls k  true _ A7.out).mono ?_); rintro e w34 ⟨rfl, hb⟩; refine ⟨_, rfl, ?_⟩; have n0_ := Aside0.mk (Kd.R_below (by (with_reducible repeat (first | apply Kd.R_alloc | apply Kd.R_drewN | apply Kd.R_drew)); exact HO586.out) hb); have n1_ := Aside0.mk (Kd.R_below (by (with_reducible repeat (first | apply Kd.R_alloc | apply Kd.R_drewN | apply Kd.R_drew)); exact HO590.out) hb); have n2_ := Aside0.mk (Kd.R_below (by (with_reducible repeat (first | apply Kd.R_alloc | apply Kd.R_drewN | apply Kd.R_drew)); exact HO595.out) hb); have n3_ := Aside0.mk (below_step (by repeat (first | (with_reducible first | exact HB.out | apply below_alloc | apply pw_below_drewN | apply below_drew1) | exact HB.out)) hb); clear HO586; clear HO590; clear HO595; clear HB; have HO586 := n0_; have HO590 := n1_; have HO595 := n2_; have HB := n3_; clear n0_ n1_ n2_ n3_; (try clear hb); (try clear hb2); (try clear hk); (try clear hi)))
          go_ret
          exact ⟨by first | rfl | (simp [errW_none, errW_some] <;> rfl) | (simp [*, errW_none, errW_some] <;> rfl), by repeat (first | (with_reducible first | exact HB.out | apply below_alloc | apply pw_below_drewN | apply below_drew1) | exact HB.out)⟩
      · rw [if_neg c9] at H
        have c9b0 : (t588 == 0) = false := beq_eq_false_iff_ne.mpr c9
        have c9b1 : (t588 != 0) = true := bne_iff_ne.mpr c9
        obtain rfl := Option.some.inj H
        go_enter Try.func16, Try.ntmps16
        go_wp2_with (first | ((with_reducible refine gate_dst (N := 24) rfl ?_); (try (refine gate_guard (by rfl) ?_; dsimp only)); refine Kd.R_lit (Kd.int .i64) _ 2 ?hg (N := 24) ?hd (xs := ([a0, wrap64 (a0 + a1), wrap64 ((wrap64 (a0 + (wrap64 (2 * a1)))) + a2)] : List Int)) (inner := [.int .i64 a0, .int .i64 (wrap64 (a0 + a1)), .int .i64 (wrap64 ((wrap64 (a0 + (wrap64 (2 * a1)))) + a2))]) (ok := fun _ => True) (okp := fun _ => True) ?hr ?hp (fun _ hk => hk) trivial (Below.refl _ _) (Nat.le_refl _) (by simp) ?_; (case hd => rfl); (case hg => rfl); (case hr => first | (go_simp; done) | (go_simp; rfl)); (case hp => exact (Reps.one (show Kd.M (Kd.int .i64) _ _ _ a0 [.int .i64 a0] from rfl) (Reps.one (show Kd.M (Kd.int .i64) _ _ _ (wrap64 (a0 + a1)) [.int .i64 (wrap64 (a0 + a1))] from rfl) (Reps.one (show Kd.M (Kd.int .i64) _ _ _ (wrap64 ((wrap64 (a0 + (wrap64 (2 * a1)))) + a2)) [.int .i64 (wrap64 ((wrap64 (a0 + (wrap64 (2 * a1)))) + a2))] from rfl) (Reps.none _ _))))); intro v585 w35 ho36 hb hg_ hnew_; clear hg_ hnew_; (first | rw [← Ny584.out] at ho36 | (simp only [Int.reduceToNat] at ho36; rw [← Ny584.out] at ho36)); have n0_ := Aside0.mk (Kd.R_lower ho36 (below_size (by repeat (first | (with_reducible first | exact HB.out | apply below_alloc | apply pw_below_drewN | apply below_drew1) | exact HB.out)))); have n1_ := Aside0.mk (below_step (by repeat (first | (with_reducible first | exact HB.out | apply below_alloc | apply pw_below_drewN | apply below_drew1) | exact HB.out)) hb); clear HB; have HO586 := n0_; have HB := n1_; clear n0_ n1_; clear hb ho36; obtain ⟨Ao37, co37, eo37⟩ := Kd.R_slice HO586.out; subst eo37) | ((with_reducible refine gate_callee (f := 46) rfl ?_); refine goesL_ (some 27) rfl rfl Try.func46 (by kernel_rfl) rfl #[.slice Ao37 y584.length co37, .int .i64 2] rfl (by (try simp only [List.map_toArray, List.map_cons, List.map_nil]); first | done | rfl | (simp only [List.length_drop, List.length_take]; rfl)) ?_; (with_reducible refine (times_Put.calls k _ _ y584 2 t587 t588 _ ?side1 ?side2 A4.out).mono ?_); (case side1 => repeat (first | exact (Kd.R_reads' HO586.out).2.2 | (with_reducible refine Kd.C_alloc ?_ _) | (with_reducible refine Kd.C_drewN ?_ _) | (with_reducible refine Kd.C_drew ?_))); (case side2 => exact (Kd.R_reads' HO586.out).2.1); rintro e w38 ⟨v589, rfl, ho0, hb⟩; refine ⟨_, rfl, ?_⟩; have n0_ := Aside0.mk (Kd.R_below (by (with_reducible repeat (first | apply Kd.R_alloc | apply Kd.R_drewN | apply Kd.R_drew)); exact HO586.out) hb); have n1_ := Aside0.mk (Kd.R_lower ho0 (below_size (by repeat (first | (with_reducible first | exact HB.out | apply below_alloc | apply pw_below_drewN | apply below_drew1) | exact HB.out)))); have n2_ := Aside0.mk (below_step (by repeat (first | (with_reducible first | exact HB.out | apply below_alloc | apply pw_below_drewN | apply below_drew1) | exact HB.out)) hb); clear HO586; clear HB; have HO586 := n0_; have HO590 := n1_; have HB := n2_; clear n0_ n1_ n2_; (try clear hb); (try clear hb2); (try clear hk); (try clear hi); (try clear ho0); obtain ⟨Ao39, co39, eo39⟩ := Kd.R_slice HO590.out; subst eo39) | ((with_reducible refine gate_callee (f := 47) rfl ?_); refine goesL_ (some 56) rfl rfl Try.func47 (by kernel_rfl) rfl #[.slice Ao39 t587.length co39, .int .i64 3, .int .i64 2] rfl (by (try simp only [List.map_toArray, List.map_cons, List.map_nil]); first | done | rfl | (simp only [List.length_drop, List.length_take]; rfl)) ?_; (with_reducible refine (times_Get.calls k _ _ t587 3 2 t591 t592 t593 _ ?side1 ?side2 A6.out).mono ?_); (case side1 => repeat (first | exact (Kd.R_reads' HO590.out).2.2 | (with_reducible refine Kd.C_alloc ?_ _) | (with_reducible refine Kd.C_drewN ?_ _) | (with_reducible refine Kd.C_drew ?_))); (case side2 => exact (Kd.R_reads' HO590.out).2.1); rintro e w40 ⟨v594, rfl, ho0, hb⟩; refine ⟨_, rfl, ?_⟩; have n0_ := Aside0.mk (Kd.R_elder' (by (with_reducible repeat (first | apply Kd.R_alloc | apply Kd.R_drewN | apply Kd.R_drew)); exact HO586.out) (Kd.R_base ho0) hb); have n1_ := Aside0.mk (Kd.R_below (by (with_reducible repeat (first | apply Kd.R_alloc | apply Kd.R_drewN | apply Kd.R_drew)); exact HO590.out) hb); have n2_ := Aside0.mk (Kd.R_lower (Kd.R_new' ho0 (Kd.R_lt (by (with_reducible repeat (first | apply Kd.R_alloc | apply Kd.R_drewN | apply Kd.R_drew)); exact HO586.out))) (below_size (by repeat (first | (with_reducible first | exact HB.out | apply below_alloc | apply pw_below_drewN | apply below_drew1) | exact HB.out)))); have n3_ := Aside0.mk (below_step (by repeat (first | (with_reducible first | exact HB.out | apply below_alloc | apply pw_below_drewN | apply below_drew1) | exact HB.out)) hb); clear HO586; clear HO590; clear HB; have HO586 := n0_; have HO590 := n1_; have HO595 := n2_; have HB := n3_; clear n0_ n1_ n2_ n3_; (try clear hb); (try clear hb2); (try clear hk); (try clear hi); (try clear ho0)) | ((with_reducible refine gate_callee (f := 48) rfl ?_); refine goesL_ (some 60) rfl rfl Try.func48 (by kernel_rfl) rfl #[] rfl (by (try simp only [List.map_toArray, List.map_cons, List.map_nil]); first | done | rfl | (simp only [List.length_drop, List.length_take]; rfl)) ?_; (with_reducible refine (ricklaw07_puts.calls k  true _ A7.out).mono ?_); rintro e w41 ⟨rfl, hb⟩; refine ⟨_, rfl, ?_⟩; have n0_ := Aside0.mk (Kd.R_below (by (with_reducible repeat (first | apply Kd.R_alloc | apply Kd.R_drewN | apply Kd.R_drew)); exact HO586.out) hb); have n1_ := Aside0.mk (Kd.R_below (by (with_reducible repeat (first | apply Kd.R_alloc | apply Kd.R_drewN | apply Kd.R_drew)); exact HO590.out) hb); have n2_ := Aside0.mk (Kd.R_below (by (with_reducible repeat (first | apply Kd.R_alloc | apply Kd.R_drewN | apply Kd.R_drew)); exact HO595.out) hb); have n3_ := Aside0.mk (below_step (by repeat (first | (with_reducible first | exact HB.out | apply below_alloc | apply pw_below_drewN | apply below_drew1) | exact HB.out)) hb); clear HO586; clear HO590; clear HO595; clear HB; have HO586 := n0_; have HO590 := n1_; have HO595 := n2_; have HB := n3_; clear n0_ n1_ n2_ n3_; (try clear hb); (try clear hb2); (try clear hk); (try clear hi)))
        go_ret
        exact ⟨by first | rfl | (simp [errW_none, errW_some] <;> rfl) | (simp [*, errW_none, errW_some] <;> rfl), by repeat (first | (with_reducible first | exact HB.out | apply below_alloc | apply pw_below_drewN | apply below_drew1) | exact HB.out)⟩
    · replace c8 := Bool.eq_false_iff.mpr c8
      subst c8
      have H1 : (some false) = some r := by rw [if_neg (show ¬ (false = true) by decide)] at H; exact H
      clear H
      have H := H1
      clear H1
      obtain rfl := Option.some.inj H
      go_enter Try.func16, Try.ntmps16
      go_wp2_with (first | ((with_reducible refine gate_dst (N := 24) rfl ?_); (try (refine gate_guard (by rfl) ?_; dsimp only)); refine Kd.R_lit (Kd.int .i64) _ 2 ?hg (N := 24) ?hd (xs := ([a0, wrap64 (a0 + a1), wrap64 ((wrap64 (a0 + (wrap64 (2 * a1)))) + a2)] : List Int)) (inner := [.int .i64 a0, .int .i64 (wrap64 (a0 + a1)), .int .i64 (wrap64 ((wrap64 (a0 + (wrap64 (2 * a1)))) + a2))]) (ok := fun _ => True) (okp := fun _ => True) ?hr ?hp (fun _ hk => hk) trivial (Below.refl _ _) (Nat.le_refl _) (by simp) ?_; (case hd => rfl); (case hg => rfl); (case hr => first | (go_simp; done) | (go_simp; rfl)); (case hp => exact (Reps.one (show Kd.M (Kd.int .i64) _ _ _ a0 [.int .i64 a0] from rfl) (Reps.one (show Kd.M (Kd.int .i64) _ _ _ (wrap64 (a0 + a1)) [.int .i64 (wrap64 (a0 + a1))] from rfl) (Reps.one (show Kd.M (Kd.int .i64) _ _ _ (wrap64 ((wrap64 (a0 + (wrap64 (2 * a1)))) + a2)) [.int .i64 (wrap64 ((wrap64 (a0 + (wrap64 (2 * a1)))) + a2))] from rfl) (Reps.none _ _))))); intro v585 w42 ho43 hb hg_ hnew_; clear hg_ hnew_; (first | rw [← Ny584.out] at ho43 | (simp only [Int.reduceToNat] at ho43; rw [← Ny584.out] at ho43)); have n0_ := Aside0.mk (Kd.R_lower ho43 (below_size (by repeat (first | (with_reducible first | exact HB.out | apply below_alloc | apply pw_below_drewN | apply below_drew1) | exact HB.out)))); have n1_ := Aside0.mk (below_step (by repeat (first | (with_reducible first | exact HB.out | apply below_alloc | apply pw_below_drewN | apply below_drew1) | exact HB.out)) hb); clear HB; have HO586 := n0_; have HB := n1_; clear n0_ n1_; clear hb ho43; obtain ⟨Ao44, co44, eo44⟩ := Kd.R_slice HO586.out; subst eo44) | ((with_reducible refine gate_callee (f := 46) rfl ?_); refine goesL_ (some 27) rfl rfl Try.func46 (by kernel_rfl) rfl #[.slice Ao44 y584.length co44, .int .i64 2] rfl (by (try simp only [List.map_toArray, List.map_cons, List.map_nil]); first | done | rfl | (simp only [List.length_drop, List.length_take]; rfl)) ?_; (with_reducible refine (times_Put.calls k _ _ y584 2 t587 t588 _ ?side1 ?side2 A4.out).mono ?_); (case side1 => repeat (first | exact (Kd.R_reads' HO586.out).2.2 | (with_reducible refine Kd.C_alloc ?_ _) | (with_reducible refine Kd.C_drewN ?_ _) | (with_reducible refine Kd.C_drew ?_))); (case side2 => exact (Kd.R_reads' HO586.out).2.1); rintro e w45 ⟨v589, rfl, ho0, hb⟩; refine ⟨_, rfl, ?_⟩; have n0_ := Aside0.mk (Kd.R_below (by (with_reducible repeat (first | apply Kd.R_alloc | apply Kd.R_drewN | apply Kd.R_drew)); exact HO586.out) hb); have n1_ := Aside0.mk (Kd.R_lower ho0 (below_size (by repeat (first | (with_reducible first | exact HB.out | apply below_alloc | apply pw_below_drewN | apply below_drew1) | exact HB.out)))); have n2_ := Aside0.mk (below_step (by repeat (first | (with_reducible first | exact HB.out | apply below_alloc | apply pw_below_drewN | apply below_drew1) | exact HB.out)) hb); clear HO586; clear HB; have HO586 := n0_; have HO590 := n1_; have HB := n2_; clear n0_ n1_ n2_; (try clear hb); (try clear hb2); (try clear hk); (try clear hi); (try clear ho0); obtain ⟨Ao46, co46, eo46⟩ := Kd.R_slice HO590.out; subst eo46) | ((with_reducible refine gate_callee (f := 47) rfl ?_); refine goesL_ (some 56) rfl rfl Try.func47 (by kernel_rfl) rfl #[.slice Ao46 t587.length co46, .int .i64 3, .int .i64 2] rfl (by (try simp only [List.map_toArray, List.map_cons, List.map_nil]); first | done | rfl | (simp only [List.length_drop, List.length_take]; rfl)) ?_; (with_reducible refine (times_Get.calls k _ _ t587 3 2 t591 t592 t593 _ ?side1 ?side2 A6.out).mono ?_); (case side1 => repeat (first | exact (Kd.R_reads' HO590.out).2.2 | (with_reducible refine Kd.C_alloc ?_ _) | (with_reducible refine Kd.C_drewN ?_ _) | (with_reducible refine Kd.C_drew ?_))); (case side2 => exact (Kd.R_reads' HO590.out).2.1); rintro e w47 ⟨v594, rfl, ho0, hb⟩; refine ⟨_, rfl, ?_⟩; have n0_ := Aside0.mk (Kd.R_elder' (by (with_reducible repeat (first | apply Kd.R_alloc | apply Kd.R_drewN | apply Kd.R_drew)); exact HO586.out) (Kd.R_base ho0) hb); have n1_ := Aside0.mk (Kd.R_below (by (with_reducible repeat (first | apply Kd.R_alloc | apply Kd.R_drewN | apply Kd.R_drew)); exact HO590.out) hb); have n2_ := Aside0.mk (Kd.R_lower (Kd.R_new' ho0 (Kd.R_lt (by (with_reducible repeat (first | apply Kd.R_alloc | apply Kd.R_drewN | apply Kd.R_drew)); exact HO586.out))) (below_size (by repeat (first | (with_reducible first | exact HB.out | apply below_alloc | apply pw_below_drewN | apply below_drew1) | exact HB.out)))); have n3_ := Aside0.mk (below_step (by repeat (first | (with_reducible first | exact HB.out | apply below_alloc | apply pw_below_drewN | apply below_drew1) | exact HB.out)) hb); clear HO586; clear HO590; clear HB; have HO586 := n0_; have HO590 := n1_; have HO595 := n2_; have HB := n3_; clear n0_ n1_ n2_ n3_; (try clear hb); (try clear hb2); (try clear hk); (try clear hi); (try clear ho0)) | ((with_reducible refine gate_callee (f := 48) rfl ?_); refine goesL_ (some 60) rfl rfl Try.func48 (by kernel_rfl) rfl #[] rfl (by (try simp only [List.map_toArray, List.map_cons, List.map_nil]); first | done | rfl | (simp only [List.length_drop, List.length_take]; rfl)) ?_; (with_reducible refine (ricklaw07_puts.calls k  false _ A7.out).mono ?_); rintro e w48 ⟨rfl, hb⟩; refine ⟨_, rfl, ?_⟩; have n0_ := Aside0.mk (Kd.R_below (by (with_reducible repeat (first | apply Kd.R_alloc | apply Kd.R_drewN | apply Kd.R_drew)); exact HO586.out) hb); have n1_ := Aside0.mk (Kd.R_below (by (with_reducible repeat (first | apply Kd.R_alloc | apply Kd.R_drewN | apply Kd.R_drew)); exact HO590.out) hb); have n2_ := Aside0.mk (Kd.R_below (by (with_reducible repeat (first | apply Kd.R_alloc | apply Kd.R_drewN | apply Kd.R_drew)); exact HO595.out) hb); have n3_ := Aside0.mk (below_step (by repeat (first | (with_reducible first | exact HB.out | apply below_alloc | apply pw_below_drewN | apply below_drew1) | exact HB.out)) hb); clear HO586; clear HO590; clear HO595; clear HB; have HO586 := n0_; have HO590 := n1_; have HO595 := n2_; have HB := n3_; clear n0_ n1_ n2_ n3_; (try clear hb); (try clear hb2); (try clear hk); (try clear hi)))
      go_ret
      exact ⟨by first | rfl | (simp [errW_none, errW_some] <;> rfl) | (simp [*, errW_none, errW_some] <;> rfl), by repeat (first | (with_reducible first | exact HB.out | apply below_alloc | apply pw_below_drewN | apply below_drew1) | exact HB.out)⟩
  · rw [if_neg c5] at H
    have c5b0 : (a2 == 0) = false := beq_eq_false_iff_ne.mpr c5
    have c5b1 : (a2 != 0) = true := bne_iff_ne.mpr c5
    have HC49 := Aside0.mk H
    clear H
    go_enter Try.func16, Try.ntmps16
    go_upto_region 6 with (first | ((with_reducible refine gate_dst (N := 24) rfl ?_); (try (refine gate_guard (by rfl) ?_; dsimp only)); refine Kd.R_lit (Kd.int .i64) _ 2 ?hg (N := 24) ?hd (xs := ([a0, wrap64 (a0 + a1), wrap64 ((wrap64 (a0 + (wrap64 (2 * a1)))) + a2)] : List Int)) (inner := [.int .i64 a0, .int .i64 (wrap64 (a0 + a1)), .int .i64 (wrap64 ((wrap64 (a0 + (wrap64 (2 * a1)))) + a2))]) (ok := fun _ => True) (okp := fun _ => True) ?hr ?hp (fun _ hk => hk) trivial (Below.refl _ _) (Nat.le_refl _) (by simp) ?_; (case hd => rfl); (case hg => rfl); (case hr => first | (go_simp; done) | (go_simp; rfl)); (case hp => exact (Reps.one (show Kd.M (Kd.int .i64) _ _ _ a0 [.int .i64 a0] from rfl) (Reps.one (show Kd.M (Kd.int .i64) _ _ _ (wrap64 (a0 + a1)) [.int .i64 (wrap64 (a0 + a1))] from rfl) (Reps.one (show Kd.M (Kd.int .i64) _ _ _ (wrap64 ((wrap64 (a0 + (wrap64 (2 * a1)))) + a2)) [.int .i64 (wrap64 ((wrap64 (a0 + (wrap64 (2 * a1)))) + a2))] from rfl) (Reps.none _ _))))); intro v585 w50 ho51 hb hg_ hnew_; clear hg_ hnew_; (first | rw [← Ny584.out] at ho51 | (simp only [Int.reduceToNat] at ho51; rw [← Ny584.out] at ho51)); have n0_ := Aside0.mk (Kd.R_lower ho51 (below_size (by repeat (first | (with_reducible first | exact HB.out | apply below_alloc | apply pw_below_drewN | apply below_drew1) | exact HB.out)))); have n1_ := Aside0.mk (below_step (by repeat (first | (with_reducible first | exact HB.out | apply below_alloc | apply pw_below_drewN | apply below_drew1) | exact HB.out)) hb); clear HB; have HO586 := n0_; have HB := n1_; clear n0_ n1_; clear hb ho51; obtain ⟨Ao52, co52, eo52⟩ := Kd.R_slice HO586.out; subst eo52) | ((with_reducible refine gate_callee (f := 46) rfl ?_); refine goesL_ (some 27) rfl rfl Try.func46 (by kernel_rfl) rfl #[.slice Ao52 y584.length co52, .int .i64 2] rfl (by (try simp only [List.map_toArray, List.map_cons, List.map_nil]); first | done | rfl | (simp only [List.length_drop, List.length_take]; rfl)) ?_; (with_reducible refine (times_Put.calls k _ _ y584 2 t587 t588 _ ?side1 ?side2 A4.out).mono ?_); (case side1 => repeat (first | exact (Kd.R_reads' HO586.out).2.2 | (with_reducible refine Kd.C_alloc ?_ _) | (with_reducible refine Kd.C_drewN ?_ _) | (with_reducible refine Kd.C_drew ?_))); (case side2 => exact (Kd.R_reads' HO586.out).2.1); rintro e w53 ⟨v589, rfl, ho0, hb⟩; refine ⟨_, rfl, ?_⟩; have n0_ := Aside0.mk (Kd.R_below (by (with_reducible repeat (first | apply Kd.R_alloc | apply Kd.R_drewN | apply Kd.R_drew)); exact HO586.out) hb); have n1_ := Aside0.mk (Kd.R_lower ho0 (below_size (by repeat (first | (with_reducible first | exact HB.out | apply below_alloc | apply pw_below_drewN | apply below_drew1) | exact HB.out)))); have n2_ := Aside0.mk (below_step (by repeat (first | (with_reducible first | exact HB.out | apply below_alloc | apply pw_below_drewN | apply below_drew1) | exact HB.out)) hb); clear HO586; clear HB; have HO586 := n0_; have HO590 := n1_; have HB := n2_; clear n0_ n1_ n2_; (try clear hb); (try clear hb2); (try clear hk); (try clear hi); (try clear ho0)))
    (try simp only [Act.put, List.setIfInBounds_toArray, List.set_cons_zero, List.set_cons_succ])
    go_cut [33] (fun v33 wc => ∃ (kq : Nat) (x33_48 : Bool), v33 = .bool x33_48 ∧ Aside0 (ricklaw07_TimesClasses.j0 kq a2 y584 t587 t588 x33_48 = some r) ∧ Aside0 (kq ≤ k) ∧ Aside0 (Kd.R (Kd.int .i64) 2 wc w.heap.size (fun _ => True) (.slice Ao52 y584.length co52) y584) ∧ Aside0 (Kd.R (Kd.int .u8) 5 wc w.heap.size (fun _ => True) v589 t587) ∧ Aside0 (Below w.heap.size w wc))
    case first =>
      have H := HC49.out
      clear HC49
      by_cases c54 : a2 ≥ (-64)
      · rw [if_pos c54] at H
        have c54b0 : decide ((-64) ≤ a2) = true := decide_eq_true c54
        clear c54
        (first | rw [c54b0] | (simp only [i64_w, i32_w]; rw [c54b0]) | skip)
        have H' := Aside0.mk H
        clear H
        go_wp2
        go_meet
        case rel => exact ⟨_, (decide (a2 < 64)), (by first | rfl | (simp; done) | (simp [*]; done)), H', ⟨by first | omega | exact Nat.le_refl _⟩, ⟨by (with_reducible repeat (first | apply Kd.R_alloc | apply Kd.R_drewN | apply Kd.R_drew)); exact HO586.out⟩, ⟨by (with_reducible repeat (first | apply Kd.R_alloc | apply Kd.R_drewN | apply Kd.R_drew)); exact HO590.out⟩, ⟨by repeat (first | (with_reducible first | exact HB.out | apply below_alloc | apply pw_below_drewN | apply below_drew1) | exact HB.out)⟩⟩
      · rw [if_neg c54] at H
        have c54b0 : decide ((-64) ≤ a2) = false := decide_eq_false c54
        clear c54
        (first | rw [c54b0] | (simp only [i64_w, i32_w]; rw [c54b0]) | skip)
        have H' := Aside0.mk H
        clear H
        go_wp2
        go_meet
        case rel => exact ⟨_, (false), (by first | rfl | (simp; done) | (simp [*]; done)), H', ⟨by first | omega | exact Nat.le_refl _⟩, ⟨by (with_reducible repeat (first | apply Kd.R_alloc | apply Kd.R_drewN | apply Kd.R_drew)); exact HO586.out⟩, ⟨by (with_reducible repeat (first | apply Kd.R_alloc | apply Kd.R_drewN | apply Kd.R_drew)); exact HO590.out⟩, ⟨by repeat (first | (with_reducible first | exact HB.out | apply below_alloc | apply pw_below_drewN | apply below_drew1) | exact HB.out)⟩⟩
    case rest =>
      clear HC49
      try clear c1
      try clear p2
      try clear c4
      try clear c5
      try clear c5b0
      try clear c5b1
      try clear p6
      try clear c8
      try clear c9
      try clear c9b0
      try clear c9b1
      try clear c10
      try clear c10b0
      try clear c10b1
      try clear c11
      try clear c11b0
      try clear c11b1
      try clear c16
      try clear c46
      try clear c47
      try clear c48
      try clear c54
      try clear c54b0
      obtain ⟨kq, x33_48, rfl, HA, HJ48, HO_7, HO_8, HB⟩ := hcut
      cases kq with
      | zero => exact absurd HA.out (by simp [ricklaw07_TimesClasses.j0])
      | succ kj48 =>
        have H := HA.out
        clear HA
        simp only [ricklaw07_TimesClasses.j0] at H
        by_cases c55 : x33_48 = true
        · subst c55
          have H1 : ((times_Get.f kj48 t587 3 2).bind fun bt598 => ((ricklaw07_puts.f kj48).bind fun t603 => (if t603 = true then (if t588 = 0 then (if (t587.length : Int) = 18 then (if bt598.2.2 = 0 then ((rickref07_Same.f kj48 bt598.1 y584).bind fun t604 => (some t604)) else (some false)) else (some false)) else (some false)) else (some false)))) = some r := by rw [if_pos rfl] at H; exact H
          clear H
          have H := H1
          clear H1
          replace H := Option.bind_eq_some_iff.mp H
          obtain ⟨⟨t598, t599, t600⟩, A560, H⟩ := H
          replace H : ((ricklaw07_puts.f kj48).bind fun t603 => (if t603 = true then (if t588 = 0 then (if (t587.length : Int) = 18 then (if t600 = 0 then ((rickref07_Same.f kj48 t598 y584).bind fun t604 => (some t604)) else (some false)) else (some false)) else (some false)) else (some false))) = some r := H
          have A56 := Aside0.mk A560
          clear A560
          replace H := Option.bind_eq_some_iff.mp H
          obtain ⟨t603, A570, H⟩ := H
          replace H : (if t603 = true then (if t588 = 0 then (if (t587.length : Int) = 18 then (if t600 = 0 then ((rickref07_Same.f kj48 t598 y584).bind fun t604 => (some t604)) else (some false)) else (some false)) else (some false)) else (some false)) = some r := H
          have A57 := Aside0.mk A570
          clear A570
          by_cases c58 : t603 = true
          · subst c58
            have H1 : (if t588 = 0 then (if (t587.length : Int) = 18 then (if t600 = 0 then ((rickref07_Same.f kj48 t598 y584).bind fun t604 => (some t604)) else (some false)) else (some false)) else (some false)) = some r := by rw [if_pos rfl] at H; exact H
            clear H
            have H := H1
            clear H1
            by_cases c59 : t588 = 0
            · rw [if_pos c59] at H
              have c59b0 : (t588 == 0) = true := beq_iff_eq.mpr c59
              have c59b1 : (t588 != 0) = false := bne_eq_false_iff_eq.mpr c59
              clear c59
              by_cases c60 : (t587.length : Int) = 18
              · rw [if_pos c60] at H
                have c60b0 : ((t587.length : Int) == 18) = true := beq_iff_eq.mpr c60
                have c60b1 : ((t587.length : Int) != 18) = false := bne_eq_false_iff_eq.mpr c60
                clear c60
                by_cases c61 : t600 = 0
                · rw [if_pos c61] at H
                  have c61b0 : (t600 == 0) = true := beq_iff_eq.mpr c61
                  have c61b1 : (t600 != 0) = false := bne_eq_false_iff_eq.mpr c61
                  clear c61
                  replace H := Option.bind_eq_some_iff.mp H
                  obtain ⟨t604, A620, H⟩ := H
                  replace H : (some t604) = some r := H
                  have A62 := Aside0.mk A620
                  clear A620
                  obtain rfl := Option.some.inj H
                  obtain ⟨Ao63, co63, eo63⟩ := Kd.R_slice HO_8.out
                  subst eo63
                  go_wp2_with (first | ((with_reducible refine gate_callee (f := 47) rfl ?_); refine goesL_ (some 56) rfl rfl Try.func47 (by kernel_rfl) rfl #[.slice Ao63 t587.length co63, .int .i64 3, .int .i64 2] rfl (by (try simp only [List.map_toArray, List.map_cons, List.map_nil]); first | done | rfl | (simp only [List.length_drop, List.length_take]; rfl)) ?_; (with_reducible refine (times_Get.calls kj48 _ _ t587 3 2 t598 t599 t600 _ ?side1 ?side2 A56.out).mono ?_); (case side1 => repeat (first | exact (Kd.R_reads' HO_8.out).2.2 | (with_reducible refine Kd.C_alloc ?_ _) | (with_reducible refine Kd.C_drewN ?_ _) | (with_reducible refine Kd.C_drew ?_))); (case side2 => exact (Kd.R_reads' HO_8.out).2.1); rintro e w64 ⟨v601, rfl, ho0, hb⟩; refine ⟨_, rfl, ?_⟩; have n0_ := Aside0.mk (Kd.R_elder' (by (with_reducible repeat (first | apply Kd.R_alloc | apply Kd.R_drewN | apply Kd.R_drew)); exact HO_7.out) (Kd.R_base ho0) hb); have n1_ := Aside0.mk (Kd.R_below (by (with_reducible repeat (first | apply Kd.R_alloc | apply Kd.R_drewN | apply Kd.R_drew)); exact HO_8.out) hb); have n2_ := Aside0.mk (Kd.R_lower (Kd.R_new' ho0 (Kd.R_lt (by (with_reducible repeat (first | apply Kd.R_alloc | apply Kd.R_drewN | apply Kd.R_drew)); exact HO_7.out))) (below_size (by repeat (first | (with_reducible first | exact HB.out | apply below_alloc | apply pw_below_drewN | apply below_drew1) | exact HB.out)))); have n3_ := Aside0.mk (below_step (by repeat (first | (with_reducible first | exact HB.out | apply below_alloc | apply pw_below_drewN | apply below_drew1) | exact HB.out)) hb); clear HO_7; clear HO_8; clear HB; have HO_7 := n0_; have HO_8 := n1_; have HO602 := n2_; have HB := n3_; clear n0_ n1_ n2_ n3_; (try clear hb); (try clear hb2); (try clear hk); (try clear hi); (try clear ho0)) | ((with_reducible refine gate_callee (f := 48) rfl ?_); refine goesL_ (some 60) rfl rfl Try.func48 (by kernel_rfl) rfl #[] rfl (by (try simp only [List.map_toArray, List.map_cons, List.map_nil]); first | done | rfl | (simp only [List.length_drop, List.length_take]; rfl)) ?_; (with_reducible refine (ricklaw07_puts.calls kj48  true _ A57.out).mono ?_); rintro e w65 ⟨rfl, hb⟩; refine ⟨_, rfl, ?_⟩; have n0_ := Aside0.mk (Kd.R_below (by (with_reducible repeat (first | apply Kd.R_alloc | apply Kd.R_drewN | apply Kd.R_drew)); exact HO_7.out) hb); have n1_ := Aside0.mk (Kd.R_below (by (with_reducible repeat (first | apply Kd.R_alloc | apply Kd.R_drewN | apply Kd.R_drew)); exact HO_8.out) hb); have n2_ := Aside0.mk (Kd.R_below (by (with_reducible repeat (first | apply Kd.R_alloc | apply Kd.R_drewN | apply Kd.R_drew)); exact HO602.out) hb); have n3_ := Aside0.mk (below_step (by repeat (first | (with_reducible first | exact HB.out | apply below_alloc | apply pw_below_drewN | apply below_drew1) | exact HB.out)) hb); clear HO_7; clear HO_8; clear HO602; clear HB; have HO_7 := n0_; have HO_8 := n1_; have HO602 := n2_; have HB := n3_; clear n0_ n1_ n2_ n3_; (try clear hb); (try clear hb2); (try clear hk); (try clear hi); obtain ⟨Ao66, co66, eo66⟩ := Kd.R_slice HO602.out; subst eo66) | (go_at_call 49; (with_reducible refine (rickref07_Same.calls kj48 _ _ t598 _ _ y584 t604 _ ?side1 ?side2 ?side3 ?side4 A62.out).mono ?_); (case side1 => repeat (first | exact (Kd.R_reads' HO602.out).2.2 | (with_reducible refine Kd.C_alloc ?_ _) | (with_reducible refine Kd.C_drewN ?_ _) | (with_reducible refine Kd.C_drew ?_))); (case side2 => exact (Kd.R_reads' HO602.out).2.1); (case side3 => repeat (first | exact (Kd.R_reads' HO_7.out).2.2 | (with_reducible refine Kd.C_alloc ?_ _) | (with_reducible refine Kd.C_drewN ?_ _) | (with_reducible refine Kd.C_drew ?_))); (case side4 => exact (Kd.R_reads' HO_7.out).2.1); rintro e w' ⟨rfl, ⟨nd, rfl⟩⟩))
                  go_ret
                  exact ⟨by first | rfl | (simp [errW_none, errW_some] <;> rfl) | (simp [*, errW_none, errW_some] <;> rfl), by repeat (first | (with_reducible first | exact HB.out | apply below_alloc | apply pw_below_drewN | apply below_drew1) | exact HB.out)⟩
                · rw [if_neg c61] at H
                  have c61b0 : (t600 == 0) = false := beq_eq_false_iff_ne.mpr c61
                  have c61b1 : (t600 != 0) = true := bne_iff_ne.mpr c61
                  obtain rfl := Option.some.inj H
                  obtain ⟨Ao67, co67, eo67⟩ := Kd.R_slice HO_8.out
                  subst eo67
                  go_wp2_with (first | ((with_reducible refine gate_callee (f := 47) rfl ?_); refine goesL_ (some 56) rfl rfl Try.func47 (by kernel_rfl) rfl #[.slice Ao67 t587.length co67, .int .i64 3, .int .i64 2] rfl (by (try simp only [List.map_toArray, List.map_cons, List.map_nil]); first | done | rfl | (simp only [List.length_drop, List.length_take]; rfl)) ?_; (with_reducible refine (times_Get.calls kj48 _ _ t587 3 2 t598 t599 t600 _ ?side1 ?side2 A56.out).mono ?_); (case side1 => repeat (first | exact (Kd.R_reads' HO_8.out).2.2 | (with_reducible refine Kd.C_alloc ?_ _) | (with_reducible refine Kd.C_drewN ?_ _) | (with_reducible refine Kd.C_drew ?_))); (case side2 => exact (Kd.R_reads' HO_8.out).2.1); rintro e w68 ⟨v601, rfl, ho0, hb⟩; refine ⟨_, rfl, ?_⟩; have n0_ := Aside0.mk (Kd.R_elder' (by (with_reducible repeat (first | apply Kd.R_alloc | apply Kd.R_drewN | apply Kd.R_drew)); exact HO_7.out) (Kd.R_base ho0) hb); have n1_ := Aside0.mk (Kd.R_below (by (with_reducible repeat (first | apply Kd.R_alloc | apply Kd.R_drewN | apply Kd.R_drew)); exact HO_8.out) hb); have n2_ := Aside0.mk (Kd.R_lower (Kd.R_new' ho0 (Kd.R_lt (by (with_reducible repeat (first | apply Kd.R_alloc | apply Kd.R_drewN | apply Kd.R_drew)); exact HO_7.out))) (below_size (by repeat (first | (with_reducible first | exact HB.out | apply below_alloc | apply pw_below_drewN | apply below_drew1) | exact HB.out)))); have n3_ := Aside0.mk (below_step (by repeat (first | (with_reducible first | exact HB.out | apply below_alloc | apply pw_below_drewN | apply below_drew1) | exact HB.out)) hb); clear HO_7; clear HO_8; clear HB; have HO_7 := n0_; have HO_8 := n1_; have HO602 := n2_; have HB := n3_; clear n0_ n1_ n2_ n3_; (try clear hb); (try clear hb2); (try clear hk); (try clear hi); (try clear ho0)) | ((with_reducible refine gate_callee (f := 48) rfl ?_); refine goesL_ (some 60) rfl rfl Try.func48 (by kernel_rfl) rfl #[] rfl (by (try simp only [List.map_toArray, List.map_cons, List.map_nil]); first | done | rfl | (simp only [List.length_drop, List.length_take]; rfl)) ?_; (with_reducible refine (ricklaw07_puts.calls kj48  true _ A57.out).mono ?_); rintro e w69 ⟨rfl, hb⟩; refine ⟨_, rfl, ?_⟩; have n0_ := Aside0.mk (Kd.R_below (by (with_reducible repeat (first | apply Kd.R_alloc | apply Kd.R_drewN | apply Kd.R_drew)); exact HO_7.out) hb); have n1_ := Aside0.mk (Kd.R_below (by (with_reducible repeat (first | apply Kd.R_alloc | apply Kd.R_drewN | apply Kd.R_drew)); exact HO_8.out) hb); have n2_ := Aside0.mk (Kd.R_below (by (with_reducible repeat (first | apply Kd.R_alloc | apply Kd.R_drewN | apply Kd.R_drew)); exact HO602.out) hb); have n3_ := Aside0.mk (below_step (by repeat (first | (with_reducible first | exact HB.out | apply below_alloc | apply pw_below_drewN | apply below_drew1) | exact HB.out)) hb); clear HO_7; clear HO_8; clear HO602; clear HB; have HO_7 := n0_; have HO_8 := n1_; have HO602 := n2_; have HB := n3_; clear n0_ n1_ n2_ n3_; (try clear hb); (try clear hb2); (try clear hk); (try clear hi)))
                  go_ret
                  exact ⟨by first | rfl | (simp [errW_none, errW_some] <;> rfl) | (simp [*, errW_none, errW_some] <;> rfl), by repeat (first | (with_reducible first | exact HB.out | apply below_alloc | apply pw_below_drewN | apply below_drew1) | exact HB.out)⟩
              · rw [if_neg c60] at H
                have c60b0 : ((t587.length : Int) == 18) = false := beq_eq_false_iff_ne.mpr c60
                have c60b1 : ((t587.length : Int) != 18) = true := bne_iff_ne.mpr c60
                obtain rfl := Option.some.inj H
                obtain ⟨Ao70, co70, eo70⟩ := Kd.R_slice HO_8.out
                subst eo70
                go_wp2_with (first | ((with_reducible refine gate_callee (f := 47) rfl ?_); refine goesL_ (some 56) rfl rfl Try.func47 (by kernel_rfl) rfl #[.slice Ao70 t587.length co70, .int .i64 3, .int .i64 2] rfl (by (try simp only [List.map_toArray, List.map_cons, List.map_nil]); first | done | rfl | (simp only [List.length_drop, List.length_take]; rfl)) ?_; (with_reducible refine (times_Get.calls kj48 _ _ t587 3 2 t598 t599 t600 _ ?side1 ?side2 A56.out).mono ?_); (case side1 => repeat (first | exact (Kd.R_reads' HO_8.out).2.2 | (with_reducible refine Kd.C_alloc ?_ _) | (with_reducible refine Kd.C_drewN ?_ _) | (with_reducible refine Kd.C_drew ?_))); (case side2 => exact (Kd.R_reads' HO_8.out).2.1); rintro e w71 ⟨v601, rfl, ho0, hb⟩; refine ⟨_, rfl, ?_⟩; have n0_ := Aside0.mk (Kd.R_elder' (by (with_reducible repeat (first | apply Kd.R_alloc | apply Kd.R_drewN | apply Kd.R_drew)); exact HO_7.out) (Kd.R_base ho0) hb); have n1_ := Aside0.mk (Kd.R_below (by (with_reducible repeat (first | apply Kd.R_alloc | apply Kd.R_drewN | apply Kd.R_drew)); exact HO_8.out) hb); have n2_ := Aside0.mk (Kd.R_lower (Kd.R_new' ho0 (Kd.R_lt (by (with_reducible repeat (first | apply Kd.R_alloc | apply Kd.R_drewN | apply Kd.R_drew)); exact HO_7.out))) (below_size (by repeat (first | (with_reducible first | exact HB.out | apply below_alloc | apply pw_below_drewN | apply below_drew1) | exact HB.out)))); have n3_ := Aside0.mk (below_step (by repeat (first | (with_reducible first | exact HB.out | apply below_alloc | apply pw_below_drewN | apply below_drew1) | exact HB.out)) hb); clear HO_7; clear HO_8; clear HB; have HO_7 := n0_; have HO_8 := n1_; have HO602 := n2_; have HB := n3_; clear n0_ n1_ n2_ n3_; (try clear hb); (try clear hb2); (try clear hk); (try clear hi); (try clear ho0)) | ((with_reducible refine gate_callee (f := 48) rfl ?_); refine goesL_ (some 60) rfl rfl Try.func48 (by kernel_rfl) rfl #[] rfl (by (try simp only [List.map_toArray, List.map_cons, List.map_nil]); first | done | rfl | (simp only [List.length_drop, List.length_take]; rfl)) ?_; (with_reducible refine (ricklaw07_puts.calls kj48  true _ A57.out).mono ?_); rintro e w72 ⟨rfl, hb⟩; refine ⟨_, rfl, ?_⟩; have n0_ := Aside0.mk (Kd.R_below (by (with_reducible repeat (first | apply Kd.R_alloc | apply Kd.R_drewN | apply Kd.R_drew)); exact HO_7.out) hb); have n1_ := Aside0.mk (Kd.R_below (by (with_reducible repeat (first | apply Kd.R_alloc | apply Kd.R_drewN | apply Kd.R_drew)); exact HO_8.out) hb); have n2_ := Aside0.mk (Kd.R_below (by (with_reducible repeat (first | apply Kd.R_alloc | apply Kd.R_drewN | apply Kd.R_drew)); exact HO602.out) hb); have n3_ := Aside0.mk (below_step (by repeat (first | (with_reducible first | exact HB.out | apply below_alloc | apply pw_below_drewN | apply below_drew1) | exact HB.out)) hb); clear HO_7; clear HO_8; clear HO602; clear HB; have HO_7 := n0_; have HO_8 := n1_; have HO602 := n2_; have HB := n3_; clear n0_ n1_ n2_ n3_; (try clear hb); (try clear hb2); (try clear hk); (try clear hi)))
                go_ret
                exact ⟨by first | rfl | (simp [errW_none, errW_some] <;> rfl) | (simp [*, errW_none, errW_some] <;> rfl), by repeat (first | (with_reducible first | exact HB.out | apply below_alloc | apply pw_below_drewN | apply below_drew1) | exact HB.out)⟩
            · rw [if_neg c59] at H
              have c59b0 : (t588 == 0) = false := beq_eq_false_iff_ne.mpr c59
              have c59b1 : (t588 != 0) = true := bne_iff_ne.mpr c59
              obtain rfl := Option.some.inj H
              obtain ⟨Ao73, co73, eo73⟩ := Kd.R_slice HO_8.out
              subst eo73
              go_wp2_with (first | ((with_reducible refine gate_callee (f := 47) rfl ?_); refine goesL_ (some 56) rfl rfl Try.func47 (by kernel_rfl) rfl #[.slice Ao73 t587.length co73, .int .i64 3, .int .i64 2] rfl (by (try simp only [List.map_toArray, List.map_cons, List.map_nil]); first | done | rfl | (simp only [List.length_drop, List.length_take]; rfl)) ?_; (with_reducible refine (times_Get.calls kj48 _ _ t587 3 2 t598 t599 t600 _ ?side1 ?side2 A56.out).mono ?_); (case side1 => repeat (first | exact (Kd.R_reads' HO_8.out).2.2 | (with_reducible refine Kd.C_alloc ?_ _) | (with_reducible refine Kd.C_drewN ?_ _) | (with_reducible refine Kd.C_drew ?_))); (case side2 => exact (Kd.R_reads' HO_8.out).2.1); rintro e w74 ⟨v601, rfl, ho0, hb⟩; refine ⟨_, rfl, ?_⟩; have n0_ := Aside0.mk (Kd.R_elder' (by (with_reducible repeat (first | apply Kd.R_alloc | apply Kd.R_drewN | apply Kd.R_drew)); exact HO_7.out) (Kd.R_base ho0) hb); have n1_ := Aside0.mk (Kd.R_below (by (with_reducible repeat (first | apply Kd.R_alloc | apply Kd.R_drewN | apply Kd.R_drew)); exact HO_8.out) hb); have n2_ := Aside0.mk (Kd.R_lower (Kd.R_new' ho0 (Kd.R_lt (by (with_reducible repeat (first | apply Kd.R_alloc | apply Kd.R_drewN | apply Kd.R_drew)); exact HO_7.out))) (below_size (by repeat (first | (with_reducible first | exact HB.out | apply below_alloc | apply pw_below_drewN | apply below_drew1) | exact HB.out)))); have n3_ := Aside0.mk (below_step (by repeat (first | (with_reducible first | exact HB.out | apply below_alloc | apply pw_below_drewN | apply below_drew1) | exact HB.out)) hb); clear HO_7; clear HO_8; clear HB; have HO_7 := n0_; have HO_8 := n1_; have HO602 := n2_; have HB := n3_; clear n0_ n1_ n2_ n3_; (try clear hb); (try clear hb2); (try clear hk); (try clear hi); (try clear ho0)) | ((with_reducible refine gate_callee (f := 48) rfl ?_); refine goesL_ (some 60) rfl rfl Try.func48 (by kernel_rfl) rfl #[] rfl (by (try simp only [List.map_toArray, List.map_cons, List.map_nil]); first | done | rfl | (simp only [List.length_drop, List.length_take]; rfl)) ?_; (with_reducible refine (ricklaw07_puts.calls kj48  true _ A57.out).mono ?_); rintro e w75 ⟨rfl, hb⟩; refine ⟨_, rfl, ?_⟩; have n0_ := Aside0.mk (Kd.R_below (by (with_reducible repeat (first | apply Kd.R_alloc | apply Kd.R_drewN | apply Kd.R_drew)); exact HO_7.out) hb); have n1_ := Aside0.mk (Kd.R_below (by (with_reducible repeat (first | apply Kd.R_alloc | apply Kd.R_drewN | apply Kd.R_drew)); exact HO_8.out) hb); have n2_ := Aside0.mk (Kd.R_below (by (with_reducible repeat (first | apply Kd.R_alloc | apply Kd.R_drewN | apply Kd.R_drew)); exact HO602.out) hb); have n3_ := Aside0.mk (below_step (by repeat (first | (with_reducible first | exact HB.out | apply below_alloc | apply pw_below_drewN | apply below_drew1) | exact HB.out)) hb); clear HO_7; clear HO_8; clear HO602; clear HB; have HO_7 := n0_; have HO_8 := n1_; have HO602 := n2_; have HB := n3_; clear n0_ n1_ n2_ n3_; (try clear hb); (try clear hb2); (try clear hk); (try clear hi)))
              go_ret
              exact ⟨by first | rfl | (simp [errW_none, errW_some] <;> rfl) | (simp [*, errW_none, errW_some] <;> rfl), by repeat (first | (with_reducible first | exact HB.out | apply below_alloc | apply pw_below_drewN | apply below_drew1) | exact HB.out)⟩
          · replace c58 := Bool.eq_false_iff.mpr c58
            subst c58
            have H1 : (some false) = some r := by rw [if_neg (show ¬ (false = true) by decide)] at H; exact H
            clear H
            have H := H1
            clear H1
            obtain rfl := Option.some.inj H
            obtain ⟨Ao76, co76, eo76⟩ := Kd.R_slice HO_8.out
            subst eo76
            go_wp2_with (first | ((with_reducible refine gate_callee (f := 47) rfl ?_); refine goesL_ (some 56) rfl rfl Try.func47 (by kernel_rfl) rfl #[.slice Ao76 t587.length co76, .int .i64 3, .int .i64 2] rfl (by (try simp only [List.map_toArray, List.map_cons, List.map_nil]); first | done | rfl | (simp only [List.length_drop, List.length_take]; rfl)) ?_; (with_reducible refine (times_Get.calls kj48 _ _ t587 3 2 t598 t599 t600 _ ?side1 ?side2 A56.out).mono ?_); (case side1 => repeat (first | exact (Kd.R_reads' HO_8.out).2.2 | (with_reducible refine Kd.C_alloc ?_ _) | (with_reducible refine Kd.C_drewN ?_ _) | (with_reducible refine Kd.C_drew ?_))); (case side2 => exact (Kd.R_reads' HO_8.out).2.1); rintro e w77 ⟨v601, rfl, ho0, hb⟩; refine ⟨_, rfl, ?_⟩; have n0_ := Aside0.mk (Kd.R_elder' (by (with_reducible repeat (first | apply Kd.R_alloc | apply Kd.R_drewN | apply Kd.R_drew)); exact HO_7.out) (Kd.R_base ho0) hb); have n1_ := Aside0.mk (Kd.R_below (by (with_reducible repeat (first | apply Kd.R_alloc | apply Kd.R_drewN | apply Kd.R_drew)); exact HO_8.out) hb); have n2_ := Aside0.mk (Kd.R_lower (Kd.R_new' ho0 (Kd.R_lt (by (with_reducible repeat (first | apply Kd.R_alloc | apply Kd.R_drewN | apply Kd.R_drew)); exact HO_7.out))) (below_size (by repeat (first | (with_reducible first | exact HB.out | apply below_alloc | apply pw_below_drewN | apply below_drew1) | exact HB.out)))); have n3_ := Aside0.mk (below_step (by repeat (first | (with_reducible first | exact HB.out | apply below_alloc | apply pw_below_drewN | apply below_drew1) | exact HB.out)) hb); clear HO_7; clear HO_8; clear HB; have HO_7 := n0_; have HO_8 := n1_; have HO602 := n2_; have HB := n3_; clear n0_ n1_ n2_ n3_; (try clear hb); (try clear hb2); (try clear hk); (try clear hi); (try clear ho0)) | ((with_reducible refine gate_callee (f := 48) rfl ?_); refine goesL_ (some 60) rfl rfl Try.func48 (by kernel_rfl) rfl #[] rfl (by (try simp only [List.map_toArray, List.map_cons, List.map_nil]); first | done | rfl | (simp only [List.length_drop, List.length_take]; rfl)) ?_; (with_reducible refine (ricklaw07_puts.calls kj48  false _ A57.out).mono ?_); rintro e w78 ⟨rfl, hb⟩; refine ⟨_, rfl, ?_⟩; have n0_ := Aside0.mk (Kd.R_below (by (with_reducible repeat (first | apply Kd.R_alloc | apply Kd.R_drewN | apply Kd.R_drew)); exact HO_7.out) hb); have n1_ := Aside0.mk (Kd.R_below (by (with_reducible repeat (first | apply Kd.R_alloc | apply Kd.R_drewN | apply Kd.R_drew)); exact HO_8.out) hb); have n2_ := Aside0.mk (Kd.R_below (by (with_reducible repeat (first | apply Kd.R_alloc | apply Kd.R_drewN | apply Kd.R_drew)); exact HO602.out) hb); have n3_ := Aside0.mk (below_step (by repeat (first | (with_reducible first | exact HB.out | apply below_alloc | apply pw_below_drewN | apply below_drew1) | exact HB.out)) hb); clear HO_7; clear HO_8; clear HO602; clear HB; have HO_7 := n0_; have HO_8 := n1_; have HO602 := n2_; have HB := n3_; clear n0_ n1_ n2_ n3_; (try clear hb); (try clear hb2); (try clear hk); (try clear hi)))
            go_ret
            exact ⟨by first | rfl | (simp [errW_none, errW_some] <;> rfl) | (simp [*, errW_none, errW_some] <;> rfl), by repeat (first | (with_reducible first | exact HB.out | apply below_alloc | apply pw_below_drewN | apply below_drew1) | exact HB.out)⟩
        · replace c55 := Bool.eq_false_iff.mpr c55
          subst c55
          have H1 : (if a2 ≥ (-256) then (ricklaw07_TimesClasses.j1 kj48 a2 y584 t587 t588 (decide (a2 < 256))) else (ricklaw07_TimesClasses.j1 kj48 a2 y584 t587 t588 false)) = some r := by rw [if_neg (show ¬ (false = true) by decide)] at H; exact H
          clear H
          have H := H1
          clear H1
          have HC79 := Aside0.mk H
          clear H
          go_upto_region 8 with (fail)
          go_cut [40] (fun v40 wc => ∃ (kq : Nat) (x40_78 : Bool), v40 = .bool x40_78 ∧ Aside0 (ricklaw07_TimesClasses.j1 kq a2 y584 t587 t588 x40_78 = some r) ∧ Aside0 (kq ≤ kj48) ∧ Aside0 (Kd.R (Kd.int .i64) 2 wc w.heap.size (fun _ => True) (.slice Ao52 y584.length co52) y584) ∧ Aside0 (Kd.R (Kd.int .u8) 5 wc w.heap.size (fun _ => True) v589 t587) ∧ Aside0 (Below w.heap.size w wc))
          case first =>
            have H := HC79.out
            clear HC79
            by_cases c80 : a2 ≥ (-256)
            · rw [if_pos c80] at H
              have c80b0 : decide ((-256) ≤ a2) = true := decide_eq_true c80
              clear c80
              (first | rw [c80b0] | (simp only [i64_w, i32_w]; rw [c80b0]) | skip)
              have H' := Aside0.mk H
              clear H
              go_wp2
              go_meet
              case rel => exact ⟨_, (decide (a2 < 256)), (by first | rfl | (simp; done) | (simp [*]; done)), H', ⟨by have := HJ48.out; first | omega | exact Nat.le_refl _⟩, ⟨by (with_reducible repeat (first | apply Kd.R_alloc | apply Kd.R_drewN | apply Kd.R_drew)); exact HO_7.out⟩, ⟨by (with_reducible repeat (first | apply Kd.R_alloc | apply Kd.R_drewN | apply Kd.R_drew)); exact HO_8.out⟩, ⟨by repeat (first | (with_reducible first | exact HB.out | apply below_alloc | apply pw_below_drewN | apply below_drew1) | exact HB.out)⟩⟩
            · rw [if_neg c80] at H
              have c80b0 : decide ((-256) ≤ a2) = false := decide_eq_false c80
              clear c80
              (first | rw [c80b0] | (simp only [i64_w, i32_w]; rw [c80b0]) | skip)
              have H' := Aside0.mk H
              clear H
              go_wp2
              go_meet
              case rel => exact ⟨_, (false), (by first | rfl | (simp; done) | (simp [*]; done)), H', ⟨by have := HJ48.out; first | omega | exact Nat.le_refl _⟩, ⟨by (with_reducible repeat (first | apply Kd.R_alloc | apply Kd.R_drewN | apply Kd.R_drew)); exact HO_7.out⟩, ⟨by (with_reducible repeat (first | apply Kd.R_alloc | apply Kd.R_drewN | apply Kd.R_drew)); exact HO_8.out⟩, ⟨by repeat (first | (with_reducible first | exact HB.out | apply below_alloc | apply pw_below_drewN | apply below_drew1) | exact HB.out)⟩⟩
          case rest =>
            clear HC79
            try clear c1
            try clear p2
            try clear c4
            try clear c5
            try clear c5b0
            try clear c5b1
            try clear c6
            try clear p6
            try clear c8
            try clear c9
            try clear c9b0
            try clear c9b1
            try clear c10
            try clear c10b0
            try clear c10b1
            try clear c11
            try clear c11b0
            try clear c11b1
            try clear c16
            try clear c46
            try clear c47
            try clear c48
            try clear c54
            try clear c54b0
            try clear c55
            try clear c58
            try clear c59
            try clear c59b0
            try clear c59b1
            try clear c60
            try clear c60b0
            try clear c60b1
            try clear c61
            try clear c61b0
            try clear c61b1
            try clear p64
            try clear c80
            try clear c80b0
            try clear p2
            try clear p6
            obtain ⟨kq, x40_78, rfl, HA, HJ78, HO_7, HO_8, HB⟩ := hcut
            cases kq with
            | zero => exact absurd HA.out (by simp [ricklaw07_TimesClasses.j1])
            | succ kj78 =>
              have H := HA.out
              clear HA
              simp only [ricklaw07_TimesClasses.j1] at H
              by_cases c81 : x40_78 = true
              · subst c81
                have H1 : ((times_Get.f kj78 t587 3 2).bind fun bt605 => ((ricklaw07_puts.f kj78).bind fun t610 => (if t610 = true then (if t588 = 0 then (if (t587.length : Int) = 18 then (if bt605.2.2 = 0 then ((rickref07_Same.f kj78 bt605.1 y584).bind fun t611 => (some t611)) else (some false)) else (some false)) else (some false)) else (some false)))) = some r := by rw [if_pos rfl] at H; exact H
                clear H
                have H := H1
                clear H1
                replace H := Option.bind_eq_some_iff.mp H
                obtain ⟨⟨t605, t606, t607⟩, A820, H⟩ := H
                replace H : ((ricklaw07_puts.f kj78).bind fun t610 => (if t610 = true then (if t588 = 0 then (if (t587.length : Int) = 18 then (if t607 = 0 then ((rickref07_Same.f kj78 t605 y584).bind fun t611 => (some t611)) else (some false)) else (some false)) else (some false)) else (some false))) = some r := H
                have A82 := Aside0.mk A820
                clear A820
                replace H := Option.bind_eq_some_iff.mp H
                obtain ⟨t610, A830, H⟩ := H
                replace H : (if t610 = true then (if t588 = 0 then (if (t587.length : Int) = 18 then (if t607 = 0 then ((rickref07_Same.f kj78 t605 y584).bind fun t611 => (some t611)) else (some false)) else (some false)) else (some false)) else (some false)) = some r := H
                have A83 := Aside0.mk A830
                clear A830
                by_cases c84 : t610 = true
                · subst c84
                  have H1 : (if t588 = 0 then (if (t587.length : Int) = 18 then (if t607 = 0 then ((rickref07_Same.f kj78 t605 y584).bind fun t611 => (some t611)) else (some false)) else (some false)) else (some false)) = some r := by rw [if_pos rfl] at H; exact H
                  clear H
                  have H := H1
                  clear H1
                  by_cases c85 : t588 = 0
                  · rw [if_pos c85] at H
                    have c85b0 : (t588 == 0) = true := beq_iff_eq.mpr c85
                    have c85b1 : (t588 != 0) = false := bne_eq_false_iff_eq.mpr c85
                    clear c85
                    by_cases c86 : (t587.length : Int) = 18
                    · rw [if_pos c86] at H
                      have c86b0 : ((t587.length : Int) == 18) = true := beq_iff_eq.mpr c86
                      have c86b1 : ((t587.length : Int) != 18) = false := bne_eq_false_iff_eq.mpr c86
                      clear c86
                      by_cases c87 : t607 = 0
                      · rw [if_pos c87] at H
                        have c87b0 : (t607 == 0) = true := beq_iff_eq.mpr c87
                        have c87b1 : (t607 != 0) = false := bne_eq_false_iff_eq.mpr c87
                        clear c87
                        replace H := Option.bind_eq_some_iff.mp H
                        obtain ⟨t611, A880, H⟩ := H
                        replace H : (some t611) = some r := H
                        have A88 := Aside0.mk A880
                        clear A880
                        obtain rfl := Option.some.inj H
                        obtain ⟨Ao89, co89, eo89⟩ := Kd.R_slice HO_8.out
                        subst eo89
                        go_wp2_with (first | ((with_reducible refine gate_callee (f := 47) rfl ?_); refine goesL_ (some 56) rfl rfl Try.func47 (by kernel_rfl) rfl #[.slice Ao89 t587.length co89, .int .i64 3, .int .i64 2] rfl (by (try simp only [List.map_toArray, List.map_cons, List.map_nil]); first | done | rfl | (simp only [List.length_drop, List.length_take]; rfl)) ?_; (with_reducible refine (times_Get.calls kj78 _ _ t587 3 2 t605 t606 t607 _ ?side1 ?side2 A82.out).mono ?_); (case side1 => repeat (first | exact (Kd.R_reads' HO_8.out).2.2 | (with_reducible refine Kd.C_alloc ?_ _) | (with_reducible refine Kd.C_drewN ?_ _) | (with_reducible refine Kd.C_drew ?_))); (case side2 => exact (Kd.R_reads' HO_8.out).2.1); rintro e w90 ⟨v608, rfl, ho0, hb⟩; refine ⟨_, rfl, ?_⟩; have n0_ := Aside0.mk (Kd.R_elder' (by (with_reducible repeat (first | apply Kd.R_alloc | apply Kd.R_drewN | apply Kd.R_drew)); exact HO_7.out) (Kd.R_base ho0) hb); have n1_ := Aside0.mk (Kd.R_below (by (with_reducible repeat (first | apply Kd.R_alloc | apply Kd.R_drewN | apply Kd.R_drew)); exact HO_8.out) hb); have n2_ := Aside0.mk (Kd.R_lower (Kd.R_new' ho0 (Kd.R_lt (by (with_reducible repeat (first | apply Kd.R_alloc | apply Kd.R_drewN | apply Kd.R_drew)); exact HO_7.out))) (below_size (by repeat (first | (with_reducible first | exact HB.out | apply below_alloc | apply pw_below_drewN | apply below_drew1) | exact HB.out)))); have n3_ := Aside0.mk (below_step (by repeat (first | (with_reducible first | exact HB.out | apply below_alloc | apply pw_below_drewN | apply below_drew1) | exact HB.out)) hb); clear HO_7; clear HO_8; clear HB; have HO_7 := n0_; have HO_8 := n1_; have HO609 := n2_; have HB := n3_; clear n0_ n1_ n2_ n3_; (try clear hb); (try clear hb2); (try clear hk); (try clear hi); (try clear ho0)) | ((with_reducible refine gate_callee (f := 48) rfl ?_); refine goesL_ (some 60) rfl rfl Try.func48 (by kernel_rfl) rfl #[] rfl (by (try simp only [List.map_toArray, List.map_cons, List.map_nil]); first | done | rfl | (simp only [List.length_drop, List.length_take]; rfl)) ?_; (with_reducible refine (ricklaw07_puts.calls kj78  true _ A83.out).mono ?_); rintro e w91 ⟨rfl, hb⟩; refine ⟨_, rfl, ?_⟩; have n0_ := Aside0.mk (Kd.R_below (by (with_reducible repeat (first | apply Kd.R_alloc | apply Kd.R_drewN | apply Kd.R_drew)); exact HO_7.out) hb); have n1_ := Aside0.mk (Kd.R_below (by (with_reducible repeat (first | apply Kd.R_alloc | apply Kd.R_drewN | apply Kd.R_drew)); exact HO_8.out) hb); have n2_ := Aside0.mk (Kd.R_below (by (with_reducible repeat (first | apply Kd.R_alloc | apply Kd.R_drewN | apply Kd.R_drew)); exact HO609.out) hb); have n3_ := Aside0.mk (below_step (by repeat (first | (with_reducible first | exact HB.out | apply below_alloc | apply pw_below_drewN | apply below_drew1) | exact HB.out)) hb); clear HO_7; clear HO_8; clear HO609; clear HB; have HO_7 := n0_; have HO_8 := n1_; have HO609 := n2_; have HB := n3_; clear n0_ n1_ n2_ n3_; (try clear hb); (try clear hb2); (try clear hk); (try clear hi); obtain ⟨Ao92, co92, eo92⟩ := Kd.R_slice HO609.out; subst eo92) | (go_at_call 49; (with_reducible refine (rickref07_Same.calls kj78 _ _ t605 _ _ y584 t611 _ ?side1 ?side2 ?side3 ?side4 A88.out).mono ?_); (case side1 => repeat (first | exact (Kd.R_reads' HO609.out).2.2 | (with_reducible refine Kd.C_alloc ?_ _) | (with_reducible refine Kd.C_drewN ?_ _) | (with_reducible refine Kd.C_drew ?_))); (case side2 => exact (Kd.R_reads' HO609.out).2.1); (case side3 => repeat (first | exact (Kd.R_reads' HO_7.out).2.2 | (with_reducible refine Kd.C_alloc ?_ _) | (with_reducible refine Kd.C_drewN ?_ _) | (with_reducible refine Kd.C_drew ?_))); (case side4 => exact (Kd.R_reads' HO_7.out).2.1); rintro e w' ⟨rfl, ⟨nd, rfl⟩⟩))
                        go_ret
                        exact ⟨by first | rfl | (simp [errW_none, errW_some] <;> rfl) | (simp [*, errW_none, errW_some] <;> rfl), by repeat (first | (with_reducible first | exact HB.out | apply below_alloc | apply pw_below_drewN | apply below_drew1) | exact HB.out)⟩
                      · rw [if_neg c87] at H
                        have c87b0 : (t607 == 0) = false := beq_eq_false_iff_ne.mpr c87
                        have c87b1 : (t607 != 0) = true := bne_iff_ne.mpr c87
                        obtain rfl := Option.some.inj H
                        obtain ⟨Ao93, co93, eo93⟩ := Kd.R_slice HO_8.out
                        subst eo93
                        go_wp2_with (first | ((with_reducible refine gate_callee (f := 47) rfl ?_); refine goesL_ (some 56) rfl rfl Try.func47 (by kernel_rfl) rfl #[.slice Ao93 t587.length co93, .int .i64 3, .int .i64 2] rfl (by (try simp only [List.map_toArray, List.map_cons, List.map_nil]); first | done | rfl | (simp only [List.length_drop, List.length_take]; rfl)) ?_; (with_reducible refine (times_Get.calls kj78 _ _ t587 3 2 t605 t606 t607 _ ?side1 ?side2 A82.out).mono ?_); (case side1 => repeat (first | exact (Kd.R_reads' HO_8.out).2.2 | (with_reducible refine Kd.C_alloc ?_ _) | (with_reducible refine Kd.C_drewN ?_ _) | (with_reducible refine Kd.C_drew ?_))); (case side2 => exact (Kd.R_reads' HO_8.out).2.1); rintro e w94 ⟨v608, rfl, ho0, hb⟩; refine ⟨_, rfl, ?_⟩; have n0_ := Aside0.mk (Kd.R_elder' (by (with_reducible repeat (first | apply Kd.R_alloc | apply Kd.R_drewN | apply Kd.R_drew)); exact HO_7.out) (Kd.R_base ho0) hb); have n1_ := Aside0.mk (Kd.R_below (by (with_reducible repeat (first | apply Kd.R_alloc | apply Kd.R_drewN | apply Kd.R_drew)); exact HO_8.out) hb); have n2_ := Aside0.mk (Kd.R_lower (Kd.R_new' ho0 (Kd.R_lt (by (with_reducible repeat (first | apply Kd.R_alloc | apply Kd.R_drewN | apply Kd.R_drew)); exact HO_7.out))) (below_size (by repeat (first | (with_reducible first | exact HB.out | apply below_alloc | apply pw_below_drewN | apply below_drew1) | exact HB.out)))); have n3_ := Aside0.mk (below_step (by repeat (first | (with_reducible first | exact HB.out | apply below_alloc | apply pw_below_drewN | apply below_drew1) | exact HB.out)) hb); clear HO_7; clear HO_8; clear HB; have HO_7 := n0_; have HO_8 := n1_; have HO609 := n2_; have HB := n3_; clear n0_ n1_ n2_ n3_; (try clear hb); (try clear hb2); (try clear hk); (try clear hi); (try clear ho0)) | ((with_reducible refine gate_callee (f := 48) rfl ?_); refine goesL_ (some 60) rfl rfl Try.func48 (by kernel_rfl) rfl #[] rfl (by (try simp only [List.map_toArray, List.map_cons, List.map_nil]); first | done | rfl | (simp only [List.length_drop, List.length_take]; rfl)) ?_; (with_reducible refine (ricklaw07_puts.calls kj78  true _ A83.out).mono ?_); rintro e w95 ⟨rfl, hb⟩; refine ⟨_, rfl, ?_⟩; have n0_ := Aside0.mk (Kd.R_below (by (with_reducible repeat (first | apply Kd.R_alloc | apply Kd.R_drewN | apply Kd.R_drew)); exact HO_7.out) hb); have n1_ := Aside0.mk (Kd.R_below (by (with_reducible repeat (first | apply Kd.R_alloc | apply Kd.R_drewN | apply Kd.R_drew)); exact HO_8.out) hb); have n2_ := Aside0.mk (Kd.R_below (by (with_reducible repeat (first | apply Kd.R_alloc | apply Kd.R_drewN | apply Kd.R_drew)); exact HO609.out) hb); have n3_ := Aside0.mk (below_step (by repeat (first | (with_reducible first | exact HB.out | apply below_alloc | apply pw_below_drewN | apply below_drew1) | exact HB.out)) hb); clear HO_7; clear HO_8; clear HO609; clear HB; have HO_7 := n0_; have HO_8 := n1_; have HO609 := n2_; have HB := n3_; clear n0_ n1_ n2_ n3_; (try clear hb); (try clear hb2); (try clear hk); (try clear hi)))
                        go_ret
                        exact ⟨by first | rfl | (simp [errW_none, errW_some] <;> rfl) | (simp [*, errW_none, errW_some] <;> rfl), by repeat (first | (with_reducible first | exact HB.out | apply below_alloc | apply pw_below_drewN | apply below_drew1) | exact HB.out)⟩
                    · rw [if_neg c86] at H
                      have c86b0 : ((t587.length : Int) == 18) = false := beq_eq_false_iff_ne.mpr c86
                      have c86b1 : ((t587.length : Int) != 18) = true := bne_iff_ne.mpr c86
                      obtain rfl := Option.some.inj H
                      obtain ⟨Ao96, co96, eo96⟩ := Kd.R_slice HO_8.out
                      subst eo96
                      go_wp2_with (first | ((with_reducible refine gate_callee (f := 47) rfl ?_); refine goesL_ (some 56) rfl rfl Try.func47 (by kernel_rfl) rfl #[.slice Ao96 t587.length co96, .int .i64 3, .int .i64 2] rfl (by (try simp only [List.map_toArray, List.map_cons, List.map_nil]); first | done | rfl | (simp only [List.length_drop, List.length_take]; rfl)) ?_; (with_reducible refine (times_Get.calls kj78 _ _ t587 3 2 t605 t606 t607 _ ?side1 ?side2 A82.out).mono ?_); (case side1 => repeat (first | exact (Kd.R_reads' HO_8.out).2.2 | (with_reducible refine Kd.C_alloc ?_ _) | (with_reducible refine Kd.C_drewN ?_ _) | (with_reducible refine Kd.C_drew ?_))); (case side2 => exact (Kd.R_reads' HO_8.out).2.1); rintro e w97 ⟨v608, rfl, ho0, hb⟩; refine ⟨_, rfl, ?_⟩; have n0_ := Aside0.mk (Kd.R_elder' (by (with_reducible repeat (first | apply Kd.R_alloc | apply Kd.R_drewN | apply Kd.R_drew)); exact HO_7.out) (Kd.R_base ho0) hb); have n1_ := Aside0.mk (Kd.R_below (by (with_reducible repeat (first | apply Kd.R_alloc | apply Kd.R_drewN | apply Kd.R_drew)); exact HO_8.out) hb); have n2_ := Aside0.mk (Kd.R_lower (Kd.R_new' ho0 (Kd.R_lt (by (with_reducible repeat (first | apply Kd.R_alloc | apply Kd.R_drewN | apply Kd.R_drew)); exact HO_7.out))) (below_size (by repeat (first | (with_reducible first | exact HB.out | apply below_alloc | apply pw_below_drewN | apply below_drew1) | exact HB.out)))); have n3_ := Aside0.mk (below_step (by repeat (first | (with_reducible first | exact HB.out | apply below_alloc | apply pw_below_drewN | apply below_drew1) | exact HB.out)) hb); clear HO_7; clear HO_8; clear HB; have HO_7 := n0_; have HO_8 := n1_; have HO609 := n2_; have HB := n3_; clear n0_ n1_ n2_ n3_; (try clear hb); (try clear hb2); (try clear hk); (try clear hi); (try clear ho0)) | ((with_reducible refine gate_callee (f := 48) rfl ?_); refine goesL_ (some 60) rfl rfl Try.func48 (by kernel_rfl) rfl #[] rfl (by (try simp only [List.map_toArray, List.map_cons, List.map_nil]); first | done | rfl | (simp only [List.length_drop, List.length_take]; rfl)) ?_; (with_reducible refine (ricklaw07_puts.calls kj78  true _ A83.out).mono ?_); rintro e w98 ⟨rfl, hb⟩; refine ⟨_, rfl, ?_⟩; have n0_ := Aside0.mk (Kd.R_below (by (with_reducible repeat (first | apply Kd.R_alloc | apply Kd.R_drewN | apply Kd.R_drew)); exact HO_7.out) hb); have n1_ := Aside0.mk (Kd.R_below (by (with_reducible repeat (first | apply Kd.R_alloc | apply Kd.R_drewN | apply Kd.R_drew)); exact HO_8.out) hb); have n2_ := Aside0.mk (Kd.R_below (by (with_reducible repeat (first | apply Kd.R_alloc | apply Kd.R_drewN | apply Kd.R_drew)); exact HO609.out) hb); have n3_ := Aside0.mk (below_step (by repeat (first | (with_reducible first | exact HB.out | apply below_alloc | apply pw_below_drewN | apply below_drew1) | exact HB.out)) hb); clear HO_7; clear HO_8; clear HO609; clear HB; have HO_7 := n0_; have HO_8 := n1_; have HO609 := n2_; have HB := n3_; clear n0_ n1_ n2_ n3_; (try clear hb); (try clear hb2); (try clear hk); (try clear hi)))
                      go_ret
                      exact ⟨by first | rfl | (simp [errW_none, errW_some] <;> rfl) | (simp [*, errW_none, errW_some] <;> rfl), by repeat (first | (with_reducible first | exact HB.out | apply below_alloc | apply pw_below_drewN | apply below_drew1) | exact HB.out)⟩
                  · rw [if_neg c85] at H
                    have c85b0 : (t588 == 0) = false := beq_eq_false_iff_ne.mpr c85
                    have c85b1 : (t588 != 0) = true := bne_iff_ne.mpr c85
                    obtain rfl := Option.some.inj H
                    obtain ⟨Ao99, co99, eo99⟩ := Kd.R_slice HO_8.out
                    subst eo99
                    go_wp2_with (first | ((with_reducible refine gate_callee (f := 47) rfl ?_); refine goesL_ (some 56) rfl rfl Try.func47 (by kernel_rfl) rfl #[.slice Ao99 t587.length co99, .int .i64 3, .int .i64 2] rfl (by (try simp only [List.map_toArray, List.map_cons, List.map_nil]); first | done | rfl | (simp only [List.length_drop, List.length_take]; rfl)) ?_; (with_reducible refine (times_Get.calls kj78 _ _ t587 3 2 t605 t606 t607 _ ?side1 ?side2 A82.out).mono ?_); (case side1 => repeat (first | exact (Kd.R_reads' HO_8.out).2.2 | (with_reducible refine Kd.C_alloc ?_ _) | (with_reducible refine Kd.C_drewN ?_ _) | (with_reducible refine Kd.C_drew ?_))); (case side2 => exact (Kd.R_reads' HO_8.out).2.1); rintro e w100 ⟨v608, rfl, ho0, hb⟩; refine ⟨_, rfl, ?_⟩; have n0_ := Aside0.mk (Kd.R_elder' (by (with_reducible repeat (first | apply Kd.R_alloc | apply Kd.R_drewN | apply Kd.R_drew)); exact HO_7.out) (Kd.R_base ho0) hb); have n1_ := Aside0.mk (Kd.R_below (by (with_reducible repeat (first | apply Kd.R_alloc | apply Kd.R_drewN | apply Kd.R_drew)); exact HO_8.out) hb); have n2_ := Aside0.mk (Kd.R_lower (Kd.R_new' ho0 (Kd.R_lt (by (with_reducible repeat (first | apply Kd.R_alloc | apply Kd.R_drewN | apply Kd.R_drew)); exact HO_7.out))) (below_size (by repeat (first | (with_reducible first | exact HB.out | apply below_alloc | apply pw_below_drewN | apply below_drew1) | exact HB.out)))); have n3_ := Aside0.mk (below_step (by repeat (first | (with_reducible first | exact HB.out | apply below_alloc | apply pw_below_drewN | apply below_drew1) | exact HB.out)) hb); clear HO_7; clear HO_8; clear HB; have HO_7 := n0_; have HO_8 := n1_; have HO609 := n2_; have HB := n3_; clear n0_ n1_ n2_ n3_; (try clear hb); (try clear hb2); (try clear hk); (try clear hi); (try clear ho0)) | ((with_reducible refine gate_callee (f := 48) rfl ?_); refine goesL_ (some 60) rfl rfl Try.func48 (by kernel_rfl) rfl #[] rfl (by (try simp only [List.map_toArray, List.map_cons, List.map_nil]); first | done | rfl | (simp only [List.length_drop, List.length_take]; rfl)) ?_; (with_reducible refine (ricklaw07_puts.calls kj78  true _ A83.out).mono ?_); rintro e w101 ⟨rfl, hb⟩; refine ⟨_, rfl, ?_⟩; have n0_ := Aside0.mk (Kd.R_below (by (with_reducible repeat (first | apply Kd.R_alloc | apply Kd.R_drewN | apply Kd.R_drew)); exact HO_7.out) hb); have n1_ := Aside0.mk (Kd.R_below (by (with_reducible repeat (first | apply Kd.R_alloc | apply Kd.R_drewN | apply Kd.R_drew)); exact HO_8.out) hb); have n2_ := Aside0.mk (Kd.R_below (by (with_reducible repeat (first | apply Kd.R_alloc | apply Kd.R_drewN | apply Kd.R_drew)); exact HO609.out) hb); have n3_ := Aside0.mk (below_step (by repeat (first | (with_reducible first | exact HB.out | apply below_alloc | apply pw_below_drewN | apply below_drew1) | exact HB.out)) hb); clear HO_7; clear HO_8; clear HO609; clear HB; have HO_7 := n0_; have HO_8 := n1_; have HO609 := n2_; have HB := n3_; clear n0_ n1_ n2_ n3_; (try clear hb); (try clear hb2); (try clear hk); (try clear hi)))
                    go_ret
                    exact ⟨by first | rfl | (simp [errW_none, errW_some] <;> rfl) | (simp [*, errW_none, errW_some] <;> rfl), by repeat (first | (with_reducible first | exact HB.out | apply below_alloc | apply pw_below_drewN | apply below_drew1) | exact HB.out)⟩
                · replace c84 := Bool.eq_false_iff.mpr c84
                  subst c84
                  have H1 : (some false) = some r := by rw [if_neg (show ¬ (false = true) by decide)] at H; exact H
                  clear H
                  have H := H1
                  clear H1
                  obtain rfl := Option.some.inj H
                  obtain ⟨Ao102, co102, eo102⟩ := Kd.R_slice HO_8.out
                  subst eo102
                  go_wp2_with (first | ((with_reducible refine gate_callee (f := 47) rfl ?_); refine goesL_ (some 56) rfl rfl Try.func47 (by kernel_rfl) rfl #[.slice Ao102 t587.length co102, .int .i64 3, .int .i64 2] rfl (by (try simp only [List.map_toArray, List.map_cons, List.map_nil]); first | done | rfl | (simp only [List.length_drop, List.length_take]; rfl)) ?_; (with_reducible refine (times_Get.calls kj78 _ _ t587 3 2 t605 t606 t607 _ ?side1 ?side2 A82.out).mono ?_); (case side1 => repeat (first | exact (Kd.R_reads' HO_8.out).2.2 | (with_reducible refine Kd.C_alloc ?_ _) | (with_reducible refine Kd.C_drewN ?_ _) | (with_reducible refine Kd.C_drew ?_))); (case side2 => exact (Kd.R_reads' HO_8.out).2.1); rintro e w103 ⟨v608, rfl, ho0, hb⟩; refine ⟨_, rfl, ?_⟩; have n0_ := Aside0.mk (Kd.R_elder' (by (with_reducible repeat (first | apply Kd.R_alloc | apply Kd.R_drewN | apply Kd.R_drew)); exact HO_7.out) (Kd.R_base ho0) hb); have n1_ := Aside0.mk (Kd.R_below (by (with_reducible repeat (first | apply Kd.R_alloc | apply Kd.R_drewN | apply Kd.R_drew)); exact HO_8.out) hb); have n2_ := Aside0.mk (Kd.R_lower (Kd.R_new' ho0 (Kd.R_lt (by (with_reducible repeat (first | apply Kd.R_alloc | apply Kd.R_drewN | apply Kd.R_drew)); exact HO_7.out))) (below_size (by repeat (first | (with_reducible first | exact HB.out | apply below_alloc | apply pw_below_drewN | apply below_drew1) | exact HB.out)))); have n3_ := Aside0.mk (below_step (by repeat (first | (with_reducible first | exact HB.out | apply below_alloc | apply pw_below_drewN | apply below_drew1) | exact HB.out)) hb); clear HO_7; clear HO_8; clear HB; have HO_7 := n0_; have HO_8 := n1_; have HO609 := n2_; have HB := n3_; clear n0_ n1_ n2_ n3_; (try clear hb); (try clear hb2); (try clear hk); (try clear hi); (try clear ho0)) | ((with_reducible refine gate_callee (f := 48) rfl ?_); refine goesL_ (some 60) rfl rfl Try.func48 (by kernel_rfl) rfl #[] rfl (by (try simp only [List.map_toArray, List.map_cons, List.map_nil]); first | done | rfl | (simp only [List.length_drop, List.length_take]; rfl)) ?_; (with_reducible refine (ricklaw07_puts.calls kj78  false _ A83.out).mono ?_); rintro e w104 ⟨rfl, hb⟩; refine ⟨_, rfl, ?_⟩; have n0_ := Aside0.mk (Kd.R_below (by (with_reducible repeat (first | apply Kd.R_alloc | apply Kd.R_drewN | apply Kd.R_drew)); exact HO_7.out) hb); have n1_ := Aside0.mk (Kd.R_below (by (with_reducible repeat (first | apply Kd.R_alloc | apply Kd.R_drewN | apply Kd.R_drew)); exact HO_8.out) hb); have n2_ := Aside0.mk (Kd.R_below (by (with_reducible repeat (first | apply Kd.R_alloc | apply Kd.R_drewN | apply Kd.R_drew)); exact HO609.out) hb); have n3_ := Aside0.mk (below_step (by repeat (first | (with_reducible first | exact HB.out | apply below_alloc | apply pw_below_drewN | apply below_drew1) | exact HB.out)) hb); clear HO_7; clear HO_8; clear HO609; clear HB; have HO_7 := n0_; have HO_8 := n1_; have HO609 := n2_; have HB := n3_; clear n0_ n1_ n2_ n3_; (try clear hb); (try clear hb2); (try clear hk); (try clear hi)))
                  go_ret
                  exact ⟨by first | rfl | (simp [errW_none, errW_some] <;> rfl) | (simp [*, errW_none, errW_some] <;> rfl), by repeat (first | (with_reducible first | exact HB.out | apply below_alloc | apply pw_below_drewN | apply below_drew1) | exact HB.out)⟩
              · replace c81 := Bool.eq_false_iff.mpr c81
                subst c81
                have H1 : (if a2 ≥ (-2048) then (ricklaw07_TimesClasses.j2 kj78 y584 t587 t588 (decide (a2 < 2048))) else (ricklaw07_TimesClasses.j2 kj78 y584 t587 t588 false)) = some r := by rw [if_neg (show ¬ (false = true) by decide)] at H; exact H
                clear H
                have H := H1
                clear H1
                have HC105 := Aside0.mk H
                clear H
                go_upto_region 10 with (fail)
                go_cut [47] (fun v47 wc => ∃ (kq : Nat) (x47_104 : Bool), v47 = .bool x47_104 ∧ Aside0 (ricklaw07_TimesClasses.j2 kq y584 t587 t588 x47_104 = some r) ∧ Aside0 (kq ≤ kj78) ∧ Aside0 (Kd.R (Kd.int .i64) 2 wc w.heap.size (fun _ => True) (.slice Ao52 y584.length co52) y584) ∧ Aside0 (Kd.R (Kd.int .u8) 5 wc w.heap.size (fun _ => True) v589 t587) ∧ Aside0 (Below w.heap.size w wc))
                case first =>
                  have H := HC105.out
                  clear HC105
                  by_cases c106 : a2 ≥ (-2048)
                  · rw [if_pos c106] at H
                    have c106b0 : decide ((-2048) ≤ a2) = true := decide_eq_true c106
                    clear c106
                    (first | rw [c106b0] | (simp only [i64_w, i32_w]; rw [c106b0]) | skip)
                    have H' := Aside0.mk H
                    clear H
                    go_wp2
                    go_meet
                    case rel => exact ⟨_, (decide (a2 < 2048)), (by first | rfl | (simp; done) | (simp [*]; done)), H', ⟨by have := HJ48.out; have := HJ78.out; first | omega | exact Nat.le_refl _⟩, ⟨by (with_reducible repeat (first | apply Kd.R_alloc | apply Kd.R_drewN | apply Kd.R_drew)); exact HO_7.out⟩, ⟨by (with_reducible repeat (first | apply Kd.R_alloc | apply Kd.R_drewN | apply Kd.R_drew)); exact HO_8.out⟩, ⟨by repeat (first | (with_reducible first | exact HB.out | apply below_alloc | apply pw_below_drewN | apply below_drew1) | exact HB.out)⟩⟩
                  · rw [if_neg c106] at H
                    have c106b0 : decide ((-2048) ≤ a2) = false := decide_eq_false c106
                    clear c106
                    (first | rw [c106b0] | (simp only [i64_w, i32_w]; rw [c106b0]) | skip)
                    have H' := Aside0.mk H
                    clear H
                    go_wp2
                    go_meet
                    case rel => exact ⟨_, (false), (by first | rfl | (simp; done) | (simp [*]; done)), H', ⟨by have := HJ48.out; have := HJ78.out; first | omega | exact Nat.le_refl _⟩, ⟨by (with_reducible repeat (first | apply Kd.R_alloc | apply Kd.R_drewN | apply Kd.R_drew)); exact HO_7.out⟩, ⟨by (with_reducible repeat (first | apply Kd.R_alloc | apply Kd.R_drewN | apply Kd.R_drew)); exact HO_8.out⟩, ⟨by repeat (first | (with_reducible first | exact HB.out | apply below_alloc | apply pw_below_drewN | apply below_drew1) | exact HB.out)⟩⟩
                case rest =>
                  clear HC105
                  try clear c1
                  try clear p2
                  try clear c4
                  try clear c5
                  try clear c5b0
                  try clear c5b1
                  try clear c6
                  try clear p6
                  try clear c8
                  try clear c9
                  try clear c9b0
                  try clear c9b1
                  try clear c10
                  try clear c10b0
                  try clear c10b1
                  try clear c11
                  try clear c11b0
                  try clear c11b1
                  try clear c16
                  try clear c46
                  try clear c47
                  try clear c48
                  try clear c54
                  try clear c54b0
                  try clear c55
                  try clear c58
                  try clear c59
                  try clear c59b0
                  try clear c59b1
                  try clear c60
                  try clear c60b0
                  try clear c60b1
                  try clear c61
                  try clear c61b0
                  try clear c61b1
                  try clear p64
                  try clear c80
                  try clear c80b0
                  try clear c81
                  try clear c84
                  try clear c85
                  try clear c85b0
                  try clear c85b1
                  try clear c86
                  try clear c86b0
                  try clear c86b1
                  try clear c87
                  try clear c87b0
                  try clear c87b1
                  try clear c106
                  try clear c106b0
                  try clear p2
                  try clear p6
                  try clear p64
                  obtain ⟨kq, x47_104, rfl, HA, HJ104, HO_7, HO_8, HB⟩ := hcut
                  cases kq with
                  | zero => exact absurd HA.out (by simp [ricklaw07_TimesClasses.j2])
                  | succ kj104 =>
                    have H := HA.out
                    clear HA
                    simp only [ricklaw07_TimesClasses.j2] at H
                    by_cases c107 : x47_104 = true
                    · subst c107
                      have H1 : ((times_Get.f kj104 t587 3 2).bind fun bt612 => ((ricklaw07_puts.f kj104).bind fun t617 => (if t617 = true then (if t588 = 0 then (if (t587.length : Int) = 18 then (if bt612.2.2 = 0 then ((rickref07_Same.f kj104 bt612.1 y584).bind fun t618 => (some t618)) else (some false)) else (some false)) else (some false)) else (some false)))) = some r := by rw [if_pos rfl] at H; exact H
                      clear H
                      have H := H1
                      clear H1
                      replace H := Option.bind_eq_some_iff.mp H
                      obtain ⟨⟨t612, t613, t614⟩, A1080, H⟩ := H
                      replace H : ((ricklaw07_puts.f kj104).bind fun t617 => (if t617 = true then (if t588 = 0 then (if (t587.length : Int) = 18 then (if t614 = 0 then ((rickref07_Same.f kj104 t612 y584).bind fun t618 => (some t618)) else (some false)) else (some false)) else (some false)) else (some false))) = some r := H
                      have A108 := Aside0.mk A1080
                      clear A1080
                      replace H := Option.bind_eq_some_iff.mp H
                      obtain ⟨t617, A1090, H⟩ := H
                      replace H : (if t617 = true then (if t588 = 0 then (if (t587.length : Int) = 18 then (if t614 = 0 then ((rickref07_Same.f kj104 t612 y584).bind fun t618 => (some t618)) else (some false)) else (some false)) else (some false)) else (some false)) = some r := H
                      have A109 := Aside0.mk A1090
                      clear A1090
                      by_cases c110 : t617 = true
                      · subst c110
                        have H1 : (if t588 = 0 then (if (t587.length : Int) = 18 then (if t614 = 0 then ((rickref07_Same.f kj104 t612 y584).bind fun t618 => (some t618)) else (some false)) else (some false)) else (some false)) = some r := by rw [if_pos rfl] at H; exact H
                        clear H
                        have H := H1
                        clear H1
                        by_cases c111 : t588 = 0
                        · rw [if_pos c111] at H
                          have c111b0 : (t588 == 0) = true := beq_iff_eq.mpr c111
                          have c111b1 : (t588 != 0) = false := bne_eq_false_iff_eq.mpr c111
                          clear c111
                          by_cases c112 : (t587.length : Int) = 18
                          · rw [if_pos c112] at H
                            have c112b0 : ((t587.length : Int) == 18) = true := beq_iff_eq.mpr c112
                            have c112b1 : ((t587.length : Int) != 18) = false := bne_eq_false_iff_eq.mpr c112
                            clear c112
                            by_cases c113 : t614 = 0
                            · rw [if_pos c113] at H
                              have c113b0 : (t614 == 0) = true := beq_iff_eq.mpr c113
                              have c113b1 : (t614 != 0) = false := bne_eq_false_iff_eq.mpr c113
                              clear c113
                              replace H := Option.bind_eq_some_iff.mp H
                              obtain ⟨t618, A1140, H⟩ := H
                              replace H : (some t618) = some r := H
                              have A114 := Aside0.mk A1140
                              clear A1140
                              obtain rfl := Option.some.inj H
                              obtain ⟨Ao115, co115, eo115⟩ := Kd.R_slice HO_8.out
                              subst eo115
                              go_wp2_with (first | ((with_reducible refine gate_callee (f := 47) rfl ?_); refine goesL_ (some 56) rfl rfl Try.func47 (by kernel_rfl) rfl #[.slice Ao115 t587.length co115, .int .i64 3, .int .i64 2] rfl (by (try simp only [List.map_toArray, List.map_cons, List.map_nil]); first | done | rfl | (simp only [List.length_drop, List.length_take]; rfl)) ?_; (with_reducible refine (times_Get.calls kj104 _ _ t587 3 2 t612 t613 t614 _ ?side1 ?side2 A108.out).mono ?_); (case side1 => repeat (first | exact (Kd.R_reads' HO_8.out).2.2 | (with_reducible refine Kd.C_alloc ?_ _) | (with_reducible refine Kd.C_drewN ?_ _) | (with_reducible refine Kd.C_drew ?_))); (case side2 => exact (Kd.R_reads' HO_8.out).2.1); rintro e w116 ⟨v615, rfl, ho0, hb⟩; refine ⟨_, rfl, ?_⟩; have n0_ := Aside0.mk (Kd.R_elder' (by (with_reducible repeat (first | apply Kd.R_alloc | apply Kd.R_drewN | apply Kd.R_drew)); exact HO_7.out) (Kd.R_base ho0) hb); have n1_ := Aside0.mk (Kd.R_below (by (with_reducible repeat (first | apply Kd.R_alloc | apply Kd.R_drewN | apply Kd.R_drew)); exact HO_8.out) hb); have n2_ := Aside0.mk (Kd.R_lower (Kd.R_new' ho0 (Kd.R_lt (by (with_reducible repeat (first | apply Kd.R_alloc | apply Kd.R_drewN | apply Kd.R_drew)); exact HO_7.out))) (below_size (by repeat (first | (with_reducible first | exact HB.out | apply below_alloc | apply pw_below_drewN | apply below_drew1) | exact HB.out)))); have n3_ := Aside0.mk (below_step (by repeat (first | (with_reducible first | exact HB.out | apply below_alloc | apply pw_below_drewN | apply below_drew1) | exact HB.out)) hb); clear HO_7; clear HO_8; clear HB; have HO_7 := n0_; have HO_8 := n1_; have HO616 := n2_; have HB := n3_; clear n0_ n1_ n2_ n3_; (try clear hb); (try clear hb2); (try clear hk); (try clear hi); (try clear ho0)) | ((with_reducible refine gate_callee (f := 48) rfl ?_); refine goesL_ (some 60) rfl rfl Try.func48 (by kernel_rfl) rfl #[] rfl (by (try simp only [List.map_toArray, List.map_cons, List.map_nil]); first | done | rfl | (simp only [List.length_drop, List.length_take]; rfl)) ?_; (with_reducible refine (ricklaw07_puts.calls kj104  true _ A109.out).mono ?_); rintro e w117 ⟨rfl, hb⟩; refine ⟨_, rfl, ?_⟩; have n0_ := Aside0.mk (Kd.R_below (by (with_reducible repeat (first | apply Kd.R_alloc | apply Kd.R_drewN | apply Kd.R_drew)); exact HO_7.out) hb); have n1_ := Aside0.mk (Kd.R_below (by (with_reducible repeat (first | apply Kd.R_alloc | apply Kd.R_drewN | apply Kd.R_drew)); exact HO_8.out) hb); have n2_ := Aside0.mk (Kd.R_below (by (with_reducible repeat (first | apply Kd.R_alloc | apply Kd.R_drewN | apply Kd.R_drew)); exact HO616.out) hb); have n3_ := Aside0.mk (below_step (by repeat (first | (with_reducible first | exact HB.out | apply below_alloc | apply pw_below_drewN | apply below_drew1) | exact HB.out)) hb); clear HO_7; clear HO_8; clear HO616; clear HB; have HO_7 := n0_; have HO_8 := n1_; have HO616 := n2_; have HB := n3_; clear n0_ n1_ n2_ n3_; (try clear hb); (try clear hb2); (try clear hk); (try clear hi); obtain ⟨Ao118, co118, eo118⟩ := Kd.R_slice HO616.out; subst eo118) | (go_at_call 49; (with_reducible refine (rickref07_Same.calls kj104 _ _ t612 _ _ y584 t618 _ ?side1 ?side2 ?side3 ?side4 A114.out).mono ?_); (case side1 => repeat (first | exact (Kd.R_reads' HO616.out).2.2 | (with_reducible refine Kd.C_alloc ?_ _) | (with_reducible refine Kd.C_drewN ?_ _) | (with_reducible refine Kd.C_drew ?_))); (case side2 => exact (Kd.R_reads' HO616.out).2.1); (case side3 => repeat (first | exact (Kd.R_reads' HO_7.out).2.2 | (with_reducible refine Kd.C_alloc ?_ _) | (with_reducible refine Kd.C_drewN ?_ _) | (with_reducible refine Kd.C_drew ?_))); (case side4 => exact (Kd.R_reads' HO_7.out).2.1); rintro e w' ⟨rfl, ⟨nd, rfl⟩⟩))
                              go_ret
                              exact ⟨by first | rfl | (simp [errW_none, errW_some] <;> rfl) | (simp [*, errW_none, errW_some] <;> rfl), by repeat (first | (with_reducible first | exact HB.out | apply below_alloc | apply pw_below_drewN | apply below_drew1) | exact HB.out)⟩
                            · rw [if_neg c113] at H
                              have c113b0 : (t614 == 0) = false := beq_eq_false_iff_ne.mpr c113
                              have c113b1 : (t614 != 0) = true := bne_iff_ne.mpr c113
                              obtain rfl := Option.some.inj H
                              obtain ⟨Ao119, co119, eo119⟩ := Kd.R_slice HO_8.out
                              subst eo119
                              go_wp2_with (first | ((with_reducible refine gate_callee (f := 47) rfl ?_); refine goesL_ (some 56) rfl rfl Try.func47 (by kernel_rfl) rfl #[.slice Ao119 t587.length co119, .int .i64 3, .int .i64 2] rfl (by (try simp only [List.map_toArray, List.map_cons, List.map_nil]); first | done | rfl | (simp only [List.length_drop, List.length_take]; rfl)) ?_; (with_reducible refine (times_Get.calls kj104 _ _ t587 3 2 t612 t613 t614 _ ?side1 ?side2 A108.out).mono ?_); (case side1 => repeat (first | exact (Kd.R_reads' HO_8.out).2.2 | (with_reducible refine Kd.C_alloc ?_ _) | (with_reducible refine Kd.C_drewN ?_ _) | (with_reducible refine Kd.C_drew ?_))); (case side2 => exact (Kd.R_reads' HO_8.out).2.1); rintro e w120 ⟨v615, rfl, ho0, hb⟩; refine ⟨_, rfl, ?_⟩; have n0_ := Aside0.mk (Kd.R_elder' (by (with_reducible repeat (first | apply Kd.R_alloc | apply Kd.R_drewN | apply Kd.R_drew)); exact HO_7.out) (Kd.R_base ho0) hb); have n1_ := Aside0.mk (Kd.R_below (by (with_reducible repeat (first | apply Kd.R_alloc | apply Kd.R_drewN | apply Kd.R_drew)); exact HO_8.out) hb); have n2_ := Aside0.mk (Kd.R_lower (Kd.R_new' ho0 (Kd.R_lt (by (with_reducible repeat (first | apply Kd.R_alloc | apply Kd.R_drewN | apply Kd.R_drew)); exact HO_7.out))) (below_size (by repeat (first | (with_reducible first | exact HB.out | apply below_alloc | apply pw_below_drewN | apply below_drew1) | exact HB.out)))); have n3_ := Aside0.mk (below_step (by repeat (first | (with_reducible first | exact HB.out | apply below_alloc | apply pw_below_drewN | apply below_drew1) | exact HB.out)) hb); clear HO_7; clear HO_8; clear HB; have HO_7 := n0_; have HO_8 := n1_; have HO616 := n2_; have HB := n3_; clear n0_ n1_ n2_ n3_; (try clear hb); (try clear hb2); (try clear hk); (try clear hi); (try clear ho0)) | ((with_reducible refine gate_callee (f := 48) rfl ?_); refine goesL_ (some 60) rfl rfl Try.func48 (by kernel_rfl) rfl #[] rfl (by (try simp only [List.map_toArray, List.map_cons, List.map_nil]); first | done | rfl | (simp only [List.length_drop, List.length_take]; rfl)) ?_; (with_reducible refine (ricklaw07_puts.calls kj104  true _ A109.out).mono ?_); rintro e w121 ⟨rfl, hb⟩; refine ⟨_, rfl, ?_⟩; have n0_ := Aside0.mk (Kd.R_below (by (with_reducible repeat (first | apply Kd.R_alloc | apply Kd.R_drewN | apply Kd.R_drew)); exact HO_7.out) hb); have n1_ := Aside0.mk (Kd.R_below (by (with_reducible repeat (first | apply Kd.R_alloc | apply Kd.R_drewN | apply Kd.R_drew)); exact HO_8.out) hb); have n2_ := Aside0.mk (Kd.R_below (by (with_reducible repeat (first | apply Kd.R_alloc | apply Kd.R_drewN | apply Kd.R_drew)); exact HO616.out) hb); have n3_ := Aside0.mk (below_step (by repeat (first | (with_reducible first | exact HB.out | apply below_alloc | apply pw_below_drewN | apply below_drew1) | exact HB.out)) hb); clear HO_7; clear HO_8; clear HO616; clear HB; have HO_7 := n0_; have HO_8 := n1_; have HO616 := n2_; have HB := n3_; clear n0_ n1_ n2_ n3_; (try clear hb); (try clear hb2); (try clear hk); (try clear hi)))
                              go_ret
                              exact ⟨by first | rfl | (simp [errW_none, errW_some] <;> rfl) | (simp [*, errW_none, errW_some] <;> rfl), by repeat (first | (with_reducible first | exact HB.out | apply below_alloc | apply pw_below_drewN | apply below_drew1) | exact HB.out)⟩
                          · rw [if_neg c112] at H
                            have c112b0 : ((t587.length : Int) == 18) = false := beq_eq_false_iff_ne.mpr c112
                            have c112b1 : ((t587.length : Int) != 18) = true := bne_iff_ne.mpr c112
                            obtain rfl := Option.some.inj H
                            obtain ⟨Ao122, co122, eo122⟩ := Kd.R_slice HO_8.out
                            subst eo122
                            go_wp2_with (first | ((with_reducible refine gate_callee (f := 47) rfl ?_); refine goesL_ (some 56) rfl rfl Try.func47 (by kernel_rfl) rfl #[.slice Ao122 t587.length co122, .int .i64 3, .int .i64 2] rfl (by (try simp only [List.map_toArray, List.map_cons, List.map_nil]); first | done | rfl | (simp only [List.length_drop, List.length_take]; rfl)) ?_; (with_reducible refine (times_Get.calls kj104 _ _ t587 3 2 t612 t613 t614 _ ?side1 ?side2 A108.out).mono ?_); (case side1 => repeat (first | exact (Kd.R_reads' HO_8.out).2.2 | (with_reducible refine Kd.C_alloc ?_ _) | (with_reducible refine Kd.C_drewN ?_ _) | (with_reducible refine Kd.C_drew ?_))); (case side2 => exact (Kd.R_reads' HO_8.out).2.1); rintro e w123 ⟨v615, rfl, ho0, hb⟩; refine ⟨_, rfl, ?_⟩; have n0_ := Aside0.mk (Kd.R_elder' (by (with_reducible repeat (first | apply Kd.R_alloc | apply Kd.R_drewN | apply Kd.R_drew)); exact HO_7.out) (Kd.R_base ho0) hb); have n1_ := Aside0.mk (Kd.R_below (by (with_reducible repeat (first | apply Kd.R_alloc | apply Kd.R_drewN | apply Kd.R_drew)); exact HO_8.out) hb); have n2_ := Aside0.mk (Kd.R_lower (Kd.R_new' ho0 (Kd.R_lt (by (with_reducible repeat (first | apply Kd.R_alloc | apply Kd.R_drewN | apply Kd.R_drew)); exact HO_7.out))) (below_size (by repeat (first | (with_reducible first | exact HB.out | apply below_alloc | apply pw_below_drewN | apply below_drew1) | exact HB.out)))); have n3_ := Aside0.mk (below_step (by repeat (first | (with_reducible first | exact HB.out | apply below_alloc | apply pw_below_drewN | apply below_drew1) | exact HB.out)) hb); clear HO_7; clear HO_8; clear HB; have HO_7 := n0_; have HO_8 := n1_; have HO616 := n2_; have HB := n3_; clear n0_ n1_ n2_ n3_; (try clear hb); (try clear hb2); (try clear hk); (try clear hi); (try clear ho0)) | ((with_reducible refine gate_callee (f := 48) rfl ?_); refine goesL_ (some 60) rfl rfl Try.func48 (by kernel_rfl) rfl #[] rfl (by (try simp only [List.map_toArray, List.map_cons, List.map_nil]); first | done | rfl | (simp only [List.length_drop, List.length_take]; rfl)) ?_; (with_reducible refine (ricklaw07_puts.calls kj104  true _ A109.out).mono ?_); rintro e w124 ⟨rfl, hb⟩; refine ⟨_, rfl, ?_⟩; have n0_ := Aside0.mk (Kd.R_below (by (with_reducible repeat (first | apply Kd.R_alloc | apply Kd.R_drewN | apply Kd.R_drew)); exact HO_7.out) hb); have n1_ := Aside0.mk (Kd.R_below (by (with_reducible repeat (first | apply Kd.R_alloc | apply Kd.R_drewN | apply Kd.R_drew)); exact HO_8.out) hb); have n2_ := Aside0.mk (Kd.R_below (by (with_reducible repeat (first | apply Kd.R_alloc | apply Kd.R_drewN | apply Kd.R_drew)); exact HO616.out) hb); have n3_ := Aside0.mk (below_step (by repeat (first | (with_reducible first | exact HB.out | apply below_alloc | apply pw_below_drewN | apply below_drew1) | exact HB.out)) hb); clear HO_7; clear HO_8; clear HO616; clear HB; have HO_7 := n0_; have HO_8 := n1_; have HO616 := n2_; have HB := n3_; clear n0_ n1_ n2_ n3_; (try clear hb); (try clear hb2); (try clear hk); (try clear hi)))
                            go_ret
                            exact ⟨by first | rfl | (simp [errW_none, errW_some] <;> rfl) | (simp [*, errW_none, errW_some] <;> rfl), by repeat (first | (with_reducible first | exact HB.out | apply below_alloc | apply pw_below_drewN | apply below_drew1) | exact HB.out)⟩
                        · rw [if_neg c111] at H
                          have c111b0 : (t588 == 0) = false := beq_eq_false_iff_ne.mpr c111
                          have c111b1 : (t588 != 0) = true := bne_iff_ne.mpr c111
                          obtain rfl := Option.some.inj H
                          obtain ⟨Ao125, co125, eo125⟩ := Kd.R_slice HO_8.out
                          subst eo125
                          go_wp2_with (first | ((with_reducible refine gate_callee (f := 47) rfl ?_); refine goesL_ (some 56) rfl rfl Try.func47 (by kernel_rfl) rfl #[.slice Ao125 t587.length co125, .int .i64 3, .int .i64 2] rfl (by (try simp only [List.map_toArray, List.map_cons, List.map_nil]); first | done | rfl | (simp only [List.length_drop, List.length_take]; rfl)) ?_; (with_reducible refine (times_Get.calls kj104 _ _ t587 3 2 t612 t613 t614 _ ?side1 ?side2 A108.out).mono ?_); (case side1 => repeat (first | exact (Kd.R_reads' HO_8.out).2.2 | (with_reducible refine Kd.C_alloc ?_ _) | (with_reducible refine Kd.C_drewN ?_ _) | (with_reducible refine Kd.C_drew ?_))); (case side2 => exact (Kd.R_reads' HO_8.out).2.1); rintro e w126 ⟨v615, rfl, ho0, hb⟩; refine ⟨_, rfl, ?_⟩; have n0_ := Aside0.mk (Kd.R_elder' (by (with_reducible repeat (first | apply Kd.R_alloc | apply Kd.R_drewN | apply Kd.R_drew)); exact HO_7.out) (Kd.R_base ho0) hb); have n1_ := Aside0.mk (Kd.R_below (by (with_reducible repeat (first | apply Kd.R_alloc | apply Kd.R_drewN | apply Kd.R_drew)); exact HO_8.out) hb); have n2_ := Aside0.mk (Kd.R_lower (Kd.R_new' ho0 (Kd.R_lt (by (with_reducible repeat (first | apply Kd.R_alloc | apply Kd.R_drewN | apply Kd.R_drew)); exact HO_7.out))) (below_size (by repeat (first | (with_reducible first | exact HB.out | apply below_alloc | apply pw_below_drewN | apply below_drew1) | exact HB.out)))); have n3_ := Aside0.mk (below_step (by repeat (first | (with_reducible first | exact HB.out | apply below_alloc | apply pw_below_drewN | apply below_drew1) | exact HB.out)) hb); clear HO_7; clear HO_8; clear HB; have HO_7 := n0_; have HO_8 := n1_; have HO616 := n2_; have HB := n3_; clear n0_ n1_ n2_ n3_; (try clear hb); (try clear hb2); (try clear hk); (try clear hi); (try clear ho0)) | ((with_reducible refine gate_callee (f := 48) rfl ?_); refine goesL_ (some 60) rfl rfl Try.func48 (by kernel_rfl) rfl #[] rfl (by (try simp only [List.map_toArray, List.map_cons, List.map_nil]); first | done | rfl | (simp only [List.length_drop, List.length_take]; rfl)) ?_; (with_reducible refine (ricklaw07_puts.calls kj104  true _ A109.out).mono ?_); rintro e w127 ⟨rfl, hb⟩; refine ⟨_, rfl, ?_⟩; have n0_ := Aside0.mk (Kd.R_below (by (with_reducible repeat (first | apply Kd.R_alloc | apply Kd.R_drewN | apply Kd.R_drew)); exact HO_7.out) hb); have n1_ := Aside0.mk (Kd.R_below (by (with_reducible repeat (first | apply Kd.R_alloc | apply Kd.R_drewN | apply Kd.R_drew)); exact HO_8.out) hb); have n2_ := Aside0.mk (Kd.R_below (by (with_reducible repeat (first | apply Kd.R_alloc | apply Kd.R_drewN | apply Kd.R_drew)); exact HO616.out) hb); have n3_ := Aside0.mk (below_step (by repeat (first | (with_reducible first | exact HB.out | apply below_alloc | apply pw_below_drewN | apply below_drew1) | exact HB.out)) hb); clear HO_7; clear HO_8; clear HO616; clear HB; have HO_7 := n0_; have HO_8 := n1_; have HO616 := n2_; have HB := n3_; clear n0_ n1_ n2_ n3_; (try clear hb); (try clear hb2); (try clear hk); (try clear hi)))
                          go_ret
                          exact ⟨by first | rfl | (simp [errW_none, errW_some] <;> rfl) | (simp [*, errW_none, errW_some] <;> rfl), by repeat (first | (with_reducible first | exact HB.out | apply below_alloc | apply pw_below_drewN | apply below_drew1) | exact HB.out)⟩
                      · replace c110 := Bool.eq_false_iff.mpr c110
                        subst c110
                        have H1 : (some false) = some r := by rw [if_neg (show ¬ (false = true) by decide)] at H; exact H
                        clear H
                        have H := H1
                        clear H1
                        obtain rfl := Option.some.inj H
                        obtain ⟨Ao128, co128, eo128⟩ := Kd.R_slice HO_8.out
                        subst eo128
                        go_wp2_with (first | ((with_reducible refine gate_callee (f := 47) rfl ?_); refine goesL_ (some 56) rfl rfl Try.func47 (by kernel_rfl) rfl #[.slice Ao128 t587.length co128, .int .i64 3, .int .i64 2] rfl (by (try simp only [List.map_toArray, List.map_cons, List.map_nil]); first | done | rfl | (simp only [List.length_drop, List.length_take]; rfl)) ?_; (with_reducible refine (times_Get.calls kj104 _ _ t587 3 2 t612 t613 t614 _ ?side1 ?side2 A108.out).mono ?_); (case side1 => repeat (first | exact (Kd.R_reads' HO_8.out).2.2 | (with_reducible refine Kd.C_alloc ?_ _) | (with_reducible refine Kd.C_drewN ?_ _) | (with_reducible refine Kd.C_drew ?_))); (case side2 => exact (Kd.R_reads' HO_8.out).2.1); rintro e w129 ⟨v615, rfl, ho0, hb⟩; refine ⟨_, rfl, ?_⟩; have n0_ := Aside0.mk (Kd.R_elder' (by (with_reducible repeat (first | apply Kd.R_alloc | apply Kd.R_drewN | apply Kd.R_drew)); exact HO_7.out) (Kd.R_base ho0) hb); have n1_ := Aside0.mk (Kd.R_below (by (with_reducible repeat (first | apply Kd.R_alloc | apply Kd.R_drewN | apply Kd.R_drew)); exact HO_8.out) hb); have n2_ := Aside0.mk (Kd.R_lower (Kd.R_new' ho0 (Kd.R_lt (by (with_reducible repeat (first | apply Kd.R_alloc | apply Kd.R_drewN | apply Kd.R_drew)); exact HO_7.out))) (below_size (by repeat (first | (with_reducible first | exact HB.out | apply below_alloc | apply pw_below_drewN | apply below_drew1) | exact HB.out)))); have n3_ := Aside0.mk (below_step (by repeat (first | (with_reducible first | exact HB.out | apply below_alloc | apply pw_below_drewN | apply below_drew1) | exact HB.out)) hb); clear HO_7; clear HO_8; clear HB; have HO_7 := n0_; have HO_8 := n1_; have HO616 := n2_; have HB := n3_; clear n0_ n1_ n2_ n3_; (try clear hb); (try clear hb2); (try clear hk); (try clear hi); (try clear ho0)) | ((with_reducible refine gate_callee (f := 48) rfl ?_); refine goesL_ (some 60) rfl rfl Try.func48 (by kernel_rfl) rfl #[] rfl (by (try simp only [List.map_toArray, List.map_cons, List.map_nil]); first | done | rfl | (simp only [List.length_drop, List.length_take]; rfl)) ?_; (with_reducible refine (ricklaw07_puts.calls kj104  false _ A109.out).mono ?_); rintro e w130 ⟨rfl, hb⟩; refine ⟨_, rfl, ?_⟩; have n0_ := Aside0.mk (Kd.R_below (by (with_reducible repeat (first | apply Kd.R_alloc | apply Kd.R_drewN | apply Kd.R_drew)); exact HO_7.out) hb); have n1_ := Aside0.mk (Kd.R_below (by (with_reducible repeat (first | apply Kd.R_alloc | apply Kd.R_drewN | apply Kd.R_drew)); exact HO_8.out) hb); have n2_ := Aside0.mk (Kd.R_below (by (with_reducible repeat (first | apply Kd.R_alloc | apply Kd.R_drewN | apply Kd.R_drew)); exact HO616.out) hb); have n3_ := Aside0.mk (below_step (by repeat (first | (with_reducible first | exact HB.out | apply below_alloc | apply pw_below_drewN | apply below_drew1) | exact HB.out)) hb); clear HO_7; clear HO_8; clear HO616; clear HB; have HO_7 := n0_; have HO_8 := n1_; have HO616 := n2_; have HB := n3_; clear n0_ n1_ n2_ n3_; (try clear hb); (try clear hb2); (try clear hk); (try clear hi)))
                        go_ret
                        exact ⟨by first | rfl | (simp [errW_none, errW_some] <;> rfl) | (simp [*, errW_none, errW_some] <;> rfl), by repeat (first | (with_reducible first | exact HB.out | apply below_alloc | apply pw_below_drewN | apply below_drew1) | exact HB.out)⟩
                    · replace c107 := Bool.eq_false_iff.mpr c107
                      subst c107
                      have H1 : ((times_Get.f kj104 t587 3 2).bind fun bt619 => ((ricklaw07_puts.f kj104).bind fun t624 => (if t624 = true then (if t588 = 0 then (if (t587.length : Int) = 25 then (if bt619.2.2 = 0 then ((rickref07_Same.f kj104 bt619.1 y584).bind fun t625 => (some t625)) else (some false)) else (some false)) else (some false)) else (some false)))) = some r := by rw [if_neg (show ¬ (false = true) by decide)] at H; exact H
                      clear H
                      have H := H1
                      clear H1
                      replace H := Option.bind_eq_some_iff.mp H
                      obtain ⟨⟨t619, t620, t621⟩, A1310, H⟩ := H
                      replace H : ((ricklaw07_puts.f kj104).bind fun t624 => (if t624 = true then (if t588 = 0 then (if (t587.length : Int) = 25 then (if t621 = 0 then ((rickref07_Same.f kj104 t619 y584).bind fun t625 => (some t625)) else (some false)) else (some false)) else (some false)) else (some false))) = some r := H
                      have A131 := Aside0.mk A1310
                      clear A1310
                      replace H := Option.bind_eq_some_iff.mp H
                      obtain ⟨t624, A1320, H⟩ := H
                      replace H : (if t624 = true then (if t588 = 0 then (if (t587.length : Int) = 25 then (if t621 = 0 then ((rickref07_Same.f kj104 t619 y584).bind fun t625 => (some t625)) else (some false)) else (some false)) else (some false)) else (some false)) = some r := H
                      have A132 := Aside0.mk A1320
                      clear A1320
                      by_cases c133 : t624 = true
                      · subst c133
                        have H1 : (if t588 = 0 then (if (t587.length : Int) = 25 then (if t621 = 0 then ((rickref07_Same.f kj104 t619 y584).bind fun t625 => (some t625)) else (some false)) else (some false)) else (some false)) = some r := by rw [if_pos rfl] at H; exact H
                        clear H
                        have H := H1
                        clear H1
                        by_cases c134 : t588 = 0
                        · rw [if_pos c134] at H
                          have c134b0 : (t588 == 0) = true := beq_iff_eq.mpr c134
                          have c134b1 : (t588 != 0) = false := bne_eq_false_iff_eq.mpr c134
                          clear c134
                          by_cases c135 : (t587.length : Int) = 25
                          · rw [if_pos c135] at H
                            have c135b0 : ((t587.length : Int) == 25) = true := beq_iff_eq.mpr c135
                            have c135b1 : ((t587.length : Int) != 25) = false := bne_eq_false_iff_eq.mpr c135
                            clear c135
                            by_cases c136 : t621 = 0
                            · rw [if_pos c136] at H
                              have c136b0 : (t621 == 0) = true := beq_iff_eq.mpr c136
                              have c136b1 : (t621 != 0) = false := bne_eq_false_iff_eq.mpr c136
                              clear c136
                              replace H := Option.bind_eq_some_iff.mp H
                              obtain ⟨t625, A1370, H⟩ := H
                              replace H : (some t625) = some r := H
                              have A137 := Aside0.mk A1370
                              clear A1370
                              obtain rfl := Option.some.inj H
                              obtain ⟨Ao138, co138, eo138⟩ := Kd.R_slice HO_8.out
                              subst eo138
                              go_wp2_with (first | ((with_reducible refine gate_callee (f := 47) rfl ?_); refine goesL_ (some 56) rfl rfl Try.func47 (by kernel_rfl) rfl #[.slice Ao138 t587.length co138, .int .i64 3, .int .i64 2] rfl (by (try simp only [List.map_toArray, List.map_cons, List.map_nil]); first | done | rfl | (simp only [List.length_drop, List.length_take]; rfl)) ?_; (with_reducible refine (times_Get.calls kj104 _ _ t587 3 2 t619 t620 t621 _ ?side1 ?side2 A131.out).mono ?_); (case side1 => repeat (first | exact (Kd.R_reads' HO_8.out).2.2 | (with_reducible refine Kd.C_alloc ?_ _) | (with_reducible refine Kd.C_drewN ?_ _) | (with_reducible refine Kd.C_drew ?_))); (case side2 => exact (Kd.R_reads' HO_8.out).2.1); rintro e w139 ⟨v622, rfl, ho0, hb⟩; refine ⟨_, rfl, ?_⟩; have n0_ := Aside0.mk (Kd.R_elder' (by (with_reducible repeat (first | apply Kd.R_alloc | apply Kd.R_drewN | apply Kd.R_drew)); exact HO_7.out) (Kd.R_base ho0) hb); have n1_ := Aside0.mk (Kd.R_below (by (with_reducible repeat (first | apply Kd.R_alloc | apply Kd.R_drewN | apply Kd.R_drew)); exact HO_8.out) hb); have n2_ := Aside0.mk (Kd.R_lower (Kd.R_new' ho0 (Kd.R_lt (by (with_reducible repeat (first | apply Kd.R_alloc | apply Kd.R_drewN | apply Kd.R_drew)); exact HO_7.out))) (below_size (by repeat (first | (with_reducible first | exact HB.out | apply below_alloc | apply pw_below_drewN | apply below_drew1) | exact HB.out)))); have n3_ := Aside0.mk (below_step (by repeat (first | (with_reducible first | exact HB.out | apply below_alloc | apply pw_below_drewN | apply below_drew1) | exact HB.out)) hb); clear HO_7; clear HO_8; clear HB; have HO_7 := n0_; have HO_8 := n1_; have HO623 := n2_; have HB := n3_; clear n0_ n1_ n2_ n3_; (try clear hb); (try clear hb2); (try clear hk); (try clear hi); (try clear ho0)) | ((with_reducible refine gate_callee (f := 48) rfl ?_); refine goesL_ (some 60) rfl rfl Try.func48 (by kernel_rfl) rfl #[] rfl (by (try simp only [List.map_toArray, List.map_cons, List.map_nil]); first | done | rfl | (simp only [List.length_drop, List.length_take]; rfl)) ?_; (with_reducible refine (ricklaw07_puts.calls kj104  true _ A132.out).mono ?_); rintro e w140 ⟨rfl, hb⟩; refine ⟨_, rfl, ?_⟩; have n0_ := Aside0.mk (Kd.R_below (by (with_reducible repeat (first | apply Kd.R_alloc | apply Kd.R_drewN | apply Kd.R_drew)); exact HO_7.out) hb); have n1_ := Aside0.mk (Kd.R_below (by (with_reducible repeat (first | apply Kd.R_alloc | apply Kd.R_drewN | apply Kd.R_drew)); exact HO_8.out) hb); have n2_ := Aside0.mk (Kd.R_below (by (with_reducible repeat (first | apply Kd.R_alloc | apply Kd.R_drewN | apply Kd.R_drew)); exact HO623.out) hb); have n3_ := Aside0.mk (below_step (by repeat (first | (with_reducible first | exact HB.out | apply below_alloc | apply pw_below_drewN | apply below_drew1) | exact HB.out)) hb); clear HO_7; clear HO_8; clear HO623; clear HB; have HO_7 := n0_; have HO_8 := n1_; have HO623 := n2_; have HB := n3_; clear n0_ n1_ n2_ n3_; (try clear hb); (try clear hb2); (try clear hk); (try clear hi); obtain ⟨Ao141, co141, eo141⟩ := Kd.R_slice HO623.out; subst eo141) | (go_at_call 49; (with_reducible refine (rickref07_Same.calls kj104 _ _ t619 _ _ y584 t625 _ ?side1 ?side2 ?side3 ?side4 A137.out).mono ?_); (case side1 => repeat (first | exact (Kd.R_reads' HO623.out).2.2 | (with_reducible refine Kd.C_alloc ?_ _) | (with_reducible refine Kd.C_drewN ?_ _) | (with_reducible refine Kd.C_drew ?_))); (case side2 => exact (Kd.R_reads' HO623.out).2.1); (case side3 => repeat (first | exact (Kd.R_reads' HO_7.out).2.2 | (with_reducible refine Kd.C_alloc ?_ _) | (with_reducible refine Kd.C_drewN ?_ _) | (with_reducible refine Kd.C_drew ?_))); (case side4 => exact (Kd.R_reads' HO_7.out).2.1); rintro e w' ⟨rfl, ⟨nd, rfl⟩⟩))
                              go_ret
                              exact ⟨by first | rfl | (simp [errW_none, errW_some] <;> rfl) | (simp [*, errW_none, errW_some] <;> rfl), by repeat (first | (with_reducible first | exact HB.out | apply below_alloc | apply pw_below_drewN | apply below_drew1) | exact HB.out)⟩
                            · rw [if_neg c136] at H
                              have c136b0 : (t621 == 0) = false := beq_eq_false_iff_ne.mpr c136
                              have c136b1 : (t621 != 0) = true := bne_iff_ne.mpr c136
                              obtain rfl := Option.some.inj H
                              obtain ⟨Ao142, co142, eo142⟩ := Kd.R_slice HO_8.out
                              subst eo142
                              go_wp2_with (first | ((with_reducible refine gate_callee (f := 47) rfl ?_); refine goesL_ (some 56) rfl rfl Try.func47 (by kernel_rfl) rfl #[.slice Ao142 t587.length co142, .int .i64 3, .int .i64 2] rfl (by (try simp only [List.map_toArray, List.map_cons, List.map_nil]); first | done | rfl | (simp only [List.length_drop, List.length_take]; rfl)) ?_; (with_reducible refine (times_Get.calls kj104 _ _ t587 3 2 t619 t620 t621 _ ?side1 ?side2 A131.out).mono ?_); (case side1 => repeat (first | exact (Kd.R_reads' HO_8.out).2.2 | (with_reducible refine Kd.C_alloc ?_ _) | (with_reducible refine Kd.C_drewN ?_ _) | (with_reducible refine Kd.C_drew ?_))); (case side2 => exact (Kd.R_reads' HO_8.out).2.1); rintro e w143 ⟨v622, rfl, ho0, hb⟩; refine ⟨_, rfl, ?_⟩; have n0_ := Aside0.mk (Kd.R_elder' (by (with_reducible repeat (first | apply Kd.R_alloc | apply Kd.R_drewN | apply Kd.R_drew)); exact HO_7.out) (Kd.R_base ho0) hb); have n1_ := Aside0.mk (Kd.R_below (by (with_reducible repeat (first | apply Kd.R_alloc | apply Kd.R_drewN | apply Kd.R_drew)); exact HO_8.out) hb); have n2_ := Aside0.mk (Kd.R_lower (Kd.R_new' ho0 (Kd.R_lt (by (with_reducible repeat (first | apply Kd.R_alloc | apply Kd.R_drewN | apply Kd.R_drew)); exact HO_7.out))) (below_size (by repeat (first | (with_reducible first | exact HB.out | apply below_alloc | apply pw_below_drewN | apply below_drew1) | exact HB.out)))); have n3_ := Aside0.mk (below_step (by repeat (first | (with_reducible first | exact HB.out | apply below_alloc | apply pw_below_drewN | apply below_drew1) | exact HB.out)) hb); clear HO_7; clear HO_8; clear HB; have HO_7 := n0_; have HO_8 := n1_; have HO623 := n2_; have HB := n3_; clear n0_ n1_ n2_ n3_; (try clear hb); (try clear hb2); (try clear hk); (try clear hi); (try clear ho0)) | ((with_reducible refine gate_callee (f := 48) rfl ?_); refine goesL_ (some 60) rfl rfl Try.func48 (by kernel_rfl) rfl #[] rfl (by (try simp only [List.map_toArray, List.map_cons, List.map_nil]); first | done | rfl | (simp only [List.length_drop, List.length_take]; rfl)) ?_; (with_reducible refine (ricklaw07_puts.calls kj104  true _ A132.out).mono ?_); rintro e w144 ⟨rfl, hb⟩; refine ⟨_, rfl, ?_⟩; have n0_ := Aside0.mk (Kd.R_below (by (with_reducible repeat (first | apply Kd.R_alloc | apply Kd.R_drewN | apply Kd.R_drew)); exact HO_7.out) hb); have n1_ := Aside0.mk (Kd.R_below (by (with_reducible repeat (first | apply Kd.R_alloc | apply Kd.R_drewN | apply Kd.R_drew)); exact HO_8.out) hb); have n2_ := Aside0.mk (Kd.R_below (by (with_reducible repeat (first | apply Kd.R_alloc | apply Kd.R_drewN | apply Kd.R_drew)); exact HO623.out) hb); have n3_ := Aside0.mk (below_step (by repeat (first | (with_reducible first | exact HB.out | apply below_alloc | apply pw_below_drewN | apply below_drew1) | exact HB.out)) hb); clear HO_7; clear HO_8; clear HO623; clear HB; have HO_7 := n0_; have HO_8 := n1_; have HO623 := n2_; have HB := n3_; clear n0_ n1_ n2_ n3_; (try clear hb); (try clear hb2); (try clear hk); (try clear hi)))
                              go_ret
                              exact ⟨by first | rfl | (simp [errW_none, errW_some] <;> rfl) | (simp [*, errW_none, errW_some] <;> rfl), by repeat (first | (with_reducible first | exact HB.out | apply below_alloc | apply pw_below_drewN | apply below_drew1) | exact HB.out)⟩
                          · rw [if_neg c135] at H
                            have c135b0 : ((t587.length : Int) == 25) = false := beq_eq_false_iff_ne.mpr c135
                            have c135b1 : ((t587.length : Int) != 25) = true := bne_iff_ne.mpr c135
                            obtain rfl := Option.some.inj H
                            obtain ⟨Ao145, co145, eo145⟩ := Kd.R_slice HO_8.out
                            subst eo145
                            go_wp2_with (first | ((with_reducible refine gate_callee (f := 47) rfl ?_); refine goesL_ (some 56) rfl rfl Try.func47 (by kernel_rfl) rfl #[.slice Ao145 t587.length co145, .int .i64 3, .int .i64 2] rfl (by (try simp only [List.map_toArray, List.map_cons, List.map_nil]); first | done | rfl | (simp only [List.length_drop, List.length_take]; rfl)) ?_; (with_reducible refine (times_Get.calls kj104 _ _ t587 3 2 t619 t620 t621 _ ?side1 ?side2 A131.out).mono ?_); (case side1 => repeat (first | exact (Kd.R_reads' HO_8.out).2.2 | (with_reducible refine Kd.C_alloc ?_ _) | (with_reducible refine Kd.C_drewN ?_ _) | (with_reducible refine Kd.C_drew ?_))); (case side2 => exact (Kd.R_reads' HO_8.out).2.1); rintro e w146 ⟨v622, rfl, ho0, hb⟩; refine ⟨_, rfl, ?_⟩; have n0_ := Aside0.mk (Kd.R_elder' (by (with_reducible repeat (first | apply Kd.R_alloc | apply Kd.R_drewN | apply Kd.R_drew)); exact HO_7.out) (Kd.R_base ho0) hb); have n1_ := Aside0.mk (Kd.R_below (by (with_reducible repeat (first | apply Kd.R_alloc | apply Kd.R_drewN | apply Kd.R_drew)); exact HO_8.out) hb); have n2_ := Aside0.mk (Kd.R_lower (Kd.R_new' ho0 (Kd.R_lt (by (with_reducible repeat (first | apply Kd.R_alloc | apply Kd.R_drewN | apply Kd.R_drew)); exact HO_7.out))) (below_size (by repeat (first | (with_reducible first | exact HB.out | apply below_alloc | apply pw_below_drewN | apply below_drew1) | exact HB.out)))); have n3_ := Aside0.mk (below_step (by repeat (first | (with_reducible first | exact HB.out | apply below_alloc | apply pw_below_drewN | apply below_drew1) | exact HB.out)) hb); clear HO_7; clear HO_8; clear HB; have HO_7 := n0_; have HO_8 := n1_; have HO623 := n2_; have HB := n3_; clear n0_ n1_ n2_ n3_; (try clear hb); (try clear hb2); (try clear hk); (try clear hi); (try clear ho0)) | ((with_reducible refine gate_callee (f := 48) rfl ?_); refine goesL_ (some 60) rfl rfl Try.func48 (by kernel_rfl) rfl #[] rfl (by (try simp only [List.map_toArray, List.map_cons, List.map_nil]); first | done | rfl | (simp only [List.length_drop, List.length_take]; rfl)) ?_; (with_reducible refine (ricklaw07_puts.calls kj104  true _ A132.out).mono ?_); rintro e w147 ⟨rfl, hb⟩; refine ⟨_, rfl, ?_⟩; have n0_ := Aside0.mk (Kd.R_below (by (with_reducible repeat (first | apply Kd.R_alloc | apply Kd.R_drewN | apply Kd.R_drew)); exact HO_7.out) hb); have n1_ := Aside0.mk (Kd.R_below (by (with_reducible repeat (first | apply Kd.R_alloc | apply Kd.R_drewN | apply Kd.R_drew)); exact HO_8.out) hb); have n2_ := Aside0.mk (Kd.R_below (by (with_reducible repeat (first | apply Kd.R_alloc | apply Kd.R_drewN | apply Kd.R_drew)); exact HO623.out) hb); have n3_ := Aside0.mk (below_step (by repeat (first | (with_reducible first | exact HB.out | apply below_alloc | apply pw_below_drewN | apply below_drew1) | exact HB.out)) hb); clear HO_7; clear HO_8; clear HO623; clear HB; have HO_7 := n0_; have HO_8 := n1_; have HO623 := n2_; have HB := n3_; clear n0_ n1_ n2_ n3_; (try clear hb); (try clear hb2); (try clear hk); (try clear hi)))
                            go_ret
                            exact ⟨by first | rfl | (simp [errW_none, errW_some] <;> rfl) | (simp [*, errW_none, errW_some] <;> rfl), by repeat (first | (with_reducible first | exact HB.out | apply below_alloc | apply pw_below_drewN | apply below_drew1) | exact HB.out)⟩
                        · rw [if_neg c134] at H
                          have c134b0 : (t588 == 0) = false := beq_eq_false_iff_ne.mpr c134
                          have c134b1 : (t588 != 0) = true := bne_iff_ne.mpr c134
                          obtain rfl := Option.some.inj H
                          obtain ⟨Ao148, co148, eo148⟩ := Kd.R_slice HO_8.out
                          subst eo148
                          go_wp2_with (first | ((with_reducible refine gate_callee (f := 47) rfl ?_); refine goesL_ (some 56) rfl rfl Try.func47 (by kernel_rfl) rfl #[.slice Ao148 t587.length co148, .int .i64 3, .int .i64 2] rfl (by (try simp only [List.map_toArray, List.map_cons, List.map_nil]); first | done | rfl | (simp only [List.length_drop, List.length_take]; rfl)) ?_; (with_reducible refine (times_Get.calls kj104 _ _ t587 3 2 t619 t620 t621 _ ?side1 ?side2 A131.out).mono ?_); (case side1 => repeat (first | exact (Kd.R_reads' HO_8.out).2.2 | (with_reducible refine Kd.C_alloc ?_ _) | (with_reducible refine Kd.C_drewN ?_ _) | (with_reducible refine Kd.C_drew ?_))); (case side2 => exact (Kd.R_reads' HO_8.out).2.1); rintro e w149 ⟨v622, rfl, ho0, hb⟩; refine ⟨_, rfl, ?_⟩; have n0_ := Aside0.mk (Kd.R_elder' (by (with_reducible repeat (first | apply Kd.R_alloc | apply Kd.R_drewN | apply Kd.R_drew)); exact HO_7.out) (Kd.R_base ho0) hb); have n1_ := Aside0.mk (Kd.R_below (by (with_reducible repeat (first | apply Kd.R_alloc | apply Kd.R_drewN | apply Kd.R_drew)); exact HO_8.out) hb); have n2_ := Aside0.mk (Kd.R_lower (Kd.R_new' ho0 (Kd.R_lt (by (with_reducible repeat (first | apply Kd.R_alloc | apply Kd.R_drewN | apply Kd.R_drew)); exact HO_7.out))) (below_size (by repeat (first | (with_reducible first | exact HB.out | apply below_alloc | apply pw_below_drewN | apply below_drew1) | exact HB.out)))); have n3_ := Aside0.mk (below_step (by repeat (first | (with_reducible first | exact HB.out | apply below_alloc | apply pw_below_drewN | apply below_drew1) | exact HB.out)) hb); clear HO_7; clear HO_8; clear HB; have HO_7 := n0_; have HO_8 := n1_; have HO623 := n2_; have HB := n3_; clear n0_ n1_ n2_ n3_; (try clear hb); (try clear hb2); (try clear hk); (try clear hi); (try clear ho0)) | ((with_reducible refine gate_callee (f := 48) rfl ?_); refine goesL_ (some 60) rfl rfl Try.func48 (by kernel_rfl) rfl #[] rfl (by (try simp only [List.map_toArray, List.map_cons, List.map_nil]); first | done | rfl | (simp only [List.length_drop, List.length_take]; rfl)) ?_; (with_reducible refine (ricklaw07_puts.calls kj104  true _ A132.out).mono ?_); rintro e w150 ⟨rfl, hb⟩; refine ⟨_, rfl, ?_⟩; have n0_ := Aside0.mk (Kd.R_below (by (with_reducible repeat (first | apply Kd.R_alloc | apply Kd.R_drewN | apply Kd.R_drew)); exact HO_7.out) hb); have n1_ := Aside0.mk (Kd.R_below (by (with_reducible repeat (first | apply Kd.R_alloc | apply Kd.R_drewN | apply Kd.R_drew)); exact HO_8.out) hb); have n2_ := Aside0.mk (Kd.R_below (by (with_reducible repeat (first | apply Kd.R_alloc | apply Kd.R_drewN | apply Kd.R_drew)); exact HO623.out) hb); have n3_ := Aside0.mk (below_step (by repeat (first | (with_reducible first | exact HB.out | apply below_alloc | apply pw_below_drewN | apply below_drew1) | exact HB.out)) hb); clear HO_7; clear HO_8; clear HO623; clear HB; have HO_7 := n0_; have HO_8 := n1_; have HO623 := n2_; have HB := n3_; clear n0_ n1_ n2_ n3_; (try clear hb); (try clear hb2); (try clear hk); (try clear hi)))
                          go_ret
                          exact ⟨by first | rfl | (simp [errW_none, errW_some] <;> rfl) | (simp [*, errW_none, errW_some] <;> rfl), by repeat (first | (with_reducible first | exact HB.out | apply below_alloc | apply pw_below_drewN | apply below_drew1) | exact HB.out)⟩
                      · replace c133 := Bool.eq_false_iff.mpr c133
                        subst c133
                        have H1 : (some false) = some r := by rw [if_neg (show ¬ (false = true) by decide)] at H; exact H
                        clear H
                        have H := H1
                        clear H1
                        obtain rfl := Option.some.inj H
                        obtain ⟨Ao151, co151, eo151⟩ := Kd.R_slice HO_8.out
                        subst eo151
                        go_wp2_with (first | ((with_reducible refine gate_callee (f := 47) rfl ?_); refine goesL_ (some 56) rfl rfl Try.func47 (by kernel_rfl) rfl #[.slice Ao151 t587.length co151, .int .i64 3, .int .i64 2] rfl (by (try simp only [List.map_toArray, List.map_cons, List.map_nil]); first | done | rfl | (simp only [List.length_drop, List.length_take]; rfl)) ?_; (with_reducible refine (times_Get.calls kj104 _ _ t587 3 2 t619 t620 t621 _ ?side1 ?side2 A131.out).mono ?_); (case side1 => repeat (first | exact (Kd.R_reads' HO_8.out).2.2 | (with_reducible refine Kd.C_alloc ?_ _) | (with_reducible refine Kd.C_drewN ?_ _) | (with_reducible refine Kd.C_drew ?_))); (case side2 => exact (Kd.R_reads' HO_8.out).2.1); rintro e w152 ⟨v622, rfl, ho0, hb⟩; refine ⟨_, rfl, ?_⟩; have n0_ := Aside0.mk (Kd.R_elder' (by (with_reducible repeat (first | apply Kd.R_alloc | apply Kd.R_drewN | apply Kd.R_drew)); exact HO_7.out) (Kd.R_base ho0) hb); have n1_ := Aside0.mk (Kd.R_below (by (with_reducible repeat (first | apply Kd.R_alloc | apply Kd.R_drewN | apply Kd.R_drew)); exact HO_8.out) hb); have n2_ := Aside0.mk (Kd.R_lower (Kd.R_new' ho0 (Kd.R_lt (by (with_reducible repeat (first | apply Kd.R_alloc | apply Kd.R_drewN | apply Kd.R_drew)); exact HO_7.out))) (below_size (by repeat (first | (with_reducible first | exact HB.out | apply below_alloc | apply pw_below_drewN | apply below_drew1) | exact HB.out)))); have n3_ := Aside0.mk (below_step (by repeat (first | (with_reducible first | exact HB.out | apply below_alloc | apply pw_below_drewN | apply below_drew1) | exact HB.out)) hb); clear HO_7; clear HO_8; clear HB; have HO_7 := n0_; have HO_8 := n1_; have HO623 := n2_; have HB := n3_; clear n0_ n1_ n2_ n3_; (try clear hb); (try clear hb2); (try clear hk); (try clear hi); (try clear ho0)) | ((with_reducible refine gate_callee (f := 48) rfl ?_); refine goesL_ (some 60) rfl rfl Try.func48 (by kernel_rfl) rfl #[] rfl (by (try simp only [List.map_toArray, List.map_cons, List.map_nil]); first | done | rfl | (simp only [List.length_drop, List.length_take]; rfl)) ?_; (with_reducible refine (ricklaw07_puts.calls kj104  false _ A132.out).mono ?_); rintro e w153 ⟨rfl, hb⟩; refine ⟨_, rfl, ?_⟩; have n0_ := Aside0.mk (Kd.R_below (by (with_reducible repeat (first | apply Kd.R_alloc | apply Kd.R_drewN | apply Kd.R_drew)); exact HO_7.out) hb); have n1_ := Aside0.mk (Kd.R_below (by (with_reducible repeat (first | apply Kd.R_alloc | apply Kd.R_drewN | apply Kd.R_drew)); exact HO_8.out) hb); have n2_ := Aside0.mk (Kd.R_below (by (with_reducible repeat (first | apply Kd.R_alloc | apply Kd.R_drewN | apply Kd.R_drew)); exact HO623.out) hb); have n3_ := Aside0.mk (below_step (by repeat (first | (with_reducible first | exact HB.out | apply below_alloc | apply pw_below_drewN | apply below_drew1) | exact HB.out)) hb); clear HO_7; clear HO_8; clear HO623; clear HB; have HO_7 := n0_; have HO_8 := n1_; have HO623 := n2_; have HB := n3_; clear n0_ n1_ n2_ n3_; (try clear hb); (try clear hb2); (try clear hk); (try clear hi)))
                        go_ret
                        exact ⟨by first | rfl | (simp [errW_none, errW_some] <;> rfl) | (simp [*, errW_none, errW_some] <;> rfl), by repeat (first | (with_reducible first | exact HB.out | apply below_alloc | apply pw_below_drewN | apply below_drew1) | exact HB.out)⟩

/-- THE ONE PURE STATEMENT of ricklaw07_TimesClasses: yours. -/
def ricklaw07_TimesClasses.Pure : Prop := ∀ (a0 : Int) (a1 : Int) (a2 : Int), (Lit.int .i64 a0).wf = true → (Lit.int .i64 a1).wf = true → (Lit.int .i64 a2).wf = true → ∃ k, ricklaw07_TimesClasses.f k a0 a1 a2 = some true
theorem ricklaw07_TimesClasses.walk (P : ricklaw07_TimesClasses.Pure) (a0 : Int) (a1 : Int) (a2 : Int) (w : World) (w0 : (Lit.int .i64 a0).wf = true) (w1 : (Lit.int .i64 a1).wf = true) (w2 : (Lit.int .i64 a2).wf = true) :
    Calls Try.prog 16 #[.int .i64 a0, .int .i64 a1, .int .i64 a2] w fun e w' => e = .returned (.bool true) ∧ Below w.heap.size w w' := by
  obtain ⟨k, h⟩ := P a0 a1 a2 w0 w1 w2
  refine (ricklaw07_TimesClasses.calls k a0 a1 a2 true w h).mono ?_
  rintro e w' ⟨rfl, hd⟩
  exact ⟨rfl, hd⟩

end Go.Proofs.Ytmlbppfcpejlpaa.X

/- Bytes of whole numbers, laid end to end; prefixes. No conditions. -/
namespace Go.Proofs.Ytmlbppfcpejlpaa.Q06
open Go Go.RowKit Go.Proofs.YtmlbppfcpejlpaaW.PrintWords Go.Proofs.YtmlbppfcpejlpaaW.PrintMore Go.Proofs.Ytmlbppfcpejlpaa.S Go.Proofs.Ytmlbppfcpejlpaa.B Go.Proofs.Ytmlbppfcpejlpaa.X Go.Proofs.Ytmlbppfcpejlpaa.Q04
set_option linter.unusedVariables false
set_option linter.unusedSimpArgs false

theorem getD_append_left {a b : List Int} {i : Nat} (h : i < a.length) : (a ++ b).getD i 0 = a.getD i 0 := by
  simp only [List.getD_eq_getElem?_getD, List.getElem?_append_left h]
theorem getD_append_right {a b : List Int} {i : Nat} (h : a.length ≤ i) : (a ++ b).getD i 0 = b.getD (i - a.length) 0 := by
  simp only [List.getD_eq_getElem?_getD, List.getElem?_append_right h]
theorem packB_append {a b : List Int} (h : a.length % 8 = 0) : packB (a ++ b) = packB a ++ packB b := by
  apply List.ext_getElem
  · rw [packB_len, List.length_append, List.length_append, packB_len, packB_len]; omega
  · intro i h1 h2
    have e : ∀ (l : List Int) (i : Nat) (h : i < (packB l).length), (packB l)[i] = byteAt l i := fun l i h => by simp [packB, rows]
    rw [e, List.getElem_append]
    split
    · rename_i hi
      rw [packB_len] at hi
      rw [e]
      unfold byteAt
      repeat rw [getD_append_left (by omega)]
    · rename_i hi
      rw [packB_len] at hi
      rw [e]
      unfold byteAt
      have q : ∀ j, (a ++ b).getD (8 * i + j) 0 = b.getD (8 * (i - (packB a).length) + j) 0 := fun j => by
        rw [getD_append_right (by omega), packB_len]; congr 1; omega
      have q0 := q 0
      simp only [Nat.add_zero] at q0
      rw [q0, q 1, q 2, q 3, q 4, q 5, q 6, q 7]
theorem bitsN_getD (n : Nat) (v : Int) : ∀ j, j < n → (bitsN n v).getD j 0 = v / 2 ^ (n - 1 - j) % 2 := by
  induction n with
  | zero => intro j h; omega
  | succ n ih =>
    intro j h
    cases j with
    | zero => simp [bitsN]
    | succ j =>
      have := ih j (by omega)
      rw [bitsN, List.getD_cons_succ, this, show n + 1 - 1 - (j + 1) = n - 1 - j by omega]
theorem byte_split (y : Int) : y / 128 % 2 * 128 + y / 64 % 2 * 64 + y / 32 % 2 * 32 + y / 16 % 2 * 16 + y / 8 % 2 * 8 + y / 4 % 2 * 4 + y / 2 % 2 * 2 + y % 2 = y % 256 := by omega
theorem packB_bitsN (m : Nat) (v : Int) : packB (bitsN (8 * m) v) = (List.range m).map (fun i => v / 2 ^ (8 * (m - 1 - i)) % 256) := by
  apply List.ext_getElem
  · rw [packB_len, bitsN_len, List.length_map, List.length_range]; omega
  · intro i h1 h2
    rw [List.length_map, List.length_range] at h2
    rw [List.getElem_map, List.getElem_range]
    have e : (packB (bitsN (8 * m) v))[i] = byteAt (bitsN (8 * m) v) i := by simp [packB, rows]
    rw [e, ← byte_split]
    unfold byteAt
    have q : ∀ j, j < 8 → (bitsN (8 * m) v).getD (8 * i + j) 0 = v / 2 ^ (8 * (m - 1 - i)) / 2 ^ (7 - j) % 2 := fun j hj => by
      rw [bitsN_getD _ _ _ (by omega), Int.ediv_ediv_of_nonneg (Int.pow_nonneg (by omega)), ← Int.pow_add]
      congr 3; omega
    have q0 := q 0 (by omega)
    simp only [Nat.add_zero] at q0
    rw [q0, q 1 (by omega), q 2 (by omega), q 3 (by omega), q 4 (by omega), q 5 (by omega), q 6 (by omega), q 7 (by omega)]
    simp only [Nat.reduceSub, show (2 : Int) ^ 7 = 128 by decide, show (2 : Int) ^ 6 = 64 by decide, show (2 : Int) ^ 5 = 32 by decide, show (2 : Int) ^ 4 = 16 by decide, show (2 : Int) ^ 3 = 8 by decide, show (2 : Int) ^ 2 = 4 by decide, show (2 : Int) ^ 1 = 2 by decide, show (2 : Int) ^ 0 = 1 by decide, Int.ediv_one]
theorem packB_8 {v : Int} (h0 : 0 ≤ v) (h1 : v < 256) : packB (bitsN 8 v) = [v] := by
  have := packB_bitsN 1 v
  simp at this
  rw [this, Int.emod_eq_of_lt h0 h1]
theorem bitsOf_append (a b : List Int) : bitsOf (a ++ b) = bitsOf a ++ bitsOf b := by
  apply List.ext_getElem
  · simp only [bitsOf_len, List.length_append]; omega
  · intro i h1 h2
    rw [bitsOf_get, List.getElem_append]
    split
    · rename_i hi
      rw [bitsOf_len] at hi
      rw [bitsOf_get]
      unfold bitAt
      rw [getD_append_left (by omega)]
    · rename_i hi
      rw [bitsOf_len] at hi
      rw [bitsOf_get]
      unfold bitAt
      rw [getD_append_right (by omega), bitsOf_len]
      congr 2
      · congr 1; omega
      · congr 1; omega
/-- Of bits that were laid as bytes, some are told at their place. -/
theorem gv_packB {L more : List Int} (hL : Bits L) {at0 n : Nat} (h : at0 + n ≤ L.length) : gv (packB L ++ more) at0 n = valB ((L.drop at0).take n) := by
  unfold gv
  rw [bitsOf_append, bitsOf_packB hL, List.append_assoc, List.drop_append_of_le_length (by omega), List.take_append_of_le_length (by rw [List.length_drop]; omega)]

theorem u8_inj {x y : Int} (hx : 0 ≤ x ∧ x < 256) (hy : 0 ≤ y ∧ y < 256) (h : UInt8.ofNat x.toNat = UInt8.ofNat y.toNat) : x = y := by
  have := congrArg UInt8.toNat h
  simp at this
  omega
theorem strOf_inj {a b : List Int} (ha : Bs a) (hb : Bs b) (h : (strOfNums a).toList = (strOfNums b).toList) : a = b := by
  rw [strOf_toList, strOf_toList] at h
  induction a generalizing b with
  | nil => cases b with | nil => rfl | cons y b => simp at h
  | cons x a ih =>
    cases b with
    | nil => simp at h
    | cons y b =>
      simp only [List.map_cons, List.cons.injEq] at h
      rw [u8_inj (ha x List.mem_cons_self) (hb y List.mem_cons_self) h.1, ih (fun z hz => ha z (List.mem_cons_of_mem _ hz)) (fun z hz => hb z (List.mem_cons_of_mem _ hz)) h.2]
theorem prefix_yes (b more : List Int) : bytes_HasPrefix.f (b ++ more) b = some true := by
  unfold bytes_HasPrefix.f
  rw [if_pos (by rw [List.length_append]; omega), if_pos (by omega), if_pos (by rw [List.length_append]; omega), Int.toNat_natCast, List.take_left]
  simp [bytes_Equal.f]
theorem prefix_spec {a b : List Int} (ha : Bs a) (hb : Bs b) : bytes_HasPrefix.f a b = some (decide (a.take b.length = b)) := by
  unfold bytes_HasPrefix.f
  by_cases h : b.length ≤ a.length
  · rw [if_pos (by omega), if_pos (by omega), if_pos (by omega), Int.toNat_natCast]
    simp only [bytes_Equal.f, Option.bind_some]
    congr 1
    by_cases e : a.take b.length = b
    · rw [e]; simp
    · rw [decide_eq_false e]
      rw [beq_eq_false_iff_ne]
      exact fun h => e (strOf_inj (ha.take _) hb h)
  · rw [if_neg (by omega), decide_eq_false]
    intro e
    have := congrArg List.length e
    rw [List.length_take] at this
    omega
end Go.Proofs.Ytmlbppfcpejlpaa.Q06

/- A row of bits that begins at a place of bytes, and numbers taken from there. No conditions. -/
namespace Go.Proofs.Ytmlbppfcpejlpaa.Q06
open Go Go.RowKit Go.Proofs.YtmlbppfcpejlpaaW.PrintWords Go.Proofs.YtmlbppfcpejlpaaW.PrintMore Go.Proofs.Ytmlbppfcpejlpaa.S Go.Proofs.Ytmlbppfcpejlpaa.B Go.Proofs.Ytmlbppfcpejlpaa.X Go.Proofs.Ytmlbppfcpejlpaa.Q04
set_option linter.unusedVariables false
set_option linter.unusedSimpArgs false

/-- The bits from a place on begin with P. -/
def Starts (b : List Int) (a : Nat) (P : List Int) : Prop := a ≤ 8 * b.length ∧ ∃ R, (bitsOf b).drop a = P ++ R
theorem Starts.of {L : List Int} (hL : Bits L) (more : List Int) : Starts (packB L ++ more) 0 L := by
  refine ⟨Nat.zero_le _, List.replicate (8 * (packB L).length - L.length) 0 ++ bitsOf more, ?_⟩
  rw [bitsOf_append, bitsOf_packB hL, List.drop_zero, List.append_assoc]
theorem Starts.le {b : List Int} {a : Nat} {P : List Int} (h : Starts b a P) : a + P.length ≤ 8 * b.length := by
  obtain ⟨h0, R, hR⟩ := h
  have := congrArg List.length hR
  rw [List.length_drop, bitsOf_len, List.length_append] at this
  omega
theorem Starts.next {b : List Int} {a : Nat} {P Q : List Int} (h : Starts b a (P ++ Q)) : Starts b (a + P.length) Q := by
  have hle := h.le
  obtain ⟨h0, R, hR⟩ := h
  refine ⟨by rw [List.length_append] at hle; omega, R, ?_⟩
  rw [← List.drop_drop, hR, List.append_assoc, List.drop_left]
theorem Starts.left {b : List Int} {a : Nat} {P Q : List Int} (h : Starts b a (P ++ Q)) : Starts b a P := by
  obtain ⟨h0, R, hR⟩ := h
  exact ⟨h0, Q ++ R, by rw [hR, List.append_assoc]⟩
theorem Starts.take {b : List Int} (hb : Bs b) (hl : b.length < 1000000000) {a n : Nat} {v m : Int} {Q : List Int} (h : Starts b a (bitsN n v ++ Q)) (hn : n ≤ 64) (hm : m = (n : Int)) (hv : 0 ≤ v) (k : Nat) (hk : 64 < k) :
    bits_Reader_Take.f k b (a : Int) false m = some (v % 2 ^ n, ((a + n : Nat) : Int), false) ∧ Starts b (a + n) Q := by
  have hc : cl m = n := by rw [cl_id (by omega) (by omega)]; omega
  have hle := h.left.le
  rw [bitsN_len] at hle
  have h2 := h.next
  rw [bitsN_len] at h2
  refine ⟨?_, h2⟩
  rw [take_ok hb (by omega) (by rw [hc]; exact hle) hk, hc]
  obtain ⟨_, R, hR⟩ := h
  rw [hR, List.append_assoc, List.take_append_of_le_length (by rw [bitsN_len]; exact Nat.le_refl _), List.take_of_length_le (by rw [bitsN_len]; exact Nat.le_refl _), valB_bitsN n hv]
end Go.Proofs.Ytmlbppfcpejlpaa.Q06

/- What the functions of layer 7 (times) tell of differences of differences. No conditions. -/
namespace Go.Proofs.Ytmlbppfcpejlpaa.Q07
open Go Go.RowKit Go.Proofs.YtmlbppfcpejlpaaW.PrintWords Go.Proofs.YtmlbppfcpejlpaaW.PrintMore Go.Proofs.Ytmlbppfcpejlpaa.S Go.Proofs.Ytmlbppfcpejlpaa.B Go.Proofs.Ytmlbppfcpejlpaa.X Go.Proofs.Ytmlbppfcpejlpaa.Q04 Go.Proofs.Ytmlbppfcpejlpaa.Q06
set_option linter.unusedVariables false
set_option linter.unusedSimpArgs false

def Is (l : List Int) : Prop := ∀ x ∈ l, -9223372036854775808 ≤ x ∧ x < 9223372036854775808
theorem i64_eq (n : Int) : IntKind.i64.wrap n = (n + 9223372036854775808) % 18446744073709551616 - 9223372036854775808 := by rw [IntKind.wrap_i64]
/-- The sign of a number of 7 bits, and its like. -/
theorem sx7 {d : Int} (h0 : -64 ≤ d) (h1 : d < 64) : shr .i64 (wrap64 (shl .u64 (IntKind.u64.wrap d % 2 ^ 7) (wrap64 (64 - 7)))) (wrap64 (64 - 7)) = d := by
  have e : wrap64 (64 - 7) = 57 := by decide +kernel
  rw [e]
  unfold shl shr
  simp only [show min (57 : Int).toNat IntKind.u64.bits = 57 by decide, show min (57 : Int).toNat IntKind.i64.bits = 57 by decide, wrap_u64, wrap64_eq, show (2 : Int) ^ 57 = 144115188075855872 by decide, show (2 : Int) ^ 7 = 128 by decide]
  omega
theorem sx9 {d : Int} (h0 : -256 ≤ d) (h1 : d < 256) : shr .i64 (wrap64 (shl .u64 (IntKind.u64.wrap d % 2 ^ 9) (wrap64 (64 - 9)))) (wrap64 (64 - 9)) = d := by
  have e : wrap64 (64 - 9) = 55 := by decide +kernel
  rw [e]
  unfold shl shr
  simp only [show min (55 : Int).toNat IntKind.u64.bits = 55 by decide, show min (55 : Int).toNat IntKind.i64.bits = 55 by decide, wrap_u64, wrap64_eq, show (2 : Int) ^ 55 = 36028797018963968 by decide, show (2 : Int) ^ 9 = 512 by decide]
  omega
theorem sx12 {d : Int} (h0 : -2048 ≤ d) (h1 : d < 2048) : shr .i64 (wrap64 (shl .u64 (IntKind.u64.wrap d % 2 ^ 12) (wrap64 (64 - 12)))) (wrap64 (64 - 12)) = d := by
  have e : wrap64 (64 - 12) = 52 := by decide +kernel
  rw [e]
  unfold shl shr
  simp only [show min (52 : Int).toNat IntKind.u64.bits = 52 by decide, show min (52 : Int).toNat IntKind.i64.bits = 52 by decide, wrap_u64, wrap64_eq, show (2 : Int) ^ 52 = 4503599627370496 by decide, show (2 : Int) ^ 12 = 4096 by decide]
  omega
theorem sx64 {d : Int} (h0 : -9223372036854775808 ≤ d) (h1 : d < 9223372036854775808) : shr .i64 (wrap64 (shl .u64 (IntKind.u64.wrap d % 2 ^ 64) (wrap64 (64 - 64)))) (wrap64 (64 - 64)) = d := by
  have e : wrap64 (64 - 64) = 0 := by decide +kernel
  rw [e]
  unfold shl shr
  simp only [show min (0 : Int).toNat IntKind.u64.bits = 0 by decide, show min (0 : Int).toNat IntKind.i64.bits = 0 by decide, wrap_u64, wrap64_eq, show (2 : Int) ^ 0 = 1 by decide, show (2 : Int) ^ 64 = 18446744073709551616 by decide]
  omega
theorem u_rng (d : Int) : 0 ≤ IntKind.u64.wrap d := by rw [wrap_u64]; omega
theorem u_rng2 (d : Int) : 0 ≤ IntKind.u64.wrap d ∧ IntKind.u64.wrap d < 18446744073709551616 := by rw [wrap_u64]; omega
/-- One bit more, and the next class. -/
theorem l0_skip {b : List Int} (hb : Bs b) (hl : b.length < 1000000000) {a i : Nat} {Q : List Int} (hi : i < 3) (h : Starts b a (bitsN 1 1 ++ Q)) (k : Nat) (hk : 100 < k) :
    times_difference.l0 (k + 1) 64 times_second.cls 4 (i : Int) b (a : Int) false = times_difference.l0 k 64 times_second.cls 4 ((i + 1 : Nat) : Int) b ((a + 1 : Nat) : Int) false ∧ Starts b (a + 1) Q := by
  obtain ⟨ht, hs⟩ := h.take hb hl (by omega) (m := 1) rfl (by omega) k (by omega)
  refine ⟨?_, hs⟩
  have hw : (rd_T105 times_second.cls (i : Int)).f2 ≠ 64 := by
    have : i = 0 ∨ i = 1 ∨ i = 2 := by omega
    rcases this with rfl | rfl | rfl <;> decide
  have e : wrap64 ((i : Int) + 1) = ((i + 1 : Nat) : Int) := by rw [wrap64_id] <;> omega
  simp only [times_difference.l0]
  rw [if_pos (by omega), if_pos (by omega), if_pos (by simp [times_second.cls]; omega), if_neg hw, ht, Option.bind_some, if_neg (show ¬ ((1 : Int) % 2 ^ 1 = 0) by decide), e]
/-- A bit of nought: this class. -/
theorem l0_hit {b : List Int} (hb : Bs b) (hl : b.length < 1000000000) {a i w : Nat} {v : Int} {Q : List Int} (hi : i < 3) (hw : (rd_T105 times_second.cls (i : Int)).f2 = (w : Int)) (hw2 : w < 64) (h : Starts b a (bitsN 1 0 ++ (bitsN w v ++ Q))) (hv : 0 ≤ v) (k : Nat) (hk : 100 < k) :
    times_difference.l0 (k + 1) 64 times_second.cls 4 (i : Int) b (a : Int) false = some (shr .i64 (wrap64 (shl .u64 (v % 2 ^ w) (wrap64 (64 - (w : Int))))) (wrap64 (64 - (w : Int))), ((a + 1 + w : Nat) : Int), false) ∧ Starts b (a + 1 + w) Q := by
  obtain ⟨ht, hs⟩ := h.take hb hl (by omega) (m := 1) rfl (by omega) k (by omega)
  obtain ⟨ht2, hs2⟩ := hs.take hb hl (by omega) (m := (w : Int)) rfl hv k (by omega)
  refine ⟨?_, hs2⟩
  simp only [times_difference.l0]
  rw [if_pos (by omega), if_pos (by omega), if_pos (by simp [times_second.cls]; omega), hw, if_neg (by omega), ht, Option.bind_some, if_pos (show (0 : Int) % 2 ^ 1 = 0 by decide), ht2, Option.bind_some, if_pos (by rw [wrap64_id] <;> omega)]
theorem l0_last {b : List Int} (hb : Bs b) (hl : b.length < 1000000000) {a : Nat} {v : Int} {Q : List Int} (h : Starts b a (bitsN 64 v ++ Q)) (hv : 0 ≤ v) (k : Nat) (hk : 100 < k) :
    times_difference.l0 (k + 1) 64 times_second.cls 4 ((3 : Nat) : Int) b (a : Int) false = some (shr .i64 (wrap64 (shl .u64 (v % 2 ^ 64) (wrap64 (64 - 64)))) (wrap64 (64 - 64)), ((a + 64 : Nat) : Int), false) ∧ Starts b (a + 64) Q := by
  obtain ⟨ht2, hs2⟩ := h.take hb hl (by omega) (m := 64) rfl hv k (by omega)
  refine ⟨?_, hs2⟩
  have hw : (rd_T105 times_second.cls ((3 : Nat) : Int)).f2 = 64 := by decide
  simp only [times_difference.l0]
  rw [if_pos (by omega), if_pos (by omega), if_pos (by simp [times_second.cls]), hw, if_pos rfl, ht2, Option.bind_some, if_pos (by decide +kernel)]
theorem diff0 {b : List Int} (hb : Bs b) (hl : b.length < 1000000000) {a : Nat} {Q : List Int} (h : Starts b a (bitsN 1 0 ++ Q)) :
    times_difference.f 200 b (a : Int) false = some (0, ((a + 1 : Nat) : Int), false) ∧ Starts b (a + 1) Q := by
  obtain ⟨ht, hs⟩ := h.take hb hl (by omega) (m := 1) rfl (by omega) 200 (by omega)
  refine ⟨?_, hs⟩
  unfold times_difference.f
  rw [ht, Option.bind_some, if_pos (show (0 : Int) % 2 ^ 1 = 0 by decide)]
theorem f_lead {b : List Int} (hb : Bs b) (hl : b.length < 1000000000) {a : Nat} {Q : List Int} (h : Starts b a (bitsN 1 1 ++ Q)) :
    times_difference.f 200 b (a : Int) false = times_difference.l0 200 64 times_second.cls 4 ((0 : Nat) : Int) b ((a + 1 : Nat) : Int) false ∧ Starts b (a + 1) Q := by
  obtain ⟨ht, hs⟩ := h.take hb hl (by omega) (m := 1) rfl (by omega) 200 (by omega)
  refine ⟨?_, hs⟩
  unfold times_difference.f
  rw [ht, Option.bind_some, if_neg (show ¬ ((1 : Int) % 2 ^ 1 = 0) by decide)]
  rw [show times_classes.f = some times_second.cls from rfl, Option.bind_some, show (times_second.cls.length : Int) = 4 from rfl, show ((0 : Nat) : Int) = 0 from rfl]
theorem diffd {b : List Int} (hb : Bs b) (hl : b.length < 1000000000) {a : Nat} {d : Int} {Q : List Int} (d0 : -9223372036854775808 ≤ d) (d1 : d < 9223372036854775808) (h : Starts b a (times_second.bits d ++ Q)) :
    times_difference.f 200 b (a : Int) false = some (d, ((a + (times_second.bits d).length : Nat) : Int), false) ∧ Starts b (a + (times_second.bits d).length) Q := by
  refine ⟨?_, h.next⟩
  unfold times_second.bits at h ⊢
  by_cases c1 : -64 ≤ d ∧ d < 64
  · rw [if_pos c1] at h ⊢
    rw [show bitsN 2 2 = bitsN 1 1 ++ bitsN 1 0 by decide, List.append_assoc, List.append_assoc] at h
    obtain ⟨e1, h⟩ := f_lead hb hl h
    obtain ⟨e2, h⟩ := l0_hit hb hl (i := 0) (w := 7) (by omega) rfl (by omega) h (u_rng d) 199 (by omega)
    rw [e1, e2, show (((7 : Nat) : Int)) = 7 from rfl, sx7 c1.1 c1.2, List.length_append, bitsN_len, bitsN_len]
  · rw [if_neg c1] at h ⊢
    by_cases c2 : -256 ≤ d ∧ d < 256
    · rw [if_pos c2] at h ⊢
      rw [show bitsN 3 6 = bitsN 1 1 ++ (bitsN 1 1 ++ bitsN 1 0) by decide, List.append_assoc, List.append_assoc, List.append_assoc] at h
      obtain ⟨e1, h⟩ := f_lead hb hl h
      obtain ⟨e2, h⟩ := l0_skip hb hl (i := 0) (by omega) h 199 (by omega)
      obtain ⟨e3, h⟩ := l0_hit hb hl (i := 1) (w := 9) (by omega) rfl (by omega) h (u_rng d) 198 (by omega)
      rw [e1, e2, e3, show (((9 : Nat) : Int)) = 9 from rfl, sx9 c2.1 c2.2, List.length_append, bitsN_len, bitsN_len]
    · rw [if_neg c2] at h ⊢
      by_cases c3 : -2048 ≤ d ∧ d < 2048
      · rw [if_pos c3] at h ⊢
        rw [show bitsN 4 14 = bitsN 1 1 ++ (bitsN 1 1 ++ (bitsN 1 1 ++ bitsN 1 0)) by decide, List.append_assoc, List.append_assoc, List.append_assoc, List.append_assoc] at h
        obtain ⟨e1, h⟩ := f_lead hb hl h
        obtain ⟨e2, h⟩ := l0_skip hb hl (i := 0) (by omega) h 199 (by omega)
        obtain ⟨e3, h⟩ := l0_skip hb hl (i := 1) (by omega) h 198 (by omega)
        obtain ⟨e4, h⟩ := l0_hit hb hl (i := 2) (w := 12) (by omega) rfl (by omega) h (u_rng d) 197 (by omega)
        rw [e1, e2, e3, e4, show (((12 : Nat) : Int)) = 12 from rfl, sx12 c3.1 c3.2, List.length_append, bitsN_len, bitsN_len]
      · rw [if_neg c3] at h ⊢
        rw [show bitsN 4 15 = bitsN 1 1 ++ (bitsN 1 1 ++ (bitsN 1 1 ++ bitsN 1 1)) by decide, List.append_assoc, List.append_assoc, List.append_assoc, List.append_assoc] at h
        obtain ⟨e1, h⟩ := f_lead hb hl h
        obtain ⟨e2, h⟩ := l0_skip hb hl (i := 0) (by omega) h 199 (by omega)
        obtain ⟨e3, h⟩ := l0_skip hb hl (i := 1) (by omega) h 198 (by omega)
        obtain ⟨e4, h⟩ := l0_skip hb hl (i := 2) (by omega) h 197 (by omega)
        obtain ⟨e5, h⟩ := l0_last hb hl h (u_rng d) 196 (by omega)
        rw [e1, e2, e3, e4, e5, sx64 d0 d1, List.length_append, bitsN_len, bitsN_len]
theorem piece_bits (l : List Int) (i : Nat) : Bits (times_twice.piece l i) := by
  unfold times_twice.piece
  split
  · exact bitsN_bits _ _
  · split
    · exact bitsN_bits _ _
    · split
      · exact bitsN_bits _ _
      · unfold times_second.bits
        split
        · exact (bitsN_bits _ _).append (bitsN_bits _ _)
        · split
          · exact (bitsN_bits _ _).append (bitsN_bits _ _)
          · split <;> exact (bitsN_bits _ _).append (bitsN_bits _ _)
theorem part_bits (l : List Int) (i : Nat) : Bits (times_twice.part l i) := by
  induction i with
  | zero => exact Bits.nil
  | succ i ih => exact ih.append (piece_bits l i)
theorem part_split (l : List Int) (d : Nat) : ∀ i, ∃ Q, times_twice.part l (i + d) = times_twice.part l i ++ Q := by
  induction d with
  | zero => exact fun i => ⟨[], by simp⟩
  | succ d ih =>
    intro i
    obtain ⟨Q, hQ⟩ := ih i
    exact ⟨Q ++ times_twice.piece l (i + d), by rw [← Nat.add_assoc, times_twice.part, hQ, List.append_assoc]⟩
theorem wi64_u (d : Int) : IntKind.i64.wrap (IntKind.u64.wrap (IntKind.i64.wrap d) % 2 ^ 64) = IntKind.i64.wrap d := by
  rw [i64_eq, wrap_u64, i64_eq, show (2 : Int) ^ 64 = 18446744073709551616 by decide]; omega
theorem i64_id {n : Int} (h0 : -9223372036854775808 ≤ n) (h1 : n < 9223372036854775808) : IntKind.i64.wrap n = n := by rw [i64_eq]; omega
theorem i64_rng (n : Int) : -9223372036854775808 ≤ IntKind.i64.wrap n ∧ IntKind.i64.wrap n < 9223372036854775808 := by rw [i64_eq]; omega
theorem i64_back (x y : Int) (h0 : -9223372036854775808 ≤ x) (h1 : x < 9223372036854775808) : IntKind.i64.wrap (y + IntKind.i64.wrap (x - y)) = x := by
  rw [i64_eq, i64_eq]; omega
theorem i64_back' (x y : Int) : IntKind.i64.wrap (y + IntKind.i64.wrap (IntKind.i64.wrap x - y)) = IntKind.i64.wrap x := i64_back _ _ (i64_rng x).1 (i64_rng x).2
theorem dif_rng (l : List Int) (i : Nat) : times_twice.dif l i = IntKind.i64.wrap (times_twice.dif l i) := by
  unfold times_twice.dif
  split
  · decide +kernel
  · rw [i64_id (i64_rng _).1 (i64_rng _).2]
theorem run_spec {l more : List Int} (hl : l.length ≤ 200) (hi : Is l) (hm : Bs more) (hml : more.length ≤ 1000) (i : Nat) (h : i ≤ l.length) :
    times_getTwice.run (packB (times_twice.part l l.length) ++ more) i = some (l.take i, times_twice.step l i, ((times_twice.part l i).length : Int), false) := by
  have hb : Bs (packB (times_twice.part l l.length) ++ more) := (packB_bs (part_bits _ _)).append hm
  have hbl : (packB (times_twice.part l l.length) ++ more).length < 1000000000 := by
    rw [List.length_append, packB_len]
    have := times_twice.part_len l l.length
    omega
  have hst := Starts.of (part_bits l l.length) more
  generalize packB (times_twice.part l l.length) ++ more = b at *
  induction i with
  | zero => simp [times_getTwice.run, times_twice.step, times_twice.part]
  | succ i ih =>
    have hlt : i < l.length := by omega
    obtain ⟨Q, hQ⟩ := part_split l (l.length - (i + 1)) (i + 1)
    rw [show i + 1 + (l.length - (i + 1)) = l.length by omega, times_twice.part, List.append_assoc] at hQ
    rw [hQ] at hst
    have h1 := hst.next
    rw [Nat.zero_add] at h1
    have hx := hi _ (List.getElem_mem hlt)
    have hrd : rd l (i : Int) = l[i] := rd_get hlt
    have htk : l.take (i + 1) = l.take i ++ [l[i]] := List.take_succ_eq_append_getElem hlt
    rw [times_getTwice.run, ih (by omega), Option.bind_some]
    simp only []
    generalize hpl : (times_twice.part l i).length = a at *
    have hpl1 : (times_twice.part l (i + 1)).length = a + (times_twice.piece l i).length := by rw [times_twice.part, List.length_append, hpl]
    by_cases c0 : i = 0
    · subst c0
      have hp : times_twice.piece l 0 = bitsN 64 (IntKind.u64.wrap l[0]) := by unfold times_twice.piece; rw [if_pos rfl, ← hrd]
      rw [hp] at h1 hpl1
      obtain ⟨ht, _⟩ := h1.take hb hbl (by omega) (m := 64) rfl (u_rng _) 200 (by omega)
      rw [if_pos rfl, ht, Option.bind_some, hpl1, bitsN_len, htk]
      have e : IntKind.i64.wrap (IntKind.u64.wrap l[0] % 2 ^ 64) = l[0] := by
        have := wi64_u l[0]
        rwa [i64_id hx.1 hx.2] at this
      simp only [e, List.take_zero, List.nil_append]
      rfl
    · rw [if_neg c0]
      have hdl : times_twice.dif l i = IntKind.i64.wrap (l[i] - rd l ((i : Int) - 1)) := by
        unfold times_twice.dif
        rw [if_neg c0, hrd, show ((i - 1 : Nat) : Int) = (i : Int) - 1 by omega]
      have hrd1 : rd (l.take i) ((i : Int) - 1) = rd l ((i : Int) - 1) := by
        rw [show (i : Int) - 1 = ((i - 1 : Nat) : Int) by omega, rd_get (by rw [List.length_take]; omega), rd_get (by omega), List.getElem_take]
      have hback : IntKind.i64.wrap (rd l ((i : Int) - 1) + times_twice.dif l i) = l[i] := by rw [hdl]; exact i64_back _ _ hx.1 hx.2
      have hstep : times_twice.step l (i + 1) = times_twice.dif l i := by unfold times_twice.step; rw [if_neg (by omega)]; rfl
      rw [hrd1, hstep, htk]
      by_cases c1 : i = 1
      · subst c1
        have hp : times_twice.piece l 1 = bitsN 64 (IntKind.u64.wrap (times_twice.dif l 1)) := by unfold times_twice.piece; rw [if_neg (by decide), if_pos rfl]
        rw [hp] at h1 hpl1
        obtain ⟨ht, _⟩ := h1.take hb hbl (by omega) (m := 64) rfl (u_rng _) 200 (by omega)
        have e : IntKind.i64.wrap (IntKind.u64.wrap (times_twice.dif l 1) % 2 ^ 64) = times_twice.dif l 1 := by
          have := wi64_u (times_twice.dif l 1)
          rwa [← dif_rng] at this
        rw [if_pos rfl, ht, Option.bind_some, hpl1, bitsN_len]
        simp only [e, hback]
      · rw [if_neg c1]
        have hs0 : times_twice.step l i = times_twice.dif l (i - 1) := by unfold times_twice.step; rw [if_neg c0]
        rw [hs0]
        by_cases c2 : times_twice.dif l i = times_twice.dif l (i - 1)
        · have hp : times_twice.piece l i = bitsN 1 0 := by unfold times_twice.piece; rw [if_neg c0, if_neg c1, if_pos c2]
          rw [hp] at h1 hpl1
          obtain ⟨ht, _⟩ := diff0 hb hbl h1
          rw [ht, Option.bind_some, hpl1, bitsN_len]
          simp only []
          rw [Int.add_zero, ← c2, ← dif_rng, hback]
        · have hp : times_twice.piece l i = times_second.bits (IntKind.i64.wrap (times_twice.dif l i - times_twice.dif l (i - 1))) := by unfold times_twice.piece; rw [if_neg c0, if_neg c1, if_neg c2]
          rw [hp] at h1 hpl1
          obtain ⟨ht, _⟩ := diffd hb hbl (i64_rng _).1 (i64_rng _).2 h1
          rw [ht, Option.bind_some, hpl1]
          simp only []
          have e : IntKind.i64.wrap (times_twice.dif l (i - 1) + IntKind.i64.wrap (times_twice.dif l i - times_twice.dif l (i - 1))) = times_twice.dif l i := by
            rw [dif_rng l i]; exact i64_back' _ _
          rw [e, hback]
theorem getTwice_spec {l more : List Int} (hl : l.length ≤ 200) (hi : Is l) (hm : Bs more) (hml : more.length ≤ 1000) :
    times_getTwice.f (packB (times_twice.part l l.length) ++ more) (l.length : Int) = some (l, 0) := by
  unfold times_getTwice.f
  have hbl : (packB (times_twice.part l l.length) ++ more).length < 1000000000 := by
    rw [List.length_append, packB_len]
    have := times_twice.part_len l l.length
    omega
  rw [if_pos ⟨by omega, hbl⟩, Int.toNat_natCast, run_spec hl hi hm hml l.length (Nat.le_refl _), Option.bind_some, if_neg (by simp), List.take_length]
end Go.Proofs.Ytmlbppfcpejlpaa.Q07

/- What times.Put and times.Get tell by differences of differences; what is put before. No conditions. -/
namespace Go.Proofs.Ytmlbppfcpejlpaa.Q07
open Go Go.RowKit Go.Proofs.YtmlbppfcpejlpaaW.PrintWords Go.Proofs.YtmlbppfcpejlpaaW.PrintMore Go.Proofs.Ytmlbppfcpejlpaa.S Go.Proofs.Ytmlbppfcpejlpaa.B Go.Proofs.Ytmlbppfcpejlpaa.X Go.Proofs.Ytmlbppfcpejlpaa.Q04 Go.Proofs.Ytmlbppfcpejlpaa.Q06
set_option linter.unusedVariables false
set_option linter.unusedSimpArgs false

theorem packB_nil : packB [] = [] := by decide +kernel
theorem part_nil (l : List Int) : packB (times_twice.part l 0) = [] := by rw [times_twice.part, packB_nil]
theorem put7_spec {k : Nat} {l : List Int} (hl : l.length ≤ 200) (hk : 0 < k) : times_Put.f k l 2 = some (packB (times_twice.part l l.length), 0) := by
  obtain ⟨k, rfl⟩ : ∃ q, k = q + 1 := ⟨k - 1, by omega⟩
  unfold times_Put.f
  rw [if_neg (by omega), if_neg (by omega), decide_eq_false (by omega)]
  simp only [times_Put.j0]
  rw [if_neg (by simp)]
  by_cases h : l.length = 0
  · rw [if_pos (by omega), h, part_nil]
  · rw [if_neg (by omega), if_pos trivial]
    unfold times_twice.f
    rw [if_pos hl, Option.bind_some]
theorem get7_spec {k : Nat} {l more : List Int} (hl : l.length ≤ 200) (hi : Is l) (hm : Bs more) (hml : more.length ≤ 1000) (hk : 1 < k) :
    times_Get.f k (packB (times_twice.part l l.length) ++ more) (l.length : Int) 2 = some (l, ((packB (times_twice.part l l.length)).length : Int), 0) := by
  obtain ⟨k, rfl⟩ : ∃ q, k = q + 1 := ⟨k - 1, by omega⟩
  unfold times_Get.f
  rw [if_neg (by omega), if_neg (by omega), if_neg (by omega), decide_eq_false (by omega)]
  have h1 := getTwice_spec hl hi hm hml
  have h2 := put7_spec (k := k) hl (by omega)
  have h3 := prefix_yes (packB (times_twice.part l l.length)) more
  have h4 : l.length = 0 → packB (times_twice.part l l.length) = [] := fun h => by rw [h, part_nil]
  generalize packB (times_twice.part l l.length) = B1 at *
  simp only [times_Get.j0]
  rw [if_neg (by simp)]
  by_cases h : l.length = 0
  · obtain rfl : l = [] := List.length_eq_zero_iff.1 h
    rw [if_pos (by simp), h4 h]
    rfl
  · rw [if_neg (by omega)]
    unfold times_got.f
    rw [if_neg (by decide), if_neg (by decide), if_pos rfl, h1, Option.bind_some, Option.bind_some]
    simp only []
    rw [if_pos trivial, h2, Option.bind_some]
    simp only []
    rw [h3, Option.bind_some, if_pos rfl]
theorem same_l0 {l : List Int} (hl : l.length < 1000000000000) (d : Nat) : ∀ (i k : Nat), i + d = l.length → d < k → rickref07_Same.l0 k l l (i : Int) = some true := by
  induction d with
  | zero =>
    intro i k hi hk
    obtain ⟨k, rfl⟩ : ∃ q, k = q + 1 := ⟨k - 1, by omega⟩
    simp only [rickref07_Same.l0]
    rw [if_neg (by omega)]
  | succ d ih =>
    intro i k hi hk
    obtain ⟨k, rfl⟩ : ∃ q, k = q + 1 := ⟨k - 1, by omega⟩
    simp only [rickref07_Same.l0, if_true]
    rw [if_pos (by omega), if_pos (by omega), if_pos (by omega), Q06.succ64 (by omega)]
    exact ih (i + 1) k (by omega) (by omega)
theorem same_spec {k : Nat} {l : List Int} (hl : l.length < 1000000000000) (hk : l.length < k) : rickref07_Same.f k l l = some true := by
  unfold rickref07_Same.f
  rw [if_pos rfl]
  exact same_l0 hl l.length 0 k (by omega) hk
theorem puts7_some : ricklaw07_puts.f 40 = some true := by decide +kernel
theorem puts7_spec {k : Nat} (hk : 40 ≤ k) : ricklaw07_puts.f k = some true := at_rounds ricklaw07_puts.mono hk puts7_some
theorem part1_len (l : List Int) : (times_twice.part l 1).length = 64 := by
  rw [times_twice.part, List.length_append]
  unfold times_twice.piece
  rw [if_pos rfl, bitsN_len]; rfl
theorem part2_len (l : List Int) : (times_twice.part l 2).length = 128 := by
  rw [times_twice.part, List.length_append, part1_len]
  unfold times_twice.piece
  rw [if_neg (by decide), if_pos rfl, bitsN_len]
end Go.Proofs.Ytmlbppfcpejlpaa.Q07

/- TimesClasses: a difference of differences has the bits of its class. No conditions. -/
namespace Go.Proofs.Ytmlbppfcpejlpaa.Pure
open Go Go.RowKit Go.Proofs.YtmlbppfcpejlpaaW.PrintWords Go.Proofs.YtmlbppfcpejlpaaW.PrintMore Go.Proofs.Ytmlbppfcpejlpaa.S Go.Proofs.Ytmlbppfcpejlpaa.B Go.Proofs.Ytmlbppfcpejlpaa.X Go.Proofs.Ytmlbppfcpejlpaa.Q04 Go.Proofs.Ytmlbppfcpejlpaa.Q06 Go.Proofs.Ytmlbppfcpejlpaa.Q07
set_option linter.unusedVariables false
set_option linter.unusedSimpArgs false

theorem w64_rng (n : Int) : -9223372036854775808 ≤ wrap64 n ∧ wrap64 n < 9223372036854775808 := by rw [wrap64_eq]; omega
/-- The bits of the third one. -/
theorem three (a s d : Int) (a0 : -9223372036854775808 ≤ a) (a1 : a < 9223372036854775808) (s0 : -9223372036854775808 ≤ s) (s1 : s < 9223372036854775808) (d0 : -9223372036854775808 ≤ d) (d1 : d < 9223372036854775808) :
    ∃ l, l = [a, wrap64 (a + s), wrap64 ((wrap64 (a + (wrap64 (2 * s)))) + d)] ∧ l.length = 3 ∧ Is l ∧ (times_twice.part l 3).length = 128 + (if d = 0 then bitsN 1 0 else times_second.bits d).length := by
  refine ⟨_, rfl, rfl, ?_, ?_⟩
  · intro x hx
    simp at hx
    rcases hx with rfl | rfl | rfl
    · exact ⟨a0, a1⟩
    · exact w64_rng _
    · exact w64_rng _
  · obtain ⟨l, hl⟩ : ∃ l, l = [a, wrap64 (a + s), wrap64 ((wrap64 (a + (wrap64 (2 * s)))) + d)] := ⟨_, rfl⟩
    have r0 : rd l ((0 : Nat) : Int) = a := by rw [hl]; rfl
    have r1 : rd l ((1 : Nat) : Int) = wrap64 (a + s) := by rw [hl]; rfl
    have r2 : rd l ((2 : Nat) : Int) = wrap64 ((wrap64 (a + (wrap64 (2 * s)))) + d) := by rw [hl]; rfl
    rw [← hl]
    have e1 : times_twice.dif l 1 = s := by
      unfold times_twice.dif
      rw [if_neg (by decide), r1, Nat.sub_self, r0, i64_eq, wrap64_eq]; omega
    have e2 : times_twice.dif l 2 = wrap64 (s + d) := by
      unfold times_twice.dif
      rw [if_neg (by decide), r2, show 2 - 1 = 1 from rfl, r1, i64_eq, wrap64_eq, wrap64_eq, wrap64_eq, wrap64_eq, wrap64_eq]; omega
    have e3 : IntKind.i64.wrap (times_twice.dif l 2 - times_twice.dif l 1) = d := by rw [e1, e2, i64_eq, wrap64_eq]; omega
    rw [times_twice.part, List.length_append, part2_len]
    congr 2
    unfold times_twice.piece
    rw [if_neg (by decide), if_neg (by decide), show 2 - 1 = 1 from rfl, e3]
    by_cases c : d = 0
    · rw [if_pos c, if_pos (by rw [e1, e2, c, Int.add_zero]; exact wrap64_id s0 s1)]
    · rw [if_neg c, if_neg (fun h => c (by rw [← e3, h, Int.sub_self]; decide +kernel))]
theorem bits_n (d : Int) : (times_second.bits d).length = if -64 ≤ d ∧ d < 64 then 9 else if -256 ≤ d ∧ d < 256 then 12 else if -2048 ≤ d ∧ d < 2048 then 16 else 68 := by
  unfold times_second.bits
  split
  · rw [List.length_append, bitsN_len, bitsN_len]
  · split
    · rw [List.length_append, bitsN_len, bitsN_len]
    · split <;> rw [List.length_append, bitsN_len, bitsN_len]
theorem TimesClasses : ricklaw07_TimesClasses.Pure := by
  intro a s d ha hs hd
  obtain ⟨a0, a1⟩ := wf_i64 ha
  obtain ⟨s0, s1⟩ := wf_i64 hs
  obtain ⟨d0, d1⟩ := wf_i64 hd
  obtain ⟨l, hl, hl3, hi, hp⟩ := three a s d a0 a1 s0 s1 d0 d1
  have h1 := put7_spec (k := 304) (l := l) (by omega) (by omega)
  have h2 : ∀ k, 300 ≤ k → times_Get.f k (packB (times_twice.part l l.length)) (l.length : Int) 2 = some (l, ((packB (times_twice.part l l.length)).length : Int), 0) := fun k hk => by
    have := get7_spec (k := k) (l := l) (more := []) (by omega) hi (by intro x hx; simp at hx) (by simp) (by omega)
    rwa [List.append_nil] at this
  have h3 : ∀ k, 300 ≤ k → rickref07_Same.f k l l = some true := fun k hk => same_spec (by omega) (by omega)
  have h4 : ∀ k, 300 ≤ k → ricklaw07_puts.f k = some true := fun k hk => puts7_spec (by omega)
  have hlen : (packB (times_twice.part l l.length)).length = ((times_twice.part l l.length).length + 7) / 8 := packB_len _
  rw [hl3] at h1 h2 hlen
  rw [hp] at hlen
  generalize packB (times_twice.part l 3) = B1 at *
  replace h2 : ∀ k, 300 ≤ k → times_Get.f k B1 3 2 = some (l, (B1.length : Int), 0) := h2
  refine ⟨304, ?_⟩
  unfold ricklaw07_TimesClasses.f
  rw [Option.bind_some, ← hl, h1, Option.bind_some]
  have fin : ∀ (k : Nat) (n : Int), 300 ≤ k → (B1.length : Int) = n → ((times_Get.f k B1 3 2).bind fun bt => ((ricklaw07_puts.f k).bind fun t => (if t = true then (if (0 : Int) = 0 then (if (B1.length : Int) = n then (if bt.2.2 = 0 then ((rickref07_Same.f k bt.1 l).bind fun t604 => (some t604)) else (some false)) else (some false)) else (some false)) else (some false)))) = some true := by
    intro k n hk hn
    rw [h2 k hk, Option.bind_some, h4 k hk, Option.bind_some, if_pos rfl, if_pos rfl, if_pos hn]
    simp only [if_true]
    rw [h3 k hk, Option.bind_some]
  by_cases c : d = 0
  · rw [if_pos c] at hlen ⊢
    exact fin 304 17 (by omega) (by rw [hlen]; rfl)
  · rw [if_neg c] at hlen ⊢
    rw [bits_n] at hlen
    clear h1 hp hi hl
    have j2 : ∀ (k : Nat) (q : Bool), 300 < k → ((B1.length : Int) = if q = true then 18 else 25) → ricklaw07_TimesClasses.j2 k l B1 0 q = some true := by
      intro k q hk hq
      obtain ⟨k, rfl⟩ : ∃ z, k = z + 1 := ⟨k - 1, by omega⟩
      rw [ricklaw07_TimesClasses.j2]
      cases q with
      | true => rw [if_pos rfl] at hq ⊢; exact fin k 18 (by omega) hq
      | false => rw [if_neg (by decide)] at hq ⊢; exact fin k 25 (by omega) hq
    have j1 : ∀ (k : Nat) (q : Bool), 301 < k → ((B1.length : Int) = if q = true then 18 else if -2048 ≤ d ∧ d < 2048 then 18 else 25) → ricklaw07_TimesClasses.j1 k d l B1 0 q = some true := by
      intro k q hk hq
      obtain ⟨k, rfl⟩ : ∃ z, k = z + 1 := ⟨k - 1, by omega⟩
      rw [ricklaw07_TimesClasses.j1]
      cases q with
      | true => rw [if_pos rfl] at hq ⊢; exact fin k 18 (by omega) hq
      | false =>
        rw [if_neg (by decide)] at hq ⊢
        by_cases g : d ≥ -2048
        · rw [if_pos g]
          refine j2 k _ (by omega) ?_
          rw [hq]
          by_cases g2 : d < 2048
          · rw [if_pos ⟨g, g2⟩, if_pos (decide_eq_true g2)]
          · rw [if_neg (fun h => g2 h.2), if_neg (show ¬ (decide (d < 2048) = true) by rw [decide_eq_false g2]; decide)]
        · rw [if_neg g]
          refine j2 k _ (by omega) ?_
          rw [hq, if_neg (fun h => g h.1), if_neg (show ¬ (false = true) by decide)]
    have j0 : ∀ (k : Nat) (q : Bool), 302 < k → ((B1.length : Int) = if q = true then 18 else if -256 ≤ d ∧ d < 256 then 18 else if -2048 ≤ d ∧ d < 2048 then 18 else 25) → ricklaw07_TimesClasses.j0 k d l B1 0 q = some true := by
      intro k q hk hq
      obtain ⟨k, rfl⟩ : ∃ z, k = z + 1 := ⟨k - 1, by omega⟩
      rw [ricklaw07_TimesClasses.j0]
      cases q with
      | true => rw [if_pos rfl] at hq ⊢; exact fin k 18 (by omega) hq
      | false =>
        rw [if_neg (by decide)] at hq ⊢
        by_cases g : d ≥ -256
        · rw [if_pos g]
          refine j1 k _ (by omega) ?_
          rw [hq]
          by_cases g2 : d < 256
          · rw [if_pos ⟨g, g2⟩, if_pos (decide_eq_true g2)]
          · rw [if_neg (fun h => g2 h.2), if_neg (show ¬ (decide (d < 256) = true) by rw [decide_eq_false g2]; decide)]
        · rw [if_neg g]
          refine j1 k _ (by omega) ?_
          rw [hq, if_neg (fun h => g h.1), if_neg (show ¬ (false = true) by decide)]
    have hz : (B1.length : Int) = if -64 ≤ d ∧ d < 64 then 18 else if -256 ≤ d ∧ d < 256 then 18 else if -2048 ≤ d ∧ d < 2048 then 18 else 25 := by
      rw [hlen]; split
      · rfl
      · split
        · rfl
        · split <;> rfl
    by_cases g : d ≥ -64
    · rw [if_pos g]
      refine j0 304 _ (by omega) ?_
      rw [hz]
      by_cases g2 : d < 64
      · rw [if_pos ⟨g, g2⟩, if_pos (decide_eq_true g2)]
      · rw [if_neg (fun h => g2 h.2), if_neg (show ¬ (decide (d < 64) = true) by rw [decide_eq_false g2]; decide)]
    · rw [if_neg g]
      refine j0 304 _ (by omega) ?_
      rw [hz, if_neg (fun h => g h.1), if_neg (show ¬ (false = true) by decide)]
end Go.Proofs.Ytmlbppfcpejlpaa.Pure
