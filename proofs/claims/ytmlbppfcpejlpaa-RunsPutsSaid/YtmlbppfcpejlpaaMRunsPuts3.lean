/- Texts of this claim, laid together (wip/merge.py): XBitsLen64, Q06, XRickref04Put, XRickref04Bytes, Q04, XRickref04Bits, XRickref04Take, Q04b, Q06b, XBytesEqual, XBytesHasprefix, Q06c, Q06s, Q09, XPackPut, XPackGet, XRickref06Raw, XRickref06Put, Q06d. No conditions. -/
import Derived.Test.YtmlbppfcpejlpaaMRunsPuts1
import Derived.Test.YtmlbppfcpejlpaaMRunsPuts2
-- Printed by this session's own program (wip/xprint.py) over the translation; its external functions are hand-written. Lean checks it.
namespace Go.Proofs.Ytmlbppfcpejlpaa.X
open Go.RowKit Go.Proofs.YtmlbppfcpejlpaaW.PrintWords Go.Proofs.YtmlbppfcpejlpaaW.PrintLast Go.Proofs.YtmlbppfcpejlpaaW.PrintMore
attribute [local go_sem] max2_int min2_int max_two min_two max_three min_three max_four min_four   -- for this text's walks alone
set_option linter.unusedVariables false
set_option linter.unusedSimpArgs false

/-! ### bits_Len64: function 57 -/
def bits_Len64.j0 : Nat → Int → Int → Option (Int)
  | 0, _, _ => none
  | k + 1, x0, x2 => if x0 ≥ 65536 then (if (x0 / 65536) ≥ 256 then (if 0 ≤ (((x0 / 65536) / 256) % 256) then (if (((x0 / 65536) / 256) % 256) < 256 then (some (wrap64 ((wrap64 ((wrap64 (x2 + 16)) + 8)) + (wrap64 (bt (⟨#[0, 1, 2, 2, 3, 3, 3, 3, 4, 4, 4, 4, 4, 4, 4, 4, 5, 5, 5, 5, 5, 5, 5, 5, 5, 5, 5, 5, 5, 5, 5, 5, 6, 6, 6, 6, 6, 6, 6, 6, 6, 6, 6, 6, 6, 6, 6, 6, 6, 6, 6, 6, 6, 6, 6, 6, 6, 6, 6, 6, 6, 6, 6, 6, 7, 7, 7, 7, 7, 7, 7, 7, 7, 7, 7, 7, 7, 7, 7, 7, 7, 7, 7, 7, 7, 7, 7, 7, 7, 7, 7, 7, 7, 7, 7, 7, 7, 7, 7, 7, 7, 7, 7, 7, 7, 7, 7, 7, 7, 7, 7, 7, 7, 7, 7, 7, 7, 7, 7, 7, 7, 7, 7, 7, 7, 7, 7, 7, 8, 8, 8, 8, 8, 8, 8, 8, 8, 8, 8, 8, 8, 8, 8, 8, 8, 8, 8, 8, 8, 8, 8, 8, 8, 8, 8, 8, 8, 8, 8, 8, 8, 8, 8, 8, 8, 8, 8, 8, 8, 8, 8, 8, 8, 8, 8, 8, 8, 8, 8, 8, 8, 8, 8, 8, 8, 8, 8, 8, 8, 8, 8, 8, 8, 8, 8, 8, 8, 8, 8, 8, 8, 8, 8, 8, 8, 8, 8, 8, 8, 8, 8, 8, 8, 8, 8, 8, 8, 8, 8, 8, 8, 8, 8, 8, 8, 8, 8, 8, 8, 8, 8, 8, 8, 8, 8, 8, 8, 8, 8, 8, 8, 8, 8, 8, 8, 8, 8, 8, 8, 8, 8, 8, 8, 8, 8, 8]⟩ : ByteArray) (((x0 / 65536) / 256) % 256)))))) else (none)) else (none)) else (if 0 ≤ ((x0 / 65536) % 256) then (if ((x0 / 65536) % 256) < 256 then (some (wrap64 ((wrap64 (x2 + 16)) + (wrap64 (bt (⟨#[0, 1, 2, 2, 3, 3, 3, 3, 4, 4, 4, 4, 4, 4, 4, 4, 5, 5, 5, 5, 5, 5, 5, 5, 5, 5, 5, 5, 5, 5, 5, 5, 6, 6, 6, 6, 6, 6, 6, 6, 6, 6, 6, 6, 6, 6, 6, 6, 6, 6, 6, 6, 6, 6, 6, 6, 6, 6, 6, 6, 6, 6, 6, 6, 7, 7, 7, 7, 7, 7, 7, 7, 7, 7, 7, 7, 7, 7, 7, 7, 7, 7, 7, 7, 7, 7, 7, 7, 7, 7, 7, 7, 7, 7, 7, 7, 7, 7, 7, 7, 7, 7, 7, 7, 7, 7, 7, 7, 7, 7, 7, 7, 7, 7, 7, 7, 7, 7, 7, 7, 7, 7, 7, 7, 7, 7, 7, 7, 8, 8, 8, 8, 8, 8, 8, 8, 8, 8, 8, 8, 8, 8, 8, 8, 8, 8, 8, 8, 8, 8, 8, 8, 8, 8, 8, 8, 8, 8, 8, 8, 8, 8, 8, 8, 8, 8, 8, 8, 8, 8, 8, 8, 8, 8, 8, 8, 8, 8, 8, 8, 8, 8, 8, 8, 8, 8, 8, 8, 8, 8, 8, 8, 8, 8, 8, 8, 8, 8, 8, 8, 8, 8, 8, 8, 8, 8, 8, 8, 8, 8, 8, 8, 8, 8, 8, 8, 8, 8, 8, 8, 8, 8, 8, 8, 8, 8, 8, 8, 8, 8, 8, 8, 8, 8, 8, 8, 8, 8, 8, 8, 8, 8, 8, 8, 8, 8, 8, 8, 8, 8, 8, 8, 8, 8, 8, 8]⟩ : ByteArray) ((x0 / 65536) % 256)))))) else (none)) else (none))) else (if x0 ≥ 256 then (if 0 ≤ ((x0 / 256) % 256) then (if ((x0 / 256) % 256) < 256 then (some (wrap64 ((wrap64 (x2 + 8)) + (wrap64 (bt (⟨#[0, 1, 2, 2, 3, 3, 3, 3, 4, 4, 4, 4, 4, 4, 4, 4, 5, 5, 5, 5, 5, 5, 5, 5, 5, 5, 5, 5, 5, 5, 5, 5, 6, 6, 6, 6, 6, 6, 6, 6, 6, 6, 6, 6, 6, 6, 6, 6, 6, 6, 6, 6, 6, 6, 6, 6, 6, 6, 6, 6, 6, 6, 6, 6, 7, 7, 7, 7, 7, 7, 7, 7, 7, 7, 7, 7, 7, 7, 7, 7, 7, 7, 7, 7, 7, 7, 7, 7, 7, 7, 7, 7, 7, 7, 7, 7, 7, 7, 7, 7, 7, 7, 7, 7, 7, 7, 7, 7, 7, 7, 7, 7, 7, 7, 7, 7, 7, 7, 7, 7, 7, 7, 7, 7, 7, 7, 7, 7, 8, 8, 8, 8, 8, 8, 8, 8, 8, 8, 8, 8, 8, 8, 8, 8, 8, 8, 8, 8, 8, 8, 8, 8, 8, 8, 8, 8, 8, 8, 8, 8, 8, 8, 8, 8, 8, 8, 8, 8, 8, 8, 8, 8, 8, 8, 8, 8, 8, 8, 8, 8, 8, 8, 8, 8, 8, 8, 8, 8, 8, 8, 8, 8, 8, 8, 8, 8, 8, 8, 8, 8, 8, 8, 8, 8, 8, 8, 8, 8, 8, 8, 8, 8, 8, 8, 8, 8, 8, 8, 8, 8, 8, 8, 8, 8, 8, 8, 8, 8, 8, 8, 8, 8, 8, 8, 8, 8, 8, 8, 8, 8, 8, 8, 8, 8, 8, 8, 8, 8, 8, 8, 8, 8, 8, 8, 8, 8]⟩ : ByteArray) ((x0 / 256) % 256)))))) else (none)) else (none)) else (if 0 ≤ ((x0) % 256) then (if ((x0) % 256) < 256 then (some (wrap64 (x2 + (wrap64 (bt (⟨#[0, 1, 2, 2, 3, 3, 3, 3, 4, 4, 4, 4, 4, 4, 4, 4, 5, 5, 5, 5, 5, 5, 5, 5, 5, 5, 5, 5, 5, 5, 5, 5, 6, 6, 6, 6, 6, 6, 6, 6, 6, 6, 6, 6, 6, 6, 6, 6, 6, 6, 6, 6, 6, 6, 6, 6, 6, 6, 6, 6, 6, 6, 6, 6, 7, 7, 7, 7, 7, 7, 7, 7, 7, 7, 7, 7, 7, 7, 7, 7, 7, 7, 7, 7, 7, 7, 7, 7, 7, 7, 7, 7, 7, 7, 7, 7, 7, 7, 7, 7, 7, 7, 7, 7, 7, 7, 7, 7, 7, 7, 7, 7, 7, 7, 7, 7, 7, 7, 7, 7, 7, 7, 7, 7, 7, 7, 7, 7, 8, 8, 8, 8, 8, 8, 8, 8, 8, 8, 8, 8, 8, 8, 8, 8, 8, 8, 8, 8, 8, 8, 8, 8, 8, 8, 8, 8, 8, 8, 8, 8, 8, 8, 8, 8, 8, 8, 8, 8, 8, 8, 8, 8, 8, 8, 8, 8, 8, 8, 8, 8, 8, 8, 8, 8, 8, 8, 8, 8, 8, 8, 8, 8, 8, 8, 8, 8, 8, 8, 8, 8, 8, 8, 8, 8, 8, 8, 8, 8, 8, 8, 8, 8, 8, 8, 8, 8, 8, 8, 8, 8, 8, 8, 8, 8, 8, 8, 8, 8, 8, 8, 8, 8, 8, 8, 8, 8, 8, 8, 8, 8, 8, 8, 8, 8, 8, 8, 8, 8, 8, 8, 8, 8, 8, 8, 8, 8]⟩ : ByteArray) ((x0) % 256)))))) else (none)) else (none)))
def bits_Len64.f (k : Nat) (a0 : Int) : Option (Int) := if a0 ≥ 4294967296 then (bits_Len64.j0 k (a0 / 4294967296) 32) else (bits_Len64.j0 k a0 0)
theorem bits_Len64.mono_l : ∀ k, (∀ y0 y1, LeO (bits_Len64.j0 k y0 y1) (bits_Len64.j0 (k + 1) y0 y1))
  | 0 => fun _ _ r h => by simp [bits_Len64.j0] at h
  | k + 1 => by
    have ih0 := bits_Len64.mono_l k
    · intro y0 y1
      unfold bits_Len64.j0
      repeat' first
      | (with_reducible exact ih0 _ _)
      | (with_reducible exact LeO.refl _)
      | (with_reducible exact LeO.none _)
      | (with_reducible refine LeO.ite ?_ ?_)
      | (with_reducible refine LeO.bind ?_ (fun _ => ?_))
      | exact ih0 _ _
      | exact LeO.none _
      | refine LeO.ite ?_ ?_
      | refine LeO.bind ?_ (fun _ => ?_)
theorem bits_Len64.mono : ∀ a0 k, LeO (bits_Len64.f k a0) (bits_Len64.f (k + 1) a0) := by
  intro a0 k
  have ih0 := bits_Len64.mono_l k
  unfold bits_Len64.f
  repeat' first
      | (with_reducible exact ih0 _ _)
      | (with_reducible exact LeO.refl _)
      | (with_reducible exact LeO.none _)
      | (with_reducible refine LeO.ite ?_ ?_)
      | (with_reducible refine LeO.bind ?_ (fun _ => ?_))
      | exact ih0 _ _
      | exact LeO.none _
      | refine LeO.ite ?_ ?_
      | refine LeO.bind ?_ (fun _ => ?_)
set_option maxHeartbeats 8000000 in
set_option maxRecDepth 100000 in
theorem bits_Len64.calls (k : Nat) (a0 : Int) (r : Int) (w : World) (h : bits_Len64.f k a0 = some r) :
    Calls Try.prog 57 #[.int .u64 a0] w fun e w' => e = .returned (.int .i64 r) ∧ Drawn0 w w' := by
  have H : (if a0 ≥ 4294967296 then (bits_Len64.j0 k (a0 / 4294967296) 32) else (bits_Len64.j0 k a0 0)) = some r := h
  clear h
  have HC2 := Aside0.mk H
  clear H
  go_enter Try.func57, Try.ntmps57
  go_upto_if 4 with (fail)
  go_cut [0, 2] (fun v0 v2 wc => ∃ (kq : Nat) (x0_1 : Int) (x2_1 : Int), v0 = .int .u64 x0_1 ∧ v2 = .int .i64 x2_1 ∧ Aside0 (bits_Len64.j0 kq x0_1 x2_1 = some r) ∧ Aside0 (kq ≤ k) ∧ Drawn0 w wc)
  case first =>
    have H := HC2.out
    clear HC2
    by_cases c3 : a0 ≥ 4294967296
    · rw [if_pos c3] at H
      have c3b0 : decide (4294967296 ≤ a0) = true := decide_eq_true c3
      clear c3
      (first | rw [c3b0] | (simp only [i64_w, i32_w]; rw [c3b0]) | skip)
      have H' := Aside0.mk H
      clear H
      go_wp2
      go_meet
      case rel => exact ⟨_, (a0 / 4294967296), (32), (by first | rfl | (simp; done) | (simp [*]; done)), (by first | rfl | (simp; done) | (simp [*]; done)), H', ⟨by first | omega | exact Nat.le_refl _⟩, by repeat (first | exact Drawn0.refl _ | apply Drawn0.step)⟩
    · rw [if_neg c3] at H
      have c3b0 : decide (4294967296 ≤ a0) = false := decide_eq_false c3
      clear c3
      (first | rw [c3b0] | (simp only [i64_w, i32_w]; rw [c3b0]) | skip)
      have H' := Aside0.mk H
      clear H
      go_wp2
      go_meet
      case rel => exact ⟨_, (a0), (0), (by first | rfl | (simp; done) | (simp [*]; done)), (by first | rfl | (simp; done) | (simp [*]; done)), H', ⟨by first | omega | exact Nat.le_refl _⟩, by repeat (first | exact Drawn0.refl _ | apply Drawn0.step)⟩
  case rest =>
    clear HC2
    try clear p2
    try clear c3
    try clear c3b0
    obtain ⟨kq, x0_1, x2_1, rfl, rfl, HA, HJ1, ⟨mc1, rfl⟩⟩ := hcut
    cases kq with
    | zero => exact absurd HA.out (by simp [bits_Len64.j0])
    | succ kj1 =>
      have H := HA.out
      clear HA
      simp only [bits_Len64.j0] at H
      by_cases c4 : x0_1 ≥ 65536
      · rw [if_pos c4] at H
        have c4b0 : decide (65536 ≤ x0_1) = true := decide_eq_true c4
        clear c4
        by_cases c5 : (x0_1 / 65536) ≥ 256
        · rw [if_pos c5] at H
          have c5b0 : decide (256 ≤ (x0_1 / 65536)) = true := decide_eq_true c5
          clear c5
          obtain ⟨ji6, hji6⟩ : ∃ j_ : Int, (((x0_1 / 65536) / 256) % 256) = j_ := ⟨_, rfl⟩
          replace H : (if 0 ≤ (ji6) then (if (ji6) < 256 then (some (wrap64 ((wrap64 ((wrap64 (x2_1 + 16)) + 8)) + (wrap64 (bt (⟨#[0, 1, 2, 2, 3, 3, 3, 3, 4, 4, 4, 4, 4, 4, 4, 4, 5, 5, 5, 5, 5, 5, 5, 5, 5, 5, 5, 5, 5, 5, 5, 5, 6, 6, 6, 6, 6, 6, 6, 6, 6, 6, 6, 6, 6, 6, 6, 6, 6, 6, 6, 6, 6, 6, 6, 6, 6, 6, 6, 6, 6, 6, 6, 6, 7, 7, 7, 7, 7, 7, 7, 7, 7, 7, 7, 7, 7, 7, 7, 7, 7, 7, 7, 7, 7, 7, 7, 7, 7, 7, 7, 7, 7, 7, 7, 7, 7, 7, 7, 7, 7, 7, 7, 7, 7, 7, 7, 7, 7, 7, 7, 7, 7, 7, 7, 7, 7, 7, 7, 7, 7, 7, 7, 7, 7, 7, 7, 7, 8, 8, 8, 8, 8, 8, 8, 8, 8, 8, 8, 8, 8, 8, 8, 8, 8, 8, 8, 8, 8, 8, 8, 8, 8, 8, 8, 8, 8, 8, 8, 8, 8, 8, 8, 8, 8, 8, 8, 8, 8, 8, 8, 8, 8, 8, 8, 8, 8, 8, 8, 8, 8, 8, 8, 8, 8, 8, 8, 8, 8, 8, 8, 8, 8, 8, 8, 8, 8, 8, 8, 8, 8, 8, 8, 8, 8, 8, 8, 8, 8, 8, 8, 8, 8, 8, 8, 8, 8, 8, 8, 8, 8, 8, 8, 8, 8, 8, 8, 8, 8, 8, 8, 8, 8, 8, 8, 8, 8, 8, 8, 8, 8, 8, 8, 8, 8, 8, 8, 8, 8, 8, 8, 8, 8, 8, 8, 8]⟩ : ByteArray) (ji6)))))) else (none)) else (none)) = some r := by first | (rw [hji6] at H; exact H) | (simp only [hji6] at H ⊢; exact H)
          by_cases c7 : 0 ≤ (ji6)
          · rw [if_pos c7] at H
            have c7b0 : decide (0 ≤ (ji6)) = true := decide_eq_true c7
            clear c7
            by_cases c8 : (ji6) < 256
            · rw [if_pos c8] at H
              have c8b0 : decide ((ji6) < 256) = true := decide_eq_true c8
              clear c8
              obtain rfl := Option.some.inj H
              have p9 : 0 ≤ ((ji6) : Int) := of_decide_eq_true (by first | (with_reducible assumption) | assumption)
              have q9 : (ji6) < (256 : Int) := of_decide_eq_true (by first | (with_reducible assumption) | assumption)
              have hx9 := bt_at (⟨#[0, 1, 2, 2, 3, 3, 3, 3, 4, 4, 4, 4, 4, 4, 4, 4, 5, 5, 5, 5, 5, 5, 5, 5, 5, 5, 5, 5, 5, 5, 5, 5, 6, 6, 6, 6, 6, 6, 6, 6, 6, 6, 6, 6, 6, 6, 6, 6, 6, 6, 6, 6, 6, 6, 6, 6, 6, 6, 6, 6, 6, 6, 6, 6, 7, 7, 7, 7, 7, 7, 7, 7, 7, 7, 7, 7, 7, 7, 7, 7, 7, 7, 7, 7, 7, 7, 7, 7, 7, 7, 7, 7, 7, 7, 7, 7, 7, 7, 7, 7, 7, 7, 7, 7, 7, 7, 7, 7, 7, 7, 7, 7, 7, 7, 7, 7, 7, 7, 7, 7, 7, 7, 7, 7, 7, 7, 7, 7, 8, 8, 8, 8, 8, 8, 8, 8, 8, 8, 8, 8, 8, 8, 8, 8, 8, 8, 8, 8, 8, 8, 8, 8, 8, 8, 8, 8, 8, 8, 8, 8, 8, 8, 8, 8, 8, 8, 8, 8, 8, 8, 8, 8, 8, 8, 8, 8, 8, 8, 8, 8, 8, 8, 8, 8, 8, 8, 8, 8, 8, 8, 8, 8, 8, 8, 8, 8, 8, 8, 8, 8, 8, 8, 8, 8, 8, 8, 8, 8, 8, 8, 8, 8, 8, 8, 8, 8, 8, 8, 8, 8, 8, 8, 8, 8, 8, 8, 8, 8, 8, 8, 8, 8, 8, 8, 8, 8, 8, 8, 8, 8, 8, 8, 8, 8, 8, 8, 8, 8, 8, 8, 8, 8, 8, 8, 8, 8]⟩ : ByteArray) (ji6)
              replace p9 := eq_true p9
              replace q9 := eq_true q9
              go_wp2
              go_ret
              exact ⟨by first | rfl | (simp; done) | (simp only [← hji6] <;> (first | rfl | simp)) | (simp [*]; done), by repeat (first | exact Drawn0.refl _ | apply Drawn0.step)⟩
            · rw [if_neg c8] at H
              exact absurd H (by simp)
          · rw [if_neg c7] at H
            exact absurd H (by simp)
        · rw [if_neg c5] at H
          have c5b0 : decide (256 ≤ (x0_1 / 65536)) = false := decide_eq_false c5
          clear c5
          obtain ⟨ji10, hji10⟩ : ∃ j_ : Int, ((x0_1 / 65536) % 256) = j_ := ⟨_, rfl⟩
          replace H : (if 0 ≤ (ji10) then (if (ji10) < 256 then (some (wrap64 ((wrap64 (x2_1 + 16)) + (wrap64 (bt (⟨#[0, 1, 2, 2, 3, 3, 3, 3, 4, 4, 4, 4, 4, 4, 4, 4, 5, 5, 5, 5, 5, 5, 5, 5, 5, 5, 5, 5, 5, 5, 5, 5, 6, 6, 6, 6, 6, 6, 6, 6, 6, 6, 6, 6, 6, 6, 6, 6, 6, 6, 6, 6, 6, 6, 6, 6, 6, 6, 6, 6, 6, 6, 6, 6, 7, 7, 7, 7, 7, 7, 7, 7, 7, 7, 7, 7, 7, 7, 7, 7, 7, 7, 7, 7, 7, 7, 7, 7, 7, 7, 7, 7, 7, 7, 7, 7, 7, 7, 7, 7, 7, 7, 7, 7, 7, 7, 7, 7, 7, 7, 7, 7, 7, 7, 7, 7, 7, 7, 7, 7, 7, 7, 7, 7, 7, 7, 7, 7, 8, 8, 8, 8, 8, 8, 8, 8, 8, 8, 8, 8, 8, 8, 8, 8, 8, 8, 8, 8, 8, 8, 8, 8, 8, 8, 8, 8, 8, 8, 8, 8, 8, 8, 8, 8, 8, 8, 8, 8, 8, 8, 8, 8, 8, 8, 8, 8, 8, 8, 8, 8, 8, 8, 8, 8, 8, 8, 8, 8, 8, 8, 8, 8, 8, 8, 8, 8, 8, 8, 8, 8, 8, 8, 8, 8, 8, 8, 8, 8, 8, 8, 8, 8, 8, 8, 8, 8, 8, 8, 8, 8, 8, 8, 8, 8, 8, 8, 8, 8, 8, 8, 8, 8, 8, 8, 8, 8, 8, 8, 8, 8, 8, 8, 8, 8, 8, 8, 8, 8, 8, 8, 8, 8, 8, 8, 8, 8]⟩ : ByteArray) (ji10)))))) else (none)) else (none)) = some r := by first | (rw [hji10] at H; exact H) | (simp only [hji10] at H ⊢; exact H)
          by_cases c11 : 0 ≤ (ji10)
          · rw [if_pos c11] at H
            have c11b0 : decide (0 ≤ (ji10)) = true := decide_eq_true c11
            clear c11
            by_cases c12 : (ji10) < 256
            · rw [if_pos c12] at H
              have c12b0 : decide ((ji10) < 256) = true := decide_eq_true c12
              clear c12
              obtain rfl := Option.some.inj H
              have p13 : 0 ≤ ((ji10) : Int) := of_decide_eq_true (by first | (with_reducible assumption) | assumption)
              have q13 : (ji10) < (256 : Int) := of_decide_eq_true (by first | (with_reducible assumption) | assumption)
              have hx13 := bt_at (⟨#[0, 1, 2, 2, 3, 3, 3, 3, 4, 4, 4, 4, 4, 4, 4, 4, 5, 5, 5, 5, 5, 5, 5, 5, 5, 5, 5, 5, 5, 5, 5, 5, 6, 6, 6, 6, 6, 6, 6, 6, 6, 6, 6, 6, 6, 6, 6, 6, 6, 6, 6, 6, 6, 6, 6, 6, 6, 6, 6, 6, 6, 6, 6, 6, 7, 7, 7, 7, 7, 7, 7, 7, 7, 7, 7, 7, 7, 7, 7, 7, 7, 7, 7, 7, 7, 7, 7, 7, 7, 7, 7, 7, 7, 7, 7, 7, 7, 7, 7, 7, 7, 7, 7, 7, 7, 7, 7, 7, 7, 7, 7, 7, 7, 7, 7, 7, 7, 7, 7, 7, 7, 7, 7, 7, 7, 7, 7, 7, 8, 8, 8, 8, 8, 8, 8, 8, 8, 8, 8, 8, 8, 8, 8, 8, 8, 8, 8, 8, 8, 8, 8, 8, 8, 8, 8, 8, 8, 8, 8, 8, 8, 8, 8, 8, 8, 8, 8, 8, 8, 8, 8, 8, 8, 8, 8, 8, 8, 8, 8, 8, 8, 8, 8, 8, 8, 8, 8, 8, 8, 8, 8, 8, 8, 8, 8, 8, 8, 8, 8, 8, 8, 8, 8, 8, 8, 8, 8, 8, 8, 8, 8, 8, 8, 8, 8, 8, 8, 8, 8, 8, 8, 8, 8, 8, 8, 8, 8, 8, 8, 8, 8, 8, 8, 8, 8, 8, 8, 8, 8, 8, 8, 8, 8, 8, 8, 8, 8, 8, 8, 8, 8, 8, 8, 8, 8, 8]⟩ : ByteArray) (ji10)
              replace p13 := eq_true p13
              replace q13 := eq_true q13
              go_wp2
              go_ret
              exact ⟨by first | rfl | (simp; done) | (simp only [← hji10] <;> (first | rfl | simp)) | (simp [*]; done), by repeat (first | exact Drawn0.refl _ | apply Drawn0.step)⟩
            · rw [if_neg c12] at H
              exact absurd H (by simp)
          · rw [if_neg c11] at H
            exact absurd H (by simp)
      · rw [if_neg c4] at H
        have c4b0 : decide (65536 ≤ x0_1) = false := decide_eq_false c4
        clear c4
        by_cases c14 : x0_1 ≥ 256
        · rw [if_pos c14] at H
          have c14b0 : decide (256 ≤ x0_1) = true := decide_eq_true c14
          clear c14
          obtain ⟨ji15, hji15⟩ : ∃ j_ : Int, ((x0_1 / 256) % 256) = j_ := ⟨_, rfl⟩
          replace H : (if 0 ≤ (ji15) then (if (ji15) < 256 then (some (wrap64 ((wrap64 (x2_1 + 8)) + (wrap64 (bt (⟨#[0, 1, 2, 2, 3, 3, 3, 3, 4, 4, 4, 4, 4, 4, 4, 4, 5, 5, 5, 5, 5, 5, 5, 5, 5, 5, 5, 5, 5, 5, 5, 5, 6, 6, 6, 6, 6, 6, 6, 6, 6, 6, 6, 6, 6, 6, 6, 6, 6, 6, 6, 6, 6, 6, 6, 6, 6, 6, 6, 6, 6, 6, 6, 6, 7, 7, 7, 7, 7, 7, 7, 7, 7, 7, 7, 7, 7, 7, 7, 7, 7, 7, 7, 7, 7, 7, 7, 7, 7, 7, 7, 7, 7, 7, 7, 7, 7, 7, 7, 7, 7, 7, 7, 7, 7, 7, 7, 7, 7, 7, 7, 7, 7, 7, 7, 7, 7, 7, 7, 7, 7, 7, 7, 7, 7, 7, 7, 7, 8, 8, 8, 8, 8, 8, 8, 8, 8, 8, 8, 8, 8, 8, 8, 8, 8, 8, 8, 8, 8, 8, 8, 8, 8, 8, 8, 8, 8, 8, 8, 8, 8, 8, 8, 8, 8, 8, 8, 8, 8, 8, 8, 8, 8, 8, 8, 8, 8, 8, 8, 8, 8, 8, 8, 8, 8, 8, 8, 8, 8, 8, 8, 8, 8, 8, 8, 8, 8, 8, 8, 8, 8, 8, 8, 8, 8, 8, 8, 8, 8, 8, 8, 8, 8, 8, 8, 8, 8, 8, 8, 8, 8, 8, 8, 8, 8, 8, 8, 8, 8, 8, 8, 8, 8, 8, 8, 8, 8, 8, 8, 8, 8, 8, 8, 8, 8, 8, 8, 8, 8, 8, 8, 8, 8, 8, 8, 8]⟩ : ByteArray) (ji15)))))) else (none)) else (none)) = some r := by first | (rw [hji15] at H; exact H) | (simp only [hji15] at H ⊢; exact H)
          by_cases c16 : 0 ≤ (ji15)
          · rw [if_pos c16] at H
            have c16b0 : decide (0 ≤ (ji15)) = true := decide_eq_true c16
            clear c16
            by_cases c17 : (ji15) < 256
            · rw [if_pos c17] at H
              have c17b0 : decide ((ji15) < 256) = true := decide_eq_true c17
              clear c17
              obtain rfl := Option.some.inj H
              have p18 : 0 ≤ ((ji15) : Int) := of_decide_eq_true (by first | (with_reducible assumption) | assumption)
              have q18 : (ji15) < (256 : Int) := of_decide_eq_true (by first | (with_reducible assumption) | assumption)
              have hx18 := bt_at (⟨#[0, 1, 2, 2, 3, 3, 3, 3, 4, 4, 4, 4, 4, 4, 4, 4, 5, 5, 5, 5, 5, 5, 5, 5, 5, 5, 5, 5, 5, 5, 5, 5, 6, 6, 6, 6, 6, 6, 6, 6, 6, 6, 6, 6, 6, 6, 6, 6, 6, 6, 6, 6, 6, 6, 6, 6, 6, 6, 6, 6, 6, 6, 6, 6, 7, 7, 7, 7, 7, 7, 7, 7, 7, 7, 7, 7, 7, 7, 7, 7, 7, 7, 7, 7, 7, 7, 7, 7, 7, 7, 7, 7, 7, 7, 7, 7, 7, 7, 7, 7, 7, 7, 7, 7, 7, 7, 7, 7, 7, 7, 7, 7, 7, 7, 7, 7, 7, 7, 7, 7, 7, 7, 7, 7, 7, 7, 7, 7, 8, 8, 8, 8, 8, 8, 8, 8, 8, 8, 8, 8, 8, 8, 8, 8, 8, 8, 8, 8, 8, 8, 8, 8, 8, 8, 8, 8, 8, 8, 8, 8, 8, 8, 8, 8, 8, 8, 8, 8, 8, 8, 8, 8, 8, 8, 8, 8, 8, 8, 8, 8, 8, 8, 8, 8, 8, 8, 8, 8, 8, 8, 8, 8, 8, 8, 8, 8, 8, 8, 8, 8, 8, 8, 8, 8, 8, 8, 8, 8, 8, 8, 8, 8, 8, 8, 8, 8, 8, 8, 8, 8, 8, 8, 8, 8, 8, 8, 8, 8, 8, 8, 8, 8, 8, 8, 8, 8, 8, 8, 8, 8, 8, 8, 8, 8, 8, 8, 8, 8, 8, 8, 8, 8, 8, 8, 8, 8]⟩ : ByteArray) (ji15)
              replace p18 := eq_true p18
              replace q18 := eq_true q18
              go_wp2
              go_ret
              exact ⟨by first | rfl | (simp; done) | (simp only [← hji15] <;> (first | rfl | simp)) | (simp [*]; done), by repeat (first | exact Drawn0.refl _ | apply Drawn0.step)⟩
            · rw [if_neg c17] at H
              exact absurd H (by simp)
          · rw [if_neg c16] at H
            exact absurd H (by simp)
        · rw [if_neg c14] at H
          have c14b0 : decide (256 ≤ x0_1) = false := decide_eq_false c14
          clear c14
          obtain ⟨ji19, hji19⟩ : ∃ j_ : Int, ((x0_1) % 256) = j_ := ⟨_, rfl⟩
          replace H : (if 0 ≤ (ji19) then (if (ji19) < 256 then (some (wrap64 (x2_1 + (wrap64 (bt (⟨#[0, 1, 2, 2, 3, 3, 3, 3, 4, 4, 4, 4, 4, 4, 4, 4, 5, 5, 5, 5, 5, 5, 5, 5, 5, 5, 5, 5, 5, 5, 5, 5, 6, 6, 6, 6, 6, 6, 6, 6, 6, 6, 6, 6, 6, 6, 6, 6, 6, 6, 6, 6, 6, 6, 6, 6, 6, 6, 6, 6, 6, 6, 6, 6, 7, 7, 7, 7, 7, 7, 7, 7, 7, 7, 7, 7, 7, 7, 7, 7, 7, 7, 7, 7, 7, 7, 7, 7, 7, 7, 7, 7, 7, 7, 7, 7, 7, 7, 7, 7, 7, 7, 7, 7, 7, 7, 7, 7, 7, 7, 7, 7, 7, 7, 7, 7, 7, 7, 7, 7, 7, 7, 7, 7, 7, 7, 7, 7, 8, 8, 8, 8, 8, 8, 8, 8, 8, 8, 8, 8, 8, 8, 8, 8, 8, 8, 8, 8, 8, 8, 8, 8, 8, 8, 8, 8, 8, 8, 8, 8, 8, 8, 8, 8, 8, 8, 8, 8, 8, 8, 8, 8, 8, 8, 8, 8, 8, 8, 8, 8, 8, 8, 8, 8, 8, 8, 8, 8, 8, 8, 8, 8, 8, 8, 8, 8, 8, 8, 8, 8, 8, 8, 8, 8, 8, 8, 8, 8, 8, 8, 8, 8, 8, 8, 8, 8, 8, 8, 8, 8, 8, 8, 8, 8, 8, 8, 8, 8, 8, 8, 8, 8, 8, 8, 8, 8, 8, 8, 8, 8, 8, 8, 8, 8, 8, 8, 8, 8, 8, 8, 8, 8, 8, 8, 8, 8]⟩ : ByteArray) (ji19)))))) else (none)) else (none)) = some r := by first | (rw [hji19] at H; exact H) | (simp only [hji19] at H ⊢; exact H)
          by_cases c20 : 0 ≤ (ji19)
          · rw [if_pos c20] at H
            have c20b0 : decide (0 ≤ (ji19)) = true := decide_eq_true c20
            clear c20
            by_cases c21 : (ji19) < 256
            · rw [if_pos c21] at H
              have c21b0 : decide ((ji19) < 256) = true := decide_eq_true c21
              clear c21
              obtain rfl := Option.some.inj H
              have p22 : 0 ≤ ((ji19) : Int) := of_decide_eq_true (by first | (with_reducible assumption) | assumption)
              have q22 : (ji19) < (256 : Int) := of_decide_eq_true (by first | (with_reducible assumption) | assumption)
              have hx22 := bt_at (⟨#[0, 1, 2, 2, 3, 3, 3, 3, 4, 4, 4, 4, 4, 4, 4, 4, 5, 5, 5, 5, 5, 5, 5, 5, 5, 5, 5, 5, 5, 5, 5, 5, 6, 6, 6, 6, 6, 6, 6, 6, 6, 6, 6, 6, 6, 6, 6, 6, 6, 6, 6, 6, 6, 6, 6, 6, 6, 6, 6, 6, 6, 6, 6, 6, 7, 7, 7, 7, 7, 7, 7, 7, 7, 7, 7, 7, 7, 7, 7, 7, 7, 7, 7, 7, 7, 7, 7, 7, 7, 7, 7, 7, 7, 7, 7, 7, 7, 7, 7, 7, 7, 7, 7, 7, 7, 7, 7, 7, 7, 7, 7, 7, 7, 7, 7, 7, 7, 7, 7, 7, 7, 7, 7, 7, 7, 7, 7, 7, 8, 8, 8, 8, 8, 8, 8, 8, 8, 8, 8, 8, 8, 8, 8, 8, 8, 8, 8, 8, 8, 8, 8, 8, 8, 8, 8, 8, 8, 8, 8, 8, 8, 8, 8, 8, 8, 8, 8, 8, 8, 8, 8, 8, 8, 8, 8, 8, 8, 8, 8, 8, 8, 8, 8, 8, 8, 8, 8, 8, 8, 8, 8, 8, 8, 8, 8, 8, 8, 8, 8, 8, 8, 8, 8, 8, 8, 8, 8, 8, 8, 8, 8, 8, 8, 8, 8, 8, 8, 8, 8, 8, 8, 8, 8, 8, 8, 8, 8, 8, 8, 8, 8, 8, 8, 8, 8, 8, 8, 8, 8, 8, 8, 8, 8, 8, 8, 8, 8, 8, 8, 8, 8, 8, 8, 8, 8, 8]⟩ : ByteArray) (ji19)
              replace p22 := eq_true p22
              replace q22 := eq_true q22
              go_wp2
              go_ret
              exact ⟨by first | rfl | (simp; done) | (simp only [← hji19] <;> (first | rfl | simp)) | (simp [*]; done), by repeat (first | exact Drawn0.refl _ | apply Drawn0.step)⟩
            · rw [if_neg c21] at H
              exact absurd H (by simp)
          · rw [if_neg c20] at H
            exact absurd H (by simp)

end Go.Proofs.Ytmlbppfcpejlpaa.X

/- What the least, the greatest number and a number's count of bits are. No conditions. -/
namespace Go.Proofs.Ytmlbppfcpejlpaa.Q06
open Go Go.RowKit Go.Proofs.YtmlbppfcpejlpaaW.PrintWords Go.Proofs.YtmlbppfcpejlpaaW.PrintMore Go.Proofs.Ytmlbppfcpejlpaa.S Go.Proofs.Ytmlbppfcpejlpaa.B Go.Proofs.Ytmlbppfcpejlpaa.X
set_option linter.unusedVariables false
set_option linter.unusedSimpArgs false

def minL (l : List Int) : Int := (l.drop 1).foldl mn (rd l 0)
def maxL (l : List Int) : Int := (l.drop 1).foldl mx (rd l 0)
theorem succ64 {i : Nat} (h : i < 10000000000000) : wrap64 ((i : Int) + 1) = ((i + 1 : Nat) : Int) := by rw [wrap64_id] <;> omega
theorem min_l0 {l : List Int} (hl : l.length < 1000000000000) (d : Nat) : ∀ (i k : Nat) (m : Int), i + d = l.length → d < k → slices_Min_uint64_uint64.l0 k l m (i : Int) = some ((l.drop i).foldl mn m) := by
  induction d with
  | zero =>
    intro i k m hd hk
    obtain ⟨k, rfl⟩ : ∃ q, k = q + 1 := ⟨k - 1, by omega⟩
    simp only [slices_Min_uint64_uint64.l0]
    rw [if_neg (by omega), List.drop_eq_nil_of_le (by omega)]; rfl
  | succ d ih =>
    intro i k m hd hk
    obtain ⟨k, rfl⟩ : ∃ q, k = q + 1 := ⟨k - 1, by omega⟩
    have hlt : i < l.length := by omega
    simp only [slices_Min_uint64_uint64.l0]
    rw [if_pos (by omega), if_pos (by omega), rd_get hlt, succ64 (by omega), ih (i + 1) k _ (by omega) (by omega), List.drop_eq_getElem_cons hlt]
    rfl
theorem max_l0 {l : List Int} (hl : l.length < 1000000000000) (d : Nat) : ∀ (i k : Nat) (m : Int), i + d = l.length → d < k → slices_Max_uint64_uint64.l0 k l m (i : Int) = some ((l.drop i).foldl mx m) := by
  induction d with
  | zero =>
    intro i k m hd hk
    obtain ⟨k, rfl⟩ : ∃ q, k = q + 1 := ⟨k - 1, by omega⟩
    simp only [slices_Max_uint64_uint64.l0]
    rw [if_neg (by omega), List.drop_eq_nil_of_le (by omega)]; rfl
  | succ d ih =>
    intro i k m hd hk
    obtain ⟨k, rfl⟩ : ∃ q, k = q + 1 := ⟨k - 1, by omega⟩
    have hlt : i < l.length := by omega
    simp only [slices_Max_uint64_uint64.l0]
    rw [if_pos (by omega), if_pos (by omega), rd_get hlt, succ64 (by omega), ih (i + 1) k _ (by omega) (by omega), List.drop_eq_getElem_cons hlt]
    rfl
theorem min_spec {k : Nat} {l : List Int} (h0 : 0 < l.length) (hl : l.length < 1000000000000) (hk : l.length < k) : slices_Min_uint64_uint64.f k l = some (minL l) := by
  unfold slices_Min_uint64_uint64.f
  rw [if_neg (by omega), if_pos (by omega)]
  exact min_l0 hl (l.length - 1) 1 k _ (by omega) (by omega)
theorem max_spec {k : Nat} {l : List Int} (h0 : 0 < l.length) (hl : l.length < 1000000000000) (hk : l.length < k) : slices_Max_uint64_uint64.f k l = some (maxL l) := by
  unfold slices_Max_uint64_uint64.f
  rw [if_neg (by omega), if_pos (by omega)]
  exact max_l0 hl (l.length - 1) 1 k _ (by omega) (by omega)
theorem mn_fold (l : List Int) : ∀ m : Int, l.foldl mn m ≤ m ∧ (∀ x ∈ l, l.foldl mn m ≤ x) ∧ (l.foldl mn m = m ∨ l.foldl mn m ∈ l) := by
  induction l with
  | nil => intro m; simp
  | cons a l ih =>
    intro m
    obtain ⟨h1, h2, h3⟩ := ih (mn m a)
    have hmn : mn m a ≤ m ∧ mn m a ≤ a ∧ (mn m a = m ∨ mn m a = a) := by unfold mn; split <;> omega
    rw [List.foldl_cons]
    refine ⟨by omega, ?_, ?_⟩
    · intro x hx
      rcases List.mem_cons.1 hx with rfl | hx
      · omega
      · exact h2 x hx
    · rcases h3 with h3 | h3
      · rcases hmn.2.2 with h | h
        · exact .inl (h3.trans h)
        · exact .inr (by rw [h3, h]; exact List.mem_cons_self)
      · exact .inr (List.mem_cons_of_mem _ h3)
theorem mx_fold (l : List Int) : ∀ m : Int, m ≤ l.foldl mx m ∧ (∀ x ∈ l, x ≤ l.foldl mx m) ∧ (l.foldl mx m = m ∨ l.foldl mx m ∈ l) := by
  induction l with
  | nil => intro m; simp
  | cons a l ih =>
    intro m
    obtain ⟨h1, h2, h3⟩ := ih (mx m a)
    have hmx : m ≤ mx m a ∧ a ≤ mx m a ∧ (mx m a = m ∨ mx m a = a) := by unfold mx; split <;> omega
    rw [List.foldl_cons]
    refine ⟨by omega, ?_, ?_⟩
    · intro x hx
      rcases List.mem_cons.1 hx with rfl | hx
      · omega
      · exact h2 x hx
    · rcases h3 with h3 | h3
      · rcases hmx.2.2 with h | h
        · exact .inl (h3.trans h)
        · exact .inr (by rw [h3, h]; exact List.mem_cons_self)
      · exact .inr (List.mem_cons_of_mem _ h3)
theorem min_facts {l : List Int} (h0 : 0 < l.length) : minL l ∈ l ∧ ∀ x ∈ l, minL l ≤ x := by
  obtain ⟨a, t, rfl⟩ : ∃ a t, l = a :: t := by cases l with | nil => simp at h0 | cons a t => exact ⟨a, t, rfl⟩
  obtain ⟨h1, h2, h3⟩ := mn_fold t a
  refine ⟨?_, ?_⟩
  · rcases h3 with h3 | h3
    · show t.foldl mn a ∈ _; rw [h3]; exact List.mem_cons_self
    · exact List.mem_cons_of_mem _ h3
  · intro x hx
    rcases List.mem_cons.1 hx with rfl | hx
    · exact h1
    · exact h2 x hx
theorem max_facts {l : List Int} (h0 : 0 < l.length) : maxL l ∈ l ∧ ∀ x ∈ l, x ≤ maxL l := by
  obtain ⟨a, t, rfl⟩ : ∃ a t, l = a :: t := by cases l with | nil => simp at h0 | cons a t => exact ⟨a, t, rfl⟩
  obtain ⟨h1, h2, h3⟩ := mx_fold t a
  refine ⟨?_, ?_⟩
  · rcases h3 with h3 | h3
    · show t.foldl mx a ∈ _; rw [h3]; exact List.mem_cons_self
    · exact List.mem_cons_of_mem _ h3
  · intro x hx
    rcases List.mem_cons.1 hx with rfl | hx
    · exact h1
    · exact h2 x hx

/-- How many bits a number has. -/
def wd (x : Int) : Nat := if x = 0 then 0 else x.toNat.log2 + 1
theorem wd_facts {x : Int} (h0 : 0 ≤ x) : x < 2 ^ wd x ∧ (x ≠ 0 → 2 ^ (wd x - 1) ≤ x) := by
  unfold wd
  by_cases h : x = 0
  · subst h; simp
  · rw [if_neg h]
    obtain ⟨n, rfl⟩ := Int.eq_ofNat_of_zero_le h0
    have hn : n ≠ 0 := by omega
    rw [Int.toNat_natCast]
    refine ⟨?_, fun _ => ?_⟩
    · have := @Nat.lt_log2_self n; exact_mod_cast this
    · have := Nat.log2_self_le hn; rw [Nat.add_sub_cancel]; exact_mod_cast this
theorem wd_uniq {x : Int} {w : Nat} (h0 : 0 ≤ x) (h1 : x < 2 ^ w) (h2 : w ≠ 0 → 2 ^ (w - 1) ≤ x) : wd x = w := by
  obtain ⟨k1, k2⟩ := wd_facts h0
  rcases Nat.lt_trichotomy (wd x) w with h | h | h
  · have h3 := h2 (by omega)
    have : (2 : Int) ^ wd x ≤ 2 ^ (w - 1) := by exact_mod_cast Nat.pow_le_pow_right (by decide) (show wd x ≤ w - 1 by omega)
    omega
  · exact h
  · have hx : x ≠ 0 := by rintro rfl; simp [wd] at h
    have h3 := k2 hx
    have : (2 : Int) ^ w ≤ 2 ^ (wd x - 1) := by exact_mod_cast Nat.pow_le_pow_right (by decide) (show w ≤ wd x - 1 by omega)
    omega
theorem wd_le {x : Int} {w : Nat} (h0 : 0 ≤ x) (h1 : x < 2 ^ w) : wd x ≤ w := by
  obtain ⟨k1, k2⟩ := wd_facts h0
  rcases Nat.lt_or_ge w (wd x) with h | h
  · have hx : x ≠ 0 := by rintro rfl; simp [wd] at h
    have h3 := k2 hx
    have : (2 : Int) ^ w ≤ 2 ^ (wd x - 1) := by exact_mod_cast Nat.pow_le_pow_right (by decide) (show w ≤ wd x - 1 by omega)
    omega
  · exact h
theorem wd_shift {x : Int} (s : Nat) (h0 : 2 ^ s ≤ x) : wd x = wd (x / 2 ^ s) + s := by
  have hp : (0 : Int) < 2 ^ s := Int.pow_pos (by decide)
  have hq0 : 0 < x / 2 ^ s := Int.le_ediv_of_mul_le hp (by omega)
  obtain ⟨k1, k2⟩ := wd_facts (x := x / 2 ^ s) (by omega)
  have k2 := k2 (by omega)
  have hw : wd (x / 2 ^ s) ≠ 0 := by intro h; rw [h] at k1; simp at k1; omega
  have hd := Int.emod_add_mul_ediv x (2 ^ s)
  have hm := Int.emod_lt_of_pos x hp
  have hm0 := Int.emod_nonneg x (show (2 : Int) ^ s ≠ 0 by omega)
  refine wd_uniq (by omega) ?_ (fun _ => ?_)
  · rw [Int.pow_add, Int.mul_comm]
    have : 2 ^ s * (x / 2 ^ s + 1) ≤ 2 ^ s * 2 ^ wd (x / 2 ^ s) := Int.mul_le_mul_of_nonneg_left (by omega) (by omega)
    rw [Int.mul_add] at this
    omega
  · rw [show wd (x / 2 ^ s) + s - 1 = (wd (x / 2 ^ s) - 1) + s by omega, Int.pow_add, Int.mul_comm]
    have : 2 ^ s * 2 ^ (wd (x / 2 ^ s) - 1) ≤ 2 ^ s * (x / 2 ^ s) := Int.mul_le_mul_of_nonneg_left k2 (by omega)
    omega
theorem tab_ok : ∃ T : ByteArray, (∀ y : Fin 256, bt T ((y.val : Nat) : Int) = (wd ((y.val : Nat) : Int) : Int)) ∧ ∀ (k : Nat) (x0 x2 : Int), bits_Len64.j0 (k + 1) x0 x2 =
    if x0 ≥ 65536 then (if (x0 / 65536) ≥ 256 then (if 0 ≤ (((x0 / 65536) / 256) % 256) then (if (((x0 / 65536) / 256) % 256) < 256 then (some (wrap64 ((wrap64 ((wrap64 (x2 + 16)) + 8)) + (wrap64 (bt T (((x0 / 65536) / 256) % 256)))))) else (none)) else (none)) else (if 0 ≤ ((x0 / 65536) % 256) then (if ((x0 / 65536) % 256) < 256 then (some (wrap64 ((wrap64 (x2 + 16)) + (wrap64 (bt T ((x0 / 65536) % 256)))))) else (none)) else (none))) else (if x0 ≥ 256 then (if 0 ≤ ((x0 / 256) % 256) then (if ((x0 / 256) % 256) < 256 then (some (wrap64 ((wrap64 (x2 + 8)) + (wrap64 (bt T ((x0 / 256) % 256)))))) else (none)) else (none)) else (if 0 ≤ ((x0) % 256) then (if ((x0) % 256) < 256 then (some (wrap64 (x2 + (wrap64 (bt T ((x0) % 256)))))) else (none)) else (none))) := by
  refine ⟨_, ?_, fun _ _ _ => rfl⟩
  decide +kernel
theorem len64_spec {k : Nat} {x : Int} (h0 : 0 ≤ x) (h1 : x < 18446744073709551616) (hk : 0 < k) : bits_Len64.f k x = some (wd x : Int) := by
  obtain ⟨k, rfl⟩ : ∃ q, k = q + 1 := ⟨k - 1, by omega⟩
  obtain ⟨T, hT, hj⟩ := tab_ok
  have tab : ∀ y : Int, 0 ≤ y → y < 256 → bt T y = (wd y : Int) := fun y y0 y1 => by
    have := hT ⟨y.toNat, by omega⟩
    simpa [Int.toNat_of_nonneg y0] using this
  have w8 : ∀ y : Int, 0 ≤ y → y < 256 → wd y ≤ 8 := fun y y0 y1 => wd_le y0 (by omega)
  have key : ∀ (y c : Int), 0 ≤ y → y < 4294967296 → 0 ≤ c → c ≤ 32 → bits_Len64.j0 (k + 1) y c = some (c + (wd y : Int)) := by
    intro y c y0 y1 c0 c1
    rw [hj]
    by_cases ha : y ≥ 65536
    · rw [if_pos ha]
      have s1 := wd_shift (x := y) 16 (by omega)
      rw [show (2 : Int) ^ 16 = 65536 by decide] at s1
      by_cases hb : y / 65536 ≥ 256
      · have s2 := wd_shift (x := y / 65536) 8 (by omega)
        rw [show (2 : Int) ^ 8 = 256 by decide] at s2
        have := w8 (y / 65536 / 256) (by omega) (by omega)
        rw [if_pos hb, if_pos (by omega), if_pos (by omega), show y / 65536 / 256 % 256 = y / 65536 / 256 by omega, tab _ (by omega) (by omega)]
        simp only [wrap64_eq]
        congr 1
        omega
      · have := w8 (y / 65536) (by omega) (by omega)
        rw [if_neg hb, if_pos (by omega), if_pos (by omega), show y / 65536 % 256 = y / 65536 by omega, tab _ (by omega) (by omega)]
        simp only [wrap64_eq]
        congr 1
        omega
    · rw [if_neg ha]
      by_cases hb : y ≥ 256
      · have s2 := wd_shift (x := y) 8 (by omega)
        rw [show (2 : Int) ^ 8 = 256 by decide] at s2
        have := w8 (y / 256) (by omega) (by omega)
        rw [if_pos hb, if_pos (by omega), if_pos (by omega), show y / 256 % 256 = y / 256 by omega, tab _ (by omega) (by omega)]
        simp only [wrap64_eq]
        congr 1
        omega
      · have := w8 y (by omega) (by omega)
        rw [if_neg hb, if_pos (by omega), if_pos (by omega), show y % 256 = y by omega, tab _ (by omega) (by omega)]
        simp only [wrap64_eq]
        congr 1
        omega
  unfold bits_Len64.f
  by_cases ha : x ≥ 4294967296
  · have s1 := wd_shift (x := x) 32 (by omega)
    rw [show (2 : Int) ^ 32 = 4294967296 by decide] at s1
    rw [if_pos ha, key _ _ (by omega) (by omega) (by omega) (by omega)]
    congr 1
    omega
  · rw [if_neg ha, key _ _ h0 (by omega) (by omega) (by omega)]
    congr 1
    omega
end Go.Proofs.Ytmlbppfcpejlpaa.Q06

-- Printed by this session's own program (wip/xprint.py) over the translation; its external functions are hand-written. Lean checks it.
namespace Go.Proofs.Ytmlbppfcpejlpaa.X
open Go.RowKit Go.Proofs.YtmlbppfcpejlpaaW.PrintWords Go.Proofs.YtmlbppfcpejlpaaW.PrintLast Go.Proofs.YtmlbppfcpejlpaaW.PrintMore
attribute [local go_sem] max2_int min2_int max_two min_two max_three min_three max_four min_four   -- for this text's walks alone
set_option linter.unusedVariables false
set_option linter.unusedSimpArgs false

/-! ### rickref04_Put: function 31 -/
def rickref04_Put.l0 : Nat → List Int → Int → Int → Option (List Int)
  | 0, _, _, _ => none
  | k + 1, x0, x1, x7 => if x7 ≥ 0 then (if 0 ≤ x7 then (if x0.length < 140737488355328 then (rickref04_Put.l0 k (x0 ++ [(Go.bits .and .u64 (shr .u64 x1 x7) 1) % 256]) x1 (wrap64 (x7 - 1))) else (none)) else (none)) else (some x0)
def rickref04_Put.f (k : Nat) (l0 : List Int) (a1 : Int) (a2 : Int) : Option (List Int) := rickref04_Put.l0 k l0 a1 ((mn (mx a2 0) 64) - 1)
theorem rickref04_Put.mono_l : ∀ k, (∀ y0 y1 y2, LeO (rickref04_Put.l0 k y0 y1 y2) (rickref04_Put.l0 (k + 1) y0 y1 y2))
  | 0 => fun _ _ _ r h => by simp [rickref04_Put.l0] at h
  | k + 1 => by
    have ih0 := rickref04_Put.mono_l k
    · intro y0 y1 y2
      unfold rickref04_Put.l0
      repeat' first
      | (with_reducible exact ih0 _ _ _)
      | (with_reducible exact LeO.refl _)
      | (with_reducible exact LeO.none _)
      | (with_reducible refine LeO.ite ?_ ?_)
      | (with_reducible refine LeO.bind ?_ (fun _ => ?_))
      | exact ih0 _ _ _
      | exact LeO.none _
      | refine LeO.ite ?_ ?_
      | refine LeO.bind ?_ (fun _ => ?_)
theorem rickref04_Put.mono : ∀ a0 a1 a2 k, LeO (rickref04_Put.f k a0 a1 a2) (rickref04_Put.f (k + 1) a0 a1 a2) := by
  intro a0 a1 a2 k
  have ih0 := rickref04_Put.mono_l k
  unfold rickref04_Put.f
  repeat' first
      | (with_reducible exact ih0 _ _ _)
      | (with_reducible exact LeO.refl _)
      | (with_reducible exact LeO.none _)
      | (with_reducible refine LeO.ite ?_ ?_)
      | (with_reducible refine LeO.bind ?_ (fun _ => ?_))
      | exact ih0 _ _ _
      | exact LeO.none _
      | refine LeO.ite ?_ ?_
      | refine LeO.bind ?_ (fun _ => ?_)
set_option maxHeartbeats 8000000 in
set_option maxRecDepth 100000 in
theorem rickref04_Put.calls (k : Nat) (P0_ : Nat → Prop) (u9000_ : Value) (l0 : List Int) (a1 : Int) (a2 : Int) (r : List Int) (w0 w : World) (hB : Below w0.heap.size w0 w) (ho0 : Kd.R (Kd.int .u8) 5 w w0.heap.size P0_ u9000_ l0) (h : rickref04_Put.f k l0 a1 a2 = some r) :
    Calls Try.prog 31 #[u9000_, .int .u64 a1, .int .i64 a2] w fun e w' => ∃ v0_ : Value, e = .returned (v0_) ∧ Kd.R (Kd.int .u8) 5 w' w0.heap.size (fun k_ => (P0_ k_ ∨ w.heap.size ≤ k_)) v0_ r ∧ Below w0.heap.size w0 w' ∧ Kept w w' (fun k_ => P0_ k_) := by
  have HO0 := Aside0.mk (show Kd.R (Kd.int .u8) 5 w w0.heap.size (fun k_ => (P0_ k_ ∨ w.heap.size ≤ k_)) u9000_ l0 from Kd.R_mono ho0 (fun k_ hk => (.inl hk)))
  have HK := Aside0.mk (Kept.refl w (fun k_ => P0_ k_))
  have HW0 := Aside0.mk hB.size
  have HB := Aside0.mk hB
  clear hB
  have H : (rickref04_Put.l0 k l0 a1 ((mn (mx a2 0) 64) - 1)) = some r := h
  clear h
  obtain ⟨ji4, hji4⟩ : ∃ j_ : Int, (mx a2 0) = j_ := ⟨_, rfl⟩
  replace H : (rickref04_Put.l0 k l0 a1 ((mn (ji4) 64) - 1)) = some r := by first | (rw [hji4] at H; exact H) | (simp only [hji4] at H ⊢; exact H)
  (try (have hji4l : 0 ≤ ji4 := by (rw [← hji4]; unfold mx; (repeat' split) <;> omega)))
  (try (have hji4m : 0 ≤ ji4 := by omega))
  have hji4_ : (if a2 < 0 then 0 else a2) = ji4 := hji4
  obtain ⟨ji5, hji5⟩ : ∃ j_ : Int, (mn (ji4) 64) = j_ := ⟨_, rfl⟩
  replace H : (rickref04_Put.l0 k l0 a1 ((ji5) - 1)) = some r := by first | (rw [hji5] at H; exact H) | (simp only [hji5] at H ⊢; exact H)
  have hji5_ : (if 64 < (ji4) then 64 else (ji4)) = ji5 := hji5
  have H' := Aside0.mk H
  clear H
  go_enter Try.func31, Try.ntmps31
  go_wp2
  go_loopg [0, 7] k (fun kq v0 v7 w' => ∃ (x0_1 : List Int) (x7_1 : Int), v7 = .int .i64 x7_1 ∧ Aside0 (rickref04_Put.l0 kq x0_1 a1 x7_1 = some r) ∧ Aside0 (kq ≤ k) ∧ Aside0 (Kd.R (Kd.int .u8) 5 w' w0.heap.size (fun k_ => (P0_ k_ ∨ w.heap.size ≤ k_)) v0 x0_1) ∧ Aside0 (Kept w w' (fun k_ => P0_ k_)) ∧ Aside0 (Below w0.heap.size w0 w'))
  case atStart => exact ⟨(l0), ((ji5) - 1), (by first | rfl | (simp; done) | (simp only [← hji5] <;> (first | rfl | simp)) | (simp [*]; done)), H', ⟨Nat.le_refl _⟩, ⟨by (with_reducible repeat (first | apply Kd.R_alloc | apply Kd.R_drewN | apply Kd.R_drew)); exact HO0.out⟩, ⟨by repeat (first | (with_reducible first | exact HK.out | apply Kept.alloc | apply Kept.drewN | apply Kept.drew) | exact HK.out)⟩, ⟨by repeat (first | (with_reducible first | exact HB.out | apply below_alloc | apply pw_below_drewN | apply below_drew1) | exact HB.out)⟩⟩
  case round =>
    clear H'
    try clear p2
    try clear c3
    obtain ⟨x0_1, x7_1, rfl, HA, HK1, HO_0, HK, HB⟩ := hrel
    cases gk with
    | zero => exact absurd HA.out (by simp [rickref04_Put.l0])
    | succ k1 =>
      have H := HA.out
      clear HA
      simp only [rickref04_Put.l0] at H
      by_cases c6 : x7_1 ≥ 0
      · rw [if_pos c6] at H
        have c6b0 : decide (0 ≤ x7_1) = true := decide_eq_true c6
        clear c6
        by_cases c7 : 0 ≤ x7_1
        · rw [if_pos c7] at H
          have c7b0 := eq_true c7
          have c7b1 : decide (0 ≤ x7_1) = true := decide_eq_true c7
          clear c7
          obtain ⟨ji8, hji8⟩ : ∃ j_ : Int, (shr .u64 a1 x7_1) = j_ := ⟨_, rfl⟩
          replace H : (if x0_1.length < 140737488355328 then (rickref04_Put.l0 k1 (x0_1 ++ [(Go.bits .and .u64 (ji8) 1) % 256]) a1 (wrap64 (x7_1 - 1))) else (none)) = some r := by first | (rw [hji8] at H; exact H) | (simp only [hji8] at H ⊢; exact H)
          have hji8_ : (a1 / 2 ^ min x7_1.toNat 64) = ji8 := hji8
          have hji8z : x7_1 ≤ 64 → (a1 / 2 ^ x7_1.toNat) = ji8 := shr_small hji8
          by_cases c9 : x0_1.length < 140737488355328
          · rw [if_pos c9] at H
            have LMc9 := Aside0.mk c9
            clear c9
            obtain ⟨y193, hy193⟩ : ∃ y_ : List Int, y_ = (x0_1 ++ [(Go.bits .and .u64 (ji8) 1) % 256]) := ⟨_, rfl⟩
            replace H : (rickref04_Put.l0 k1 y193 a1 (wrap64 (x7_1 - 1))) = some r := by first | (rw [hy193]; with_reducible exact H) | (have H2_ := (Option.bind_some _ _).symm.trans H; rw [hy193]; with_reducible exact H2_) | (have H2_ := (Option.bind_some _ _).symm.trans H; with_reducible exact H2_) | with_reducible exact H | (rw [hy193]; exact H) | exact H
            have Ny193 := Aside0.mk hy193
            clear hy193
            have H' := Aside0.mk H
            clear H
            go_wp2_with (first | ((with_reducible refine gate_builtin (b := .append) (xs := #[.tmp 16, .tmp 22]) rfl ?_); at_builtin; refine Kd.R_append (Kd.int .u8) (w0 := w0) w0.heap.size rfl (.tmp 16) (.tmp 22) 22 5 (.int .u8 0) 1 rfl Try.underlying22 info5 rfl (by decide) (by omega) u0 x0_1 ((Go.bits .and .u64 (ji8) 1) % 256) [.int .u8 ((Go.bits .and .u64 (ji8) 1) % 256)] (fun k_ => (P0_ k_ ∨ w.heap.size ≤ k_)) (fun _ => False) rfl rfl ?aP (fun _ hk => hk.elim) ?aF ?aO ?aB ?aS ?aL ?_; (case aP => exact rfl); (case aB => exact (by repeat (first | (with_reducible first | exact HB.out | apply below_alloc | apply pw_below_drewN | apply below_drew1) | exact HB.out))); (case aF => exact (fun k_ hk => (.inr (Nat.le_trans (by first | exact HK.out.1 | exact (show Kept w _ (fun k_ => P0_ k_) from by repeat (first | (with_reducible first | exact HK.out | apply Kept.alloc | apply Kept.drewN | apply Kept.drew) | exact HK.out)).1) hk)))); (case aO => exact (by (with_reducible repeat (first | apply Kd.R_alloc | apply Kd.R_drewN | apply Kd.R_drew)); exact HO_0.out)); (case aS => exact (below_size (by repeat (first | (with_reducible first | exact HB.out | apply below_alloc | apply pw_below_drewN | apply below_drew1) | exact HB.out)))); (case aL => have := LMc9.out; omega); intro v194 w10 ho hb hg hat; rw [← Ny193.out] at ho; have n0_ := Aside0.mk (hb); have n1_ := Aside0.mk (Kept.of_grown (S := (fun k_ => P0_ k_)) hg (by repeat (first | (with_reducible first | exact HK.out | apply Kept.alloc | apply Kept.drewN | apply Kept.drew) | exact HK.out)) (fun k_ e_ => (HO_0.out.1 k_ e_))); have n2_ := Aside0.mk (ho); clear HB; clear HK; clear HO_0; have HB := n0_; have HK := n1_; have HO195 := n2_; clear n0_ n1_ n2_; clear ho hb hg hat))
            go_roundg k1
            case measure => have := HK1.out; omega
            case rel => exact ⟨(y193), (wrap64 (x7_1 - 1)), (by first | rfl | (simp; done) | (simp [*]; done)), H', ⟨by have := HK1.out; omega⟩, ⟨by (with_reducible repeat (first | apply Kd.R_alloc | apply Kd.R_drewN | apply Kd.R_drew)); exact HO195.out⟩, ⟨by repeat (first | (with_reducible first | exact HK.out | apply Kept.alloc | apply Kept.drewN | apply Kept.drew) | exact HK.out)⟩, ⟨by repeat (first | (with_reducible first | exact HB.out | apply below_alloc | apply pw_below_drewN | apply below_drew1) | exact HB.out)⟩⟩
          · rw [if_neg c9] at H
            exact absurd H (by simp)
        · rw [if_neg c7] at H
          exact absurd H (by simp)
      · rw [if_neg c6] at H
        have c6b0 : decide (0 ≤ x7_1) = false := decide_eq_false c6
        clear c6
        obtain rfl := Option.some.inj H
        go_wp2
        go_ret
        exact ⟨_, by first | rfl | (simp [errW_none, errW_some] <;> rfl) | (simp only [← hji4, ← hji5]; first | rfl | (simp [errW_none, errW_some] <;> rfl)) | (simp [*, errW_none, errW_some] <;> rfl), by (with_reducible repeat (first | apply Kd.R_alloc | apply Kd.R_drewN | apply Kd.R_drew)); exact HO_0.out, by repeat (first | (with_reducible first | exact HB.out | apply below_alloc | apply pw_below_drewN | apply below_drew1) | exact HB.out), by repeat (first | (with_reducible first | exact HK.out | apply Kept.alloc | apply Kept.drewN | apply Kept.drew) | exact HK.out)⟩

end Go.Proofs.Ytmlbppfcpejlpaa.X

-- Printed by this session's own program (wip/xprint.py) over the translation; its external functions are hand-written. Lean checks it.
namespace Go.Proofs.Ytmlbppfcpejlpaa.X
open Go.RowKit Go.Proofs.YtmlbppfcpejlpaaW.PrintWords Go.Proofs.YtmlbppfcpejlpaaW.PrintLast Go.Proofs.YtmlbppfcpejlpaaW.PrintMore
attribute [local go_sem] max2_int min2_int max_two min_two max_three min_three max_four min_four   -- for this text's walks alone
set_option linter.unusedVariables false
set_option linter.unusedSimpArgs false

/-! ### rickref04_Bytes: function 32 -/
def rickref04_Bytes.l0 : Nat → List Int → List Int → Int → Option (List Int)
  | 0, _, _, _ => none
  | k + 1, x0, x3, x4 => if x4 < (x0.length : Int) then (if 0 ≤ (wrap64 (Int.tdiv x4 8)) then (if (wrap64 (Int.tdiv x4 8)) < (x3.length : Int) then (if 0 ≤ x4 then (if 0 ≤ (wrap64 (7 - (Int.tmod x4 8))) then (rickref04_Bytes.l0 k x0 (x3.set ((wrap64 (Int.tdiv x4 8)) : Int).toNat (Go.bits .or .u8 (rd x3 (wrap64 (Int.tdiv x4 8))) (shl .u8 (rd x0 x4) (wrap64 (7 - (Int.tmod x4 8)))))) (wrap64 (x4 + 1))) else (none)) else (none)) else (none)) else (none)) else (some x3)
def rickref04_Bytes.f (k : Nat) (l0 : List Int) : Option (List Int) := if 0 ≤ (wrap64 (Int.tdiv (wrap64 ((l0.length : Int) + 7)) 8)) then (if (wrap64 (Int.tdiv (wrap64 ((l0.length : Int) + 7)) 8) : Int).toNat ≤ 281474976710656 then (rickref04_Bytes.l0 k l0 (List.replicate (wrap64 (Int.tdiv (wrap64 ((l0.length : Int) + 7)) 8) : Int).toNat 0) 0) else (none)) else (none)
theorem rickref04_Bytes.mono_l : ∀ k, (∀ y0 y1 y2, LeO (rickref04_Bytes.l0 k y0 y1 y2) (rickref04_Bytes.l0 (k + 1) y0 y1 y2))
  | 0 => fun _ _ _ r h => by simp [rickref04_Bytes.l0] at h
  | k + 1 => by
    have ih0 := rickref04_Bytes.mono_l k
    · intro y0 y1 y2
      unfold rickref04_Bytes.l0
      repeat' first
      | (with_reducible exact ih0 _ _ _)
      | (with_reducible exact LeO.refl _)
      | (with_reducible exact LeO.none _)
      | (with_reducible refine LeO.ite ?_ ?_)
      | (with_reducible refine LeO.bind ?_ (fun _ => ?_))
      | exact ih0 _ _ _
      | exact LeO.none _
      | refine LeO.ite ?_ ?_
      | refine LeO.bind ?_ (fun _ => ?_)
theorem rickref04_Bytes.mono : ∀ a0 k, LeO (rickref04_Bytes.f k a0) (rickref04_Bytes.f (k + 1) a0) := by
  intro a0 k
  have ih0 := rickref04_Bytes.mono_l k
  unfold rickref04_Bytes.f
  repeat' first
      | (with_reducible exact ih0 _ _ _)
      | (with_reducible exact LeO.refl _)
      | (with_reducible exact LeO.none _)
      | (with_reducible refine LeO.ite ?_ ?_)
      | (with_reducible refine LeO.bind ?_ (fun _ => ?_))
      | exact ih0 _ _ _
      | exact LeO.none _
      | refine LeO.ite ?_ ?_
      | refine LeO.bind ?_ (fun _ => ?_)
def rickref04_Bytes.T5 : Bool × List (List Nat × List Nat) := (true, [([], []), ([], []), ([1], [1]), ([], []), ([], []), ([4], [4]), ([3, 5], [3, 5]), ([6], [6]), ([], []), ([], []), ([8, 9], [8, 9]), ([10], [10]), ([], []), ([12], [12]), ([13], [13]), ([11, 14], [11, 14]), ([7, 15], [7, 15]), ([0, 2, 0, 1, 2, 3, 4, 5, 6, 7, 8, 9, 10, 11, 12, 13, 14, 15, 16], [0, 2]), ([17, 16, 0, 1, 2, 3, 4, 5, 6, 7, 8, 9, 10, 11, 12, 13, 14, 15, 16], [16, 17])])
def rickref04_Bytes.B5 : List Nat := [0, 0, 2, 0, 0, 16, 56, 120, 0, 0, 768, 1792, 0, 4096, 12288, 32512, 65528, 131071, 262143]
theorem rickref04_Bytes.tab5 : rtab .any (opsOf Try.f32 5) = rickref04_Bytes.T5 := by kernel_rfl
theorem rickref04_Bytes.bits5 : waitsOk rickref04_Bytes.T5.2 rickref04_Bytes.B5 = true := by kernel_rfl
set_option maxHeartbeats 8000000 in
set_option maxRecDepth 100000 in
theorem rickref04_Bytes.calls (k : Nat) (A0 : Option Addr) (c0 : Nat) (l0 : List Int) (r : List Int) (w : World) (hr0 : Kd.C (Kd.int .u8) w A0 l0.length l0) (hc0 : l0.length ≤ c0) (h : rickref04_Bytes.f k l0 = some r) :
    Calls Try.prog 32 #[.slice A0 l0.length c0] w fun e w' => ∃ v0_ : Value, e = .returned (v0_) ∧ Kd.R (Kd.int .u8) 5 w' w.heap.size (fun _ => True) v0_ r ∧ Below w.heap.size w w' := by
  have HR0 := Aside0.mk hr0
  have HC0 := Aside0.mk hc0
  clear hr0 hc0
  have HB := Aside0.mk (Below.refl w.heap.size w)
  have H : (if 0 ≤ (wrap64 (Int.tdiv (wrap64 ((l0.length : Int) + 7)) 8)) then (if (wrap64 (Int.tdiv (wrap64 ((l0.length : Int) + 7)) 8) : Int).toNat ≤ 281474976710656 then (rickref04_Bytes.l0 k l0 (List.replicate (wrap64 (Int.tdiv (wrap64 ((l0.length : Int) + 7)) 8) : Int).toNat 0) 0) else (none)) else (none)) = some r := h
  clear h
  obtain ⟨ji2, hji2⟩ : ∃ j_ : Int, (wrap64 (Int.tdiv (wrap64 ((l0.length : Int) + 7)) 8)) = j_ := ⟨_, rfl⟩
  replace H : (if 0 ≤ (ji2) then (if (ji2 : Int).toNat ≤ 281474976710656 then (rickref04_Bytes.l0 k l0 (List.replicate (ji2 : Int).toNat 0) 0) else (none)) else (none)) = some r := by first | (rw [hji2] at H; exact H) | (simp only [hji2] at H ⊢; exact H)
  have hji2w : (IntKind.i64.wrap (Int.tdiv (wrap64 ((l0.length : Int) + 7)) 8)) = ji2 := (i64_w _).trans hji2
  by_cases c3 : 0 ≤ (ji2)
  · rw [if_pos c3] at H
    have c3b0 := eq_true c3
    have c3b1 : decide (0 ≤ (ji2)) = true := decide_eq_true c3
    clear c3
    by_cases c4 : (ji2 : Int).toNat ≤ 281474976710656
    · rw [if_pos c4] at H
      have c4b0 := eq_true c4
      have c4b1 : decide ((ji2 : Int).toNat ≤ 281474976710656) = true := decide_eq_true c4
      clear c4
      obtain ⟨y196, hy196⟩ : ∃ y_ : List Int, y_ = (List.replicate (ji2 : Int).toNat 0) := ⟨_, rfl⟩
      replace H : (rickref04_Bytes.l0 k l0 y196 0) = some r := by first | (rw [hy196]; with_reducible exact H) | (have H2_ := (Option.bind_some _ _).symm.trans H; rw [hy196]; with_reducible exact H2_) | (have H2_ := (Option.bind_some _ _).symm.trans H; with_reducible exact H2_) | with_reducible exact H | (rw [hy196]; exact H) | exact H
      have Ny196 := Aside0.mk hy196
      clear hy196
      have H' := Aside0.mk H
      clear H
      go_enter Try.func32, Try.ntmps32
      go_wp2_with (first | ((with_reducible refine gate_dst (N := 9) rfl ?_); refine Kd.R_make (Kd.int .u8) _ 5 rfl (N := 9) rfl 22 _ _ rfl ji2 rfl rfl Try.underlying22 (.int .u8 0) 1 info5 rfl (by decide) (by omega) 0 (ok := fun _ => True) (okp := fun _ => True) rfl (fun _ hk => hk) trivial (of_decide_eq_true (by first | (with_reducible assumption) | assumption)) (Nat.le_trans (Nat.mul_le_mul_right _ (of_decide_eq_true (by first | (with_reducible assumption) | assumption) : ji2.toNat ≤ 281474976710656)) (by omega)) (Below.refl _ _) (Nat.le_refl _) ?_; intro v197 w5 ho6 hb hg_ hnew_; clear hg_ hnew_; (first | rw [← Ny196.out] at ho6 | (simp only [Int.reduceToNat] at ho6; rw [← Ny196.out] at ho6)); have n0_ := Aside0.mk (Kd.R_lower ho6 (below_size (by repeat (first | (with_reducible first | exact HB.out | apply below_alloc | apply pw_below_drewN | apply below_drew1) | exact HB.out)))); have n1_ := Aside0.mk (below_step (by repeat (first | (with_reducible first | exact HB.out | apply below_alloc | apply pw_below_drewN | apply below_drew1) | exact HB.out)) hb); clear HB; have HO198 := n0_; have HB := n1_; clear n0_ n1_; clear hb ho6))
      go_loopg [4] k (fun kq v4 w' => ∃ (x3_1 : List Int) (x4_1 : Int), v4 = .int .i64 x4_1 ∧ Aside0 (rickref04_Bytes.l0 kq l0 x3_1 x4_1 = some r) ∧ Aside0 (kq ≤ k) ∧ Aside0 (Kd.R (Kd.int .u8) 5 w' w.heap.size (fun _ => True) v197 x3_1) ∧ Aside0 (Below w.heap.size w w'))
      case atStart => exact ⟨(y196), (0), (by first | rfl | (simp; done) | (simp [*]; done)), H', ⟨Nat.le_refl _⟩, ⟨by (with_reducible repeat (first | apply Kd.R_alloc | apply Kd.R_drewN | apply Kd.R_drew)); exact HO198.out⟩, ⟨by repeat (first | (with_reducible first | exact HB.out | apply below_alloc | apply pw_below_drewN | apply below_drew1) | exact HB.out)⟩⟩
      case round =>
        clear H'
        try clear p2
        try clear c3
        try clear c3b0
        try clear c3b1
        try clear c4
        try clear c4b0
        try clear c4b1
        try clear p6
        obtain ⟨x3_1, x4_1, rfl, HA, HK1, HO_3, HB⟩ := hrel
        cases gk with
        | zero => exact absurd HA.out (by simp [rickref04_Bytes.l0])
        | succ k1 =>
          have H := HA.out
          clear HA
          simp only [rickref04_Bytes.l0] at H
          by_cases c7 : x4_1 < (l0.length : Int)
          · rw [if_pos c7] at H
            have c7b0 : decide (x4_1 < (l0.length : Int)) = true := decide_eq_true c7
            clear c7
            obtain ⟨ji8, hji8⟩ : ∃ j_ : Int, (wrap64 (Int.tdiv x4_1 8)) = j_ := ⟨_, rfl⟩
            replace H : (if 0 ≤ (ji8) then (if (ji8) < (x3_1.length : Int) then (if 0 ≤ x4_1 then (if 0 ≤ (wrap64 (7 - (Int.tmod x4_1 8))) then (rickref04_Bytes.l0 k1 l0 (x3_1.set ((ji8) : Int).toNat (Go.bits .or .u8 (rd x3_1 (ji8)) (shl .u8 (rd l0 x4_1) (wrap64 (7 - (Int.tmod x4_1 8)))))) (wrap64 (x4_1 + 1))) else (none)) else (none)) else (none)) else (none)) = some r := by first | (rw [hji8] at H; exact H) | (simp only [hji8] at H ⊢; exact H)
            have hji8w : (IntKind.i64.wrap (Int.tdiv x4_1 8)) = ji8 := (i64_w _).trans hji8
            by_cases c9 : 0 ≤ (ji8)
            · rw [if_pos c9] at H
              have c9b0 : decide (0 ≤ (ji8)) = true := decide_eq_true c9
              clear c9
              by_cases c10 : (ji8) < (x3_1.length : Int)
              · rw [if_pos c10] at H
                have c10b0 : decide ((ji8) < (x3_1.length : Int)) = true := decide_eq_true c10
                clear c10
                by_cases c11 : 0 ≤ x4_1
                · rw [if_pos c11] at H
                  have c11b0 : decide (0 ≤ x4_1) = true := decide_eq_true c11
                  clear c11
                  obtain ⟨ji12, hji12⟩ : ∃ j_ : Int, (wrap64 (7 - (Int.tmod x4_1 8))) = j_ := ⟨_, rfl⟩
                  replace H : (if 0 ≤ (ji12) then (rickref04_Bytes.l0 k1 l0 (x3_1.set ((ji8) : Int).toNat (Go.bits .or .u8 (rd x3_1 (ji8)) (shl .u8 (rd l0 x4_1) (ji12)))) (wrap64 (x4_1 + 1))) else (none)) = some r := by first | (rw [hji12] at H; exact H) | (simp only [hji12] at H ⊢; exact H)
                  have hji12w : (IntKind.i64.wrap (7 - (Int.tmod x4_1 8))) = ji12 := (i64_w _).trans hji12
                  by_cases c13 : 0 ≤ (ji12)
                  · rw [if_pos c13] at H
                    have c13b0 := eq_true c13
                    have c13b1 : decide (0 ≤ (ji12)) = true := decide_eq_true c13
                    clear c13
                    obtain ⟨ji14, hji14⟩ : ∃ j_ : Int, (shl .u8 (rd l0 x4_1) (ji12)) = j_ := ⟨_, rfl⟩
                    replace H : (rickref04_Bytes.l0 k1 l0 (x3_1.set ((ji8) : Int).toNat (Go.bits .or .u8 (rd x3_1 (ji8)) (ji14))) (wrap64 (x4_1 + 1))) = some r := by first | (rw [hji14] at H; exact H) | (simp only [hji14] at H ⊢; exact H)
                    have hji14_ : (IntKind.u8.wrap ((rd l0 x4_1) * 2 ^ min (ji12).toNat 8)) = ji14 := hji14
                    have hji14z : (ji12) ≤ 8 → (IntKind.u8.wrap ((rd l0 x4_1) * 2 ^ (ji12).toNat)) = ji14 := shl_small hji14
                    obtain ⟨y201, hy201⟩ : ∃ y_ : List Int, y_ = (x3_1.set ((ji8) : Int).toNat (Go.bits .or .u8 (rd x3_1 (ji8)) (ji14))) := ⟨_, rfl⟩
                    replace H : (rickref04_Bytes.l0 k1 l0 y201 (wrap64 (x4_1 + 1))) = some r := by first | (rw [hy201]; with_reducible exact H) | (have H2_ := (Option.bind_some _ _).symm.trans H; rw [hy201]; with_reducible exact H2_) | (have H2_ := (Option.bind_some _ _).symm.trans H; with_reducible exact H2_) | with_reducible exact H | (rw [hy201]; exact H) | exact H
                    have Ny201 := Aside0.mk hy201
                    clear hy201
                    have H' := Aside0.mk H
                    clear H
                    try go_wp2
                    have n0_ := Aside0.mk (Kd.R_drew HO_3.out)
                    have n1_ := Aside0.mk (below_drew1 HB.out)
                    clear HO_3
                    clear HB
                    have HO_3 := n0_
                    have HB := n1_
                    clear n0_ n1_
                    obtain ⟨Ao17, co17, eo17⟩ := Kd.R_slice HO_3.out
                    (first | subst eo17 | (injection eo17 with f1_ f2_ f3_; have f4_ := f1_.symm; have f5_ := f3_.symm; clear f1_ f2_ f3_; subst f4_; subst f5_))
                    have p199 : 0 ≤ ((ji8) : Int) := of_decide_eq_true (by first | (with_reducible assumption) | assumption)
                    have q199 : (ji8) < (x3_1.length : Int) := of_decide_eq_true (by first | (with_reducible assumption) | assumption)
                    obtain ⟨ad199, e199, hx199_0⟩ := Kd.at_int (Kd.R_reads' HO_3.out).2.2 (ji8) p199 q199
                    cases e199
                    replace p199 := eq_true p199
                    replace q199 := eq_true q199
                    have p200 : 0 ≤ (x4_1 : Int) := of_decide_eq_true (by first | (with_reducible assumption) | assumption)
                    have q200 : x4_1 < (l0.length : Int) := of_decide_eq_true (by first | (with_reducible assumption) | assumption)
                    obtain ⟨ad200, e200, hx200_0⟩ := Kd.at_int HR0.out x4_1 p200 q200
                    have hw200_0 := hx200_0
                    cases e200
                    replace hx200_0 := (HB.out.cell (World.block_lt_of_cell? w _ hx200_0)).trans hx200_0
                    replace p200 := eq_true p200
                    replace q200 := eq_true q200
                    have p15 : 0 ≤ ((ji8) : Int) := of_decide_eq_true (by first | (with_reducible assumption) | assumption)
                    have q15 : ((ji8) : Int) < ((x3_1.length : Int) : Int) := of_decide_eq_true (by first | (with_reducible assumption) | assumption)
                    obtain ⟨go15, co15, eo15, gb15, gl15, cl15, HG15⟩ := Kd.R_form HO_3.out (by omega)
                    (first | cases eo15 | (injection eo15 with ea_ en_ ec_; (first | subst ea_ | (injection ea_ with ea_; subst ea_)); subst ec_; clear en_))
                    have GB15 := Aside0.mk gb15
                    have GG15 := Aside0.mk HG15
                    clear gb15 gl15 HG15
                    (first | simp only [add_plain] at hx199_0 | skip)
                    obtain ⟨hx15_0, hf15_0⟩ := Kd.R_celln 0 HO_3.out ((ji8) : Int) p15 q15
                    replace p15 := eq_true p15
                    replace q15 := eq_true q15
                    have HP18 := Kd.R_putn HO_3.out ((ji8) : Int) (Go.bits .or .u8 (rd x3_1 (ji8)) (ji14))
                    rw [← Ny201.out] at HP18
                    have HQ18 := Aside0.mk HP18
                    clear HP18
                    refine start_ (n := 19) (S := fun w' => w'.cell? ⟨go15, ((ji8)).toNat, none⟩ = some (.int .u8 (rd x3_1 (ji8))) ∧ w'.cell? (ad200.add (x4_1).toNat) = some (.int .u8 (rd l0 x4_1))) (ds := [18]) #[false, false, false, false, false, false, false, false, false, false, false, false, false, false, false, false, false, false, false] (by kernel_rfl) rfl rfl ⟨hx199_0, ((HB.out.cell (World.block_lt_of_cell? w _ hw200_0)).trans hw200_0)⟩ (fun hHeld => ?_); refine with_tabW rickref04_Bytes.tab5 rickref04_Bytes.bits5 (fun HT_ HW_ => ?_)
                    generalize wr.drew = w16 at HO_3 HB GG15 HQ18 hf15_0 hx15_0 hx199_0 hx200_0 hHeld ⊢
                    refine pure_ (i := 0) (N := some 16) (v := ?_) (a' := ?_) #[true, false, false, false, false, false, false, false, false, false, false, false, false, false, false, false, false, false, false] rfl rfl (any_of HT_.out (by kernel_rfl)) (fun _ _ _ h => h) (Or.inl ⟨by rfl, ?_⟩) ?_ ?_
                    rotate_left
                    · intro w'
                      go_simp
                      with_reducible rfl
                    rotate_left
                    · simp only [Act.put, List.setIfInBounds_toArray, List.set_cons_zero, List.set_cons_succ, i64_w, i32_w]
                      rfl
                    refine pure_ (i := 1) (N := some 17) (v := ?_) (a' := ?_) #[true, true, false, false, false, false, false, false, false, false, false, false, false, false, false, false, false, false, false] rfl rfl (any_of HT_.out (by kernel_rfl)) (fun _ _ _ h => h) (Or.inl ⟨by rfl, ?_⟩) ?_ ?_
                    rotate_left
                    · intro w'
                      go_simp
                      with_reducible rfl
                    rotate_left
                    · simp only [Act.put, List.setIfInBounds_toArray, List.set_cons_zero, List.set_cons_succ, i64_w, i32_w]
                      rfl
                    refine pure_ (i := 2) (N := some 18) (v := ?_) (a' := ?_) #[true, true, true, false, false, false, false, false, false, false, false, false, false, false, false, false, false, false, false] rfl rfl (any_of HT_.out (by kernel_rfl)) (fun _ _ _ h => h) (Or.inl ⟨by rfl, ?_⟩) ?_ ?_
                    rotate_left
                    · intro w'
                      go_simp
                      with_reducible rfl
                    rotate_left
                    · simp only [Act.put, List.setIfInBounds_toArray, List.set_cons_zero, List.set_cons_succ, i64_w, i32_w]
                      rfl
                    refine pure_ (i := 3) (N := some 19) (v := ?_) (a' := ?_) #[true, true, true, true, false, false, false, false, false, false, false, false, false, false, false, false, false, false, false] rfl rfl (any_of HT_.out (by kernel_rfl)) (fun _ _ _ h => h) (Or.inl ⟨by rfl, ?_⟩) ?_ ?_
                    rotate_left
                    · intro w'
                      go_simp
                      with_reducible rfl
                    rotate_left
                    · simp only [Act.put, List.setIfInBounds_toArray, List.set_cons_zero, List.set_cons_succ, i64_w, i32_w]
                      rfl
                    refine pure_ (i := 4) (N := some 20) (v := ?_) (a' := ?_) #[true, true, true, true, true, false, false, false, false, false, false, false, false, false, false, false, false, false, false] rfl rfl (any_of HT_.out (by kernel_rfl)) (fun _ _ _ h => h) (Or.inl ⟨by rfl, ?_⟩) ?_ ?_
                    rotate_left
                    · intro w'
                      go_simp
                      with_reducible rfl
                    rotate_left
                    · simp only [Act.put, List.setIfInBounds_toArray, List.set_cons_zero, List.set_cons_succ, i64_w, i32_w]
                      rfl
                    refine pure_ (i := 5) (N := some 21) (v := ?_) (a' := ?_) #[true, true, true, true, true, true, false, false, false, false, false, false, false, false, false, false, false, false, false] rfl rfl (any_of HT_.out (by kernel_rfl)) (fun _ _ _ h => h) (Or.inl ⟨by rfl, ?_⟩) ?_ ?_
                    rotate_left
                    · intro w'
                      go_simp
                      with_reducible rfl
                    rotate_left
                    · simp only [Act.put, List.setIfInBounds_toArray, List.set_cons_zero, List.set_cons_succ, i64_w, i32_w]
                      rfl
                    refine pure_ (i := 6) (N := some 22) (v := ?_) (a' := ?_) #[true, true, true, true, true, true, true, false, false, false, false, false, false, false, false, false, false, false, false] rfl rfl (any_of HT_.out (by kernel_rfl)) (fun _ _ _ h => h) (Or.inl ⟨by rfl, ?_⟩) ?_ ?_
                    rotate_left
                    · intro w'
                      go_simp
                      with_reducible rfl
                    rotate_left
                    · simp only [Act.put, List.setIfInBounds_toArray, List.set_cons_zero, List.set_cons_succ, i64_w, i32_w]
                      rfl
                    refine pure_ (i := 8) (N := some 24) (v := ?_) (a' := ?_) #[true, true, true, true, true, true, true, false, true, false, false, false, false, false, false, false, false, false, false] rfl rfl (any_of HT_.out (by kernel_rfl)) (fun _ _ _ h => h) (Or.inl ⟨by rfl, ?_⟩) ?_ ?_
                    rotate_left
                    · intro w'
                      go_simp
                      with_reducible rfl
                    rotate_left
                    · simp only [Act.put, List.setIfInBounds_toArray, List.set_cons_zero, List.set_cons_succ, i64_w, i32_w]
                      rfl
                    refine pure_ (i := 9) (N := some 25) (v := ?_) (a' := ?_) #[true, true, true, true, true, true, true, false, true, true, false, false, false, false, false, false, false, false, false] rfl rfl (any_of HT_.out (by kernel_rfl)) (fun _ _ _ h => h) (Or.inl ⟨by rfl, ?_⟩) ?_ ?_
                    rotate_left
                    · intro w'
                      go_simp
                      with_reducible rfl
                    rotate_left
                    · simp only [Act.put, List.setIfInBounds_toArray, List.set_cons_zero, List.set_cons_succ, i64_w, i32_w]
                      rfl
                    refine pure_ (i := 10) (N := some 26) (v := ?_) (a' := ?_) #[true, true, true, true, true, true, true, false, true, true, true, false, false, false, false, false, false, false, false] rfl rfl (any_of HT_.out (by kernel_rfl)) (fun _ _ _ h => h) (Or.inl ⟨by rfl, ?_⟩) ?_ ?_
                    rotate_left
                    · intro w'
                      go_simp
                      with_reducible rfl
                    rotate_left
                    · simp only [Act.put, List.setIfInBounds_toArray, List.set_cons_zero, List.set_cons_succ, i64_w, i32_w]
                      rfl
                    refine pure_ (i := 12) (N := some 28) (v := ?_) (a' := ?_) #[true, true, true, true, true, true, true, false, true, true, true, false, true, false, false, false, false, false, false] rfl rfl (any_of HT_.out (by kernel_rfl)) (fun _ _ _ h => h) (Or.inl ⟨by rfl, ?_⟩) ?_ ?_
                    rotate_left
                    · intro w'
                      go_simp
                      with_reducible rfl
                    rotate_left
                    · simp only [Act.put, List.setIfInBounds_toArray, List.set_cons_zero, List.set_cons_succ, i64_w, i32_w]
                      rfl
                    refine pure_ (i := 13) (N := some 29) (v := ?_) (a' := ?_) #[true, true, true, true, true, true, true, false, true, true, true, false, true, true, false, false, false, false, false] rfl rfl (any_of HT_.out (by kernel_rfl)) (fun _ _ _ h => h) (Or.inl ⟨by rfl, ?_⟩) ?_ ?_
                    rotate_left
                    · intro w'
                      go_simp
                      with_reducible rfl
                    rotate_left
                    · simp only [Act.put, List.setIfInBounds_toArray, List.set_cons_zero, List.set_cons_succ, i64_w, i32_w]
                      rfl
                    refine pure_ (i := 14) (N := some 30) (v := ?_) (a' := ?_) #[true, true, true, true, true, true, true, false, true, true, true, false, true, true, true, false, false, false, false] rfl rfl (any_of HT_.out (by kernel_rfl)) (fun _ _ _ h => h) (Or.inl ⟨by rfl, ?_⟩) ?_ ?_
                    rotate_left
                    · intro w'
                      go_simp
                      with_reducible rfl
                    rotate_left
                    · simp only [Act.put, List.setIfInBounds_toArray, List.set_cons_zero, List.set_cons_succ, i64_w, i32_w]
                      rfl
                    refine take_ (i := 7) (N := some 23) (v := ?_) (a' := ?_) #[true, true, true, true, true, true, true, true, true, true, true, false, true, true, true, false, false, false, false] rfl rfl (take_ofW HT_.out HW_.out (by kernel_rfl)) (fun _ _ _ h => h) (Or.inl ⟨by rfl, ?_⟩) hHeld ?_ ?_
                    rotate_left
                    · rintro w' ⟨s0, s1⟩
                      go_simp
                      with_reducible rfl
                    rotate_left
                    · simp only [Act.put, List.setIfInBounds_toArray, List.set_cons_zero, List.set_cons_succ, i64_w, i32_w]
                      rfl
                    refine take_ (i := 11) (N := some 27) (v := ?_) (a' := ?_) #[true, true, true, true, true, true, true, true, true, true, true, true, true, true, true, false, false, false, false] rfl rfl (take_ofW HT_.out HW_.out (by kernel_rfl)) (fun _ _ _ h => h) (Or.inl ⟨by rfl, ?_⟩) hHeld ?_ ?_
                    rotate_left
                    · rintro w' ⟨s0, s1⟩
                      go_simp
                      with_reducible rfl
                    rotate_left
                    · simp only [Act.put, List.setIfInBounds_toArray, List.set_cons_zero, List.set_cons_succ, i64_w, i32_w]
                      rfl
                    refine pure_ (i := 15) (N := some 31) (v := ?_) (a' := ?_) #[true, true, true, true, true, true, true, true, true, true, true, true, true, true, true, true, false, false, false] rfl rfl (any_of HT_.out (by kernel_rfl)) (fun _ _ _ h => h) (Or.inl ⟨by rfl, ?_⟩) ?_ ?_
                    rotate_left
                    · intro w'
                      go_simp
                      with_reducible rfl
                    rotate_left
                    · simp only [Act.put, List.setIfInBounds_toArray, List.set_cons_zero, List.set_cons_succ, i64_w, i32_w]
                      rfl
                    refine pure_ (i := 16) (N := some 32) (v := ?_) (a' := ?_) #[true, true, true, true, true, true, true, true, true, true, true, true, true, true, true, true, true, false, false] rfl rfl (any_of HT_.out (by kernel_rfl)) (fun _ _ _ h => h) (Or.inl ⟨by rfl, ?_⟩) ?_ ?_
                    rotate_left
                    · intro w'
                      go_simp
                      with_reducible rfl
                    rotate_left
                    · simp only [Act.put, List.setIfInBounds_toArray, List.set_cons_zero, List.set_cons_succ, i64_w, i32_w]
                      rfl
                    refine pure_ (i := 17) (N := some 33) (v := ?_) (a' := ?_) #[true, true, true, true, true, true, true, true, true, true, true, true, true, true, true, true, true, true, false] rfl rfl (any_of HT_.out (by kernel_rfl)) (fun _ _ _ h => h) (Or.inl ⟨by rfl, ?_⟩) ?_ ?_
                    rotate_left
                    · intro w'
                      go_simp
                      with_reducible rfl
                    rotate_left
                    · simp only [Act.put, List.setIfInBounds_toArray, List.set_cons_zero, List.set_cons_succ, i64_w, i32_w]
                      rfl
                    refine last_ (i := 18) (N := none) #[true, true, true, true, true, true, true, true, true, true, true, true, true, true, true, true, true, true, true] rfl rfl (one_of HT_.out (by kernel_rfl)) (by decide) (fun K hK => ?_)
                    refine skip_ (w1 := ?_) (by rfl) rfl ?_ ?_
                    rotate_left
                    · go_simp
                      rfl
                    refine hK.out _ _ ?_
                    clear hK K
                    refine done_ (done_of HT_.out (by kernel_rfl)) ?_
                    try go_wp2
                    go_roundg k1
                    case measure => have := HK1.out; omega
                    case rel => exact ⟨(y201), (wrap64 (x4_1 + 1)), (by first | rfl | (simp; done) | (simp [*]; done)), H', ⟨by have := HK1.out; omega⟩, ⟨by (with_reducible repeat (first | apply Kd.R_alloc | apply Kd.R_drewN | apply Kd.R_drew)); exact HQ18.out⟩, ⟨by repeat (first | (with_reducible first | exact HB.out | apply below_alloc | apply pw_below_drewN | apply below_drew1 | refine below_set ?_ GB15.out) | exact HB.out)⟩⟩
                  · rw [if_neg c13] at H
                    exact absurd H (by simp)
                · rw [if_neg c11] at H
                  exact absurd H (by simp)
              · rw [if_neg c10] at H
                exact absurd H (by simp)
            · rw [if_neg c9] at H
              exact absurd H (by simp)
          · rw [if_neg c7] at H
            have c7b0 : decide (x4_1 < (l0.length : Int)) = false := decide_eq_false c7
            clear c7
            obtain rfl := Option.some.inj H
            go_wp2
            go_ret
            exact ⟨_, by first | rfl | (simp [errW_none, errW_some] <;> rfl) | (simp only [← hji2]; first | rfl | (simp [errW_none, errW_some] <;> rfl)) | (simp [*, errW_none, errW_some] <;> rfl), by (with_reducible repeat (first | apply Kd.R_alloc | apply Kd.R_drewN | apply Kd.R_drew)); exact HO_3.out, by repeat (first | (with_reducible first | exact HB.out | apply below_alloc | apply pw_below_drewN | apply below_drew1) | exact HB.out)⟩
    · rw [if_neg c4] at H
      exact absurd H (by simp)
  · rw [if_neg c3] at H
    exact absurd H (by simp)

end Go.Proofs.Ytmlbppfcpejlpaa.X

/- What the printed functions of layer 4 (bits) tell: rows of bits, their bytes, and back. No conditions. -/
namespace Go.Proofs.Ytmlbppfcpejlpaa.Q04
open Go Go.RowKit Go.Proofs.YtmlbppfcpejlpaaW.PrintWords Go.Proofs.YtmlbppfcpejlpaaW.PrintMore Go.Proofs.Ytmlbppfcpejlpaa.S Go.Proofs.Ytmlbppfcpejlpaa.B Go.Proofs.Ytmlbppfcpejlpaa.X
set_option linter.unusedVariables false
set_option linter.unusedSimpArgs false

theorem and_one_u8 {x : Int} (h0 : 0 ≤ x) (h1 : x < 256) : Go.bits .and .u8 x 1 = x % 2 := by
  simpa using bits_mask .u8 8 (by decide) wraps_u8 1 (by decide) x h0 (by omega)
theorem and_one_u64 {x : Int} (h0 : 0 ≤ x) (h1 : x < 18446744073709551616) : Go.bits .and .u64 x 1 = x % 2 := by
  simpa using bits_mask .u64 64 (by decide) wraps_u64 1 (by decide) x h0 (by omega)
theorem shr_nat (k : IntKind) (x : Int) {j : Nat} (h : j ≤ k.bits) : shr k x (j : Int) = x / 2 ^ j := by
  unfold shr
  rw [show min ((j : Int).toNat) k.bits = j by rw [Int.toNat_natCast]; omega]
theorem ediv_pow_range {x : Int} (h0 : 0 ≤ x) (j : Nat) : 0 ≤ x / 2 ^ j ∧ x / 2 ^ j ≤ x :=
  ⟨Int.ediv_nonneg h0 (Int.pow_nonneg (by omega)), Int.ediv_le_self _ h0⟩
theorem bit_u64 {v : Int} (h0 : 0 ≤ v) (h1 : v < 18446744073709551616) {j : Nat} (hj : j < 64) : (Go.bits .and .u64 (shr .u64 v (j : Int)) 1) % 256 = v / 2 ^ j % 2 := by
  have := ediv_pow_range h0 j
  rw [shr_nat .u64 v (by simp [IntKind.bits]; omega), and_one_u64 this.1 (by omega)]
  omega
theorem refput_l0 {v : Int} (h0 : 0 ≤ v) (h1 : v < 18446744073709551616) (j : Nat) : ∀ (k : Nat) (l : List Int), j ≤ 64 → j < k → l.length + j < 140737488355328 →
    rickref04_Put.l0 k l v ((j : Int) - 1) = some (l ++ bitsN j v) := by
  induction j with
  | zero =>
    intro k l _ hk _
    obtain ⟨k, rfl⟩ : ∃ q, k = q + 1 := ⟨k - 1, by omega⟩
    simp only [rickref04_Put.l0]
    rw [if_neg (by omega)]
    simp [bitsN]
  | succ j ih =>
    intro k l hj hk hl
    obtain ⟨k, rfl⟩ : ∃ q, k = q + 1 := ⟨k - 1, by omega⟩
    simp only [rickref04_Put.l0]
    rw [if_pos (by omega), if_pos (by omega), if_pos (by omega), show ((j + 1 : Nat) : Int) - 1 = (j : Int) by omega, bit_u64 h0 h1 (by omega), wrap64_id (by omega) (by omega)]
    rw [ih k _ (by omega) (by omega) (by simp; omega), List.append_assoc]
    rfl
theorem refput_spec {k : Nat} {l : List Int} {v m : Int} (h0 : 0 ≤ v) (h1 : v < 18446744073709551616) (hk : 64 < k) (hl : l.length < 1000000000000) :
    rickref04_Put.f k l v m = some (l ++ bitsN (cl m) v) := by
  unfold rickref04_Put.f
  rw [cl_eq]
  have := cl_le m
  exact refput_l0 h0 h1 (cl m) k l (by omega) (by omega) (by omega)

theorem shl_bit {b : Int} (hb : b = 0 ∨ b = 1) {r : Nat} (hr : r < 8) : shl .u8 b (r : Int) = b * 2 ^ r := by
  unfold shl
  rw [show min ((r : Int).toNat) IntKind.u8.bits = r by rw [Int.toNat_natCast]; simp [IntKind.bits]; omega, IntKind.wrap_u8]
  rcases pow_r hr with h | h | h | h | h | h | h | h <;> subst h <;> rcases hb with rfl | rfl <;> decide
theorem refbytes_l0 {l : List Int} (hb : Bits l) (hl : l.length < 1000000000000) (d : Nat) : ∀ (i k : Nat), i + d = l.length → d < k →
    rickref04_Bytes.l0 k l (rows (l.take i) ((l.length + 7) / 8)) (i : Int) = some (packB l) := by
  induction d with
  | zero =>
    intro i k hd hk
    obtain ⟨k, rfl⟩ : ∃ q, k = q + 1 := ⟨k - 1, by omega⟩
    simp only [rickref04_Bytes.l0]
    rw [if_neg (by omega), List.take_of_length_le (by omega)]
    rfl
  | succ d ih =>
    intro i k hd hk
    obtain ⟨k, rfl⟩ : ∃ q, k = q + 1 := ⟨k - 1, by omega⟩
    have hlt : i < l.length := by omega
    have hli : (l.take i).length = i := by rw [List.length_take]; omega
    have hbit := hb _ (List.getElem_mem hlt)
    have e1 : wrap64 (Int.tdiv (i : Int) 8) = ((i / 8 : Nat) : Int) := by
      rw [Int.tdiv_eq_ediv_of_nonneg (by omega), wrap64_id (by omega) (by omega)]; omega
    have e2 : wrap64 (7 - Int.tmod (i : Int) 8) = ((7 - i % 8 : Nat) : Int) := by
      rw [Int.tmod_eq_emod_of_nonneg (by omega), wrap64_id (by omega) (by omega)]; omega
    simp only [rickref04_Bytes.l0]
    rw [e1, e2, if_pos (by omega), if_pos (by omega), if_pos (by rw [rows_len]; omega), if_pos (by omega), if_pos (by omega), rd_get hlt, rd_rows _ (by omega), shl_bit hbit (by omega), Int.toNat_natCast]
    have := rows_push (l.take i) (fun x hx => hb x (List.mem_of_mem_take hx)) l[i] hbit ((l.length + 7) / 8) (by rw [hli]; omega)
    rw [hli] at this
    rw [this, ← List.take_succ_eq_append_getElem hlt, show wrap64 ((i : Int) + 1) = ((i + 1 : Nat) : Int) by rw [wrap64_id] <;> omega]
    exact ih (i + 1) k (by omega) (by omega)
theorem refbytes_spec {k : Nat} {l : List Int} (hb : Bits l) (hl : l.length < 1000000000000) (hk : l.length < k) : rickref04_Bytes.f k l = some (packB l) := by
  have e : wrap64 (Int.tdiv (wrap64 ((l.length : Int) + 7)) 8) = (((l.length + 7) / 8 : Nat) : Int) := by
    rw [wrap64_id (n := (l.length : Int) + 7) (by omega) (by omega), Int.tdiv_eq_ediv_of_nonneg (by omega), wrap64_id (by omega) (by omega)]; omega
  unfold rickref04_Bytes.f
  rw [e, if_pos (by omega), if_pos (by rw [Int.toNat_natCast]; omega), Int.toNat_natCast, ← rows_nil]
  have := refbytes_l0 hb hl l.length 0 k (by omega) hk
  simpa using this
end Go.Proofs.Ytmlbppfcpejlpaa.Q04

-- Printed by this session's own program (wip/xprint.py) over the translation; its external functions are hand-written. Lean checks it.
namespace Go.Proofs.Ytmlbppfcpejlpaa.X
open Go.RowKit Go.Proofs.YtmlbppfcpejlpaaW.PrintWords Go.Proofs.YtmlbppfcpejlpaaW.PrintLast Go.Proofs.YtmlbppfcpejlpaaW.PrintMore
attribute [local go_sem] max2_int min2_int max_two min_two max_three min_three max_four min_four   -- for this text's walks alone
set_option linter.unusedVariables false
set_option linter.unusedSimpArgs false

/-! ### rickref04_Bits: function 34 -/
def rickref04_Bits.l0 : Nat → List Int → List Int → Int → Option (List Int)
  | 0, _, _, _ => none
  | k + 1, x0, x3, x4 => if x4 < (wrap64 (8 * (x0.length : Int))) then (if 0 ≤ (wrap64 (Int.tdiv x4 8)) then (if (wrap64 (Int.tdiv x4 8)) < (x0.length : Int) then (if 0 ≤ (wrap64 (7 - (Int.tmod x4 8))) then (if x3.length < 140737488355328 then (rickref04_Bits.l0 k x0 (x3 ++ [Go.bits .and .u8 (shr .u8 (rd x0 (wrap64 (Int.tdiv x4 8))) (wrap64 (7 - (Int.tmod x4 8)))) 1]) (wrap64 (x4 + 1))) else (none)) else (none)) else (none)) else (none)) else (some x3)
def rickref04_Bits.f (k : Nat) (l0 : List Int) : Option (List Int) := rickref04_Bits.l0 k l0 ([] : List Int) 0
theorem rickref04_Bits.mono_l : ∀ k, (∀ y0 y1 y2, LeO (rickref04_Bits.l0 k y0 y1 y2) (rickref04_Bits.l0 (k + 1) y0 y1 y2))
  | 0 => fun _ _ _ r h => by simp [rickref04_Bits.l0] at h
  | k + 1 => by
    have ih0 := rickref04_Bits.mono_l k
    · intro y0 y1 y2
      unfold rickref04_Bits.l0
      repeat' first
      | (with_reducible exact ih0 _ _ _)
      | (with_reducible exact LeO.refl _)
      | (with_reducible exact LeO.none _)
      | (with_reducible refine LeO.ite ?_ ?_)
      | (with_reducible refine LeO.bind ?_ (fun _ => ?_))
      | exact ih0 _ _ _
      | exact LeO.none _
      | refine LeO.ite ?_ ?_
      | refine LeO.bind ?_ (fun _ => ?_)
theorem rickref04_Bits.mono : ∀ a0 k, LeO (rickref04_Bits.f k a0) (rickref04_Bits.f (k + 1) a0) := by
  intro a0 k
  have ih0 := rickref04_Bits.mono_l k
  unfold rickref04_Bits.f
  repeat' first
      | (with_reducible exact ih0 _ _ _)
      | (with_reducible exact LeO.refl _)
      | (with_reducible exact LeO.none _)
      | (with_reducible refine LeO.ite ?_ ?_)
      | (with_reducible refine LeO.bind ?_ (fun _ => ?_))
      | exact ih0 _ _ _
      | exact LeO.none _
      | refine LeO.ite ?_ ?_
      | refine LeO.bind ?_ (fun _ => ?_)
set_option maxHeartbeats 8000000 in
set_option maxRecDepth 100000 in
theorem rickref04_Bits.calls (k : Nat) (A0 : Option Addr) (c0 : Nat) (l0 : List Int) (r : List Int) (w : World) (hr0 : Kd.C (Kd.int .u8) w A0 l0.length l0) (hc0 : l0.length ≤ c0) (h : rickref04_Bits.f k l0 = some r) :
    Calls Try.prog 34 #[.slice A0 l0.length c0] w fun e w' => ∃ v0_ : Value, e = .returned (v0_) ∧ Kd.R (Kd.int .u8) 5 w' w.heap.size (fun _ => True) v0_ r ∧ Below w.heap.size w w' := by
  have HR0 := Aside0.mk hr0
  have HC0 := Aside0.mk hc0
  clear hr0 hc0
  have HB := Aside0.mk (Below.refl w.heap.size w)
  have H : (rickref04_Bits.l0 k l0 ([] : List Int) 0) = some r := h
  clear h
  have H' := Aside0.mk H
  clear H
  go_enter Try.func34, Try.ntmps34
  go_wp2
  go_loopg [3, 4] k (fun kq v3 v4 w' => ∃ (x3_1 : List Int) (x4_1 : Int), v4 = .int .i64 x4_1 ∧ Aside0 (rickref04_Bits.l0 kq l0 x3_1 x4_1 = some r) ∧ Aside0 (kq ≤ k) ∧ Aside0 (Kd.R (Kd.int .u8) 5 w' w.heap.size (fun _ => True) v3 x3_1) ∧ Aside0 (Below w.heap.size w w'))
  case atStart => exact ⟨(([] : List Int)), (0), (by first | rfl | (simp; done) | (simp [*]; done)), H', ⟨Nat.le_refl _⟩, ⟨by first | exact Kd.R_nil _ _ _ _ _ | exact Kd.N_nil _ _ _ _ _ | exact Kd.V_nil _ _ _ _ _ | exact Kd.Q_nil _ _ _ _ _ | exact Kd.S_nil _ _ _ _ _⟩, ⟨by repeat (first | (with_reducible first | exact HB.out | apply below_alloc | apply pw_below_drewN | apply below_drew1) | exact HB.out)⟩⟩
  case round =>
    clear H'
    obtain ⟨x3_1, x4_1, rfl, HA, HK1, HO_3, HB⟩ := hrel
    cases gk with
    | zero => exact absurd HA.out (by simp [rickref04_Bits.l0])
    | succ k1 =>
      have H := HA.out
      clear HA
      simp only [rickref04_Bits.l0] at H
      by_cases c2 : x4_1 < (wrap64 (8 * (l0.length : Int)))
      · rw [if_pos c2] at H
        have c2b0 : decide (x4_1 < (wrap64 (8 * (l0.length : Int)))) = true := decide_eq_true c2
        clear c2
        obtain ⟨ji3, hji3⟩ : ∃ j_ : Int, (wrap64 (Int.tdiv x4_1 8)) = j_ := ⟨_, rfl⟩
        replace H : (if 0 ≤ (ji3) then (if (ji3) < (l0.length : Int) then (if 0 ≤ (wrap64 (7 - (Int.tmod x4_1 8))) then (if x3_1.length < 140737488355328 then (rickref04_Bits.l0 k1 l0 (x3_1 ++ [Go.bits .and .u8 (shr .u8 (rd l0 (ji3)) (wrap64 (7 - (Int.tmod x4_1 8)))) 1]) (wrap64 (x4_1 + 1))) else (none)) else (none)) else (none)) else (none)) = some r := by first | (rw [hji3] at H; exact H) | (simp only [hji3] at H ⊢; exact H)
        have hji3w : (IntKind.i64.wrap (Int.tdiv x4_1 8)) = ji3 := (i64_w _).trans hji3
        by_cases c4 : 0 ≤ (ji3)
        · rw [if_pos c4] at H
          have c4b0 : decide (0 ≤ (ji3)) = true := decide_eq_true c4
          clear c4
          by_cases c5 : (ji3) < (l0.length : Int)
          · rw [if_pos c5] at H
            have c5b0 : decide ((ji3) < (l0.length : Int)) = true := decide_eq_true c5
            clear c5
            obtain ⟨ji6, hji6⟩ : ∃ j_ : Int, (wrap64 (7 - (Int.tmod x4_1 8))) = j_ := ⟨_, rfl⟩
            replace H : (if 0 ≤ (ji6) then (if x3_1.length < 140737488355328 then (rickref04_Bits.l0 k1 l0 (x3_1 ++ [Go.bits .and .u8 (shr .u8 (rd l0 (ji3)) (ji6)) 1]) (wrap64 (x4_1 + 1))) else (none)) else (none)) = some r := by first | (rw [hji6] at H; exact H) | (simp only [hji6] at H ⊢; exact H)
            have hji6w : (IntKind.i64.wrap (7 - (Int.tmod x4_1 8))) = ji6 := (i64_w _).trans hji6
            by_cases c7 : 0 ≤ (ji6)
            · rw [if_pos c7] at H
              have c7b0 := eq_true c7
              have c7b1 : decide (0 ≤ (ji6)) = true := decide_eq_true c7
              clear c7
              obtain ⟨ji8, hji8⟩ : ∃ j_ : Int, (shr .u8 (rd l0 (ji3)) (ji6)) = j_ := ⟨_, rfl⟩
              replace H : (if x3_1.length < 140737488355328 then (rickref04_Bits.l0 k1 l0 (x3_1 ++ [Go.bits .and .u8 (ji8) 1]) (wrap64 (x4_1 + 1))) else (none)) = some r := by first | (rw [hji8] at H; exact H) | (simp only [hji8] at H ⊢; exact H)
              have hji8_ : ((rd l0 (ji3)) / 2 ^ min (ji6).toNat 8) = ji8 := hji8
              have hji8z : (ji6) ≤ 8 → ((rd l0 (ji3)) / 2 ^ (ji6).toNat) = ji8 := shr_small hji8
              by_cases c9 : x3_1.length < 140737488355328
              · rw [if_pos c9] at H
                have LMc9 := Aside0.mk c9
                clear c9
                obtain ⟨y203, hy203⟩ : ∃ y_ : List Int, y_ = (x3_1 ++ [Go.bits .and .u8 (ji8) 1]) := ⟨_, rfl⟩
                replace H : (rickref04_Bits.l0 k1 l0 y203 (wrap64 (x4_1 + 1))) = some r := by first | (rw [hy203]; with_reducible exact H) | (have H2_ := (Option.bind_some _ _).symm.trans H; rw [hy203]; with_reducible exact H2_) | (have H2_ := (Option.bind_some _ _).symm.trans H; with_reducible exact H2_) | with_reducible exact H | (rw [hy203]; exact H) | exact H
                have Ny203 := Aside0.mk hy203
                clear hy203
                have H' := Aside0.mk H
                clear H
                have p202 : 0 ≤ ((ji3) : Int) := of_decide_eq_true (by first | (with_reducible assumption) | assumption)
                have q202 : (ji3) < (l0.length : Int) := of_decide_eq_true (by first | (with_reducible assumption) | assumption)
                obtain ⟨ad202, e202, hx202_0⟩ := Kd.at_int HR0.out (ji3) p202 q202
                cases e202
                replace hx202_0 := (HB.out.cell (World.block_lt_of_cell? w _ hx202_0)).trans hx202_0
                replace p202 := eq_true p202
                replace q202 := eq_true q202
                go_wp2_with (first | ((with_reducible refine gate_builtin (b := .append) (xs := #[.tmp 12, .tmp 23]) rfl ?_); at_builtin; refine Kd.R_append (Kd.int .u8) (w0 := w) w.heap.size rfl (.tmp 12) (.tmp 23) 22 5 (.int .u8 0) 1 rfl Try.underlying22 info5 rfl (by decide) (by omega) u3 x3_1 (Go.bits .and .u8 (ji8) 1) [.int .u8 (Go.bits .and .u8 (ji8) 1)] (fun _ => True) (fun _ => False) rfl rfl ?aP (fun _ hk => hk.elim) ?aF ?aO ?aB ?aS ?aL ?_; (case aP => exact rfl); (case aB => exact (by repeat (first | (with_reducible first | exact HB.out | apply below_alloc | apply pw_below_drewN | apply below_drew1) | exact HB.out))); (case aF => exact (fun _ _ => trivial)); (case aO => exact (by (with_reducible repeat (first | apply Kd.R_alloc | apply Kd.R_drewN | apply Kd.R_drew)); exact HO_3.out)); (case aS => exact (below_size (by repeat (first | (with_reducible first | exact HB.out | apply below_alloc | apply pw_below_drewN | apply below_drew1) | exact HB.out)))); (case aL => have := LMc9.out; omega); intro v204 w10 ho hb hg hat; rw [← Ny203.out] at ho; have n0_ := Aside0.mk (hb); have n1_ := Aside0.mk (ho); clear HB; clear HO_3; have HB := n0_; have HO205 := n1_; clear n0_ n1_; clear ho hb hg hat))
                go_roundg k1
                case measure => have := HK1.out; omega
                case rel => exact ⟨(y203), (wrap64 (x4_1 + 1)), (by first | rfl | (simp; done) | (simp [*]; done)), H', ⟨by have := HK1.out; omega⟩, ⟨by (with_reducible repeat (first | apply Kd.R_alloc | apply Kd.R_drewN | apply Kd.R_drew)); exact HO205.out⟩, ⟨by repeat (first | (with_reducible first | exact HB.out | apply below_alloc | apply pw_below_drewN | apply below_drew1) | exact HB.out)⟩⟩
              · rw [if_neg c9] at H
                exact absurd H (by simp)
            · rw [if_neg c7] at H
              exact absurd H (by simp)
          · rw [if_neg c5] at H
            exact absurd H (by simp)
        · rw [if_neg c4] at H
          exact absurd H (by simp)
      · rw [if_neg c2] at H
        have c2b0 : decide (x4_1 < (wrap64 (8 * (l0.length : Int)))) = false := decide_eq_false c2
        clear c2
        obtain rfl := Option.some.inj H
        go_wp2
        go_ret
        exact ⟨_, by first | rfl | (simp [errW_none, errW_some] <;> rfl) | (simp [*, errW_none, errW_some] <;> rfl), by (with_reducible repeat (first | apply Kd.R_alloc | apply Kd.R_drewN | apply Kd.R_drew)); exact HO_3.out, by repeat (first | (with_reducible first | exact HB.out | apply below_alloc | apply pw_below_drewN | apply below_drew1) | exact HB.out)⟩

end Go.Proofs.Ytmlbppfcpejlpaa.X

-- Printed by this session's own program (wip/xprint.py) over the translation; its external functions are hand-written. Lean checks it.
namespace Go.Proofs.Ytmlbppfcpejlpaa.X
open Go.RowKit Go.Proofs.YtmlbppfcpejlpaaW.PrintWords Go.Proofs.YtmlbppfcpejlpaaW.PrintLast Go.Proofs.YtmlbppfcpejlpaaW.PrintMore
attribute [local go_sem] max2_int min2_int max_two min_two max_three min_three max_four min_four   -- for this text's walks alone
set_option linter.unusedVariables false
set_option linter.unusedSimpArgs false

/-! ### rickref04_Take: function 35 -/
def rickref04_Take.l0 : Nat → List Int → Int → Int → Int → Option (Int × List Int × Bool)
  | 0, _, _, _, _ => none
  | k + 1, x0, x1, x7, x8 => if x8 < x1 then (if 0 ≤ x8 then (if x8 < (x0.length : Int) then (rickref04_Take.l0 k x0 x1 (IntKind.u64.wrap ((IntKind.u64.wrap (x7 * 2)) + (IntKind.u64.wrap (rd x0 x8)))) (wrap64 (x8 + 1))) else (none)) else (none)) else (if 0 ≤ x1 then (if x1 ≤ (x0.length : Int) then (some (x7, (x0.drop (x1 : Int).toNat), true)) else (none)) else (none))
def rickref04_Take.f (k : Nat) (l0 : List Int) (a1 : Int) : Option (Int × List Int × Bool) := if (mn (mx a1 0) 64) > (l0.length : Int) then (some (0, l0, false)) else (rickref04_Take.l0 k l0 (mn (mx a1 0) 64) 0 0)
theorem rickref04_Take.mono_l : ∀ k, (∀ y0 y1 y2 y3, LeO (rickref04_Take.l0 k y0 y1 y2 y3) (rickref04_Take.l0 (k + 1) y0 y1 y2 y3))
  | 0 => fun _ _ _ _ r h => by simp [rickref04_Take.l0] at h
  | k + 1 => by
    have ih0 := rickref04_Take.mono_l k
    · intro y0 y1 y2 y3
      unfold rickref04_Take.l0
      repeat' first
      | (with_reducible exact ih0 _ _ _ _)
      | (with_reducible exact LeO.refl _)
      | (with_reducible exact LeO.none _)
      | (with_reducible refine LeO.ite ?_ ?_)
      | (with_reducible refine LeO.bind ?_ (fun _ => ?_))
      | exact ih0 _ _ _ _
      | exact LeO.none _
      | refine LeO.ite ?_ ?_
      | refine LeO.bind ?_ (fun _ => ?_)
theorem rickref04_Take.mono : ∀ a0 a1 k, LeO (rickref04_Take.f k a0 a1) (rickref04_Take.f (k + 1) a0 a1) := by
  intro a0 a1 k
  have ih0 := rickref04_Take.mono_l k
  unfold rickref04_Take.f
  repeat' first
      | (with_reducible exact ih0 _ _ _ _)
      | (with_reducible exact LeO.refl _)
      | (with_reducible exact LeO.none _)
      | (with_reducible refine LeO.ite ?_ ?_)
      | (with_reducible refine LeO.bind ?_ (fun _ => ?_))
      | exact ih0 _ _ _ _
      | exact LeO.none _
      | refine LeO.ite ?_ ?_
      | refine LeO.bind ?_ (fun _ => ?_)
set_option maxHeartbeats 8000000 in
set_option maxRecDepth 100000 in
theorem rickref04_Take.calls (k : Nat) (P0_ : Nat → Prop) (A0 : Option Addr) (c0 : Nat) (l0 : List Int) (a1 : Int) (r1 : Int) (r2 : List Int) (r3 : Bool) (w : World) (hs0 : Kd.V (Kd.int .u8) 5 w w.heap.size (fun k_ => P0_ k_) (.slice A0 l0.length c0) l0) (h : rickref04_Take.f k l0 a1 = some (r1, r2, r3)) :
    Calls Try.prog 35 #[.slice A0 l0.length c0, .int .i64 a1] w fun e w' => ∃ v1_ : Value, e = .returned (.tuple #[.int .u64 r1, v1_, .bool r3]) ∧ Kd.V (Kd.int .u8) 5 w' w.heap.size (fun k_ => (P0_ k_ ∨ w.heap.size ≤ k_)) v1_ r2 ∧ Below w.heap.size w w' := by
  have HO0 := Aside0.mk (show Kd.V (Kd.int .u8) 5 w w.heap.size (fun k_ => (P0_ k_ ∨ w.heap.size ≤ k_)) (.slice A0 l0.length c0) l0 from Kd.V_mono hs0 (fun k_ hk => .inl hk))
  have HB := Aside0.mk (Below.refl w.heap.size w)
  have H : (if (mn (mx a1 0) 64) > (l0.length : Int) then (some (0, l0, false)) else (rickref04_Take.l0 k l0 (mn (mx a1 0) 64) 0 0)) = some (r1, r2, r3) := h
  clear h
  obtain ⟨ji3, hji3⟩ : ∃ j_ : Int, (mx a1 0) = j_ := ⟨_, rfl⟩
  replace H : (if (mn (ji3) 64) > (l0.length : Int) then (some (0, l0, false)) else (rickref04_Take.l0 k l0 (mn (ji3) 64) 0 0)) = some (r1, r2, r3) := by first | (rw [hji3] at H; exact H) | (simp only [hji3] at H ⊢; exact H)
  (try (have hji3l : 0 ≤ ji3 := by (rw [← hji3]; unfold mx; (repeat' split) <;> omega)))
  (try (have hji3m : 0 ≤ ji3 := by omega))
  have hji3_ : (if a1 < 0 then 0 else a1) = ji3 := hji3
  obtain ⟨ji4, hji4⟩ : ∃ j_ : Int, (mn (ji3) 64) = j_ := ⟨_, rfl⟩
  replace H : (if (ji4) > (l0.length : Int) then (some (0, l0, false)) else (rickref04_Take.l0 k l0 ji4 0 0)) = some (r1, r2, r3) := by first | (rw [hji4] at H; exact H) | (simp only [hji4] at H ⊢; exact H)
  have hji4_ : (if 64 < (ji3) then 64 else (ji3)) = ji4 := hji4
  by_cases c5 : (ji4) > (l0.length : Int)
  · rw [if_pos c5] at H
    have c5b0 : decide ((l0.length : Int) < (ji4)) = true := decide_eq_true c5
    clear c5
    simp only [Option.some.injEq, Prod.mk.injEq] at H
    obtain ⟨rfl, rfl, rfl⟩ := H
    go_enter Try.func35, Try.ntmps35
    go_wp2
    repeat (go_quiet (fail); try go_wp2)
    go_ret3
    exact ⟨_, by first | rfl | (simp [errW_none, errW_some] <;> rfl) | (simp only [← hji3, ← hji4]; first | rfl | (simp [errW_none, errW_some] <;> rfl)) | (simp [*, errW_none, errW_some] <;> rfl), by (with_reducible repeat (first | apply Kd.V_alloc | apply Kd.V_drewN | apply Kd.V_drew)); exact HO0.out, by repeat (first | (with_reducible first | exact HB.out | apply below_alloc | apply pw_below_drewN | apply below_drew1) | exact HB.out)⟩
  · rw [if_neg c5] at H
    have c5b0 : decide ((l0.length : Int) < (ji4)) = false := decide_eq_false c5
    clear c5
    have H' := Aside0.mk H
    clear H
    go_enter Try.func35, Try.ntmps35
    go_wp2
    repeat (go_quiet (fail); try go_wp2)
    go_loopg [7, 8] k (fun kq v7 v8 w' => ∃ (x7_1 : Int) (x8_1 : Int), v7 = .int .u64 x7_1 ∧ v8 = .int .i64 x8_1 ∧ Aside0 (rickref04_Take.l0 kq l0 ji4 x7_1 x8_1 = some (r1, r2, r3)) ∧ Aside0 (kq ≤ k) ∧ Aside0 (Kd.V (Kd.int .u8) 5 w' w.heap.size (fun k_ => (P0_ k_ ∨ w.heap.size ≤ k_)) (.slice A0 l0.length c0) l0) ∧ Aside0 (Below w.heap.size w w'))
    case atStart => exact ⟨(0), (0), (by first | rfl | (simp; done) | (simp [*]; done)), (by first | rfl | (simp; done) | (simp [*]; done)), H', ⟨Nat.le_refl _⟩, ⟨by (with_reducible repeat (first | apply Kd.V_alloc | apply Kd.V_drewN | apply Kd.V_drew)); exact HO0.out⟩, ⟨by repeat (first | (with_reducible first | exact HB.out | apply below_alloc | apply pw_below_drewN | apply below_drew1) | exact HB.out)⟩⟩
    case round =>
      clear H'
      try clear p2
      try clear c3
      try clear c5
      try clear c5b0
      obtain ⟨x7_1, x8_1, rfl, rfl, HA, HK1, HO_0, HB⟩ := hrel
      cases gk with
      | zero => exact absurd HA.out (by simp [rickref04_Take.l0])
      | succ k1 =>
        have H := HA.out
        clear HA
        simp only [rickref04_Take.l0] at H
        by_cases c6 : x8_1 < ji4
        · rw [if_pos c6] at H
          have c6b0 : decide (x8_1 < ji4) = true := decide_eq_true c6
          clear c6
          by_cases c7 : 0 ≤ x8_1
          · rw [if_pos c7] at H
            have c7b0 : decide (0 ≤ x8_1) = true := decide_eq_true c7
            clear c7
            by_cases c8 : x8_1 < (l0.length : Int)
            · rw [if_pos c8] at H
              have c8b0 : decide (x8_1 < (l0.length : Int)) = true := decide_eq_true c8
              clear c8
              have H' := Aside0.mk H
              clear H
              have p206 : 0 ≤ (x8_1 : Int) := of_decide_eq_true (by first | (with_reducible assumption) | assumption)
              have q206 : x8_1 < (l0.length : Int) := of_decide_eq_true (by first | (with_reducible assumption) | assumption)
              obtain ⟨ad206, e206, hx206_0⟩ := Kd.at_int (Kd.V_reads' HO_0.out).2.2 x8_1 p206 q206
              cases e206
              replace p206 := eq_true p206
              replace q206 := eq_true q206
              go_wp2
              repeat (go_quiet (fail); try go_wp2)
              go_roundg k1
              case measure => have := HK1.out; omega
              case rel => exact ⟨(IntKind.u64.wrap ((IntKind.u64.wrap (x7_1 * 2)) + (IntKind.u64.wrap (rd l0 x8_1)))), (wrap64 (x8_1 + 1)), (by first | rfl | (simp; done) | (simp [*]; done)), (by first | rfl | (simp; done) | (simp [*]; done)), H', ⟨by have := HK1.out; omega⟩, ⟨by (with_reducible repeat (first | apply Kd.V_alloc | apply Kd.V_drewN | apply Kd.V_drew)); exact HO_0.out⟩, ⟨by repeat (first | (with_reducible first | exact HB.out | apply below_alloc | apply pw_below_drewN | apply below_drew1) | exact HB.out)⟩⟩
            · rw [if_neg c8] at H
              exact absurd H (by simp)
          · rw [if_neg c7] at H
            exact absurd H (by simp)
        · rw [if_neg c6] at H
          have c6b0 : decide (x8_1 < ji4) = false := decide_eq_false c6
          clear c6
          by_cases c9 : 0 ≤ ji4
          · rw [if_pos c9] at H
            have c9b0 := eq_true c9
            have c9b1 : decide (0 ≤ ji4) = true := decide_eq_true c9
            clear c9
            by_cases c10 : ji4 ≤ (l0.length : Int)
            · rw [if_pos c10] at H
              have c10b0 := eq_true c10
              have c10b1 : decide (ji4 ≤ (l0.length : Int)) = true := decide_eq_true c10
              clear c10
              obtain ⟨y207, hy207⟩ : ∃ y_ : List Int, y_ = (l0.drop (ji4 : Int).toNat) := ⟨_, rfl⟩
              replace H : (some (x7_1, y207, true)) = some (r1, r2, r3) := by first | (rw [hy207]; with_reducible exact H) | (have H2_ := (Option.bind_some _ _).symm.trans H; rw [hy207]; with_reducible exact H2_) | (have H2_ := (Option.bind_some _ _).symm.trans H; with_reducible exact H2_) | with_reducible exact H | (rw [hy207]; exact H) | exact H
              have Ny207 := Aside0.mk hy207
              clear hy207
              simp only [Option.some.injEq, Prod.mk.injEq] at H
              obtain ⟨rfl, rfl, rfl⟩ := H
              have q11 : (ji4 : Int) ≤ ((l0.length : Int) : Int) := of_decide_eq_true (by first | (with_reducible assumption) | assumption)
              obtain ⟨i011, hi011, _, hsz11, _⟩ := info_parts info5
              have hroom11 : l0.length ≤ c0 := (Kd.V_reads' HO_0.out).2.1
              have hC11 : Kd.F (Kd.int .u8) _ _ A0 l0.length l0 := (Kd.V_at (base := w.heap.size) HO_0.out).2.2
              have q011 : (0 : Int) ≤ (ji4 : Int) := of_decide_eq_true (by first | (with_reducible assumption) | assumption)
              have hcut11 := cut_from (P := Try.prog) 22 5 .i64 Try.underlying22 hi011 1 hsz11 A0 l0.length c0 ji4 q011 q11
              have hr11 := Kd.F_cut (m := (ji4 : Int).toNat) (c := c0) hC11 (by omega) hroom11
              obtain ⟨A11, hA11⟩ : ∃ A1, A1 = (if c0 = (ji4 : Int).toNat then A0 else (A0 : Option Addr).map (·.add ((ji4 : Int).toNat * 1))) := ⟨_, rfl⟩
              obtain ⟨c11, hc11⟩ : ∃ c1, c1 = c0 - (ji4 : Int).toNat := ⟨_, rfl⟩
              have hy11 : y207.length = l0.length - (ji4 : Int).toNat := (by rw [Ny207.out, List.length_drop] <;> omega)
              rw [show (l0).drop (ji4 : Int).toNat = y207 from Ny207.out.symm] at hr11
              replace hr11 : Kd.F (Kd.int .u8) _ _ A11 y207.length y207 := (by rw [hA11]; exact hr11)
              rw [← hy11, ← hA11, ← hc11] at hcut11
              have HO211 := Aside0.mk (show Kd.V (Kd.int .u8) 5 _ w.heap.size _ (.slice A11 y207.length c11) y207 from Kd.V_mk (by rw [hy11, hc11]; exact Nat.sub_le_sub_right hroom11 _) hr11)
              have HC211 := Aside0.mk (show y207.length ≤ c11 from by rw [hy11, hc11]; exact Nat.sub_le_sub_right hroom11 _)
              clear hr11 hC11 hroom11 hi011 hsz11 hc11
              have KY11 := Aside0.mk hy11
              have KA11 := Aside0.mk hA11
              clear hy11 hA11
              replace q11 := eq_true q11
              go_wp2
              repeat (go_quiet (fail); try go_wp2)
              go_ret3
              exact ⟨_, by first | rfl | (simp [errW_none, errW_some] <;> rfl) | (simp only [← hji3, ← hji4]; first | rfl | (simp [errW_none, errW_some] <;> rfl)) | (simp [*, errW_none, errW_some] <;> rfl), by (with_reducible repeat (first | apply Kd.V_alloc | apply Kd.V_drewN | apply Kd.V_drew)); exact HO211.out, by repeat (first | (with_reducible first | exact HB.out | apply below_alloc | apply pw_below_drewN | apply below_drew1) | exact HB.out)⟩
            · rw [if_neg c10] at H
              exact absurd H (by simp)
          · rw [if_neg c9] at H
            exact absurd H (by simp)

end Go.Proofs.Ytmlbppfcpejlpaa.X

/- What the printed functions of layer 4 (bits) tell of taking bits. No conditions. -/
namespace Go.Proofs.Ytmlbppfcpejlpaa.Q04
open Go Go.RowKit Go.Proofs.YtmlbppfcpejlpaaW.PrintWords Go.Proofs.YtmlbppfcpejlpaaW.PrintMore Go.Proofs.Ytmlbppfcpejlpaa.S Go.Proofs.Ytmlbppfcpejlpaa.B Go.Proofs.Ytmlbppfcpejlpaa.X
set_option linter.unusedVariables false
set_option linter.unusedSimpArgs false

theorem bit_u8 {b : List Int} (hb : Bs b) {i : Nat} (hi : i < 8 * b.length) :
    Go.bits .and .u8 (shr .u8 (rd b ((i / 8 : Nat) : Int)) ((7 - i % 8 : Nat) : Int)) 1 = bitAt b i := by
  have hlt : i / 8 < b.length := by omega
  obtain ⟨r0, r1⟩ := hb _ (List.getElem_mem hlt)
  have := ediv_pow_range r0 (7 - i % 8)
  rw [rd_get hlt, shr_nat .u8 _ (by simp [IntKind.bits]; omega), and_one_u8 this.1 (by omega)]
  unfold bitAt
  rw [List.getD_eq_getElem?_getD, List.getElem?_eq_getElem hlt]; rfl
theorem idx8 {i : Nat} (h : i < 10000000000000) : wrap64 (Int.tdiv (i : Int) 8) = ((i / 8 : Nat) : Int) ∧ wrap64 (7 - Int.tmod (i : Int) 8) = ((7 - i % 8 : Nat) : Int) := by
  constructor
  · rw [Int.tdiv_eq_ediv_of_nonneg (by omega), wrap64_id (by omega) (by omega)]; omega
  · rw [Int.tmod_eq_emod_of_nonneg (by omega), wrap64_id (by omega) (by omega)]; omega
theorem succ64 {i : Nat} (h : i < 10000000000000) : wrap64 ((i : Int) + 1) = ((i + 1 : Nat) : Int) := by rw [wrap64_id] <;> omega
theorem refbits_l0 {b : List Int} (hb : Bs b) (hl : b.length < 1000000000000) (d : Nat) : ∀ (i k : Nat), i + d = 8 * b.length → d < k →
    rickref04_Bits.l0 k b ((bitsOf b).take i) (i : Int) = some (bitsOf b) := by
  induction d with
  | zero =>
    intro i k hd hk
    obtain ⟨k, rfl⟩ : ∃ q, k = q + 1 := ⟨k - 1, by omega⟩
    simp only [rickref04_Bits.l0]
    rw [wrap64_id (n := 8 * (b.length : Int)) (by omega) (by omega), if_neg (by omega), List.take_of_length_le (by rw [bitsOf_len]; omega)]
  | succ d ih =>
    intro i k hd hk
    obtain ⟨k, rfl⟩ : ∃ q, k = q + 1 := ⟨k - 1, by omega⟩
    obtain ⟨e1, e2⟩ := idx8 (i := i) (by omega)
    have hlt : i < (bitsOf b).length := by rw [bitsOf_len]; omega
    simp only [rickref04_Bits.l0]
    rw [wrap64_id (n := 8 * (b.length : Int)) (by omega) (by omega), if_pos (by omega), e1, e2, if_pos (by omega), if_pos (by omega), if_pos (by omega), if_pos (by rw [List.length_take]; omega), bit_u8 hb (by omega), succ64 (by omega)]
    have := ih (i + 1) k (by omega) (by omega)
    rw [List.take_succ_eq_append_getElem hlt, bitsOf_get] at this
    exact this
theorem refbits_spec {k : Nat} {b : List Int} (hb : Bs b) (hl : b.length < 1000000000000) (hk : 8 * b.length < k) : rickref04_Bits.f k b = some (bitsOf b) := by
  unfold rickref04_Bits.f
  have := refbits_l0 hb hl (8 * b.length) 0 k (by omega) hk
  simpa using this

theorem pow_le64 {n : Nat} (h : n ≤ 64) : (2 : Int) ^ n ≤ 18446744073709551616 := by
  have : (2 : Int) ^ n ≤ 2 ^ 64 := by exact_mod_cast Nat.pow_le_pow_right (by decide) h
  simpa using this
theorem reftake_l0 {l : List Int} (hb : Bits l) (n : Nat) (hn : n ≤ 64) (hnl : n ≤ l.length) (hl : l.length < 1000000000000) (d : Nat) : ∀ (i k : Nat), i + d = n → d < k →
    rickref04_Take.l0 k l (n : Int) (valB (l.take i)) (i : Int) = some (valB (l.take n), l.drop n, true) := by
  induction d with
  | zero =>
    intro i k hd hk
    obtain ⟨k, rfl⟩ : ∃ q, k = q + 1 := ⟨k - 1, by omega⟩
    obtain rfl : i = n := by omega
    simp only [rickref04_Take.l0]
    rw [if_neg (by omega), if_pos (by omega), if_pos (by omega), Int.toNat_natCast]
  | succ d ih =>
    intro i k hd hk
    obtain ⟨k, rfl⟩ : ∃ q, k = q + 1 := ⟨k - 1, by omega⟩
    have hlt : i < l.length := by omega
    have hbi : Bits (l.take (i + 1)) := fun x hx => hb x (List.mem_of_mem_take hx)
    have hr := valB_range hbi
    have hr0 := valB_range (l := l.take i) (fun x hx => hb x (List.mem_of_mem_take hx))
    rw [List.length_take, show min (i + 1) l.length = i + 1 by omega] at hr
    have hp := pow_le64 (n := i + 1) (by omega)
    rw [List.take_succ_eq_append_getElem hlt, valB_snoc] at hr
    have hbit := hb _ (List.getElem_mem hlt)
    simp only [rickref04_Take.l0]
    rw [if_pos (by omega), if_pos (by omega), if_pos (by omega), rd_get hlt, wrap_u64_id (n := valB (l.take i) * 2) (by omega) (by omega), wrap_u64_id (n := l[i]) (by omega) (by omega), wrap_u64_id (by omega) (by omega), ← valB_snoc, ← List.take_succ_eq_append_getElem hlt, succ64 (by omega)]
    exact ih (i + 1) k (by omega) (by omega)
theorem reftake_spec {k : Nat} {l : List Int} {m : Int} (hb : Bits l) (hl : l.length < 1000000000000) (hk : 64 < k) :
    rickref04_Take.f k l m = some (if cl m ≤ l.length then (valB (l.take (cl m)), l.drop (cl m), true) else (0, l, false)) := by
  unfold rickref04_Take.f
  rw [cl_eq]
  have := cl_le m
  by_cases h : cl m ≤ l.length
  · rw [if_neg (by omega), if_pos h]
    have := reftake_l0 hb (cl m) (by omega) h hl (cl m) 0 k (by omega) (by omega)
    simpa [valB] using this
  · rw [if_pos (by omega), if_neg h]

theorem or_one {x b : Int} (h0 : 0 ≤ x) (h1 : x % 2 = 0) (h2 : x < 18446744073709551616) (hb : b = 0 ∨ b = 1) : Go.bits .or .u64 x b = x + b :=
  or_join 1 h0 (by simpa using h1) h2 (by omega) (by simp; omega) (by omega)
theorem take_l0 {b : List Int} (hb : Bs b) (hl : b.length < 1000000000000) (n at0 : Nat) (hn : n ≤ 64) (hnl : at0 + n ≤ 8 * b.length) (d : Nat) : ∀ (i k : Nat), i + d = n → d < k →
    bits_Reader_Take.l0 k (valB (((bitsOf b).drop at0).take i)) (n : Int) (i : Int) b ((at0 + i : Nat) : Int) false = some (valB (((bitsOf b).drop at0).take n), ((at0 + n : Nat) : Int), false) := by
  induction d with
  | zero =>
    intro i k hd hk
    obtain ⟨k, rfl⟩ : ∃ q, k = q + 1 := ⟨k - 1, by omega⟩
    obtain rfl : i = n := by omega
    simp only [bits_Reader_Take.l0]
    rw [if_neg (by omega)]
  | succ d ih =>
    intro i k hd hk
    obtain ⟨k, rfl⟩ : ∃ q, k = q + 1 := ⟨k - 1, by omega⟩
    obtain ⟨e1, e2⟩ := idx8 (i := at0 + i) (by omega)
    have hlen : ((bitsOf b).drop at0).length = 8 * b.length - at0 := by rw [List.length_drop, bitsOf_len]
    have hlt : i < ((bitsOf b).drop at0).length := by omega
    have hB := bitsOf_bits b
    have hbd : Bits ((bitsOf b).drop at0) := fun x hx => hB x (List.mem_of_mem_drop hx)
    have hr := valB_range (l := ((bitsOf b).drop at0).take (i + 1)) (fun x hx => hbd x (List.mem_of_mem_take hx))
    have hr0 := valB_range (l := ((bitsOf b).drop at0).take i) (fun x hx => hbd x (List.mem_of_mem_take hx))
    rw [List.length_take, show min (i + 1) ((bitsOf b).drop at0).length = i + 1 by omega] at hr
    have hp := pow_le64 (n := i + 1) (by omega)
    rw [List.take_succ_eq_append_getElem hlt, valB_snoc] at hr
    have hbit := hbd _ (List.getElem_mem hlt)
    have hget : ((bitsOf b).drop at0)[i] = bitAt b (at0 + i) := by rw [List.getElem_drop, bitsOf_get]
    simp only [bits_Reader_Take.l0]
    rw [if_pos (by omega), e1, e2, if_pos (by omega), if_pos (by omega), if_pos (by omega), bit_u8 hb (by omega), ← hget, wrap_u64_id (n := valB _ * 2) (by omega) (by omega), wrap_u64_id (n := ((bitsOf b).drop at0)[i]) (by omega) (by omega), or_one (by omega) (by omega) (by omega) hbit, ← valB_snoc, ← List.take_succ_eq_append_getElem hlt, succ64 (by omega), succ64 (by omega)]
    exact ih (i + 1) k (by omega) (by omega)
theorem left_spec {b : List Int} {at0 : Nat} (hl : b.length < 1000000000000) (ha : at0 ≤ 8 * b.length) : bits_Reader_Left.f b (at0 : Int) false = some (((8 * b.length - at0 : Nat) : Int), (at0 : Int), false) := by
  unfold bits_Reader_Left.f
  have e : wrap64 (wrap64 (8 * (b.length : Int)) - (at0 : Int)) = ((8 * b.length - at0 : Nat) : Int) := by
    rw [wrap64_id (n := 8 * (b.length : Int)) (by omega) (by omega), wrap64_id (by omega) (by omega)]; omega
  rw [e]
theorem held_spec (m : Int) : bits_held.f m = some (cl m : Int) := by unfold bits_held.f; rw [cl_eq]
theorem take_bad {k : Nat} {b : List Int} {m at0 : Int} : bits_Reader_Take.f k b at0 true m = some (0, at0, true) := by
  unfold bits_Reader_Take.f
  exact if_pos rfl
theorem take_short {k : Nat} {b : List Int} {m : Int} {at0 : Nat} (hl : b.length < 1000000000000) (ha : at0 ≤ 8 * b.length) (h : ¬ at0 + cl m ≤ 8 * b.length) : bits_Reader_Take.f k b (at0 : Int) false m = some (0, (at0 : Int), true) := by
  unfold bits_Reader_Take.f
  rw [if_neg (by decide), held_spec, Option.bind_some, left_spec hl ha, Option.bind_some]
  exact if_pos (by omega)
theorem take_ok {k : Nat} {b : List Int} {m : Int} {at0 : Nat} (hb : Bs b) (hl : b.length < 1000000000000) (h : at0 + cl m ≤ 8 * b.length) (hk : 64 < k) : bits_Reader_Take.f k b (at0 : Int) false m = some (valB (((bitsOf b).drop at0).take (cl m)), ((at0 + cl m : Nat) : Int), false) := by
  have hc := cl_le m
  unfold bits_Reader_Take.f
  rw [if_neg (by decide), held_spec, Option.bind_some, left_spec hl (by omega), Option.bind_some]
  refine (if_neg (by omega)).trans ?_
  exact take_l0 hb hl (cl m) at0 (by omega) h (cl m) 0 k (by omega) (by omega)
end Go.Proofs.Ytmlbppfcpejlpaa.Q04

/- Whole numbers told by bits at a place. No conditions. -/
namespace Go.Proofs.Ytmlbppfcpejlpaa.Q06
open Go Go.RowKit Go.Proofs.YtmlbppfcpejlpaaW.PrintWords Go.Proofs.YtmlbppfcpejlpaaW.PrintMore Go.Proofs.Ytmlbppfcpejlpaa.S Go.Proofs.Ytmlbppfcpejlpaa.B Go.Proofs.Ytmlbppfcpejlpaa.X Go.Proofs.Ytmlbppfcpejlpaa.Q04
set_option linter.unusedVariables false
set_option linter.unusedSimpArgs false

/-- The number of the n bits at a place. -/
def gv (b : List Int) (at0 n : Nat) : Int := valB (((bitsOf b).drop at0).take n)
theorem gv_range (b : List Int) (at0 n : Nat) : 0 ≤ gv b at0 n ∧ gv b at0 n < 2 ^ n := by
  have hb : Bits (((bitsOf b).drop at0).take n) := fun x hx => bitsOf_bits b x (List.mem_of_mem_drop (List.mem_of_mem_take hx))
  have h := valB_range hb
  refine ⟨h.1, Int.lt_of_lt_of_le h.2 ?_⟩
  exact_mod_cast Nat.pow_le_pow_right (by decide) (List.length_take_le _ _)
theorem gv_range64 (b : List Int) (at0 : Nat) {n : Nat} (hn : n ≤ 64) : 0 ≤ gv b at0 n ∧ gv b at0 n < 18446744073709551616 := by
  have h := gv_range b at0 n
  have := pow_le64 hn
  omega
theorem cl_id {m : Int} (h0 : 0 ≤ m) (h1 : m ≤ 64) : cl m = m.toNat := by unfold cl mn mx; split <;> split <;> omega
theorem take_good {b : List Int} {m : Int} {at0 : Nat} (hb : Bs b) (hl : b.length < 1000000000000) (h0 : 0 ≤ m) (h1 : m ≤ 64) (h : at0 + m.toNat ≤ 8 * b.length) :
    bits_Reader_Take.f 65 b (at0 : Int) false m = some (gv b at0 m.toNat, ((at0 + m.toNat : Nat) : Int), false) := by
  have := take_ok (k := 65) (m := m) hb hl (by rw [cl_id h0 h1]; exact h) (by omega)
  rw [cl_id h0 h1] at this
  exact this
theorem take_any {b : List Int} {m : Int} {at0 : Nat} {bad : Bool} (hb : Bs b) (hl : b.length < 1000000000000) (ha : at0 ≤ 8 * b.length) (h0 : 0 ≤ m) (h1 : m ≤ 64) :
    ∃ (tv : Int) (a1 : Nat) (bad1 : Bool), bits_Reader_Take.f 65 b (at0 : Int) bad m = some (tv, (a1 : Int), bad1) ∧ 0 ≤ tv ∧ tv < 18446744073709551616 ∧ a1 ≤ 8 * b.length ∧
      ((bad = true ∧ bad1 = true ∧ tv = 0 ∧ a1 = at0) ∨ (bad = false ∧ bad1 = false ∧ at0 + m.toNat ≤ 8 * b.length ∧ a1 = at0 + m.toNat ∧ tv = gv b at0 m.toNat) ∨ (bad = false ∧ bad1 = true ∧ 8 * b.length < at0 + m.toNat ∧ tv = 0 ∧ a1 = at0)) := by
  cases bad with
  | true => exact ⟨0, at0, true, take_bad, by omega, by omega, ha, .inl ⟨rfl, rfl, rfl, rfl⟩⟩
  | false =>
    by_cases h : at0 + m.toNat ≤ 8 * b.length
    · have := gv_range64 b at0 (n := m.toNat) (by omega)
      exact ⟨_, _, false, take_good hb hl h0 h1 h, this.1, this.2, h, .inr (.inl ⟨rfl, rfl, h, rfl, rfl⟩)⟩
    · exact ⟨0, at0, true, take_short hl ha (by rw [cl_id h0 h1]; exact h), by omega, by omega, ha, .inr (.inr ⟨rfl, rfl, by omega, rfl, rfl⟩)⟩
theorem gv_byte {b : List Int} (hb : Bs b) {q : Nat} (hq : q < b.length) : gv b (8 * q) 8 = b[q] := by
  have e : ((bitsOf b).drop (8 * q)).take 8 = (List.range 8).map (fun j => bitAt b (8 * q + j)) := by
    apply List.ext_getElem
    · rw [List.length_take, List.length_drop, bitsOf_len, List.length_map, List.length_range]; omega
    · intro i h1 h2
      rw [List.getElem_take, List.getElem_drop, bitsOf_get, List.getElem_map, List.getElem_range]
  obtain ⟨r0, r1⟩ := hb _ (List.getElem_mem hq)
  have hbit : ∀ j, j < 8 → bitAt b (8 * q + j) = b[q] / 2 ^ (7 - j) % 2 := fun j hj => by
    unfold bitAt
    rw [show (8 * q + j) / 8 = q by omega, show (8 * q + j) % 8 = j by omega, List.getD_eq_getElem?_getD, List.getElem?_eq_getElem hq]; rfl
  unfold gv
  rw [e, show List.range 8 = [0, 1, 2, 3, 4, 5, 6, 7] by rfl]
  simp only [List.map_cons, List.map_nil, valB, List.foldl_cons, List.foldl_nil]
  rw [hbit 0 (by omega), hbit 1 (by omega), hbit 2 (by omega), hbit 3 (by omega), hbit 4 (by omega), hbit 5 (by omega), hbit 6 (by omega), hbit 7 (by omega)]
  generalize b[q] = y at *
  simp only [Nat.reduceSub, show (2 : Int) ^ 7 = 128 by decide, show (2 : Int) ^ 6 = 64 by decide, show (2 : Int) ^ 5 = 32 by decide, show (2 : Int) ^ 4 = 16 by decide, show (2 : Int) ^ 3 = 8 by decide, show (2 : Int) ^ 2 = 4 by decide, show (2 : Int) ^ 1 = 2 by decide, show (2 : Int) ^ 0 = 1 by decide]
  omega
def okB (l : List Int) : Bool := l.all (fun x => decide (0 ≤ x ∧ x < 256)) && decide (l.length < 1000000000)
theorem okB_bs {l : List Int} (h : okB l = true) : Bs l ∧ l.length < 1000000000 := by
  unfold okB at h
  rw [Bool.and_eq_true] at h
  exact ⟨fun x hx => by simpa using List.all_eq_true.1 h.1 x hx, by simpa using h.2⟩
theorem bs_okB {l : List Int} (h : Bs l) (hl : l.length < 1000000000) : okB l = true := by
  unfold okB
  rw [Bool.and_eq_true]
  exact ⟨List.all_eq_true.2 (fun x hx => by simpa using h x hx), by simpa using hl⟩
end Go.Proofs.Ytmlbppfcpejlpaa.Q06

-- Printed by this session's own program (wip/xprint.py) over the translation; its external functions are hand-written. Lean checks it.
namespace Go.Proofs.Ytmlbppfcpejlpaa.X
open Go.RowKit Go.Proofs.YtmlbppfcpejlpaaW.PrintWords Go.Proofs.YtmlbppfcpejlpaaW.PrintLast Go.Proofs.YtmlbppfcpejlpaaW.PrintMore
attribute [local go_sem] max2_int min2_int max_two min_two max_three min_three max_four min_four   -- for this text's walks alone
set_option linter.unusedVariables false
set_option linter.unusedSimpArgs false

/-! ### bytes_Equal: function 66 -/
def bytes_Equal.f (l0 : List Int) (l1 : List Int) : Option (Bool) := some ((strOfNums l0).toList == (strOfNums l1).toList)
set_option maxHeartbeats 8000000 in
set_option maxRecDepth 100000 in
theorem bytes_Equal.calls (A0 : Option Addr) (c0 : Nat) (l0 : List Int) (A1 : Option Addr) (c1 : Nat) (l1 : List Int) (r : Bool) (w : World) (hr0 : Kd.C (Kd.int .u8) w A0 l0.length l0) (hc0 : l0.length ≤ c0) (hr1 : Kd.C (Kd.int .u8) w A1 l1.length l1) (hc1 : l1.length ≤ c1) (h : bytes_Equal.f l0 l1 = some r) :
    Calls Try.prog 66 #[.slice A0 l0.length c0, .slice A1 l1.length c1] w fun e w' => e = .returned (.bool r) ∧ Drawn0 w w' := by
  have HR0 := Aside0.mk hr0
  have HC0 := Aside0.mk hc0
  clear hr0 hc0
  have HR1 := Aside0.mk hr1
  have HC1 := Aside0.mk hc1
  clear hr1 hc1
  have H : (some ((strOfNums l0).toList == (strOfNums l1).toList)) = some r := h
  clear h
  obtain rfl := Option.some.inj H
  have hcv3 := Kd.C_string (P := Try.prog) (A := A0) (c := c0) Try.underlying22 Try.underlying5 Try.underlying9 HR0.out
  have hcv4 := Kd.C_string (P := Try.prog) (A := A1) (c := c1) Try.underlying22 Try.underlying5 Try.underlying9 HR1.out
  go_enter Try.func66, Try.ntmps66
  go_wp2
  go_ret
  exact ⟨by first | rfl | (simp; done) | (simp [*]; done), by repeat (first | exact Drawn0.refl _ | apply Drawn0.step)⟩

end Go.Proofs.Ytmlbppfcpejlpaa.X

-- Printed by this session's own program (wip/xprint.py) over the translation; its external functions are hand-written. Lean checks it.
namespace Go.Proofs.Ytmlbppfcpejlpaa.X
open Go.RowKit Go.Proofs.YtmlbppfcpejlpaaW.PrintWords Go.Proofs.YtmlbppfcpejlpaaW.PrintLast Go.Proofs.YtmlbppfcpejlpaaW.PrintMore
attribute [local go_sem] max2_int min2_int max_two min_two max_three min_three max_four min_four   -- for this text's walks alone
set_option linter.unusedVariables false
set_option linter.unusedSimpArgs false

/-! ### bytes_HasPrefix: function 60 -/
def bytes_HasPrefix.f (l0 : List Int) (l1 : List Int) : Option (Bool) := if (l0.length : Int) ≥ (l1.length : Int) then (if 0 ≤ (l1.length : Int) then (if (l1.length : Int) ≤ (l0.length : Int) then ((bytes_Equal.f (l0.take ((l1.length : Int) : Int).toNat) l1).bind fun t389 => (some t389)) else (none)) else (none)) else (some false)
set_option maxHeartbeats 8000000 in
set_option maxRecDepth 100000 in
theorem bytes_HasPrefix.calls (A0 : Option Addr) (c0 : Nat) (l0 : List Int) (A1 : Option Addr) (c1 : Nat) (l1 : List Int) (r : Bool) (w : World) (hr0 : Kd.C (Kd.int .u8) w A0 l0.length l0) (hc0 : l0.length ≤ c0) (hr1 : Kd.C (Kd.int .u8) w A1 l1.length l1) (hc1 : l1.length ≤ c1) (h : bytes_HasPrefix.f l0 l1 = some r) :
    Calls Try.prog 60 #[.slice A0 l0.length c0, .slice A1 l1.length c1] w fun e w' => e = .returned (.bool r) ∧ Drawn0 w w' := by
  have HR0 := Aside0.mk hr0
  have HC0 := Aside0.mk hc0
  clear hr0 hc0
  have HR1 := Aside0.mk hr1
  have HC1 := Aside0.mk hc1
  clear hr1 hc1
  have H : (if (l0.length : Int) ≥ (l1.length : Int) then (if 0 ≤ (l1.length : Int) then (if (l1.length : Int) ≤ (l0.length : Int) then ((bytes_Equal.f (l0.take ((l1.length : Int) : Int).toNat) l1).bind fun t389 => (some t389)) else (none)) else (none)) else (some false)) = some r := h
  clear h
  by_cases c3 : (l0.length : Int) ≥ (l1.length : Int)
  · rw [if_pos c3] at H
    have c3b0 : decide ((l1.length : Int) ≤ (l0.length : Int)) = true := decide_eq_true c3
    have c3b1 : decide (l1.length ≤ l0.length) = true := decide_eq_true (Int.ofNat_le.mp c3)
    clear c3
    by_cases c4 : 0 ≤ (l1.length : Int)
    · rw [if_pos c4] at H
      have c4b0 := eq_true c4
      have c4b1 : decide (0 ≤ (l1.length : Int)) = true := decide_eq_true c4
      clear c4
      by_cases c5 : (l1.length : Int) ≤ (l0.length : Int)
      · rw [if_pos c5] at H
        have c5b0 := eq_true c5
        have c5b1 : decide ((l1.length : Int) ≤ (l0.length : Int)) = true := decide_eq_true c5
        clear c5
        replace H := Option.bind_eq_some_iff.mp H
        obtain ⟨t389, A60, H⟩ := H
        replace H : (some t389) = some r := H
        have A6 := Aside0.mk A60
        clear A60
        obtain rfl := Option.some.inj H
        obtain ⟨i07, hi07, _, hsz7, _⟩ := info_parts info5
        obtain ⟨hcut7, hA7, hC7⟩ := print_take_of (P := Try.prog) (Value.int .u8) 0 22 5 .i64 Try.underlying22 hi07 hsz7 A0 c0 l0 (l1.length : Int) (of_decide_eq_true (by first | (with_reducible assumption) | assumption)) (of_decide_eq_true (by first | (with_reducible assumption) | assumption)) HC0.out
        have HR388 := Aside0.mk (Kd.C_of_reads (h1 := fun _ => rfl) (hA7 _ (Kd.reads_of_C HR0.out)))
        have HC388 := Aside0.mk hC7
        clear hA7 hC7 hi07 hsz7
        obtain ⟨yq7, hyq7⟩ : ∃ y_ : List Int, y_ = l0.take ((l1.length : Int) : Int).toNat := ⟨_, rfl⟩
        rw [← hyq7] at hcut7 HR388 HC388
        have eyq7 : (l0.take ((l1.length : Int) : Int).toNat) = yq7 := hyq7.symm
        (try rw [eyq7] at A6)
        (try rw [eyq7] at H)
        (try rw [eyq7] at c5b1)
        (try rw [eyq7] at c5b0)
        (try rw [eyq7] at c4b1)
        (try rw [eyq7] at c4b0)
        (try rw [eyq7] at c3b1)
        (try rw [eyq7] at c3b0)
        (try rw [eyq7] at HC1)
        (try rw [eyq7] at HC0)
        have Nyq7 := Aside0.mk hyq7
        clear eyq7 hyq7
        go_enter Try.func60, Try.ntmps60
        go_wp2_with (first | (go_at_call 66; (with_reducible refine (bytes_Equal.calls _ _ yq7 _ _ l1 t389 _ ?side1 ?side2 ?side3 ?side4 A6.out).mono ?_); (case side1 => repeat (first | exact HR388.out | (with_reducible refine Kd.C_alloc ?_ _) | (with_reducible refine Kd.C_drewN ?_ _) | (with_reducible refine Kd.C_drew ?_))); (case side2 => exact HC388.out); (case side3 => repeat (first | exact HR1.out | (with_reducible refine Kd.C_alloc ?_ _) | (with_reducible refine Kd.C_drewN ?_ _) | (with_reducible refine Kd.C_drew ?_))); (case side4 => exact HC1.out); rintro e w' ⟨rfl, ⟨nd, rfl⟩⟩))
        go_ret
        exact ⟨by first | rfl | (simp; done) | (simp [*]; done), by repeat (first | exact Drawn0.refl _ | apply Drawn0.step)⟩
      · rw [if_neg c5] at H
        exact absurd H (by simp)
    · rw [if_neg c4] at H
      exact absurd H (by simp)
  · rw [if_neg c3] at H
    have c3b0 : decide ((l1.length : Int) ≤ (l0.length : Int)) = false := decide_eq_false c3
    have c3b1 : decide (l1.length ≤ l0.length) = false := decide_eq_false (fun h => c3 (Int.ofNat_le.mpr h))
    clear c3
    obtain rfl := Option.some.inj H
    go_enter Try.func60, Try.ntmps60
    go_wp2
    go_ret
    exact ⟨by first | rfl | (simp; done) | (simp [*]; done), by repeat (first | exact Drawn0.refl _ | apply Drawn0.step)⟩

end Go.Proofs.Ytmlbppfcpejlpaa.X

/- Bytes of whole numbers, laid end to end; prefixes. No conditions. -/
namespace Go.Proofs.Ytmlbppfcpejlpaa.Q06
open Go Go.RowKit Go.Proofs.YtmlbppfcpejlpaaW.PrintWords Go.Proofs.YtmlbppfcpejlpaaW.PrintMore Go.Proofs.Ytmlbppfcpejlpaa.S Go.Proofs.Ytmlbppfcpejlpaa.B Go.Proofs.Ytmlbppfcpejlpaa.X Go.Proofs.Ytmlbppfcpejlpaa.Q04
set_option linter.unusedVariables false
set_option linter.unusedSimpArgs false

theorem getD_append_left {a b : List Int} {i : Nat} (h : i < a.length) : (a ++ b).getD i 0 = a.getD i 0 := by
  simp only [List.getD_eq_getElem?_getD, List.getElem?_append_left h]
theorem getD_append_right {a b : List Int} {i : Nat} (h : a.length ≤ i) : (a ++ b).getD i 0 = b.getD (i - a.length) 0 := by
  simp only [List.getD_eq_getElem?_getD, List.getElem?_append_right h]
theorem packB_append {a b : List Int} (h : a.length % 8 = 0) : packB (a ++ b) = packB a ++ packB b := by
  apply List.ext_getElem
  · rw [packB_len, List.length_append, List.length_append, packB_len, packB_len]; omega
  · intro i h1 h2
    have e : ∀ (l : List Int) (i : Nat) (h : i < (packB l).length), (packB l)[i] = byteAt l i := fun l i h => by simp [packB, rows]
    rw [e, List.getElem_append]
    split
    · rename_i hi
      rw [packB_len] at hi
      rw [e]
      unfold byteAt
      repeat rw [getD_append_left (by omega)]
    · rename_i hi
      rw [packB_len] at hi
      rw [e]
      unfold byteAt
      have q : ∀ j, (a ++ b).getD (8 * i + j) 0 = b.getD (8 * (i - (packB a).length) + j) 0 := fun j => by
        rw [getD_append_right (by omega), packB_len]; congr 1; omega
      have q0 := q 0
      simp only [Nat.add_zero] at q0
      rw [q0, q 1, q 2, q 3, q 4, q 5, q 6, q 7]
theorem bitsN_getD (n : Nat) (v : Int) : ∀ j, j < n → (bitsN n v).getD j 0 = v / 2 ^ (n - 1 - j) % 2 := by
  induction n with
  | zero => intro j h; omega
  | succ n ih =>
    intro j h
    cases j with
    | zero => simp [bitsN]
    | succ j =>
      have := ih j (by omega)
      rw [bitsN, List.getD_cons_succ, this, show n + 1 - 1 - (j + 1) = n - 1 - j by omega]
theorem byte_split (y : Int) : y / 128 % 2 * 128 + y / 64 % 2 * 64 + y / 32 % 2 * 32 + y / 16 % 2 * 16 + y / 8 % 2 * 8 + y / 4 % 2 * 4 + y / 2 % 2 * 2 + y % 2 = y % 256 := by omega
theorem packB_bitsN (m : Nat) (v : Int) : packB (bitsN (8 * m) v) = (List.range m).map (fun i => v / 2 ^ (8 * (m - 1 - i)) % 256) := by
  apply List.ext_getElem
  · rw [packB_len, bitsN_len, List.length_map, List.length_range]; omega
  · intro i h1 h2
    rw [List.length_map, List.length_range] at h2
    rw [List.getElem_map, List.getElem_range]
    have e : (packB (bitsN (8 * m) v))[i] = byteAt (bitsN (8 * m) v) i := by simp [packB, rows]
    rw [e, ← byte_split]
    unfold byteAt
    have q : ∀ j, j < 8 → (bitsN (8 * m) v).getD (8 * i + j) 0 = v / 2 ^ (8 * (m - 1 - i)) / 2 ^ (7 - j) % 2 := fun j hj => by
      rw [bitsN_getD _ _ _ (by omega), Int.ediv_ediv_of_nonneg (Int.pow_nonneg (by omega)), ← Int.pow_add]
      congr 3; omega
    have q0 := q 0 (by omega)
    simp only [Nat.add_zero] at q0
    rw [q0, q 1 (by omega), q 2 (by omega), q 3 (by omega), q 4 (by omega), q 5 (by omega), q 6 (by omega), q 7 (by omega)]
    simp only [Nat.reduceSub, show (2 : Int) ^ 7 = 128 by decide, show (2 : Int) ^ 6 = 64 by decide, show (2 : Int) ^ 5 = 32 by decide, show (2 : Int) ^ 4 = 16 by decide, show (2 : Int) ^ 3 = 8 by decide, show (2 : Int) ^ 2 = 4 by decide, show (2 : Int) ^ 1 = 2 by decide, show (2 : Int) ^ 0 = 1 by decide, Int.ediv_one]
theorem packB_8 {v : Int} (h0 : 0 ≤ v) (h1 : v < 256) : packB (bitsN 8 v) = [v] := by
  have := packB_bitsN 1 v
  simp at this
  rw [this, Int.emod_eq_of_lt h0 h1]
theorem bitsOf_append (a b : List Int) : bitsOf (a ++ b) = bitsOf a ++ bitsOf b := by
  apply List.ext_getElem
  · simp only [bitsOf_len, List.length_append]; omega
  · intro i h1 h2
    rw [bitsOf_get, List.getElem_append]
    split
    · rename_i hi
      rw [bitsOf_len] at hi
      rw [bitsOf_get]
      unfold bitAt
      rw [getD_append_left (by omega)]
    · rename_i hi
      rw [bitsOf_len] at hi
      rw [bitsOf_get]
      unfold bitAt
      rw [getD_append_right (by omega), bitsOf_len]
      congr 2
      · congr 1; omega
      · congr 1; omega
/-- Of bits that were laid as bytes, some are told at their place. -/
theorem gv_packB {L more : List Int} (hL : Bits L) {at0 n : Nat} (h : at0 + n ≤ L.length) : gv (packB L ++ more) at0 n = valB ((L.drop at0).take n) := by
  unfold gv
  rw [bitsOf_append, bitsOf_packB hL, List.append_assoc, List.drop_append_of_le_length (by omega), List.take_append_of_le_length (by rw [List.length_drop]; omega)]

theorem u8_inj {x y : Int} (hx : 0 ≤ x ∧ x < 256) (hy : 0 ≤ y ∧ y < 256) (h : UInt8.ofNat x.toNat = UInt8.ofNat y.toNat) : x = y := by
  have := congrArg UInt8.toNat h
  simp at this
  omega
theorem strOf_inj {a b : List Int} (ha : Bs a) (hb : Bs b) (h : (strOfNums a).toList = (strOfNums b).toList) : a = b := by
  rw [strOf_toList, strOf_toList] at h
  induction a generalizing b with
  | nil => cases b with | nil => rfl | cons y b => simp at h
  | cons x a ih =>
    cases b with
    | nil => simp at h
    | cons y b =>
      simp only [List.map_cons, List.cons.injEq] at h
      rw [u8_inj (ha x List.mem_cons_self) (hb y List.mem_cons_self) h.1, ih (fun z hz => ha z (List.mem_cons_of_mem _ hz)) (fun z hz => hb z (List.mem_cons_of_mem _ hz)) h.2]
theorem prefix_yes (b more : List Int) : bytes_HasPrefix.f (b ++ more) b = some true := by
  unfold bytes_HasPrefix.f
  rw [if_pos (by rw [List.length_append]; omega), if_pos (by omega), if_pos (by rw [List.length_append]; omega), Int.toNat_natCast, List.take_left]
  simp [bytes_Equal.f]
theorem prefix_spec {a b : List Int} (ha : Bs a) (hb : Bs b) : bytes_HasPrefix.f a b = some (decide (a.take b.length = b)) := by
  unfold bytes_HasPrefix.f
  by_cases h : b.length ≤ a.length
  · rw [if_pos (by omega), if_pos (by omega), if_pos (by omega), Int.toNat_natCast]
    simp only [bytes_Equal.f, Option.bind_some]
    congr 1
    by_cases e : a.take b.length = b
    · rw [e]; simp
    · rw [decide_eq_false e]
      rw [beq_eq_false_iff_ne]
      exact fun h => e (strOf_inj (ha.take _) hb h)
  · rw [if_neg (by omega), decide_eq_false]
    intro e
    have := congrArg List.length e
    rw [List.length_take] at this
    omega
end Go.Proofs.Ytmlbppfcpejlpaa.Q06

/- A row of bits that begins at a place of bytes, and numbers taken from there. No conditions. -/
namespace Go.Proofs.Ytmlbppfcpejlpaa.Q06
open Go Go.RowKit Go.Proofs.YtmlbppfcpejlpaaW.PrintWords Go.Proofs.YtmlbppfcpejlpaaW.PrintMore Go.Proofs.Ytmlbppfcpejlpaa.S Go.Proofs.Ytmlbppfcpejlpaa.B Go.Proofs.Ytmlbppfcpejlpaa.X Go.Proofs.Ytmlbppfcpejlpaa.Q04
set_option linter.unusedVariables false
set_option linter.unusedSimpArgs false

/-- The bits from a place on begin with P. -/
def Starts (b : List Int) (a : Nat) (P : List Int) : Prop := a ≤ 8 * b.length ∧ ∃ R, (bitsOf b).drop a = P ++ R
theorem Starts.of {L : List Int} (hL : Bits L) (more : List Int) : Starts (packB L ++ more) 0 L := by
  refine ⟨Nat.zero_le _, List.replicate (8 * (packB L).length - L.length) 0 ++ bitsOf more, ?_⟩
  rw [bitsOf_append, bitsOf_packB hL, List.drop_zero, List.append_assoc]
theorem Starts.le {b : List Int} {a : Nat} {P : List Int} (h : Starts b a P) : a + P.length ≤ 8 * b.length := by
  obtain ⟨h0, R, hR⟩ := h
  have := congrArg List.length hR
  rw [List.length_drop, bitsOf_len, List.length_append] at this
  omega
theorem Starts.next {b : List Int} {a : Nat} {P Q : List Int} (h : Starts b a (P ++ Q)) : Starts b (a + P.length) Q := by
  have hle := h.le
  obtain ⟨h0, R, hR⟩ := h
  refine ⟨by rw [List.length_append] at hle; omega, R, ?_⟩
  rw [← List.drop_drop, hR, List.append_assoc, List.drop_left]
theorem Starts.left {b : List Int} {a : Nat} {P Q : List Int} (h : Starts b a (P ++ Q)) : Starts b a P := by
  obtain ⟨h0, R, hR⟩ := h
  exact ⟨h0, Q ++ R, by rw [hR, List.append_assoc]⟩
theorem Starts.take {b : List Int} (hb : Bs b) (hl : b.length < 1000000000) {a n : Nat} {v m : Int} {Q : List Int} (h : Starts b a (bitsN n v ++ Q)) (hn : n ≤ 64) (hm : m = (n : Int)) (hv : 0 ≤ v) (k : Nat) (hk : 64 < k) :
    bits_Reader_Take.f k b (a : Int) false m = some (v % 2 ^ n, ((a + n : Nat) : Int), false) ∧ Starts b (a + n) Q := by
  have hc : cl m = n := by rw [cl_id (by omega) (by omega)]; omega
  have hle := h.left.le
  rw [bitsN_len] at hle
  have h2 := h.next
  rw [bitsN_len] at h2
  refine ⟨?_, h2⟩
  rw [take_ok hb (by omega) (by rw [hc]; exact hle) hk, hc]
  obtain ⟨_, R, hR⟩ := h
  rw [hR, List.append_assoc, List.take_append_of_le_length (by rw [bitsN_len]; exact Nat.le_refl _), List.take_of_length_le (by rw [bitsN_len]; exact Nat.le_refl _), valB_bitsN n hv]
end Go.Proofs.Ytmlbppfcpejlpaa.Q06

/- What the functions of layer 9 (runs) tell. No conditions. -/
namespace Go.Proofs.Ytmlbppfcpejlpaa.Q09
open Go Go.RowKit Go.Proofs.YtmlbppfcpejlpaaW.PrintWords Go.Proofs.YtmlbppfcpejlpaaW.PrintMore Go.Proofs.Ytmlbppfcpejlpaa.S Go.Proofs.Ytmlbppfcpejlpaa.B Go.Proofs.Ytmlbppfcpejlpaa.X Go.Proofs.Ytmlbppfcpejlpaa.Q05
set_option linter.unusedVariables false
set_option linter.unusedSimpArgs false

/-- The bytes of values, run by run. -/
def runB : Nat → List Int → List Int
  | 0, _ => []
  | q + 1, l => if l.length = 0 then [] else vb (runs_Put.lead l : Int) ++ vb (rd l 0) ++ runB q (l.drop (runs_Put.lead l))
theorem runB_len (q : Nat) : ∀ l, (runB q l).length ≤ 20 * q := by
  induction q with
  | zero => intro l; simp [runB]
  | succ q ih =>
    intro l
    rw [runB]
    split
    · simp
    · rw [List.length_append, List.length_append]
      have h1 := vb_len (runs_Put.lead l : Int); have h2 := vb_len (rd l 0); have := ih (l.drop (runs_Put.lead l))
      omega
theorem rd0_u {l : List Int} (hu : Us l) (h : 0 < l.length) : 0 ≤ rd l 0 ∧ rd l 0 < 18446744073709551616 := by
  have := rd_get (l := l) (i := 0) h
  rw [show ((0 : Nat) : Int) = 0 from rfl] at this
  rw [this]; exact hu _ (List.getElem_mem h)
theorem runB_bs (q : Nat) : ∀ l, Us l → Bs (runB q l) := by
  induction q with
  | zero => intro l _ x hx; simp [runB] at hx
  | succ q ih =>
    intro l hu
    rw [runB]
    split
    · intro x hx; simp at hx
    · exact ((vb_bs (by omega)).append (vb_bs (rd0_u hu (by omega)).1)).append (ih _ (hu.drop _))
theorem put9_l0 (q : Nat) : ∀ (l out : List Int), Us l → l.length ≤ q → l.length ≤ 200 → out.length + 20 * q < 1000000 → runs_Put.l0 (q + 1) l out = some (out ++ runB q l) := by
  induction q with
  | zero =>
    intro l out hu hl _ _
    rw [runs_Put.l0, if_pos (by omega), runB, List.append_nil]
  | succ q ih =>
    intro l out hu hl h200 hout
    rw [runs_Put.l0, runB]
    by_cases h : l.length = 0
    · rw [if_pos h, if_pos h, List.append_nil]
    · rw [if_neg h, if_neg h]
      have hp := runs_Put.lead_pos (l := l) (by omega)
      have hle := runs_Put.lead_le l
      have hr := rd0_u hu (by omega)
      have h1 := vb_len (runs_Put.lead l : Int)
      have h2 := vb_len (rd l 0)
      rw [put_spec (by omega) (by omega) (by omega) (by omega), Option.bind_some, put_spec hr.1 hr.2 (by omega) (by rw [List.length_append]; omega), Option.bind_some]
      rw [ih _ _ (hu.drop _) (by rw [List.length_drop]; omega) (by rw [List.length_drop]; omega) (by rw [List.length_append, List.length_append]; omega)]
      simp only [List.append_assoc]
theorem put9_spec {l : List Int} (hu : Us l) (hl : l.length ≤ 200) : runs_Put.f l = some (runB 200 l, 0) := by
  unfold runs_Put.f
  rw [if_neg (by omega), put9_l0 200 l [] hu hl hl (by simp), Option.bind_some, List.nil_append]
theorem put9_long {l : List Int} (hl : 200 < l.length) : runs_Put.f l = some ([], 1) := by
  unfold runs_Put.f
  rw [if_pos hl]
theorem runB_fuel (q : Nat) : ∀ (p : Nat) (l : List Int), l.length ≤ q → l.length ≤ p → runB q l = runB p l := by
  induction q with
  | zero =>
    intro p l h1 h2
    cases p with
    | zero => rfl
    | succ p => rw [runB, runB, if_pos (by omega)]
  | succ q ih =>
    intro p l h1 h2
    cases p with
    | zero => rw [runB, runB, if_pos (by omega)]
    | succ p =>
      rw [runB, runB]
      by_cases h : l.length = 0
      · rw [if_pos h, if_pos h]
      · rw [if_neg h, if_neg h]
        have hp := runs_Put.lead_pos (l := l) (by omega)
        rw [ih p _ (by rw [List.length_drop]; omega) (by rw [List.length_drop]; omega)]
theorem rd_drop (l : List Int) (i j : Nat) : rd (l.drop i) (j : Int) = rd l ((i + j : Nat) : Int) := by
  unfold rd
  rw [Int.toNat_natCast, Int.toNat_natCast, List.getD_eq_getElem?_getD, List.getD_eq_getElem?_getD, List.getElem?_drop]
theorem add64 {a b : Nat} (h : a + b < 1000000000) : wrap64 ((a : Int) + (b : Int)) = ((a + b : Nat) : Int) := by rw [wrap64_id] <;> omega
theorem inc64 {a : Nat} (h : a < 1000000000) : wrap64 ((a : Int) + 1) = ((a + 1 : Nat) : Int) := by rw [wrap64_id] <;> omega
theorem nat_u64 {a : Nat} (h : a < 1000000000) : IntKind.u64.wrap (a : Int) = (a : Int) := wrap_u64_id (by omega) (by omega)
theorem nat_64 {a : Nat} (h : a < 1000000000) : wrap64 (a : Int) = (a : Int) := wrap64_id (by omega) (by omega)
/-- What ends the reference's inner round. -/
theorem ref9_fin {l out : List Int} {k m : Nat} {v : Int} {n : Int} (hout : out.length < 1000000) (hm : m ≤ 200) (v0 : 0 ≤ v) (v1 : v < 18446744073709551616) (hk : 20 ≤ k) {R : Option (List Int)} (hR : rickref09_Put.l0 k l (out ++ vb (m : Int) ++ vb v) n = R) :
    ((rickref05_Put.f k (IntKind.u64.wrap (m : Int))).bind fun t214 => (if out.length + t214.length < 140737488355328 then ((some (out ++ t214 : List Int)).bind fun y217 => ((rickref05_Put.f k v).bind fun t221 => (if y217.length + t221.length < 140737488355328 then (rickref09_Put.l0 k l (y217 ++ t221) n) else (none)))) else (none))) = R := by
  have h1 := vb_len (m : Int)
  have h2 := vb_len v
  rw [nat_u64 (by omega), ref_spec (by omega) (by omega) (by omega), Option.bind_some]
  generalize vb (m : Int) = V1 at *
  rw [if_pos (by omega), Option.bind_some, ref_spec v0 v1 (by omega), Option.bind_some]
  generalize vb v = V2 at *
  rw [if_pos (by rw [List.length_append]; omega)]
  exact hR
theorem ref9_step_end {l out : List Int} {k i m : Nat} (hl : l.length ≤ 200) (hi : i < l.length) (him : i + m ≤ l.length) (hne : i + m < l.length → rd l ((i + m : Nat) : Int) ≠ rd l (i : Int)) {R : Option (List Int)}
    (hR : ((rickref05_Put.f k (IntKind.u64.wrap (m : Int))).bind fun t214 => (if out.length + t214.length < 140737488355328 then ((some (out ++ t214 : List Int)).bind fun y217 => ((rickref05_Put.f k (rd l (i : Int))).bind fun t221 => (if y217.length + t221.length < 140737488355328 then (rickref09_Put.l0 k l (y217 ++ t221) ((i + m : Nat) : Int)) else (none)))) else (none))) = R) :
    rickref09_Put.l1 (k + 1) l out (i : Int) (m : Int) = R := by
  rw [rickref09_Put.l1, add64 (by omega)]
  by_cases hend : i + m < l.length
  · rw [if_pos (by omega), if_pos (by omega), if_pos (by omega), if_pos (by omega), if_neg (hne hend)]
    exact hR
  · rw [if_neg (by omega)]
    simp only [if_pos (show (0 : Int) ≤ (i : Int) by omega), if_pos (show (i : Int) < (l.length : Int) by omega)]
    exact hR
theorem ref9_step {l out : List Int} {k i n m : Nat} (hl : l.length ≤ 200) (hi : i < l.length) (him : i + m ≤ l.length) (hn : n < m) (he : rd l ((i + n : Nat) : Int) = rd l (i : Int)) :
    rickref09_Put.l1 (k + 1) l out (i : Int) (n : Int) = rickref09_Put.l1 k l out (i : Int) ((n + 1 : Nat) : Int) := by
  rw [rickref09_Put.l1, add64 (by omega), inc64 (by omega), if_pos (by omega), if_pos (by omega), if_pos (by omega), if_pos (by omega), if_pos he]
/-- The reference's inner round: from n on it counts up to the run's length. -/
theorem ref9_l1 {l : List Int} (hl : l.length ≤ 200) (out : List Int) (hout : out.length < 1000000) (i m : Nat) (hi : i < l.length) (him : i + m ≤ l.length) (he : ∀ n, n < m → rd l ((i + n : Nat) : Int) = rd l (i : Int)) (hne : i + m < l.length → rd l ((i + m : Nat) : Int) ≠ rd l (i : Int))
    (v0 : 0 ≤ rd l (i : Int)) (v1 : rd l (i : Int) < 18446744073709551616) (R : Option (List Int)) (K : Nat) (hK : 20 ≤ K)
    (hR : ∀ k, K ≤ k → rickref09_Put.l0 k l (out ++ vb (m : Int) ++ vb (rd l (i : Int))) ((i + m : Nat) : Int) = R) (d : Nat) :
    ∀ n k, n + d = m → K + d < k → rickref09_Put.l1 k l out (i : Int) (n : Int) = R := by
  induction d with
  | zero =>
    intro n k hn hk
    obtain ⟨k, rfl⟩ : ∃ q, k = q + 1 := ⟨k - 1, by omega⟩
    obtain rfl : n = m := hn
    exact ref9_step_end hl hi him hne (ref9_fin hout (by omega) v0 v1 (by omega) (hR k (by omega)))
  | succ d ih =>
    intro n k hn hk
    obtain ⟨k, rfl⟩ : ∃ q, k = q + 1 := ⟨k - 1, by omega⟩
    rw [ref9_step hl hi him (by omega) (he n (by omega))]
    exact ih (n + 1) k (by omega) (by omega)
theorem lead_facts {l : List Int} {i : Nat} (hi : i < l.length) : 0 < runs_Put.lead (l.drop i) ∧ i + runs_Put.lead (l.drop i) ≤ l.length ∧ (∀ n, n < runs_Put.lead (l.drop i) → rd l ((i + n : Nat) : Int) = rd l (i : Int)) ∧
    (i + runs_Put.lead (l.drop i) < l.length → rd l ((i + runs_Put.lead (l.drop i) : Nat) : Int) ≠ rd l (i : Int)) := by
  have hp := runs_Put.lead_pos (l := l.drop i) (by rw [List.length_drop]; omega)
  have hle := runs_Put.lead_le (l.drop i)
  rw [List.length_drop] at hle
  have hv : rd (l.drop i) 0 = rd l (i : Int) := by rw [show (0 : Int) = ((0 : Nat) : Int) from rfl, rd_drop, Nat.add_zero]
  refine ⟨hp, by omega, fun n hn => ?_, fun h => ?_⟩
  · have := runs_Put.lead_eq (l := l.drop i) hn
    rwa [hv, rd_drop] at this
  · have := runs_Put.lead_ne (l := l.drop i) (by rw [List.length_drop]; omega)
    rwa [hv, rd_drop] at this
theorem runB_step {l : List Int} {i q : Nat} (hi : i < l.length) : runB (q + 1) (l.drop i) = vb (runs_Put.lead (l.drop i) : Int) ++ vb (rd l (i : Int)) ++ runB q (l.drop (i + runs_Put.lead (l.drop i))) := by
  have hv : rd (l.drop i) 0 = rd l (i : Int) := by rw [show (0 : Int) = ((0 : Nat) : Int) from rfl, rd_drop, Nat.add_zero]
  rw [runB, if_neg (by rw [List.length_drop]; omega), hv, List.drop_drop]
theorem ref9_l0 {l : List Int} (hu : Us l) (hl : l.length ≤ 200) (q : Nat) : ∀ (i : Nat) (out : List Int) (k : Nat), l.length ≤ i + q → i ≤ l.length → out.length + 20 * q < 100000 → 300 * (q + 1) < k →
    rickref09_Put.l0 k l out (i : Int) = some (out ++ runB q (l.drop i)) := by
  induction q with
  | zero =>
    intro i out k h1 h2 h3 hk
    obtain ⟨k, rfl⟩ : ∃ z, k = z + 1 := ⟨k - 1, by omega⟩
    rw [rickref09_Put.l0, if_neg (by omega), runB, List.append_nil]
  | succ q ih =>
    intro i out k h1 h2 h3 hk
    obtain ⟨k, rfl⟩ : ∃ z, k = z + 1 := ⟨k - 1, by omega⟩
    rw [rickref09_Put.l0]
    by_cases h : i < l.length
    · obtain ⟨hp, hle, heq, hne⟩ := lead_facts h
      have hr : 0 ≤ rd l (i : Int) ∧ rd l (i : Int) < 18446744073709551616 := by rw [rd_get h]; exact hu _ (List.getElem_mem h)
      rw [if_pos (by omega), runB_step h]
      generalize runs_Put.lead (l.drop i) = m at *
      have hv1 := vb_len (m : Int)
      have hv2 := vb_len (rd l (i : Int))
      have hlen : (out ++ vb (m : Int) ++ vb (rd l (i : Int))).length + 20 * q < 100000 := by
        rw [List.length_append, List.length_append]
        generalize (vb (m : Int)).length = a at *
        generalize (vb (rd l (i : Int))).length = b at *
        omega
      refine ref9_l1 hl out (by omega) i m h hle heq hne hr.1 hr.2 _ (300 * (q + 1) + 1) (by omega) (fun k' hk' => ?_) m 0 k (by omega) (by omega)
      rw [ih (i + m) _ k' (by omega) (by omega) hlen (by omega)]
      simp only [List.append_assoc]
    · rw [if_neg (by omega), runB, if_pos (by rw [List.length_drop]; omega), List.append_nil]
theorem ref9_spec {k : Nat} {l : List Int} (hu : Us l) (hl : l.length ≤ 200) (hk : 70000 < k) : rickref09_Put.f k l = some (runB 200 l) := by
  unfold rickref09_Put.f
  have := ref9_l0 hu hl 200 0 [] k (by omega) (by omega) (by simp) (by omega)
  simpa using this
theorem pair_spec {k : Nat} {n v : Int} {X : List Int} (n0 : 0 ≤ n) (n1 : n < 18446744073709551616) (v0 : 0 ≤ v) (v1 : v < 18446744073709551616) (hX : Bs X) (hl : (vb n ++ (vb v ++ X)).length < 1000000) (hk : 2 * (vb n ++ (vb v ++ X)).length < k) :
    runs_pair.f k (vb n ++ (vb v ++ X)) = some (n, v, (((vb n).length + (vb v).length : Nat) : Int), 0) := by
  have h1 := vb_len n
  have h2 := vb_len v
  rw [List.length_append, List.length_append] at hl hk
  unfold runs_pair.f
  rw [get_spec ((vb_bs n0).append ((vb_bs v0).append hX)) (by rw [List.length_append, List.length_append]; omega) (by rw [List.length_append, List.length_append]; omega), vg_put n0 n1, Option.bind_some]
  simp only [if_true]
  rw [if_pos (by omega), if_pos (by rw [List.length_append]; omega), Int.toNat_natCast, List.drop_left, get_spec ((vb_bs v0).append hX) (by rw [List.length_append]; omega) (by rw [List.length_append]; omega), vg_put v0 v1, Option.bind_some]
  simp only []
  rw [show wrap64 (((vb n).length : Int) + ((vb v).length : Int)) = (((vb n).length + (vb v).length : Nat) : Int) by rw [wrap64_id] <;> omega]
theorem take_lead {l : List Int} {i : Nat} : l.take (i + runs_Put.lead (l.drop i)) = l.take i ++ List.replicate (runs_Put.lead (l.drop i)) (rd l (i : Int)) := by
  rw [List.take_add]
  congr 1
  have hle := runs_Put.lead_le (l.drop i)
  apply List.ext_getElem
  · rw [List.length_take, List.length_replicate]; omega
  · intro j h1 h2
    rw [List.length_replicate] at h2
    have := runs_Put.lead_eq (l := l.drop i) h2
    rw [rd_drop, show (0 : Int) = ((0 : Nat) : Int) from rfl, rd_drop, Nat.add_zero] at this
    rw [List.getElem_take, List.getElem_replicate, List.getElem_drop, ← this, rd_get]
theorem rep_spec {v m : Int} (h0 : 1 ≤ m) (h1 : m ≤ 200) : slices_Repeat_uint64_uint64.f [v] m = some (List.replicate m.toNat v) := by
  unfold slices_Repeat_uint64_uint64.f
  rw [if_pos ⟨rfl, h0, h1⟩]; rfl
theorem get9_round {b : List Int} {n i m at0 k sz : Nat} {l : List Int} {v : Int} {R : Option (List Int × Int × Int)} (hn : n ≤ 200) (hi : i < n) (hm : 0 < m) (him : i + m ≤ n) (hlen : l.length = i) (hat : at0 ≤ b.length) (hbl : b.length < 100000) (hsz : sz ≤ 100)
    (hlast : 0 < i → rd l ((i - 1 : Nat) : Int) ≠ v) (hp : runs_pair.f k (b.drop at0) = some ((m : Int), v, (sz : Int), 0)) (hR : runs_Get.l0 k b (n : Int) (l ++ List.replicate m v) ((at0 + sz : Nat) : Int) = R) : runs_Get.l0 (k + 1) b (n : Int) l (at0 : Int) = R := by
  have hrep := rep_spec (v := v) (m := (m : Int)) (by omega) (by omega)
  rw [Int.toNat_natCast] at hrep
  have e1 : IntKind.u64.wrap (wrap64 ((n : Int) - (i : Int))) = ((n - i : Nat) : Int) := by rw [wrap64_id (by omega) (by omega), wrap_u64_id (by omega) (by omega)]; omega
  rw [runs_Get.l0, hlen, if_pos (by omega), if_pos (by omega), if_pos (by omega), Int.toNat_natCast, hp, Option.bind_some]
  simp only [if_true]
  rw [if_neg (by omega), e1, if_neg (by omega), nat_64 (by omega), hrep, Option.bind_some, add64 (by omega)]
  by_cases hi0 : 0 < i
  · have e2 : wrap64 ((i : Int) - 1) = ((i - 1 : Nat) : Int) := by rw [wrap64_id] <;> omega
    rw [if_pos (by omega), e2, if_pos (by omega), if_pos (by omega), if_neg (hlast hi0), if_pos (by rw [List.length_replicate]; omega)]
    exact hR
  · rw [if_neg (by omega), if_pos (by rw [List.length_replicate]; omega)]
    exact hR
theorem get9_l0 {b : List Int} (hb : Bs b) (hbl : b.length < 100000) {l more : List Int} (hu : Us l) (hl : l.length ≤ 200) (q : Nat) : ∀ (i at0 k : Nat), l.length ≤ i + q → i ≤ l.length → b.drop at0 = runB q (l.drop i) ++ more → at0 ≤ b.length →
    (0 < i → i < l.length → rd l ((i - 1 : Nat) : Int) ≠ rd l (i : Int)) → 200000 + q < k → runs_Get.l0 k b (l.length : Int) (l.take i) (at0 : Int) = some (l, ((at0 + (runB q (l.drop i)).length : Nat) : Int), 0) := by
  induction q with
  | zero =>
    intro i at0 k h1 h2 h3 h4 h5 hk
    obtain ⟨k, rfl⟩ : ∃ z, k = z + 1 := ⟨k - 1, by omega⟩
    rw [runs_Get.l0, if_neg (by rw [List.length_take]; omega), List.take_of_length_le (by omega), runB]
    rfl
  | succ q ih =>
    intro i at0 k h1 h2 h3 h4 h5 hk
    obtain ⟨k, rfl⟩ : ∃ z, k = z + 1 := ⟨k - 1, by omega⟩
    have hlt : (l.take i).length = i := by rw [List.length_take]; omega
    by_cases h : i < l.length
    · obtain ⟨hp, hle, heq, hne⟩ := lead_facts h
      have hr : 0 ≤ rd l (i : Int) ∧ rd l (i : Int) < 18446744073709551616 := by rw [rd_get h]; exact hu _ (List.getElem_mem h)
      have htk := take_lead (l := l) (i := i)
      have h5' := fun h0 => h5 h0 h
      rw [runB_step h] at h3 ⊢
      generalize runs_Put.lead (l.drop i) = m at *
      have hvn := vb_len (m : Int)
      have hvl := vb_len (rd l (i : Int))
      have hX : Bs (runB q (l.drop (i + m)) ++ more) := by
        have := hb.drop at0
        rw [h3, List.append_assoc, List.append_assoc] at this
        intro x hx
        exact this x (List.mem_append_right _ (List.mem_append_right _ hx))
      have hlen := congrArg List.length h3
      rw [List.append_assoc, List.append_assoc] at h3
      have hlb : (vb (m : Int) ++ (vb (rd l (i : Int)) ++ (runB q (l.drop (i + m)) ++ more))).length < 100000 := by rw [← h3, List.length_drop]; omega
      have hpair := pair_spec (k := k) (n := (m : Int)) (v := rd l (i : Int)) (X := runB q (l.drop (i + m)) ++ more) (by omega) (by omega) hr.1 hr.2 hX (by omega) (by omega)
      rw [← h3] at hpair
      have hd2 : b.drop (at0 + ((vb (m : Int)).length + (vb (rd l (i : Int))).length)) = runB q (l.drop (i + m)) ++ more := by
        rw [← List.drop_drop, h3, ← List.drop_drop, List.drop_left, List.drop_left]
      have hle2 : at0 + ((vb (m : Int)).length + (vb (rd l (i : Int))).length) ≤ b.length := by
        rw [List.length_drop, List.length_append, List.length_append, List.length_append] at hlen
        generalize (vb (m : Int)).length = a1 at *
        generalize (vb (rd l (i : Int))).length = a2 at *
        omega
      have hsum : at0 + (vb (m : Int) ++ vb (rd l (i : Int)) ++ runB q (l.drop (i + m))).length = at0 + ((vb (m : Int)).length + (vb (rd l (i : Int))).length) + (runB q (l.drop (i + m))).length := by
        rw [List.length_append, List.length_append]
        omega
      have hlast : 0 < i + m → i + m < l.length → rd l ((i + m - 1 : Nat) : Int) ≠ rd l ((i + m : Nat) : Int) := by
        intro _ hlt2
        have h7 := heq (m - 1) (by omega)
        rw [show i + (m - 1) = i + m - 1 by omega] at h7
        rw [h7]; exact fun e => hne hlt2 e.symm
      have hnext := ih (i + m) (at0 + ((vb (m : Int)).length + (vb (rd l (i : Int))).length)) k (by omega) (by omega) hd2 hle2 hlast (by omega)
      rw [hsum]
      have hsz : (vb (m : Int)).length + (vb (rd l (i : Int))).length ≤ 100 := by omega
      generalize (vb (m : Int)).length + (vb (rd l (i : Int))).length = sz at *
      refine get9_round hl h hp hle hlt h4 hbl hsz (fun hi0 => ?_) hpair ?_
      · rw [rd_get (by omega), List.getElem_take, ← rd_get]
        exact h5' hi0
      · rw [← htk]
        exact hnext
    · rw [runs_Get.l0, if_neg (by omega), List.take_of_length_le (by omega), runB, if_pos (by rw [List.length_drop]; omega)]
      rfl
theorem get9_spec {k : Nat} {l more : List Int} (hu : Us l) (hl : l.length ≤ 200) (hm : Bs more) (hml : more.length ≤ 1000) (hk : 201000 < k) :
    runs_Get.f k (runB 200 l ++ more) (l.length : Int) = some (l, ((runB 200 l).length : Int), 0) := by
  obtain ⟨k, rfl⟩ : ∃ z, k = z + 1 := ⟨k - 1, by omega⟩
  have hrl := runB_len 200 l
  unfold runs_Get.f
  rw [if_neg (by omega), decide_eq_false (by omega), runs_Get.j0, if_neg (by decide)]
  have := get9_l0 (b := runB 200 l ++ more) ((runB_bs _ _ hu).append hm) (by rw [List.length_append]; omega) (more := more) hu hl 200 0 0 k (by omega) (by omega) (by simp) (by omega) (fun h => by omega) (by omega)
  simpa using this
theorem puts9_some : ∀ k, 201001 < k → ricklaw09_puts.f k = some true := by
  intro k hk
  have hu : Us [7, 7, 1] := by intro x hx; simp at hx; omega
  have e1 := put9_spec (l := [7, 7, 1]) hu (by simp)
  have e2 := get9_spec (k := k) (l := [7, 7, 1]) (more := []) hu (by simp) (by intro x hx; simp at hx) (by simp) (by omega)
  have e3 : runB 200 [7, 7, 1] = [2, 7, 1, 1] := by decide +kernel
  rw [e3] at e1 e2
  rw [List.append_nil] at e2
  unfold ricklaw09_puts.f
  rw [e1, Option.bind_some]
  simp only []
  rw [show runs_Get.f k [2, 7, 1, 1] 3 = some ([7, 7, 1], 4, 0) from e2, Option.bind_some]
  decide +kernel
end Go.Proofs.Ytmlbppfcpejlpaa.Q09

-- Printed by this session's own program (wip/xprint.py) over the translation; its external functions are hand-written. Lean checks it.
namespace Go.Proofs.Ytmlbppfcpejlpaa.X
open Go.RowKit Go.Proofs.YtmlbppfcpejlpaaW.PrintWords Go.Proofs.YtmlbppfcpejlpaaW.PrintLast Go.Proofs.YtmlbppfcpejlpaaW.PrintMore
attribute [local go_sem] max2_int min2_int max_two min_two max_three min_three max_four min_four   -- for this text's walks alone
set_option linter.unusedVariables false
set_option linter.unusedSimpArgs false

/-! ### pack_Put: function 41 -/
open Go.Proofs.Ytmlbppfcpejlpaa.S Go.Proofs.Ytmlbppfcpejlpaa.B Go.Proofs.Ytmlbppfcpejlpaa.W04 Go.Proofs.Ytmlbppfcpejlpaa.Q06
/-- The bits that each number has. -/
def pack_Put.width (l : List Int) : Nat := wd (maxL l - minL l)
def pack_Put.body (l : List Int) : List Int := (l.map (fun n => bitsN (pack_Put.width l) (n - minL l))).flatten
def pack_Put.bits (l : List Int) : List Int := bitsN 64 (minL l) ++ bitsN 8 (pack_Put.width l : Int) ++ pack_Put.body l
def pack_Put.ok (l : List Int) : Bool := l.all (fun x => decide (0 ≤ x ∧ x < 18446744073709551616))
def pack_Put.f (l0 : List Int) : Option (List Int × Int) :=
  if 200 < l0.length then some ([], 1) else if l0.length = 0 then some ([], 0) else if pack_Put.ok l0 = true then some (packB (pack_Put.bits l0), 0) else none
theorem pack_Put.ok_us {l : List Int} (h : pack_Put.ok l = true) : Us l := by
  intro x hx
  have := List.all_eq_true.1 h x hx
  simpa using this
/-- What two results are: bytes of the call's own, and an error. -/
def pack_Put.Two (B : Nat) (xs : List Int) (n : Int) (w : World) (e : Ending) (w' : World) : Prop :=
  ∃ v0_ : Value, e = .returned (.tuple #[v0_, .int .i64 n]) ∧ Kd.R (Kd.int .u8) 5 w' B (fun _ => True) v0_ xs ∧ Below w.heap.size w w'
theorem pack_Put.new (w0 W : World) (hB : Below w0.heap.size w0 W) : WAt w0 (W.alloc (.cells #[.slice none 0 0, .int .i64 0] 48)) W.heap.size (.slice none 0 0) [] :=
  ⟨by simpa using heap_alloc_new W _, hB.size, Kd.R_nil _ _ _ _ _, Bits.nil⟩
theorem pack_Put.calls_early (A0 : Option Addr) (c0 : Nat) (l0 : List Int) (w : World) (n : Int) (hn : (200 < l0.length ∧ n = 1) ∨ (l0.length = 0 ∧ n = 0)) :
    Calls Try.prog 41 #[.slice A0 l0.length c0] w (pack_Put.Two w.heap.size [] n w) := by
  rcases hn with ⟨hn, rfl⟩ | ⟨hn, rfl⟩
  · have h1 : decide (200 < (l0.length : Int)) = true := by simp; omega
    have h2 : decide (200 < l0.length) = true := by simp; omega
    clear hn
    go_enter Try.func41, Try.ntmps41
    go_wp2
    go_ret2
    exact ⟨_, rfl, Kd.R_nil _ _ _ _ _, Below.refl _ _⟩
  · rw [hn]
    clear hn
    go_enter Try.func41, Try.ntmps41
    go_wp2
    go_ret2
    exact ⟨_, rfl, Kd.R_nil _ _ _ _ _, Below.refl _ _⟩
/-- The bits of the first i numbers. -/
def pack_Put.part (l : List Int) (lo wn : Int) (i : Nat) : List Int := bitsN 64 lo ++ bitsN 8 wn ++ ((l.take i).map (fun n => bitsN wn.toNat (n - lo))).flatten
theorem pack_Put.part_snoc (l : List Int) (lo wn : Int) (i : Nat) (h : i < l.length) : pack_Put.part l lo wn (i + 1) = pack_Put.part l lo wn i ++ bitsN wn.toNat (l[i] - lo) := by
  unfold pack_Put.part
  rw [List.take_succ_eq_append_getElem h]
  simp only [List.map_append, List.flatten_append, List.map_cons, List.map_nil, List.flatten_cons, List.flatten_nil, List.append_nil, List.append_assoc]
theorem pack_Put.flat_len (l : List Int) (lo wn : Int) : ((l.map (fun n => bitsN wn.toNat (n - lo))).flatten).length = wn.toNat * l.length := by
  induction l with
  | nil => simp
  | cons a l ih => rw [List.map_cons, List.flatten_cons, List.length_append, ih, bitsN_len, List.length_cons, Nat.mul_succ]; omega
theorem pack_Put.part_len (l : List Int) (lo wn : Int) (i : Nat) (hw : wn ≤ 64) (hl : l.length ≤ 200) : (pack_Put.part l lo wn i).length < 1000000000 := by
  unfold pack_Put.part
  rw [List.length_append, List.length_append, bitsN_len, bitsN_len, pack_Put.flat_len, List.length_take]
  have : wn.toNat * min i l.length ≤ 64 * 200 := Nat.mul_le_mul (by omega) (by omega)
  omega
def pack_Put.Rel (w : World) (g : Nat) (l0 : List Int) (lo wn : Int) (i : Nat) (wr : World) : Prop :=
  ∃ v', WAt w wr g v' (pack_Put.part l0 lo wn i) ∧ Below w.heap.size w wr
theorem cl_id {m : Int} (h0 : 0 ≤ m) (h1 : m ≤ 64) : cl m = m.toNat := by unfold cl mn mx; split <;> split <;> omega
set_option maxHeartbeats 8000000 in
set_option maxRecDepth 100000 in
theorem pack_Put.calls_main (A0 : Option Addr) (c0 : Nat) (l0 : List Int) (w : World) (hr0 : Kd.C (Kd.int .u64) w A0 l0.length l0) (hc0 : l0.length ≤ c0) (h1 : l0.length ≤ 200) (h0 : 0 < l0.length) (hu : Us l0) :
    Calls Try.prog 41 #[.slice A0 l0.length c0] w (pack_Put.Two w.heap.size (packB (pack_Put.bits l0)) 0 w) := by
  have HR0 := Aside0.mk hr0
  have HC0 := Aside0.mk hc0
  have HU := Aside0.mk hu
  have HMIN := Aside0.mk (min_spec (k := 201) h0 (by omega) (by omega))
  have HMAX := Aside0.mk (max_spec (k := 201) h0 (by omega) (by omega))
  have hmin := hu _ (min_facts h0).1
  have hmax := hu _ (max_facts h0).1
  have hle : minL l0 ≤ maxL l0 := (max_facts h0).2 _ (min_facts h0).1
  obtain ⟨lo, hlo⟩ : ∃ lo, lo = minL l0 := ⟨_, rfl⟩
  obtain ⟨hi, hhi⟩ : ∃ hi, hi = maxL l0 := ⟨_, rfl⟩
  obtain ⟨wn, hwn⟩ : ∃ wn : Int, wn = (wd (maxL l0 - minL l0) : Int) := ⟨_, rfl⟩
  have HLEN := Aside0.mk (len64_spec (k := 1) (x := maxL l0 - minL l0) (by omega) (by omega) (by omega))
  rw [← hlo] at HMIN hmin HLEN hle
  rw [← hhi] at HMAX hmax HLEN hle
  rw [hlo, hhi, ← hwn, ← hlo, ← hhi] at HLEN
  have hd : IntKind.u64.wrap (hi - lo) = hi - lo := wrap_u64_id (by omega) (by omega)
  have hwl : wd (maxL l0 - minL l0) ≤ 64 := by rw [← hlo, ← hhi]; exact wd_le (by omega) (by omega)
  have hwn0 : 0 ≤ wn := by omega
  have hwn1 : wn < 18446744073709551616 := by omega
  have hwn2 : IntKind.u64.wrap wn = wn := wrap_u64_id hwn0 hwn1
  clear hwl
  have t1 : decide (200 < (l0.length : Int)) = false := by simp; omega
  have t2 : decide (200 < l0.length) = false := by simp; omega
  have t3 : ((l0.length : Int) == 0) = false := by rw [beq_eq_false_iff_ne]; omega
  have HLO := Aside0.mk hlo
  have HHI := Aside0.mk hhi
  have HWN := Aside0.mk hwn
  clear hr0 hc0 hu hlo hhi hwn
  go_enter Try.func41, Try.ntmps41
  go_wp2_with (first
    | (go_at_call 56; (with_reducible refine (slices_Min_uint64_uint64.calls 201 _ _ l0 lo _ HR0.out HC0.out HMIN.out).mono ?_); rintro e w1 ⟨rfl, hb⟩; have HB1 := Aside0.mk hb; clear hb)
    | (go_at_call 58; (with_reducible refine (slices_Max_uint64_uint64.calls 201 _ _ l0 hi _ (Kd.C_below HR0.out HB1.out) HC0.out HMAX.out).mono ?_); rintro e w2 ⟨rfl, hb⟩; have HB2 := Aside0.mk (below_step HB1.out hb); clear hb HB1)
    | (go_at_call 57; (with_reducible refine (bits_Len64.calls 1 _ wn _ HLEN.out).mono ?_); rintro e w3 ⟨rfl, hdr⟩; have HB3 := Aside0.mk (below_step HB2.out (Drawn0.below hdr)); clear HB2 hdr)
    | (go_at_call 25; (with_reducible refine (put_calls w3.heap.size (.slice none 0 0) [] lo 64 w _ ?hI ?hB hmin.1 hmin.2 (by simp)).mono ?_); (case hI => exact pack_Put.new w w3 HB3.out); (case hB => exact HB3.out.alloc HB3.out.size _); rintro e w4 ⟨rfl, v4, hW, hB, hK, hV⟩; have HW4 := Aside0.mk hW; have HB4 := Aside0.mk hB; clear hW hB hK hV HB3)
    | (go_at_call 25; (with_reducible refine (put_calls w3.heap.size v4 _ wn 8 w _ HW4.out HB4.out hwn0 hwn1 (by simp [bitsN_len, cl, mn, mx])).mono ?_); rintro e w5 ⟨rfl, v5, hW, hB, hK, hV⟩; have HW5 := Aside0.mk hW; have HB5 := Aside0.mk hB; clear hW hB hK hV HW4 HB4))
  have HR : Aside0 (pack_Put.Rel w w3.heap.size l0 lo wn 0 w5) := ⟨⟨v5, by simpa [cl, mn, mx, pack_Put.part] using HW5.out, HB5.out⟩⟩
  clear HW5 HB5 HMIN HMAX HLEN
  go_loopw [31] (fun v31 wr => ∃ (i : Nat) (ii : Int), v31 = .int .i64 ii ∧ Aside0 (ii = (i : Int)) ∧ Aside0 (i ≤ l0.length) ∧ Aside0 (pack_Put.Rel w w3.heap.size l0 lo wn i wr)) (fun v31 _ => ((l0.length : Int) - intOf v31).toNat)
  case atStart => exact ⟨0, _, rfl, ⟨rfl⟩, ⟨Nat.zero_le _⟩, HR⟩
  case round =>
    clear HR
    obtain ⟨i, ii, rfl, HI, HIL, HR⟩ := hrel
    obtain ⟨v6, hW, hB⟩ := HR.out
    have HW := Aside0.mk hW
    have HB := Aside0.mk hB
    have hlb := pack_Put.part_len l0 lo wn i (by rw [HWN.out]; have : wd (maxL l0 - minL l0) ≤ 64 := wd_le (by rw [← HLO.out, ← HHI.out]; omega) (by rw [← HLO.out, ← HHI.out]; omega); omega) h1
    clear HR hW hB
    by_cases hlt : i < l0.length
    · have hi0 : 0 ≤ ii := by have := HI.out; omega
      have hi1 : ii ≤ 200 := by have := HI.out; omega
      have hi2 : decide (ii < (l0.length : Int)) = true := by have := HI.out; simp; omega
      have hi3 : (ii < (l0.length : Int)) = True := eq_true (by have := HI.out; omega)
      have hi4 : (0 ≤ ii) = True := eq_true hi0
      have hel := HU.out _ (List.getElem_mem hlt)
      have hge : lo ≤ l0[i] := by rw [HLO.out]; exact (min_facts h0).2 _ (List.getElem_mem hlt)
      obtain ⟨ad, e, hx⟩ := Kd.at_int (Kd.C_below HR0.out HB.out) ii hi0 (by have := HI.out; omega)
      have hrd : rd l0 ii = l0[i] := by rw [HI.out, rd_get hlt]
      rw [hrd] at hx
      obtain ⟨xv, hxv⟩ : ∃ xv, xv = l0[i] := ⟨_, rfl⟩
      rw [← hxv] at hx hge hel
      have hsub : IntKind.u64.wrap (xv - lo) = xv - lo := wrap_u64_id (by omega) (by omega)
      have hs0 : 0 ≤ xv - lo := by omega
      have hs1 : xv - lo < 18446744073709551616 := by omega
      have HXV := Aside0.mk hxv
      clear hrd hxv
      cases e
      go_wp2_with (go_at_call 25; (with_reducible refine (put_calls w3.heap.size v6 _ (xv - lo) wn w _ HW.out HB.out hs0 hs1 hlb).mono ?_); rintro e w7 ⟨rfl, v7, hW, hB, hK, hV⟩; have HW7 := Aside0.mk hW; have HB7 := Aside0.mk hB; clear hW hB hK hV HW HB)
      go_roundw
      case rel => exact ⟨i + 1, _, rfl, ⟨by have := HI.out; omega⟩, ⟨hlt⟩, ⟨v7, by
        have := HW7.out
        rw [cl_id hwn0 (by rw [HWN.out]; have : wd (maxL l0 - minL l0) ≤ 64 := wd_le (by rw [← HLO.out, ← HHI.out]; omega) (by rw [← HLO.out, ← HHI.out]; omega); omega), HXV.out] at this
        rw [pack_Put.part_snoc l0 lo wn i hlt]
        exact this, HB7.out⟩⟩
      case measure => simp [intOf]; have := HI.out; omega
    · have hi2 : decide (ii < (l0.length : Int)) = false := by have := HI.out; simp; omega
      have hil : i = l0.length := by have := HIL.out; omega
      have HIL2 := Aside0.mk hil
      clear hil
      have hlb2 : (pack_Put.part l0 lo wn i).length < 1000000000000 := by omega
      go_wp2_with (go_at_call 27; (with_reducible refine (bytes_calls w3.heap.size v6 _ w _ HW.out hlb2).mono ?_); rintro e w7 ⟨v0, rfl, hR, hB⟩; have HR7 := Aside0.mk hR; have HB7 := Aside0.mk hB; clear hR hB)
      go_ret2
      refine ⟨v0, rfl, ?_, below_step HB.out HB7.out⟩
      have e : pack_Put.part l0 lo wn i = pack_Put.bits l0 := by
        rw [HIL2.out, HWN.out, HLO.out]
        simp [pack_Put.part, pack_Put.bits, pack_Put.body, pack_Put.width]
      rw [← e]
      exact Kd.R_lower HR7.out HB.out.size
theorem pack_Put.calls (A0 : Option Addr) (c0 : Nat) (l0 : List Int) (r1 : List Int) (r2 : Int) (w : World) (hr0 : Kd.C (Kd.int .u64) w A0 l0.length l0) (hc0 : l0.length ≤ c0) (h : pack_Put.f l0 = some (r1, r2)) :
    Calls Try.prog 41 #[.slice A0 l0.length c0] w fun e w' => ∃ v0_ : Value, e = .returned (.tuple #[v0_, .int .i64 r2]) ∧ Kd.R (Kd.int .u8) 5 w' w.heap.size (fun _ => True) v0_ r1 ∧ Below w.heap.size w w' := by
  unfold pack_Put.f at h
  by_cases h1 : 200 < l0.length
  · rw [if_pos h1] at h; injection h with h; injection h with e1 e2; subst e1; subst e2
    exact pack_Put.calls_early A0 c0 l0 w 1 (.inl ⟨h1, rfl⟩)
  · rw [if_neg h1] at h
    by_cases h2 : l0.length = 0
    · rw [if_pos h2] at h; injection h with h; injection h with e1 e2; subst e1; subst e2
      exact pack_Put.calls_early A0 c0 l0 w 0 (.inr ⟨h2, rfl⟩)
    · rw [if_neg h2] at h
      by_cases h3 : pack_Put.ok l0 = true
      · rw [if_pos h3] at h; injection h with h; injection h with e1 e2; subst e1; subst e2
        exact pack_Put.calls_main A0 c0 l0 w hr0 hc0 (by omega) (by omega) (pack_Put.ok_us h3)
      · rw [if_neg h3] at h; cases h

end Go.Proofs.Ytmlbppfcpejlpaa.X

-- Printed by this session's own program (wip/xprint.py) over the translation; its external functions are hand-written. Lean checks it.
namespace Go.Proofs.Ytmlbppfcpejlpaa.X
open Go.RowKit Go.Proofs.YtmlbppfcpejlpaaW.PrintWords Go.Proofs.YtmlbppfcpejlpaaW.PrintLast Go.Proofs.YtmlbppfcpejlpaaW.PrintMore
attribute [local go_sem] max2_int min2_int max_two min_two max_three min_three max_four min_four   -- for this text's walks alone
set_option linter.unusedVariables false
set_option linter.unusedSimpArgs false

/-! ### pack_Get: function 44 -/
open Go.Proofs.Ytmlbppfcpejlpaa.S Go.Proofs.Ytmlbppfcpejlpaa.B Go.Proofs.Ytmlbppfcpejlpaa.W04 Go.Proofs.Ytmlbppfcpejlpaa.Q06
/-- The numbers that bits tell from place 72 on, w bits each, above lo. -/
def pack_Get.outs (b : List Int) (lo : Int) (w i : Nat) : List Int := (List.range i).map (fun j => IntKind.u64.wrap (lo + gv b (72 + j * w) w))
def pack_Get.f (l0 : List Int) (a1 : Int) : Option (List Int × Int × Int) :=
  if a1 < 0 ∨ 200 < a1 then some ([], 0, 1) else if a1 = 0 then some ([], 0, 0) else if l0.length < 9 then some ([], 0, 4) else if 64 < rd l0 8 then some ([], 0, 3)
  else if okB l0 = true then (if 8 * l0.length < 72 + a1.toNat * (rd l0 8).toNat then some ([], 0, 4)
    else (pack_Put.f (pack_Get.outs l0 (gv l0 0 64) (rd l0 8).toNat a1.toNat)).bind fun p => (bytes_HasPrefix.f l0 p.1).bind fun t => if t = true then some (pack_Get.outs l0 (gv l0 0 64) (rd l0 8).toNat a1.toNat, (p.1.length : Int), 0) else some ([], 0, 3))
  else none
def pack_Get.Three (B : Nat) (xs : List Int) (n m : Int) (w : World) (e : Ending) (w' : World) : Prop :=
  ∃ v0_ : Value, e = .returned (.tuple #[v0_, .int .i64 n, .int .i64 m]) ∧ Kd.R (Kd.int .u64) 23 w' B (fun _ => True) v0_ xs ∧ Below w.heap.size w w'
theorem pack_Get.calls_early (A0 : Option Addr) (c0 : Nat) (l0 : List Int) (a1 m : Int) (w : World) (hr0 : Kd.C (Kd.int .u8) w A0 l0.length l0)
    (hn : ((a1 < 0 ∨ 200 < a1) ∧ m = 1) ∨ (a1 = 0 ∧ m = 0) ∨ (0 < a1 ∧ a1 ≤ 200 ∧ l0.length < 9 ∧ m = 4) ∨ (0 < a1 ∧ a1 ≤ 200 ∧ 9 ≤ l0.length ∧ 64 < rd l0 8 ∧ m = 3)) :
    Calls Try.prog 44 #[.slice A0 l0.length c0, .int .i64 a1] w (pack_Get.Three w.heap.size [] 0 m w) := by
  have HR0 := Aside0.mk hr0
  clear hr0
  rcases hn with ⟨hn, rfl⟩ | ⟨rfl, rfl⟩ | ⟨h1, h2, h3, rfl⟩ | ⟨h1, h2, h3, h4, rfl⟩
  · rcases hn with hn | hn
    · have t1 : decide (a1 < 0) = true := by simpa using hn
      go_enter Try.func44, Try.ntmps44
      go_wp2
      go_ret3
      exact ⟨_, rfl, Kd.R_nil _ _ _ _ _, Below.refl _ _⟩
    · have t1 : decide (a1 < 0) = false := by simp; omega
      have t2 : decide (200 < a1) = true := by simpa using hn
      go_enter Try.func44, Try.ntmps44
      go_wp2
      go_ret3
      exact ⟨_, rfl, Kd.R_nil _ _ _ _ _, Below.refl _ _⟩
  · go_enter Try.func44, Try.ntmps44
    go_wp2
    go_ret3
    exact ⟨_, rfl, Kd.R_nil _ _ _ _ _, Below.refl _ _⟩
  · have t1 : decide (a1 < 0) = false := by simp; omega
    have t2 : decide (200 < a1) = false := by simp; omega
    have t3 : (a1 == 0) = false := by rw [beq_eq_false_iff_ne]; omega
    have t4 : decide ((l0.length : Int) < 9) = true := by simp; omega
    have t5 : decide (l0.length < 9) = true := by simpa using h3
    go_enter Try.func44, Try.ntmps44
    go_wp2
    go_ret3
    exact ⟨_, rfl, Kd.R_nil _ _ _ _ _, Below.refl _ _⟩
  · have t1 : decide (a1 < 0) = false := by simp; omega
    have t2 : decide (200 < a1) = false := by simp; omega
    have t3 : (a1 == 0) = false := by rw [beq_eq_false_iff_ne]; omega
    have t4 : decide ((l0.length : Int) < 9) = false := by simp; omega
    have t5 : decide (l0.length < 9) = false := by simp; omega
    have t6 : decide (64 < rd l0 8) = true := by simpa using h4
    have t7 : ((8 : Int) < (l0.length : Int)) = True := eq_true (by omega)
    have t8 : (8 < l0.length) = True := eq_true (by omega)
    have t9 : decide (8 < l0.length) = true := by simp; omega
    obtain ⟨ad, e, hx⟩ := Kd.at_int HR0.out 8 (by omega) (by omega)
    cases e
    have hx' : w.cell? ⟨ad.block, ad.off + 8, none⟩ = some (.int .u8 (rd l0 8)) := by simpa [Addr.add] using hx
    go_enter Try.func44, Try.ntmps44
    go_wp2
    go_ret3
    exact ⟨_, rfl, Kd.R_nil _ _ _ _ _, Below.refl _ _⟩
theorem pack_Get.outs_len (b : List Int) (lo : Int) (w i : Nat) : (pack_Get.outs b lo w i).length = i := by simp [pack_Get.outs]
theorem pack_Get.outs_succ (b : List Int) (lo : Int) (w i : Nat) : pack_Get.outs b lo w (i + 1) = pack_Get.outs b lo w i ++ [IntKind.u64.wrap (lo + gv b (72 + i * w) w)] := by
  simp [pack_Get.outs, List.range_succ]
theorem pack_Get.outs_ok (b : List Int) (lo : Int) (w i : Nat) : pack_Put.ok (pack_Get.outs b lo w i) = true := by
  refine List.all_eq_true.2 (fun x hx => ?_)
  obtain ⟨j, _, rfl⟩ := List.mem_map.1 hx
  rw [wrap_u64]
  simp; omega
/-- A round's head: i numbers are taken; the reader is right, or it is bad, and then there were too few bits. -/
def pack_Get.Rel (w1 : World) (g : Nat) (b : List Int) (lo : Int) (wn n : Nat) (i : Nat) (vo : Value) (wr : World) : Prop :=
  ∃ (a : Nat) (bad : Bool) (out : List Int), IsS81 w1 wr g b (a : Int) bad ∧ Below w1.heap.size w1 wr ∧ Kd.R (Kd.int .u64) 23 wr w1.heap.size (fun _ => True) vo out ∧ out.length = i ∧ a ≤ 8 * b.length ∧
    ((bad = false ∧ a = 72 + i * wn ∧ out = pack_Get.outs b lo wn i) ∨ (bad = true ∧ 8 * b.length < 72 + n * wn))
set_option maxHeartbeats 8000000 in
set_option maxRecDepth 100000 in
theorem pack_Get.calls_main (A0 : Option Addr) (c0 : Nat) (l0 : List Int) (n : Nat) (r1 : List Int) (r2 r3 : Int) (w : World) (hr0 : Kd.C (Kd.int .u8) w A0 l0.length l0) (hc0 : l0.length ≤ c0) (h1 : 0 < n) (h2 : n ≤ 200) (h9 : 9 ≤ l0.length) (h64 : rd l0 8 ≤ 64) (hb : Bs l0) (hl : l0.length < 1000000000)
    (h : (if 8 * l0.length < 72 + n * (rd l0 8).toNat then some ([], 0, 4) else (pack_Put.f (pack_Get.outs l0 (gv l0 0 64) (rd l0 8).toNat n)).bind fun p => (bytes_HasPrefix.f l0 p.1).bind fun t => if t = true then some (pack_Get.outs l0 (gv l0 0 64) (rd l0 8).toNat n, (p.1.length : Int), 0) else some ([], 0, 3)) = some (r1, r2, r3)) :
    Calls Try.prog 44 #[.slice A0 l0.length c0, .int .i64 (n : Int)] w (pack_Get.Three w.heap.size r1 r2 r3 w) := by
  have hrd : rd l0 8 = l0[8] := rd_get (i := 8) (by omega)
  obtain ⟨q0, q1⟩ := hb _ (List.getElem_mem (show 8 < l0.length by omega))
  have hwv : gv l0 64 8 = rd l0 8 := by rw [hrd]; exact gv_byte hb (q := 8) (by omega)
  rw [← hrd] at q0 q1
  have hlo := gv_range64 l0 0 (n := 64) (by omega)
  have T1 := Aside0.mk (take_good (m := 64) (at0 := 0) hb (by omega) (by omega) (by omega) (by simp; omega))
  have T2 := Aside0.mk (take_good (m := 8) (at0 := 64) hb (by omega) (by omega) (by omega) (by simp; omega))
  obtain ⟨lo, hlo1⟩ : ∃ lo, lo = gv l0 0 64 := ⟨_, rfl⟩
  obtain ⟨wv, hwv1⟩ : ∃ wv, wv = rd l0 8 := ⟨_, rfl⟩
  obtain ⟨nn, hnn⟩ : ∃ nn : Int, nn = (n : Int) := ⟨_, rfl⟩
  simp only [show (64 : Int).toNat = 64 from rfl, show (8 : Int).toNat = 8 from rfl, Nat.zero_add, Nat.reduceAdd] at T1 T2
  rw [← hlo1] at T1 h hlo
  rw [hwv] at T2
  rw [← hwv1] at T2 h q0 q1 h64
  replace T1 : Aside0 (bits_Reader_Take.f 65 l0 0 false 64 = some (lo, 64, false)) := ⟨T1.out⟩
  replace T2 : Aside0 (bits_Reader_Take.f 65 l0 64 false 8 = some (wv, 72, false)) := ⟨T2.out⟩
  have H := Aside0.mk h
  have HR0 := Aside0.mk hr0
  have HC0 := Aside0.mk hc0
  have HBS := Aside0.mk hb
  have t1 : decide (nn < 0) = false := by simp; omega
  have t2 : decide (200 < nn) = false := by simp; omega
  have t3 : (nn == 0) = false := by rw [beq_eq_false_iff_ne]; omega
  have t4 : decide ((l0.length : Int) < 9) = false := by simp; omega
  have t5 : decide (l0.length < 9) = false := by simp; omega
  have t6 : decide (64 < wv) = false := by simp; omega
  have t7 : ((8 : Int) < (l0.length : Int)) = True := eq_true (by omega)
  have t8 : (8 < l0.length) = True := eq_true (by omega)
  have t9 : decide (8 < l0.length) = true := by simp; omega
  have hwv2 : IntKind.i64.wrap wv = wv := by rw [IntKind.wrap_i64]; omega
  obtain ⟨ad, e, hx⟩ := Kd.at_int hr0 8 (by omega) (by omega)
  rw [← hwv1] at hx
  cases e
  have hx' : w.cell? ⟨ad.block, ad.off + 8, none⟩ = some (.int .u8 wv) := by simpa [Addr.add] using hx
  rw [← hnn]
  have HNN := Aside0.mk hnn
  clear hr0 hc0 hx hlo1 hwv1 hnn h hrd hwv hb
  go_enter Try.func44, Try.ntmps44
  go_wp2_with (first
    | (go_at_call 33; (with_reducible refine (new_calls _ _ l0 _ HR0.out HC0.out (by omega)).mono ?_); rintro e w2 ⟨g, w1, rfl, hb1, hs, hb2⟩; have HS0 := Aside0.mk hs; have HB1 := Aside0.mk hb1; have HB2 := Aside0.mk hb2; clear hb1 hs hb2)
    | (go_at_call 28; (with_reducible refine (bits_Reader_Take.calls 65 g l0 0 false 64 lo 64 false w1 w2 HS0.out HB2.out T1.out).mono ?_); rintro e w3 ⟨rfl, hs, hb2, hk⟩; have HS1 := Aside0.mk hs; have HB3 := Aside0.mk hb2; clear hs hb2 hk HS0 HB2)
    | (go_at_call 28; (with_reducible refine (bits_Reader_Take.calls 65 g l0 64 false 8 wv 72 false w1 w3 HS1.out HB3.out T2.out).mono ?_); rintro e w4 ⟨rfl, hs, hb2, hk⟩; have HS2 := Aside0.mk hs; have HB4 := Aside0.mk hb2; clear hs hb2 hk HS1 HB3))
  have HW : Aside0 (wv.toNat ≤ 64) := ⟨by omega⟩
  have HR : Aside0 (pack_Get.Rel w1 g l0 lo wv.toNat n 0 (.slice none 0 0) w4) := ⟨⟨72, false, [], HS2.out, HB4.out, Kd.R_nil _ _ _ _ _, rfl, by omega, .inl ⟨rfl, by omega, rfl⟩⟩⟩
  clear HS2 HB4 T1 T2 hx'
  go_loopw [10, 40] (fun v10 v40 wr => ∃ (i : Nat) (ii : Int), v40 = .int .i64 ii ∧ Aside0 (ii = (i : Int)) ∧ Aside0 (i ≤ n) ∧ Aside0 (pack_Get.Rel w1 g l0 lo wv.toNat n i v10 wr)) (fun _ v40 _ => (nn - intOf v40).toNat)
  case atStart => exact ⟨0, _, rfl, ⟨rfl⟩, ⟨Nat.zero_le _⟩, HR⟩
  case round =>
    clear HR t1 t2 t3 t4 t5 t6 t7 t8 t9 hwv2
    obtain ⟨i, ii, rfl, HI, HIL, HR⟩ := hrel
    obtain ⟨a, bad, out, hs, hbl, ho, hlen, ha, hst⟩ := HR.out
    have HS := Aside0.mk hs
    have HB := Aside0.mk hbl
    have HO := Aside0.mk ho
    have HST := Aside0.mk hst
    have HLEN := Aside0.mk hlen
    clear HR hs hbl ho hst hlen
    have hin := HI.out
    by_cases hlt : i < n
    · have hi0 : 0 ≤ ii := by omega
      have hi1 : ii ≤ 200 := by omega
      have hi2 : decide (ii < nn) = true := by have := HNN.out; simp; omega
      obtain ⟨tv, a1, bad1, hT, tv0, tv1, ha1, hst1⟩ := take_any (at0 := a) (bad := bad) (m := wv) HBS.out (by omega) ha q0 h64
      obtain ⟨ai, hai⟩ : ∃ ai : Int, ai = (a : Int) := ⟨_, rfl⟩
      obtain ⟨ai1, hai1⟩ : ∃ ai1 : Int, ai1 = (a1 : Int) := ⟨_, rfl⟩
      obtain ⟨sv, hsv⟩ : ∃ sv : Int, sv = IntKind.u64.wrap (lo + tv) := ⟨_, rfl⟩
      have hsv1 : IntKind.u64.wrap (lo + tv) = sv := hsv.symm
      rw [← hai] at hT HS
      rw [← hai1] at hT
      have HT := Aside0.mk hT
      have HA := Aside0.mk hai
      have HA1 := Aside0.mk hai1
      have HSV := Aside0.mk hsv
      have HST1 := Aside0.mk hst1
      clear hT hai hai1 hsv hst1 hin
      go_wp2_with (first
        | (go_at_call 28; (with_reducible refine (bits_Reader_Take.calls 65 g l0 ai bad wv tv ai1 bad1 w1 wr HS.out HB.out HT.out).mono ?_); rintro e w5 ⟨rfl, hs, hb2, hk⟩; have HS5 := Aside0.mk hs; have HB5 := Aside0.mk hb2; have HO5 := Aside0.mk (Kd.R_mono (ok' := fun _ => True) (Kd.R_keep (HS.out.apart HO.out (by decide)) hk (fun _ h => h.2)) (fun _ _ => trivial)); clear hs hb2 hk HS HB HO)
        | ((with_reducible refine gate_builtin (b := .append) (xs := #[.tmp 42, .tmp 48]) rfl ?_); at_builtin; refine Kd.R_append (Kd.int .u64) (w0 := w1) w1.heap.size rfl (.tmp 42) (.tmp 48) 34 23 (.int .u64 0) 8 rfl Try.underlying34 info23 rfl (by decide) (by omega) u10 out sv [.int .u64 sv] (fun _ => True) (fun _ => False) rfl rfl ?aP (fun _ hk => hk.elim) ?aF ?aO ?aB ?aS ?aL ?_; (case aP => exact rfl); (case aB => exact HB5.out); (case aF => exact (fun _ _ => trivial)); (case aO => exact HO5.out); (case aS => exact (below_size HB5.out)); (case aL => have := HLEN.out; omega); intro v6 w6 ho hb hg hat; have HO6 := Aside0.mk ho; have HB6 := Aside0.mk hb; have HS6 := Aside0.mk (HS5.out.grown hg (HS5.out.own_ne HO5.out (by decide))); clear ho hb hg hat HS5 HB5 HO5))
      go_roundw
      case rel => exact ⟨i + 1, _, rfl, ⟨by have := HI.out; omega⟩, ⟨hlt⟩, ⟨a1, bad1, out ++ [sv], by have := HS6.out; rw [HA1.out] at this; exact this, HB6.out, HO6.out, by have := HLEN.out; simp; omega, ha1, by
          have hw := HW.out
          rcases HST1.out with ⟨b1, b2, b3, b4⟩ | ⟨b1, b2, b3, b4, b5⟩ | ⟨b1, b2, b3, b4, b5⟩
          · rcases HST.out with ⟨s1, s2, s3⟩ | ⟨s1, s2⟩
            · rw [s1] at b1; cases b1
            · exact .inr ⟨b2, s2⟩
          · rcases HST.out with ⟨s1, s2, s3⟩ | ⟨s1, s2⟩
            · refine .inl ⟨b2, ?_, ?_⟩
              · rw [b4, s2, Nat.succ_mul]; omega
              · rw [pack_Get.outs_succ, HSV.out, b5, s3, s2]
            · rw [s1] at b1; cases b1
          · rcases HST.out with ⟨s1, s2, s3⟩ | ⟨s1, s2⟩
            · refine .inr ⟨b2, ?_⟩
              have : (i + 1) * wv.toNat ≤ n * wv.toNat := Nat.mul_le_mul_right _ hlt
              rw [Nat.succ_mul] at this
              omega
            · rw [s1] at b1; cases b1⟩⟩
      case measure => simp [intOf]; have := HI.out; have := HNN.out; omega
    · have hi2 : decide (ii < nn) = false := by have := HNN.out; simp; omega
      have hil : i = n := by have := HIL.out; omega
      subst hil
      obtain ⟨ai, hai⟩ : ∃ ai : Int, ai = (a : Int) := ⟨_, rfl⟩
      rw [← hai] at HS
      clear hai hin
      cases bad with
      | true =>
        have hsh : 8 * l0.length < 72 + i * wv.toNat := by
          rcases HST.out with ⟨s1, _⟩ | ⟨_, s2⟩
          · cases s1
          · exact s2
        have hH := H.out
        rw [if_pos hsh] at hH
        injection hH with hH; injection hH with e1 e2; injection e2 with e2 e3; subst e1; subst e2; subst e3
        clear hsh H
        have HBD : Aside0 (bits_Reader_Bad.f l0 ai true = some (true, ai, true)) := ⟨rfl⟩
        go_wp2_with (go_at_call 29; (with_reducible refine (bits_Reader_Bad.calls g l0 ai true true ai true w1 wr HS.out HB.out HBD.out).mono ?_); rintro e w5 ⟨rfl, hs, hb2, hk⟩; have HB5 := Aside0.mk hb2; clear hs hb2 hk)
        go_ret3
        exact ⟨_, rfl, Kd.R_nil _ _ _ _ _, below_step HB1.out HB5.out⟩
      | false =>
        have hst := HST.out
        obtain ⟨s2, s3⟩ : a = 72 + i * wv.toNat ∧ out = pack_Get.outs l0 lo wv.toNat i := by
          rcases hst with ⟨_, s2, s3⟩ | ⟨s1, _⟩
          · exact ⟨s2, s3⟩
          · cases s1
        have hH := H.out
        rw [if_neg (by omega), ← s3] at hH
        have hlen := HLEN.out
        have hok : pack_Put.ok out = true := by rw [s3]; exact pack_Get.outs_ok _ _ _ _
        obtain ⟨ag, hag⟩ : ∃ ag, ag = packB (pack_Put.bits out) := ⟨_, rfl⟩
        have hput : pack_Put.f out = some (ag, 0) := by
          unfold pack_Put.f
          rw [if_neg (by omega), if_neg (by omega), if_pos hok, hag]
        rw [hput, Option.bind_some] at hH
        obtain ⟨t, hp, hH⟩ := Option.bind_eq_some_iff.1 hH
        replace hp : bytes_HasPrefix.f l0 ag = some t := hp
        replace hH : (if t = true then some (out, (ag.length : Int), (0 : Int)) else some ([], 0, 3)) = some (r1, r2, r3) := hH
        obtain ⟨A, c, rfl, hc, hr⟩ := Kd.R_reads HO.out
        have HRO := Aside0.mk hr
        have HCO := Aside0.mk hc
        have HPUT := Aside0.mk hput
        have HHP := Aside0.mk hp
        have HH := Aside0.mk hH
        have HBD : Aside0 (bits_Reader_Bad.f l0 ai false = some (false, ai, false)) := ⟨rfl⟩
        clear hst s2 s3 hH hlen hok hag hput hp hc hr HST HLEN H ha
        cases t <;> (
        go_wp2_with (first
          | (go_at_call 29; (with_reducible refine (bits_Reader_Bad.calls g l0 ai false false ai false w1 wr HS.out HB.out HBD.out).mono ?_); rintro e w5 ⟨rfl, hs, hb2, hk⟩; have HB5 := Aside0.mk hb2; have HO5 := Aside0.mk (Kd.R_mono (ok' := fun _ => True) (Kd.R_keep (HS.out.apart HO.out (by decide)) hk (fun _ h => h.2)) (fun _ _ => trivial)); clear hs hb2 hk HS HB HO HRO)
          | (go_at_call 41; (with_reducible refine (pack_Put.calls _ _ out ag 0 _ (Kd.R_reads' HO5.out).2.2 HCO.out HPUT.out).mono ?_); rintro e w6 ⟨v6, rfl, hR, hB⟩; obtain ⟨A2, c2, rfl, hc2, hr2⟩ := Kd.R_reads hR; have HC6 := Aside0.mk hc2; have HR6 := Aside0.mk hr2; have HO6 := Aside0.mk (Kd.R_below HO5.out hB); have HB6 := Aside0.mk (below_step HB1.out (below_step HB5.out hB)); clear hR hB hc2 hr2 HO5 HB5)
          | (go_at_call 60; (with_reducible refine (bytes_HasPrefix.calls _ _ l0 _ _ ag _ _ (Kd.C_below HR0.out HB6.out) HC0.out HR6.out HC6.out HHP.out).mono ?_); rintro e w7 ⟨rfl, hdr⟩; have HO7 := Aside0.mk (Kd.R_below HO6.out (Drawn0.below hdr)); have HB7 := Aside0.mk (below_step HB6.out (Drawn0.below hdr)); clear hdr HO6 HB6))
        go_ret3)
        · have e := HH.out
          simp only [Bool.false_eq_true, if_false] at e
          injection e with e; injection e with e1 e2; injection e2 with e2 e3; subst e1; subst e2; subst e3
          exact ⟨_, rfl, Kd.R_nil _ _ _ _ _, HB7.out⟩
        · have e := HH.out
          simp only [if_true] at e
          injection e with e; injection e with e1 e2; injection e2 with e2 e3; subst e2; subst e3
          rw [← e1]
          exact ⟨_, rfl, Kd.R_lower HO7.out HB1.out.size, HB7.out⟩
theorem pack_Get.calls (A0 : Option Addr) (c0 : Nat) (l0 : List Int) (a1 : Int) (r1 : List Int) (r2 : Int) (r3 : Int) (w : World) (hr0 : Kd.C (Kd.int .u8) w A0 l0.length l0) (hc0 : l0.length ≤ c0) (h : pack_Get.f l0 a1 = some (r1, r2, r3)) :
    Calls Try.prog 44 #[.slice A0 l0.length c0, .int .i64 a1] w fun e w' => ∃ v0_ : Value, e = .returned (.tuple #[v0_, .int .i64 r2, .int .i64 r3]) ∧ Kd.R (Kd.int .u64) 23 w' w.heap.size (fun _ => True) v0_ r1 ∧ Below w.heap.size w w' := by
  unfold pack_Get.f at h
  by_cases h1 : a1 < 0 ∨ 200 < a1
  · rw [if_pos h1] at h; injection h with h; injection h with e1 e2; injection e2 with e2 e3; subst e1; subst e2; subst e3
    exact pack_Get.calls_early A0 c0 l0 a1 1 w hr0 (.inl ⟨h1, rfl⟩)
  rw [if_neg h1] at h
  by_cases h2 : a1 = 0
  · rw [if_pos h2] at h; injection h with h; injection h with e1 e2; injection e2 with e2 e3; subst e1; subst e2; subst e3
    exact pack_Get.calls_early A0 c0 l0 a1 0 w hr0 (.inr (.inl ⟨h2, rfl⟩))
  rw [if_neg h2] at h
  by_cases h3 : l0.length < 9
  · rw [if_pos h3] at h; injection h with h; injection h with e1 e2; injection e2 with e2 e3; subst e1; subst e2; subst e3
    exact pack_Get.calls_early A0 c0 l0 a1 4 w hr0 (.inr (.inr (.inl ⟨by omega, by omega, h3, rfl⟩)))
  rw [if_neg h3] at h
  by_cases h4 : 64 < rd l0 8
  · rw [if_pos h4] at h; injection h with h; injection h with e1 e2; injection e2 with e2 e3; subst e1; subst e2; subst e3
    exact pack_Get.calls_early A0 c0 l0 a1 3 w hr0 (.inr (.inr (.inr ⟨by omega, by omega, by omega, h4, rfl⟩)))
  rw [if_neg h4] at h
  by_cases h5 : okB l0 = true
  · rw [if_pos h5] at h
    obtain ⟨k1, k2⟩ := okB_bs h5
    obtain ⟨n, rfl⟩ := Int.eq_ofNat_of_zero_le (show 0 ≤ a1 by omega)
    rw [Int.toNat_natCast] at h
    exact pack_Get.calls_main A0 c0 l0 n r1 r2 r3 w hr0 hc0 (by omega) (by omega) (by omega) (by omega) k1 k2 h
  · rw [if_neg h5] at h; cases h

end Go.Proofs.Ytmlbppfcpejlpaa.X

-- Printed by this session's own program (wip/xprint.py) over the translation; its external functions are hand-written. Lean checks it.
namespace Go.Proofs.Ytmlbppfcpejlpaa.X
open Go.RowKit Go.Proofs.YtmlbppfcpejlpaaW.PrintWords Go.Proofs.YtmlbppfcpejlpaaW.PrintLast Go.Proofs.YtmlbppfcpejlpaaW.PrintMore
attribute [local go_sem] max2_int min2_int max_two min_two max_three min_three max_four min_four   -- for this text's walks alone
set_option linter.unusedVariables false
set_option linter.unusedSimpArgs false

/-! ### rickref06_Raw: function 59 -/
def rickref06_Raw.l0 : Nat → Int → List Int → Int → Option (List Int)
  | 0, _, _, _ => none
  | k + 1, x0, x3, x4 => if x4 ≥ 0 then (if 0 ≤ (wrap64 (8 * x4)) then (if x3.length < 140737488355328 then (rickref06_Raw.l0 k x0 (x3 ++ [(shr .u64 x0 (wrap64 (8 * x4))) % 256]) (wrap64 (x4 - 1))) else (none)) else (none)) else (some x3)
def rickref06_Raw.f (k : Nat) (a0 : Int) : Option (List Int) := rickref06_Raw.l0 k a0 ([] : List Int) 7
theorem rickref06_Raw.mono_l : ∀ k, (∀ y0 y1 y2, LeO (rickref06_Raw.l0 k y0 y1 y2) (rickref06_Raw.l0 (k + 1) y0 y1 y2))
  | 0 => fun _ _ _ r h => by simp [rickref06_Raw.l0] at h
  | k + 1 => by
    have ih0 := rickref06_Raw.mono_l k
    · intro y0 y1 y2
      unfold rickref06_Raw.l0
      repeat' first
      | (with_reducible exact ih0 _ _ _)
      | (with_reducible exact LeO.refl _)
      | (with_reducible exact LeO.none _)
      | (with_reducible refine LeO.ite ?_ ?_)
      | (with_reducible refine LeO.bind ?_ (fun _ => ?_))
      | exact ih0 _ _ _
      | exact LeO.none _
      | refine LeO.ite ?_ ?_
      | refine LeO.bind ?_ (fun _ => ?_)
theorem rickref06_Raw.mono : ∀ a0 k, LeO (rickref06_Raw.f k a0) (rickref06_Raw.f (k + 1) a0) := by
  intro a0 k
  have ih0 := rickref06_Raw.mono_l k
  unfold rickref06_Raw.f
  repeat' first
      | (with_reducible exact ih0 _ _ _)
      | (with_reducible exact LeO.refl _)
      | (with_reducible exact LeO.none _)
      | (with_reducible refine LeO.ite ?_ ?_)
      | (with_reducible refine LeO.bind ?_ (fun _ => ?_))
      | exact ih0 _ _ _
      | exact LeO.none _
      | refine LeO.ite ?_ ?_
      | refine LeO.bind ?_ (fun _ => ?_)
set_option maxHeartbeats 8000000 in
set_option maxRecDepth 100000 in
theorem rickref06_Raw.calls (k : Nat) (a0 : Int) (r : List Int) (w : World) (h : rickref06_Raw.f k a0 = some r) :
    Calls Try.prog 59 #[.int .u64 a0] w fun e w' => ∃ v0_ : Value, e = .returned (v0_) ∧ Kd.R (Kd.int .u8) 5 w' w.heap.size (fun _ => True) v0_ r ∧ Below w.heap.size w w' := by
  have HB := Aside0.mk (Below.refl w.heap.size w)
  have H : (rickref06_Raw.l0 k a0 ([] : List Int) 7) = some r := h
  clear h
  have H' := Aside0.mk H
  clear H
  go_enter Try.func59, Try.ntmps59
  go_wp2
  go_loopg [3, 4] k (fun kq v3 v4 w' => ∃ (x3_1 : List Int) (x4_1 : Int), v4 = .int .i64 x4_1 ∧ Aside0 (rickref06_Raw.l0 kq a0 x3_1 x4_1 = some r) ∧ Aside0 (kq ≤ k) ∧ Aside0 (Kd.R (Kd.int .u8) 5 w' w.heap.size (fun _ => True) v3 x3_1) ∧ Aside0 (Below w.heap.size w w'))
  case atStart => exact ⟨(([] : List Int)), (7), (by first | rfl | (simp; done) | (simp [*]; done)), H', ⟨Nat.le_refl _⟩, ⟨by first | exact Kd.R_nil _ _ _ _ _ | exact Kd.N_nil _ _ _ _ _ | exact Kd.V_nil _ _ _ _ _ | exact Kd.Q_nil _ _ _ _ _ | exact Kd.S_nil _ _ _ _ _⟩, ⟨by repeat (first | (with_reducible first | exact HB.out | apply below_alloc | apply pw_below_drewN | apply below_drew1) | exact HB.out)⟩⟩
  case round =>
    clear H'
    obtain ⟨x3_1, x4_1, rfl, HA, HK1, HO_3, HB⟩ := hrel
    cases gk with
    | zero => exact absurd HA.out (by simp [rickref06_Raw.l0])
    | succ k1 =>
      have H := HA.out
      clear HA
      simp only [rickref06_Raw.l0] at H
      by_cases c2 : x4_1 ≥ 0
      · rw [if_pos c2] at H
        have c2b0 : decide (0 ≤ x4_1) = true := decide_eq_true c2
        clear c2
        obtain ⟨ji3, hji3⟩ : ∃ j_ : Int, (wrap64 (8 * x4_1)) = j_ := ⟨_, rfl⟩
        replace H : (if 0 ≤ (ji3) then (if x3_1.length < 140737488355328 then (rickref06_Raw.l0 k1 a0 (x3_1 ++ [(shr .u64 a0 (ji3)) % 256]) (wrap64 (x4_1 - 1))) else (none)) else (none)) = some r := by first | (rw [hji3] at H; exact H) | (simp only [hji3] at H ⊢; exact H)
        have hji3w : (IntKind.i64.wrap (8 * x4_1)) = ji3 := (i64_w _).trans hji3
        by_cases c4 : 0 ≤ (ji3)
        · rw [if_pos c4] at H
          have c4b0 := eq_true c4
          have c4b1 : decide (0 ≤ (ji3)) = true := decide_eq_true c4
          clear c4
          obtain ⟨ji5, hji5⟩ : ∃ j_ : Int, (shr .u64 a0 (ji3)) = j_ := ⟨_, rfl⟩
          replace H : (if x3_1.length < 140737488355328 then (rickref06_Raw.l0 k1 a0 (x3_1 ++ [(ji5) % 256]) (wrap64 (x4_1 - 1))) else (none)) = some r := by first | (rw [hji5] at H; exact H) | (simp only [hji5] at H ⊢; exact H)
          have hji5_ : (a0 / 2 ^ min (ji3).toNat 64) = ji5 := hji5
          have hji5z : (ji3) ≤ 64 → (a0 / 2 ^ (ji3).toNat) = ji5 := shr_small hji5
          by_cases c6 : x3_1.length < 140737488355328
          · rw [if_pos c6] at H
            have LMc6 := Aside0.mk c6
            clear c6
            obtain ⟨y365, hy365⟩ : ∃ y_ : List Int, y_ = (x3_1 ++ [(ji5) % 256]) := ⟨_, rfl⟩
            replace H : (rickref06_Raw.l0 k1 a0 y365 (wrap64 (x4_1 - 1))) = some r := by first | (rw [hy365]; with_reducible exact H) | (have H2_ := (Option.bind_some _ _).symm.trans H; rw [hy365]; with_reducible exact H2_) | (have H2_ := (Option.bind_some _ _).symm.trans H; with_reducible exact H2_) | with_reducible exact H | (rw [hy365]; exact H) | exact H
            have Ny365 := Aside0.mk hy365
            clear hy365
            have H' := Aside0.mk H
            clear H
            go_wp2_with (first | ((with_reducible refine gate_builtin (b := .append) (xs := #[.tmp 9, .tmp 15]) rfl ?_); at_builtin; refine Kd.R_append (Kd.int .u8) (w0 := w) w.heap.size rfl (.tmp 9) (.tmp 15) 22 5 (.int .u8 0) 1 rfl Try.underlying22 info5 rfl (by decide) (by omega) u3 x3_1 ((ji5) % 256) [.int .u8 ((ji5) % 256)] (fun _ => True) (fun _ => False) rfl rfl ?aP (fun _ hk => hk.elim) ?aF ?aO ?aB ?aS ?aL ?_; (case aP => exact rfl); (case aB => exact (by repeat (first | (with_reducible first | exact HB.out | apply below_alloc | apply pw_below_drewN | apply below_drew1) | exact HB.out))); (case aF => exact (fun _ _ => trivial)); (case aO => exact (by (with_reducible repeat (first | apply Kd.R_alloc | apply Kd.R_drewN | apply Kd.R_drew)); exact HO_3.out)); (case aS => exact (below_size (by repeat (first | (with_reducible first | exact HB.out | apply below_alloc | apply pw_below_drewN | apply below_drew1) | exact HB.out)))); (case aL => have := LMc6.out; omega); intro v366 w7 ho hb hg hat; rw [← Ny365.out] at ho; have n0_ := Aside0.mk (hb); have n1_ := Aside0.mk (ho); clear HB; clear HO_3; have HB := n0_; have HO367 := n1_; clear n0_ n1_; clear ho hb hg hat))
            go_roundg k1
            case measure => have := HK1.out; omega
            case rel => exact ⟨(y365), (wrap64 (x4_1 - 1)), (by first | rfl | (simp; done) | (simp [*]; done)), H', ⟨by have := HK1.out; omega⟩, ⟨by (with_reducible repeat (first | apply Kd.R_alloc | apply Kd.R_drewN | apply Kd.R_drew)); exact HO367.out⟩, ⟨by repeat (first | (with_reducible first | exact HB.out | apply below_alloc | apply pw_below_drewN | apply below_drew1) | exact HB.out)⟩⟩
          · rw [if_neg c6] at H
            exact absurd H (by simp)
        · rw [if_neg c4] at H
          exact absurd H (by simp)
      · rw [if_neg c2] at H
        have c2b0 : decide (0 ≤ x4_1) = false := decide_eq_false c2
        clear c2
        obtain rfl := Option.some.inj H
        go_wp2
        go_ret
        exact ⟨_, by first | rfl | (simp [errW_none, errW_some] <;> rfl) | (simp [*, errW_none, errW_some] <;> rfl), by (with_reducible repeat (first | apply Kd.R_alloc | apply Kd.R_drewN | apply Kd.R_drew)); exact HO_3.out, by repeat (first | (with_reducible first | exact HB.out | apply below_alloc | apply pw_below_drewN | apply below_drew1) | exact HB.out)⟩

end Go.Proofs.Ytmlbppfcpejlpaa.X

-- Printed by this session's own program (wip/xprint.py) over the translation; its external functions are hand-written. Lean checks it.
namespace Go.Proofs.Ytmlbppfcpejlpaa.X
open Go.RowKit Go.Proofs.YtmlbppfcpejlpaaW.PrintWords Go.Proofs.YtmlbppfcpejlpaaW.PrintLast Go.Proofs.YtmlbppfcpejlpaaW.PrintMore
attribute [local go_sem] max2_int min2_int max_two min_two max_three min_three max_four min_four   -- for this text's walks alone
set_option linter.unusedVariables false
set_option linter.unusedSimpArgs false

/-! ### rickref06_Put: function 42 -/
mutual
def rickref06_Put.l0 : Nat → List Int → Int → Int → Int → Option (List Int)
  | 0, _, _, _, _ => none
  | k + 1, x0, x3, x4, x5 => if x5 < (x0.length : Int) then (if 0 ≤ x5 then (rickref06_Put.l0 k x0 (mn x3 (rd x0 x5)) (mx x4 (rd x0 x5)) (wrap64 (x5 + 1))) else (none)) else (rickref06_Put.l1 k x0 x3 x4 0)
def rickref06_Put.j2 : Nat → List Int → Int → Int → Option (List Int)
  | 0, _, _, _ => none
  | k + 1, x0, x3, x6 => rickref06_Put.l2 k x0 x3 x6 ([] : List Int) 0
def rickref06_Put.l2 : Nat → List Int → Int → Int → List Int → Int → Option (List Int)
  | 0, _, _, _, _, _ => none
  | k + 1, x0, x3, x6, x7, x8 => if x8 < (x0.length : Int) then (if 0 ≤ x8 then ((rickref04_Put.f k x7 (IntKind.u64.wrap ((rd x0 x8) - x3)) x6).bind fun t373 => (rickref06_Put.l2 k x0 x3 x6 t373 (wrap64 (x8 + 1)))) else (none)) else ((rickref06_Raw.f k x3).bind fun t376 => (if t376.length < 140737488355328 then ((some (t376 ++ [(x6) % 256] : List Int)).bind fun y379 => ((rickref04_Bytes.f k x7).bind fun t382 => (if y379.length + t382.length < 140737488355328 then (some (y379 ++ t382)) else (none)))) else (none)))
def rickref06_Put.l1 : Nat → List Int → Int → Int → Int → Option (List Int)
  | 0, _, _, _, _ => none
  | k + 1, x0, x3, x4, x6 => if x6 < 64 then (if 0 ≤ x6 then (if (shr .u64 (IntKind.u64.wrap (x4 - x3)) x6) > 0 then (rickref06_Put.l1 k x0 x3 x4 (wrap64 (x6 + 1))) else (rickref06_Put.j2 k x0 x3 x6)) else (none)) else (rickref06_Put.j2 k x0 x3 x6)
end
def rickref06_Put.f (k : Nat) (l0 : List Int) : Option (List Int) := if (l0.length : Int) = 0 then (some ([] : List Int)) else (if 0 < (l0.length : Int) then (rickref06_Put.l0 k l0 (rd l0 0) (rd l0 0) 0) else (none))
theorem rickref06_Put.mono_l : ∀ k, (∀ y0 y1 y2 y3, LeO (rickref06_Put.l0 k y0 y1 y2 y3) (rickref06_Put.l0 (k + 1) y0 y1 y2 y3)) ∧ (∀ y0 y1 y2, LeO (rickref06_Put.j2 k y0 y1 y2) (rickref06_Put.j2 (k + 1) y0 y1 y2)) ∧ (∀ y0 y1 y2 y3 y4, LeO (rickref06_Put.l2 k y0 y1 y2 y3 y4) (rickref06_Put.l2 (k + 1) y0 y1 y2 y3 y4)) ∧ (∀ y0 y1 y2 y3, LeO (rickref06_Put.l1 k y0 y1 y2 y3) (rickref06_Put.l1 (k + 1) y0 y1 y2 y3))
  | 0 => ⟨fun _ _ _ _ r h => by simp [rickref06_Put.l0] at h, fun _ _ _ r h => by simp [rickref06_Put.j2] at h, fun _ _ _ _ _ r h => by simp [rickref06_Put.l2] at h, fun _ _ _ _ r h => by simp [rickref06_Put.l1] at h⟩
  | k + 1 => by
    obtain ⟨ih0, ih1, ih2, ih3⟩ := rickref06_Put.mono_l k
    refine ⟨?_, ?_, ?_, ?_⟩
    · intro y0 y1 y2 y3
      unfold rickref06_Put.l0
      repeat' first
      | (with_reducible exact ih0 _ _ _ _)
      | (with_reducible exact ih1 _ _ _)
      | (with_reducible exact ih2 _ _ _ _ _)
      | (with_reducible exact ih3 _ _ _ _)
      | (with_reducible exact rickref04_Bytes.mono _ _)
      | (with_reducible exact rickref04_Put.mono _ _ _ _)
      | (with_reducible exact rickref06_Raw.mono _ _)
      | (with_reducible exact LeO.refl _)
      | (with_reducible exact LeO.none _)
      | (with_reducible refine LeO.ite ?_ ?_)
      | (with_reducible refine LeO.bind ?_ (fun _ => ?_))
      | exact ih0 _ _ _ _
      | exact ih1 _ _ _
      | exact ih2 _ _ _ _ _
      | exact ih3 _ _ _ _
      | exact rickref04_Bytes.mono _ _
      | exact rickref04_Put.mono _ _ _ _
      | exact rickref06_Raw.mono _ _
      | exact LeO.none _
      | refine LeO.ite ?_ ?_
      | refine LeO.bind ?_ (fun _ => ?_)
    · intro y0 y1 y2
      unfold rickref06_Put.j2
      repeat' first
      | (with_reducible exact ih0 _ _ _ _)
      | (with_reducible exact ih1 _ _ _)
      | (with_reducible exact ih2 _ _ _ _ _)
      | (with_reducible exact ih3 _ _ _ _)
      | (with_reducible exact rickref04_Bytes.mono _ _)
      | (with_reducible exact rickref04_Put.mono _ _ _ _)
      | (with_reducible exact rickref06_Raw.mono _ _)
      | (with_reducible exact LeO.refl _)
      | (with_reducible exact LeO.none _)
      | (with_reducible refine LeO.ite ?_ ?_)
      | (with_reducible refine LeO.bind ?_ (fun _ => ?_))
      | exact ih0 _ _ _ _
      | exact ih1 _ _ _
      | exact ih2 _ _ _ _ _
      | exact ih3 _ _ _ _
      | exact rickref04_Bytes.mono _ _
      | exact rickref04_Put.mono _ _ _ _
      | exact rickref06_Raw.mono _ _
      | exact LeO.none _
      | refine LeO.ite ?_ ?_
      | refine LeO.bind ?_ (fun _ => ?_)
    · intro y0 y1 y2 y3 y4
      unfold rickref06_Put.l2
      repeat' first
      | (with_reducible exact ih0 _ _ _ _)
      | (with_reducible exact ih1 _ _ _)
      | (with_reducible exact ih2 _ _ _ _ _)
      | (with_reducible exact ih3 _ _ _ _)
      | (with_reducible exact rickref04_Bytes.mono _ _)
      | (with_reducible exact rickref04_Put.mono _ _ _ _)
      | (with_reducible exact rickref06_Raw.mono _ _)
      | (with_reducible exact LeO.refl _)
      | (with_reducible exact LeO.none _)
      | (with_reducible refine LeO.ite ?_ ?_)
      | (with_reducible refine LeO.bind ?_ (fun _ => ?_))
      | exact ih0 _ _ _ _
      | exact ih1 _ _ _
      | exact ih2 _ _ _ _ _
      | exact ih3 _ _ _ _
      | exact rickref04_Bytes.mono _ _
      | exact rickref04_Put.mono _ _ _ _
      | exact rickref06_Raw.mono _ _
      | exact LeO.none _
      | refine LeO.ite ?_ ?_
      | refine LeO.bind ?_ (fun _ => ?_)
    · intro y0 y1 y2 y3
      unfold rickref06_Put.l1
      repeat' first
      | (with_reducible exact ih0 _ _ _ _)
      | (with_reducible exact ih1 _ _ _)
      | (with_reducible exact ih2 _ _ _ _ _)
      | (with_reducible exact ih3 _ _ _ _)
      | (with_reducible exact rickref04_Bytes.mono _ _)
      | (with_reducible exact rickref04_Put.mono _ _ _ _)
      | (with_reducible exact rickref06_Raw.mono _ _)
      | (with_reducible exact LeO.refl _)
      | (with_reducible exact LeO.none _)
      | (with_reducible refine LeO.ite ?_ ?_)
      | (with_reducible refine LeO.bind ?_ (fun _ => ?_))
      | exact ih0 _ _ _ _
      | exact ih1 _ _ _
      | exact ih2 _ _ _ _ _
      | exact ih3 _ _ _ _
      | exact rickref04_Bytes.mono _ _
      | exact rickref04_Put.mono _ _ _ _
      | exact rickref06_Raw.mono _ _
      | exact LeO.none _
      | refine LeO.ite ?_ ?_
      | refine LeO.bind ?_ (fun _ => ?_)
theorem rickref06_Put.mono : ∀ a0 k, LeO (rickref06_Put.f k a0) (rickref06_Put.f (k + 1) a0) := by
  intro a0 k
  obtain ⟨ih0, ih1, ih2, ih3⟩ := rickref06_Put.mono_l k
  unfold rickref06_Put.f
  repeat' first
      | (with_reducible exact ih0 _ _ _ _)
      | (with_reducible exact ih1 _ _ _)
      | (with_reducible exact ih2 _ _ _ _ _)
      | (with_reducible exact ih3 _ _ _ _)
      | (with_reducible exact rickref04_Bytes.mono _ _)
      | (with_reducible exact rickref04_Put.mono _ _ _ _)
      | (with_reducible exact rickref06_Raw.mono _ _)
      | (with_reducible exact LeO.refl _)
      | (with_reducible exact LeO.none _)
      | (with_reducible refine LeO.ite ?_ ?_)
      | (with_reducible refine LeO.bind ?_ (fun _ => ?_))
      | exact ih0 _ _ _ _
      | exact ih1 _ _ _
      | exact ih2 _ _ _ _ _
      | exact ih3 _ _ _ _
      | exact rickref04_Bytes.mono _ _
      | exact rickref04_Put.mono _ _ _ _
      | exact rickref06_Raw.mono _ _
      | exact LeO.none _
      | refine LeO.ite ?_ ?_
      | refine LeO.bind ?_ (fun _ => ?_)
set_option maxHeartbeats 8000000 in
set_option maxRecDepth 100000 in
theorem rickref06_Put.calls (k : Nat) (A0 : Option Addr) (c0 : Nat) (l0 : List Int) (r : List Int) (w : World) (hr0 : Kd.C (Kd.int .u64) w A0 l0.length l0) (hc0 : l0.length ≤ c0) (h : rickref06_Put.f k l0 = some r) :
    Calls Try.prog 42 #[.slice A0 l0.length c0] w fun e w' => ∃ v0_ : Value, e = .returned (v0_) ∧ Kd.R (Kd.int .u8) 5 w' w.heap.size (fun _ => True) v0_ r ∧ Below w.heap.size w w' := by
  have HR0 := Aside0.mk hr0
  have HC0 := Aside0.mk hc0
  clear hr0 hc0
  have HB := Aside0.mk (Below.refl w.heap.size w)
  have H : (if (l0.length : Int) = 0 then (some ([] : List Int)) else (if 0 < (l0.length : Int) then (rickref06_Put.l0 k l0 (rd l0 0) (rd l0 0) 0) else (none))) = some r := h
  clear h
  by_cases c2 : (l0.length : Int) = 0
  · rw [if_pos c2] at H
    have c2b0 : ((l0.length : Int) == 0) = true := beq_iff_eq.mpr c2
    have c2b1 : ((l0.length : Int) != 0) = false := bne_eq_false_iff_eq.mpr c2
    clear c2
    obtain rfl := Option.some.inj H
    go_enter Try.func42, Try.ntmps42
    go_wp2
    repeat (go_quiet (fail); try go_wp2)
    go_ret
    exact ⟨_, by first | rfl | (simp [errW_none, errW_some] <;> rfl) | (simp [*, errW_none, errW_some] <;> rfl), by first | exact Kd.R_nil _ _ _ _ _ | exact Kd.N_nil _ _ _ _ _ | exact Kd.V_nil _ _ _ _ _ | exact Kd.Q_nil _ _ _ _ _ | exact Kd.S_nil _ _ _ _ _, by repeat (first | (with_reducible first | exact HB.out | apply below_alloc | apply pw_below_drewN | apply below_drew1) | exact HB.out)⟩
  · rw [if_neg c2] at H
    have c2b0 : ((l0.length : Int) == 0) = false := beq_eq_false_iff_ne.mpr c2
    have c2b1 : ((l0.length : Int) != 0) = true := bne_iff_ne.mpr c2
    have c2b2 : ¬ (l0 = []) := fun h_ => c2 (by rw [h_]; rfl)
    by_cases c3 : 0 < (l0.length : Int)
    · rw [if_pos c3] at H
      have c3b0 : decide (0 < (l0.length : Int)) = true := decide_eq_true c3
      have c3b1 : decide (0 < l0.length) = true := decide_eq_true (by omega)
      clear c3
      have H' := Aside0.mk H
      clear H
      have p368 : 0 ≤ (0 : Int) := (by omega)
      have q368 : 0 < (l0.length : Int) := of_decide_eq_true (by first | (with_reducible assumption) | assumption)
      obtain ⟨ad368, e368, hx368_0⟩ := Kd.at_int HR0.out 0 p368 q368
      cases e368
      have qi368 : (0 < l0.length) = True := eq_true (by omega)
      (try rw [show ((0 : Int)).toNat = 0 from rfl] at hx368_0)
      (try rw [Addr.add_zero'] at hx368_0)
      replace p368 := eq_true p368
      replace q368 := eq_true q368
      have p369 : 0 ≤ (0 : Int) := (by omega)
      have q369 : 0 < (l0.length : Int) := of_decide_eq_true (by first | (with_reducible assumption) | assumption)
      obtain ⟨ad369, e369, hx369_0⟩ := Kd.at_int HR0.out 0 p369 q369
      obtain rfl : ad368 = ad369 := (by injection e369)
      have qi369 : (0 < l0.length) = True := eq_true (by omega)
      (try rw [show ((0 : Int)).toNat = 0 from rfl] at hx369_0)
      (try rw [Addr.add_zero'] at hx369_0)
      replace p369 := eq_true p369
      replace q369 := eq_true q369
      go_enter Try.func42, Try.ntmps42
      go_wp2
      repeat (go_quiet (fail); try go_wp2)
      go_loopg [3, 4, 5] k (fun kq v3 v4 v5 w' => ∃ (x3_1 : Int) (x4_1 : Int) (x5_1 : Int), v3 = .int .u64 x3_1 ∧ v4 = .int .u64 x4_1 ∧ v5 = .int .i64 x5_1 ∧ Aside0 (rickref06_Put.l0 kq l0 x3_1 x4_1 x5_1 = some r) ∧ Aside0 (kq ≤ k) ∧ Aside0 (Below w.heap.size w w'))
      case atStart => exact ⟨(rd l0 0), (rd l0 0), (0), (by first | rfl | (simp; done) | (simp [*]; done)), (by first | rfl | (simp; done) | (simp [*]; done)), (by first | rfl | (simp; done) | (simp [*]; done)), H', ⟨Nat.le_refl _⟩, ⟨by repeat (first | (with_reducible first | exact HB.out | apply below_alloc | apply pw_below_drewN | apply below_drew1) | exact HB.out)⟩⟩
      case round =>
        clear H'
        try clear c2
        try clear c2b0
        try clear c2b1
        try clear c2b2
        try clear p2
        try clear c3
        try clear c3b0
        try clear c3b1
        try clear p3
        try clear q3
        try clear hx3
        try clear qi3
        try clear hx368_0
        try clear hx369_0
        try clear p368
        try clear p369
        try clear q368
        try clear q369
        obtain ⟨x3_1, x4_1, x5_1, rfl, rfl, rfl, HA, HK1, HB⟩ := hrel
        cases gk with
        | zero => exact absurd HA.out (by simp [rickref06_Put.l0])
        | succ k1 =>
          have H := HA.out
          clear HA
          simp only [rickref06_Put.l0] at H
          by_cases c4 : x5_1 < (l0.length : Int)
          · rw [if_pos c4] at H
            have c4b0 : decide (x5_1 < (l0.length : Int)) = true := decide_eq_true c4
            clear c4
            by_cases c5 : 0 ≤ x5_1
            · rw [if_pos c5] at H
              have c5b0 : decide (0 ≤ x5_1) = true := decide_eq_true c5
              clear c5
              obtain ⟨ji6, hji6⟩ : ∃ j_ : Int, (mn x3_1 (rd l0 x5_1)) = j_ := ⟨_, rfl⟩
              replace H : (rickref06_Put.l0 k1 l0 ji6 (mx x4_1 (rd l0 x5_1)) (wrap64 (x5_1 + 1))) = some r := by first | (rw [hji6] at H; exact H) | (simp only [hji6] at H ⊢; exact H)
              have hji6_ : (if (rd l0 x5_1) < x3_1 then (rd l0 x5_1) else x3_1) = ji6 := hji6
              obtain ⟨ji7, hji7⟩ : ∃ j_ : Int, (mx x4_1 (rd l0 x5_1)) = j_ := ⟨_, rfl⟩
              replace H : (rickref06_Put.l0 k1 l0 ji6 ji7 (wrap64 (x5_1 + 1))) = some r := by first | (rw [hji7] at H; exact H) | (simp only [hji7] at H ⊢; exact H)
              have hji7_ : (if x4_1 < (rd l0 x5_1) then (rd l0 x5_1) else x4_1) = ji7 := hji7
              have H' := Aside0.mk H
              clear H
              have p370 : 0 ≤ (x5_1 : Int) := of_decide_eq_true (by first | (with_reducible assumption) | assumption)
              have q370 : x5_1 < (l0.length : Int) := of_decide_eq_true (by first | (with_reducible assumption) | assumption)
              obtain ⟨ad370, e370, hx370_0⟩ := Kd.at_int HR0.out x5_1 p370 q370
              obtain rfl : ad368 = ad370 := (by injection e370)
              replace hx370_0 := (HB.out.cell (World.block_lt_of_cell? w _ hx370_0)).trans hx370_0
              replace p370 := eq_true p370
              replace q370 := eq_true q370
              have p371 : 0 ≤ (x5_1 : Int) := of_decide_eq_true (by first | (with_reducible assumption) | assumption)
              have q371 : x5_1 < (l0.length : Int) := of_decide_eq_true (by first | (with_reducible assumption) | assumption)
              obtain ⟨ad371, e371, hx371_0⟩ := Kd.at_int HR0.out x5_1 p371 q371
              obtain rfl : ad368 = ad371 := (by injection e371)
              replace hx371_0 := (HB.out.cell (World.block_lt_of_cell? w _ hx371_0)).trans hx371_0
              replace p371 := eq_true p371
              replace q371 := eq_true q371
              go_wp2
              repeat (go_quiet (fail); try go_wp2)
              go_roundg k1
              case measure => have := HK1.out; omega
              case rel => exact ⟨(ji6), (ji7), (wrap64 (x5_1 + 1)), (by first | rfl | (simp; done) | (simp only [← hji6] <;> (first | rfl | simp)) | (simp [*]; done)), (by first | rfl | (simp; done) | (simp only [← hji7] <;> (first | rfl | simp)) | (simp [*]; done)), (by first | rfl | (simp; done) | (simp [*]; done)), H', ⟨by have := HK1.out; omega⟩, ⟨by repeat (first | (with_reducible first | exact HB.out | apply below_alloc | apply pw_below_drewN | apply below_drew1) | exact HB.out)⟩⟩
            · rw [if_neg c5] at H
              exact absurd H (by simp)
          · rw [if_neg c4] at H
            have c4b0 : decide (x5_1 < (l0.length : Int)) = false := decide_eq_false c4
            clear c4
            have HC8 := Aside0.mk H
            clear H
            go_upto_block 2 with (fail)
            repeat (go_quiet (fail); go_upto_block 2 with (fail))
            go_cut [6] (fun v6 wc => ∃ (kq : Nat) (x6_7 : Int), v6 = .int .i64 x6_7 ∧ Aside0 (rickref06_Put.j2 kq l0 x3_1 x6_7 = some r) ∧ Aside0 (kq ≤ k1) ∧ Aside0 (Below w.heap.size w wc))
            case first =>
              have H := HC8.out
              clear HC8
              have H' := Aside0.mk H
              clear H
              go_wp2
              repeat (go_quiet (fail); try go_wp2)
              go_loopg [6] k1 (fun kq v6 w' => ∃ (x6_2 : Int), v6 = .int .i64 x6_2 ∧ Aside0 (rickref06_Put.l1 kq l0 x3_1 x4_1 x6_2 = some r) ∧ Aside0 (kq ≤ k1) ∧ Aside0 (Below w.heap.size w w'))
              case atStart => exact ⟨(0), (by first | rfl | (simp; done) | (simp [*]; done)), H', ⟨Nat.le_refl _⟩, ⟨by repeat (first | (with_reducible first | exact HB.out | apply below_alloc | apply pw_below_drewN | apply below_drew1) | exact HB.out)⟩⟩
              case round =>
                clear H'
                try clear c2
                try clear c2b0
                try clear c2b1
                try clear c2b2
                try clear p2
                try clear c3
                try clear c3b0
                try clear c3b1
                try clear p3
                try clear q3
                try clear hx3
                try clear qi3
                try clear c4
                try clear c4b0
                try clear c5
                try clear c5b0
                try clear p6
                try clear hx368_0
                try clear hx369_0
                try clear hx370_0
                try clear hx371_0
                try clear p2
                try clear p3
                try clear p368
                try clear p369
                try clear p370
                try clear p371
                try clear q3
                try clear q368
                try clear q369
                try clear q370
                try clear q371
                obtain ⟨x6_2, rfl, HA, HK2, HB⟩ := hrel
                cases gk with
                | zero => exact absurd HA.out (by simp [rickref06_Put.l1])
                | succ k2 =>
                  have H := HA.out
                  clear HA
                  simp only [rickref06_Put.l1] at H
                  by_cases c9 : x6_2 < 64
                  · rw [if_pos c9] at H
                    have c9b0 : decide (x6_2 < 64) = true := decide_eq_true c9
                    clear c9
                    (first | rw [c9b0] | (simp only [i64_w, i32_w]; rw [c9b0]) | skip)
                    by_cases c10 : 0 ≤ x6_2
                    · rw [if_pos c10] at H
                      have c10b0 := eq_true c10
                      have c10b1 : decide (0 ≤ x6_2) = true := decide_eq_true c10
                      clear c10
                      obtain ⟨ji11, hji11⟩ : ∃ j_ : Int, (shr .u64 (IntKind.u64.wrap (x4_1 - x3_1)) x6_2) = j_ := ⟨_, rfl⟩
                      replace H : (if (ji11) > 0 then (rickref06_Put.l1 k2 l0 x3_1 x4_1 (wrap64 (x6_2 + 1))) else (rickref06_Put.j2 k2 l0 x3_1 x6_2)) = some r := by first | (rw [hji11] at H; exact H) | (simp only [hji11] at H ⊢; exact H)
                      have hji11_ : ((IntKind.u64.wrap (x4_1 - x3_1)) / 2 ^ min x6_2.toNat 64) = ji11 := hji11
                      have hji11z : x6_2 ≤ 64 → ((IntKind.u64.wrap (x4_1 - x3_1)) / 2 ^ x6_2.toNat) = ji11 := shr_small hji11
                      by_cases c12 : (ji11) > 0
                      · rw [if_pos c12] at H
                        have c12b0 : decide (0 < (ji11)) = true := decide_eq_true c12
                        clear c12
                        have H' := Aside0.mk H
                        clear H
                        go_wp2
                        repeat (go_quiet (fail); try go_wp2)
                        go_roundg k2
                        case measure => have := HK1.out; have := HK2.out; omega
                        case rel => exact ⟨(wrap64 (x6_2 + 1)), (by first | rfl | (simp; done) | (simp [*]; done)), H', ⟨by have := HK1.out; have := HK2.out; omega⟩, ⟨by repeat (first | (with_reducible first | exact HB.out | apply below_alloc | apply pw_below_drewN | apply below_drew1) | exact HB.out)⟩⟩
                      · rw [if_neg c12] at H
                        have c12b0 : decide (0 < (ji11)) = false := decide_eq_false c12
                        clear c12
                        have H' := Aside0.mk H
                        clear H
                        go_wp2
                        repeat (go_quiet (fail); try go_wp2)
                        go_meet
                        case rel => exact ⟨_, (x6_2), (by first | rfl | (simp; done) | (simp [*]; done)), H', ⟨by have := HK1.out; have := HK2.out; first | omega | exact Nat.le_refl _⟩, ⟨by repeat (first | (with_reducible first | exact HB.out | apply below_alloc | apply pw_below_drewN | apply below_drew1) | exact HB.out)⟩⟩
                    · rw [if_neg c10] at H
                      exact absurd H (by simp)
                  · rw [if_neg c9] at H
                    have c9b0 : decide (x6_2 < 64) = false := decide_eq_false c9
                    clear c9
                    (first | rw [c9b0] | (simp only [i64_w, i32_w]; rw [c9b0]) | skip)
                    have H' := Aside0.mk H
                    clear H
                    go_wp2
                    repeat (go_quiet (fail); try go_wp2)
                    go_meet
                    case rel => exact ⟨_, (x6_2), (by first | rfl | (simp; done) | (simp [*]; done)), H', ⟨by have := HK1.out; have := HK2.out; first | omega | exact Nat.le_refl _⟩, ⟨by repeat (first | (with_reducible first | exact HB.out | apply below_alloc | apply pw_below_drewN | apply below_drew1) | exact HB.out)⟩⟩
            case rest =>
              clear HC8
              try clear c1
              try clear c2
              try clear c2b0
              try clear c2b1
              try clear c2b2
              try clear p2
              try clear c3
              try clear c3b0
              try clear c3b1
              try clear p3
              try clear q3
              try clear hx3
              try clear qi3
              try clear c4
              try clear c4b0
              try clear c5
              try clear c5b0
              try clear p6
              try clear c9
              try clear c9b0
              try clear c10
              try clear c10b0
              try clear c10b1
              try clear c12
              try clear c12b0
              try clear hx368_0
              try clear hx369_0
              try clear hx370_0
              try clear hx371_0
              try clear p2
              try clear p3
              try clear p368
              try clear p369
              try clear p370
              try clear p371
              try clear p6
              try clear q3
              try clear q368
              try clear q369
              try clear q370
              try clear q371
              obtain ⟨kq, x6_7, rfl, HA, HJ7, HB⟩ := hcut
              cases kq with
              | zero => exact absurd HA.out (by simp [rickref06_Put.j2])
              | succ kj7 =>
                have H := HA.out
                clear HA
                simp only [rickref06_Put.j2] at H
                have H' := Aside0.mk H
                clear H
                go_wp2
                repeat (go_quiet (fail); try go_wp2)
                go_loopg [7, 8] kj7 (fun kq v7 v8 w' => ∃ (x7_3 : List Int) (x8_3 : Int), v8 = .int .i64 x8_3 ∧ Aside0 (rickref06_Put.l2 kq l0 x3_1 x6_7 x7_3 x8_3 = some r) ∧ Aside0 (kq ≤ kj7) ∧ Aside0 (Kd.R (Kd.int .u8) 5 w' w.heap.size (fun _ => True) v7 x7_3) ∧ Aside0 (Below w.heap.size w w'))
                case atStart => exact ⟨(([] : List Int)), (0), (by first | rfl | (simp; done) | (simp [*]; done)), H', ⟨Nat.le_refl _⟩, ⟨by first | exact Kd.R_nil _ _ _ _ _ | exact Kd.N_nil _ _ _ _ _ | exact Kd.V_nil _ _ _ _ _ | exact Kd.Q_nil _ _ _ _ _ | exact Kd.S_nil _ _ _ _ _⟩, ⟨by repeat (first | (with_reducible first | exact HB.out | apply below_alloc | apply pw_below_drewN | apply below_drew1) | exact HB.out)⟩⟩
                case round =>
                  clear H'
                  try clear c1
                  try clear c2
                  try clear c2b0
                  try clear c2b1
                  try clear c2b2
                  try clear p2
                  try clear c3
                  try clear c3b0
                  try clear c3b1
                  try clear p3
                  try clear q3
                  try clear hx3
                  try clear qi3
                  try clear c4
                  try clear c4b0
                  try clear c5
                  try clear c5b0
                  try clear p6
                  try clear c9
                  try clear c9b0
                  try clear c10
                  try clear c10b0
                  try clear c10b1
                  try clear c12
                  try clear c12b0
                  try clear hx368_0
                  try clear hx369_0
                  try clear hx370_0
                  try clear hx371_0
                  try clear p2
                  try clear p3
                  try clear p368
                  try clear p369
                  try clear p370
                  try clear p371
                  try clear p6
                  try clear q3
                  try clear q368
                  try clear q369
                  try clear q370
                  try clear q371
                  obtain ⟨x7_3, x8_3, rfl, HA, HK3, HO_7, HB⟩ := hrel
                  cases gk with
                  | zero => exact absurd HA.out (by simp [rickref06_Put.l2])
                  | succ k3 =>
                    have H := HA.out
                    clear HA
                    simp only [rickref06_Put.l2] at H
                    by_cases c13 : x8_3 < (l0.length : Int)
                    · rw [if_pos c13] at H
                      have c13b0 : decide (x8_3 < (l0.length : Int)) = true := decide_eq_true c13
                      clear c13
                      by_cases c14 : 0 ≤ x8_3
                      · rw [if_pos c14] at H
                        have c14b0 : decide (0 ≤ x8_3) = true := decide_eq_true c14
                        clear c14
                        replace H := Option.bind_eq_some_iff.mp H
                        obtain ⟨t373, A150, H⟩ := H
                        replace H : (rickref06_Put.l2 k3 l0 x3_1 x6_7 t373 (wrap64 (x8_3 + 1))) = some r := H
                        have A15 := Aside0.mk A150
                        clear A150
                        have H' := Aside0.mk H
                        clear H
                        have p372 : 0 ≤ (x8_3 : Int) := of_decide_eq_true (by first | (with_reducible assumption) | assumption)
                        have q372 : x8_3 < (l0.length : Int) := of_decide_eq_true (by first | (with_reducible assumption) | assumption)
                        obtain ⟨ad372, e372, hx372_0⟩ := Kd.at_int HR0.out x8_3 p372 q372
                        obtain rfl : ad368 = ad372 := (by injection e372)
                        replace hx372_0 := (HB.out.cell (World.block_lt_of_cell? w _ hx372_0)).trans hx372_0
                        replace p372 := eq_true p372
                        replace q372 := eq_true q372
                        obtain ⟨Ao16, co16, eo16⟩ := Kd.R_slice HO_7.out
                        subst eo16
                        go_wp2_with (first | (go_at_call 31; (with_reducible refine (rickref04_Put.calls k3 (fun k_ => some k_ = (.slice Ao16 x7_3.length co16 : Value).ownBlock) (.slice Ao16 x7_3.length co16) x7_3 (IntKind.u64.wrap ((rd l0 x8_3) - x3_1)) x6_7 t373 w _ ?side1 ?side2 A15.out).mono ?_); (case side1 => repeat (first | (with_reducible first | exact HB.out | apply below_alloc | apply pw_below_drewN | apply below_drew1) | exact HB.out)); (case side2 => exact Kd.R_tight rfl HO_7.out); rintro e w17 ⟨v374, rfl, ho0, hb, hkp⟩; have n0_ := Aside0.mk (Kd.R_mono (ok' := fun k_ => True) ho0 (fun k_ hk_ => trivial)); have n1_ := Aside0.mk (hb); clear HB; clear HO_7; have HO375 := n0_; have HB := n1_; clear n0_ n1_; (try clear hb); (try clear hkp); (try clear ho0)))
                        repeat (go_quiet (first | (go_at_call 31; (with_reducible refine (rickref04_Put.calls k3 (fun k_ => some k_ = (.slice Ao16 x7_3.length co16 : Value).ownBlock) (.slice Ao16 x7_3.length co16) x7_3 (IntKind.u64.wrap ((rd l0 x8_3) - x3_1)) x6_7 t373 w _ ?side1 ?side2 A15.out).mono ?_); (case side1 => repeat (first | (with_reducible first | exact HB.out | apply below_alloc | apply pw_below_drewN | apply below_drew1) | exact HB.out)); (case side2 => exact Kd.R_tight rfl HO_7.out); rintro e w17 ⟨v374, rfl, ho0, hb, hkp⟩; have n0_ := Aside0.mk (Kd.R_mono (ok' := fun k_ => True) ho0 (fun k_ hk_ => trivial)); have n1_ := Aside0.mk (hb); clear HB; clear HO_7; have HO375 := n0_; have HB := n1_; clear n0_ n1_; (try clear hb); (try clear hkp); (try clear ho0))); try go_wp2_with (first | (go_at_call 31; (with_reducible refine (rickref04_Put.calls k3 (fun k_ => some k_ = (.slice Ao16 x7_3.length co16 : Value).ownBlock) (.slice Ao16 x7_3.length co16) x7_3 (IntKind.u64.wrap ((rd l0 x8_3) - x3_1)) x6_7 t373 w _ ?side1 ?side2 A15.out).mono ?_); (case side1 => repeat (first | (with_reducible first | exact HB.out | apply below_alloc | apply pw_below_drewN | apply below_drew1) | exact HB.out)); (case side2 => exact Kd.R_tight rfl HO_7.out); rintro e w17 ⟨v374, rfl, ho0, hb, hkp⟩; have n0_ := Aside0.mk (Kd.R_mono (ok' := fun k_ => True) ho0 (fun k_ hk_ => trivial)); have n1_ := Aside0.mk (hb); clear HB; clear HO_7; have HO375 := n0_; have HB := n1_; clear n0_ n1_; (try clear hb); (try clear hkp); (try clear ho0))))
                        go_roundg k3
                        case measure => have := HK1.out; have := HJ7.out; have := HK3.out; omega
                        case rel => exact ⟨(t373), (wrap64 (x8_3 + 1)), (by first | rfl | (simp; done) | (simp [*]; done)), H', ⟨by have := HK1.out; have := HJ7.out; have := HK3.out; omega⟩, ⟨by (with_reducible repeat (first | apply Kd.R_alloc | apply Kd.R_drewN | apply Kd.R_drew)); exact HO375.out⟩, ⟨by repeat (first | (with_reducible first | exact HB.out | apply below_alloc | apply pw_below_drewN | apply below_drew1) | exact HB.out)⟩⟩
                      · rw [if_neg c14] at H
                        exact absurd H (by simp)
                    · rw [if_neg c13] at H
                      have c13b0 : decide (x8_3 < (l0.length : Int)) = false := decide_eq_false c13
                      clear c13
                      replace H := Option.bind_eq_some_iff.mp H
                      obtain ⟨t376, A180, H⟩ := H
                      replace H : (if t376.length < 140737488355328 then ((some (t376 ++ [(x6_7) % 256] : List Int)).bind fun y379 => ((rickref04_Bytes.f k3 x7_3).bind fun t382 => (if y379.length + t382.length < 140737488355328 then (some (y379 ++ t382)) else (none)))) else (none)) = some r := H
                      have A18 := Aside0.mk A180
                      clear A180
                      by_cases c19 : t376.length < 140737488355328
                      · rw [if_pos c19] at H
                        have LMc19 := Aside0.mk c19
                        clear c19
                        obtain ⟨y379, hy379⟩ : ∃ y_ : List Int, y_ = (t376 ++ [(x6_7) % 256]) := ⟨_, rfl⟩
                        replace H : ((rickref04_Bytes.f k3 x7_3).bind fun t382 => (if y379.length + t382.length < 140737488355328 then (some (y379 ++ t382)) else (none))) = some r := by first | (rw [hy379]; with_reducible exact H) | (have H2_ := (Option.bind_some _ _).symm.trans H; rw [hy379]; with_reducible exact H2_) | (have H2_ := (Option.bind_some _ _).symm.trans H; with_reducible exact H2_) | with_reducible exact H | (rw [hy379]; exact H) | exact H
                        have Ny379 := Aside0.mk hy379
                        clear hy379
                        replace H := Option.bind_eq_some_iff.mp H
                        obtain ⟨t382, A200, H⟩ := H
                        replace H : (if y379.length + t382.length < 140737488355328 then (some (y379 ++ t382)) else (none)) = some r := H
                        have A20 := Aside0.mk A200
                        clear A200
                        by_cases c21 : y379.length + t382.length < 140737488355328
                        · rw [if_pos c21] at H
                          have LMc21 := Aside0.mk c21
                          clear c21
                          obtain ⟨y385, hy385⟩ : ∃ y_ : List Int, y_ = (y379 ++ t382) := ⟨_, rfl⟩
                          replace H : (some y385) = some r := by first | (rw [hy385]; with_reducible exact H) | (have H2_ := (Option.bind_some _ _).symm.trans H; rw [hy385]; with_reducible exact H2_) | (have H2_ := (Option.bind_some _ _).symm.trans H; with_reducible exact H2_) | with_reducible exact H | (rw [hy385]; exact H) | exact H
                          have Ny385 := Aside0.mk hy385
                          clear hy385
                          obtain rfl := Option.some.inj H
                          go_wp2_with (first | (go_at_call 59; (with_reducible refine (rickref06_Raw.calls k3 x3_1 t376 _ A18.out).mono ?_); rintro e w22 ⟨v377, rfl, ho0, hb⟩; have n0_ := Aside0.mk (Kd.R_elder' (by (with_reducible repeat (first | apply Kd.R_alloc | apply Kd.R_drewN | apply Kd.R_drew)); exact HO_7.out) (Kd.R_base ho0) hb); have n1_ := Aside0.mk (Kd.R_lower (Kd.R_new' ho0 (Kd.R_lt (by (with_reducible repeat (first | apply Kd.R_alloc | apply Kd.R_drewN | apply Kd.R_drew)); exact HO_7.out))) (below_size (by repeat (first | (with_reducible first | exact HB.out | apply below_alloc | apply pw_below_drewN | apply below_drew1) | exact HB.out)))); have n2_ := Aside0.mk (below_step (by repeat (first | (with_reducible first | exact HB.out | apply below_alloc | apply pw_below_drewN | apply below_drew1) | exact HB.out)) hb); clear HO_7; clear HB; have HO_7 := n0_; have HO378 := n1_; have HB := n2_; clear n0_ n1_ n2_; (try clear hb); (try clear hb2); (try clear hk); (try clear hi); (try clear ho0)) | ((with_reducible refine gate_builtin (b := .append) (xs := #[.tmp 64, .tmp 67]) rfl ?_); at_builtin; refine Kd.R_append (Kd.int .u8) (w0 := w) w.heap.size rfl (.tmp 64) (.tmp 67) 22 5 (.int .u8 0) 1 rfl Try.underlying22 info5 rfl (by decide) (by omega) v377 t376 ((x6_7) % 256) [.int .u8 ((x6_7) % 256)] (fun k_ => some k_ ≠ (u7 : Value).ownBlock) (fun _ => False) rfl rfl ?aP (fun _ hk => hk.elim) ?aF ?aO ?aB ?aS ?aL ?_; (case aP => exact rfl); (case aB => exact (by repeat (first | (with_reducible first | exact HB.out | apply below_alloc | apply pw_below_drewN | apply below_drew1) | exact HB.out))); (case aF => exact (fun k_ hk => Kd.fresh' (Kd.R_lt (by (with_reducible repeat (first | apply Kd.R_alloc | apply Kd.R_drewN | apply Kd.R_drew)); exact HO_7.out)) k_ hk)); (case aO => exact (by (with_reducible repeat (first | apply Kd.R_alloc | apply Kd.R_drewN | apply Kd.R_drew)); exact Kd.R_mono HO378.out (fun _ hk => hk.2))); (case aS => exact (below_size (by repeat (first | (with_reducible first | exact HB.out | apply below_alloc | apply pw_below_drewN | apply below_drew1) | exact HB.out)))); (case aL => have := LMc19.out; omega); intro v380 w23 ho hb hg hat; rw [← Ny379.out] at ho; have n0_ := Aside0.mk (Kd.R_after (ok := (fun _ => True)) (by (with_reducible repeat (first | apply Kd.R_alloc | apply Kd.R_drewN | apply Kd.R_drew)); exact HO_7.out) hg hat); have n1_ := Aside0.mk (hb); have n2_ := Aside0.mk (ho); clear HO_7; clear HB; clear HO378; have HO_7 := n0_; have HB := n1_; have HO381 := n2_; clear n0_ n1_ n2_; clear ho hb hg hat; obtain ⟨Ao24, co24, eo24⟩ := Kd.R_slice HO_7.out; subst eo24) | (go_at_call 32; (with_reducible refine (rickref04_Bytes.calls k3 _ _ x7_3 t382 _ ?side1 ?side2 A20.out).mono ?_); (case side1 => repeat (first | exact (Kd.R_reads' HO_7.out).2.2 | (with_reducible refine Kd.C_alloc ?_ _) | (with_reducible refine Kd.C_drewN ?_ _) | (with_reducible refine Kd.C_drew ?_))); (case side2 => exact (Kd.R_reads' HO_7.out).2.1); rintro e w25 ⟨v383, rfl, ho0, hb⟩; have n0_ := Aside0.mk (Kd.R_elder' (by (with_reducible repeat (first | apply Kd.R_alloc | apply Kd.R_drewN | apply Kd.R_drew)); exact HO_7.out) (Kd.R_base ho0) hb); have n1_ := Aside0.mk (Kd.R_elder' (by (with_reducible repeat (first | apply Kd.R_alloc | apply Kd.R_drewN | apply Kd.R_drew)); exact HO381.out) (Kd.R_base ho0) hb); have n2_ := Aside0.mk (Kd.R_lower (Kd.R_new' (Kd.R_new' ho0 (Kd.R_lt (by (with_reducible repeat (first | apply Kd.R_alloc | apply Kd.R_drewN | apply Kd.R_drew)); exact HO_7.out))) (Kd.R_lt (by (with_reducible repeat (first | apply Kd.R_alloc | apply Kd.R_drewN | apply Kd.R_drew)); exact HO381.out))) (below_size (by repeat (first | (with_reducible first | exact HB.out | apply below_alloc | apply pw_below_drewN | apply below_drew1) | exact HB.out)))); have n3_ := Aside0.mk (below_step (by repeat (first | (with_reducible first | exact HB.out | apply below_alloc | apply pw_below_drewN | apply below_drew1) | exact HB.out)) hb); clear HO_7; clear HO381; clear HB; have HO_7 := n0_; have HO381 := n1_; have HO384 := n2_; have HB := n3_; clear n0_ n1_ n2_ n3_; (try clear hb); (try clear hb2); (try clear hk); (try clear hi); (try clear ho0); obtain ⟨Ao27, co27, eo27⟩ := Kd.R_slice HO384.out; subst eo27) | ((with_reducible refine gate_builtin (b := .append) (xs := #[.tmp 68, .tmp 70]) rfl ?_); at_builtin; refine Kd.R_append_rows (Kd.int .u8) (w0 := w) w.heap.size rfl (.tmp 68) (.tmp 70) 22 5 (.int .u8 0) 1 rfl Try.underlying22 info5 rfl (by decide) (by omega) v380 y379 t382 _ _ _ (fun k_ => some k_ ≠ (.slice Ao24 x7_3.length co24 : Value).ownBlock ∧ some k_ ≠ (.slice Ao27 t382.length co27 : Value).ownBlock) (fun _ => False) rfl rfl ?aO ?aR (fun _ _ h => h) (fun _ h => h.elim) ?aF ?aB ?aS ?aL ?_; (case aR => repeat (first | exact (Kd.R_reads' HO384.out).2.2 | (with_reducible refine Kd.C_alloc ?_ _) | (with_reducible refine Kd.C_drewN ?_ _) | (with_reducible refine Kd.C_drew ?_))); (case aB => exact (by repeat (first | (with_reducible first | exact HB.out | apply below_alloc | apply pw_below_drewN | apply below_drew1) | exact HB.out))); (case aF => exact (fun k_ hk => ⟨Kd.fresh' (Kd.R_lt (by (with_reducible repeat (first | apply Kd.R_alloc | apply Kd.R_drewN | apply Kd.R_drew)); exact HO_7.out)) k_ hk, Kd.fresh' (Kd.R_lt (by (with_reducible repeat (first | apply Kd.R_alloc | apply Kd.R_drewN | apply Kd.R_drew)); exact HO384.out)) k_ hk⟩)); (case aO => exact (by (with_reducible repeat (first | apply Kd.R_alloc | apply Kd.R_drewN | apply Kd.R_drew)); exact HO381.out)); (case aS => exact (below_size (by repeat (first | (with_reducible first | exact HB.out | apply below_alloc | apply pw_below_drewN | apply below_drew1) | exact HB.out)))); (case aL => have := LMc21.out; omega); intro v386 w26 ho hb hg hat; rw [← Ny385.out] at ho; have n0_ := Aside0.mk (Kd.R_after (ok := (fun k_ => some k_ ≠ (.slice Ao27 t382.length co27 : Value).ownBlock)) (by (with_reducible repeat (first | apply Kd.R_alloc | apply Kd.R_drewN | apply Kd.R_drew)); exact Kd.R_mono HO_7.out (fun _ hk => ⟨hk.2, hk.1.2⟩)) hg hat); have n1_ := Aside0.mk (Kd.R_after (ok := (fun k_ => some k_ ≠ (.slice Ao24 x7_3.length co24 : Value).ownBlock)) (by (with_reducible repeat (first | apply Kd.R_alloc | apply Kd.R_drewN | apply Kd.R_drew)); exact Kd.R_mono HO384.out (fun _ hk => ⟨hk.1.2, hk.2⟩)) hg hat); have n2_ := Aside0.mk (hb); have n3_ := Aside0.mk (ho); clear HO_7; clear HO384; clear HB; clear HO381; have HO_7 := n0_; have HO384 := n1_; have HB := n2_; have HO387 := n3_; clear n0_ n1_ n2_ n3_; clear ho hb hg hat))
                          repeat (go_quiet (first | (go_at_call 59; (with_reducible refine (rickref06_Raw.calls k3 x3_1 t376 _ A18.out).mono ?_); rintro e w22 ⟨v377, rfl, ho0, hb⟩; have n0_ := Aside0.mk (Kd.R_elder' (by (with_reducible repeat (first | apply Kd.R_alloc | apply Kd.R_drewN | apply Kd.R_drew)); exact HO_7.out) (Kd.R_base ho0) hb); have n1_ := Aside0.mk (Kd.R_lower (Kd.R_new' ho0 (Kd.R_lt (by (with_reducible repeat (first | apply Kd.R_alloc | apply Kd.R_drewN | apply Kd.R_drew)); exact HO_7.out))) (below_size (by repeat (first | (with_reducible first | exact HB.out | apply below_alloc | apply pw_below_drewN | apply below_drew1) | exact HB.out)))); have n2_ := Aside0.mk (below_step (by repeat (first | (with_reducible first | exact HB.out | apply below_alloc | apply pw_below_drewN | apply below_drew1) | exact HB.out)) hb); clear HO_7; clear HB; have HO_7 := n0_; have HO378 := n1_; have HB := n2_; clear n0_ n1_ n2_; (try clear hb); (try clear hb2); (try clear hk); (try clear hi); (try clear ho0)) | ((with_reducible refine gate_builtin (b := .append) (xs := #[.tmp 64, .tmp 67]) rfl ?_); at_builtin; refine Kd.R_append (Kd.int .u8) (w0 := w) w.heap.size rfl (.tmp 64) (.tmp 67) 22 5 (.int .u8 0) 1 rfl Try.underlying22 info5 rfl (by decide) (by omega) v377 t376 ((x6_7) % 256) [.int .u8 ((x6_7) % 256)] (fun k_ => some k_ ≠ (u7 : Value).ownBlock) (fun _ => False) rfl rfl ?aP (fun _ hk => hk.elim) ?aF ?aO ?aB ?aS ?aL ?_; (case aP => exact rfl); (case aB => exact (by repeat (first | (with_reducible first | exact HB.out | apply below_alloc | apply pw_below_drewN | apply below_drew1) | exact HB.out))); (case aF => exact (fun k_ hk => Kd.fresh' (Kd.R_lt (by (with_reducible repeat (first | apply Kd.R_alloc | apply Kd.R_drewN | apply Kd.R_drew)); exact HO_7.out)) k_ hk)); (case aO => exact (by (with_reducible repeat (first | apply Kd.R_alloc | apply Kd.R_drewN | apply Kd.R_drew)); exact Kd.R_mono HO378.out (fun _ hk => hk.2))); (case aS => exact (below_size (by repeat (first | (with_reducible first | exact HB.out | apply below_alloc | apply pw_below_drewN | apply below_drew1) | exact HB.out)))); (case aL => have := LMc19.out; omega); intro v380 w23 ho hb hg hat; rw [← Ny379.out] at ho; have n0_ := Aside0.mk (Kd.R_after (ok := (fun _ => True)) (by (with_reducible repeat (first | apply Kd.R_alloc | apply Kd.R_drewN | apply Kd.R_drew)); exact HO_7.out) hg hat); have n1_ := Aside0.mk (hb); have n2_ := Aside0.mk (ho); clear HO_7; clear HB; clear HO378; have HO_7 := n0_; have HB := n1_; have HO381 := n2_; clear n0_ n1_ n2_; clear ho hb hg hat; obtain ⟨Ao24, co24, eo24⟩ := Kd.R_slice HO_7.out; subst eo24) | (go_at_call 32; (with_reducible refine (rickref04_Bytes.calls k3 _ _ x7_3 t382 _ ?side1 ?side2 A20.out).mono ?_); (case side1 => repeat (first | exact (Kd.R_reads' HO_7.out).2.2 | (with_reducible refine Kd.C_alloc ?_ _) | (with_reducible refine Kd.C_drewN ?_ _) | (with_reducible refine Kd.C_drew ?_))); (case side2 => exact (Kd.R_reads' HO_7.out).2.1); rintro e w25 ⟨v383, rfl, ho0, hb⟩; have n0_ := Aside0.mk (Kd.R_elder' (by (with_reducible repeat (first | apply Kd.R_alloc | apply Kd.R_drewN | apply Kd.R_drew)); exact HO_7.out) (Kd.R_base ho0) hb); have n1_ := Aside0.mk (Kd.R_elder' (by (with_reducible repeat (first | apply Kd.R_alloc | apply Kd.R_drewN | apply Kd.R_drew)); exact HO381.out) (Kd.R_base ho0) hb); have n2_ := Aside0.mk (Kd.R_lower (Kd.R_new' (Kd.R_new' ho0 (Kd.R_lt (by (with_reducible repeat (first | apply Kd.R_alloc | apply Kd.R_drewN | apply Kd.R_drew)); exact HO_7.out))) (Kd.R_lt (by (with_reducible repeat (first | apply Kd.R_alloc | apply Kd.R_drewN | apply Kd.R_drew)); exact HO381.out))) (below_size (by repeat (first | (with_reducible first | exact HB.out | apply below_alloc | apply pw_below_drewN | apply below_drew1) | exact HB.out)))); have n3_ := Aside0.mk (below_step (by repeat (first | (with_reducible first | exact HB.out | apply below_alloc | apply pw_below_drewN | apply below_drew1) | exact HB.out)) hb); clear HO_7; clear HO381; clear HB; have HO_7 := n0_; have HO381 := n1_; have HO384 := n2_; have HB := n3_; clear n0_ n1_ n2_ n3_; (try clear hb); (try clear hb2); (try clear hk); (try clear hi); (try clear ho0); obtain ⟨Ao27, co27, eo27⟩ := Kd.R_slice HO384.out; subst eo27) | ((with_reducible refine gate_builtin (b := .append) (xs := #[.tmp 68, .tmp 70]) rfl ?_); at_builtin; refine Kd.R_append_rows (Kd.int .u8) (w0 := w) w.heap.size rfl (.tmp 68) (.tmp 70) 22 5 (.int .u8 0) 1 rfl Try.underlying22 info5 rfl (by decide) (by omega) v380 y379 t382 _ _ _ (fun k_ => some k_ ≠ (.slice Ao24 x7_3.length co24 : Value).ownBlock ∧ some k_ ≠ (.slice Ao27 t382.length co27 : Value).ownBlock) (fun _ => False) rfl rfl ?aO ?aR (fun _ _ h => h) (fun _ h => h.elim) ?aF ?aB ?aS ?aL ?_; (case aR => repeat (first | exact (Kd.R_reads' HO384.out).2.2 | (with_reducible refine Kd.C_alloc ?_ _) | (with_reducible refine Kd.C_drewN ?_ _) | (with_reducible refine Kd.C_drew ?_))); (case aB => exact (by repeat (first | (with_reducible first | exact HB.out | apply below_alloc | apply pw_below_drewN | apply below_drew1) | exact HB.out))); (case aF => exact (fun k_ hk => ⟨Kd.fresh' (Kd.R_lt (by (with_reducible repeat (first | apply Kd.R_alloc | apply Kd.R_drewN | apply Kd.R_drew)); exact HO_7.out)) k_ hk, Kd.fresh' (Kd.R_lt (by (with_reducible repeat (first | apply Kd.R_alloc | apply Kd.R_drewN | apply Kd.R_drew)); exact HO384.out)) k_ hk⟩)); (case aO => exact (by (with_reducible repeat (first | apply Kd.R_alloc | apply Kd.R_drewN | apply Kd.R_drew)); exact HO381.out)); (case aS => exact (below_size (by repeat (first | (with_reducible first | exact HB.out | apply below_alloc | apply pw_below_drewN | apply below_drew1) | exact HB.out)))); (case aL => have := LMc21.out; omega); intro v386 w26 ho hb hg hat; rw [← Ny385.out] at ho; have n0_ := Aside0.mk (Kd.R_after (ok := (fun k_ => some k_ ≠ (.slice Ao27 t382.length co27 : Value).ownBlock)) (by (with_reducible repeat (first | apply Kd.R_alloc | apply Kd.R_drewN | apply Kd.R_drew)); exact Kd.R_mono HO_7.out (fun _ hk => ⟨hk.2, hk.1.2⟩)) hg hat); have n1_ := Aside0.mk (Kd.R_after (ok := (fun k_ => some k_ ≠ (.slice Ao24 x7_3.length co24 : Value).ownBlock)) (by (with_reducible repeat (first | apply Kd.R_alloc | apply Kd.R_drewN | apply Kd.R_drew)); exact Kd.R_mono HO384.out (fun _ hk => ⟨hk.1.2, hk.2⟩)) hg hat); have n2_ := Aside0.mk (hb); have n3_ := Aside0.mk (ho); clear HO_7; clear HO384; clear HB; clear HO381; have HO_7 := n0_; have HO384 := n1_; have HB := n2_; have HO387 := n3_; clear n0_ n1_ n2_ n3_; clear ho hb hg hat)); try go_wp2_with (first | (go_at_call 59; (with_reducible refine (rickref06_Raw.calls k3 x3_1 t376 _ A18.out).mono ?_); rintro e w22 ⟨v377, rfl, ho0, hb⟩; have n0_ := Aside0.mk (Kd.R_elder' (by (with_reducible repeat (first | apply Kd.R_alloc | apply Kd.R_drewN | apply Kd.R_drew)); exact HO_7.out) (Kd.R_base ho0) hb); have n1_ := Aside0.mk (Kd.R_lower (Kd.R_new' ho0 (Kd.R_lt (by (with_reducible repeat (first | apply Kd.R_alloc | apply Kd.R_drewN | apply Kd.R_drew)); exact HO_7.out))) (below_size (by repeat (first | (with_reducible first | exact HB.out | apply below_alloc | apply pw_below_drewN | apply below_drew1) | exact HB.out)))); have n2_ := Aside0.mk (below_step (by repeat (first | (with_reducible first | exact HB.out | apply below_alloc | apply pw_below_drewN | apply below_drew1) | exact HB.out)) hb); clear HO_7; clear HB; have HO_7 := n0_; have HO378 := n1_; have HB := n2_; clear n0_ n1_ n2_; (try clear hb); (try clear hb2); (try clear hk); (try clear hi); (try clear ho0)) | ((with_reducible refine gate_builtin (b := .append) (xs := #[.tmp 64, .tmp 67]) rfl ?_); at_builtin; refine Kd.R_append (Kd.int .u8) (w0 := w) w.heap.size rfl (.tmp 64) (.tmp 67) 22 5 (.int .u8 0) 1 rfl Try.underlying22 info5 rfl (by decide) (by omega) v377 t376 ((x6_7) % 256) [.int .u8 ((x6_7) % 256)] (fun k_ => some k_ ≠ (u7 : Value).ownBlock) (fun _ => False) rfl rfl ?aP (fun _ hk => hk.elim) ?aF ?aO ?aB ?aS ?aL ?_; (case aP => exact rfl); (case aB => exact (by repeat (first | (with_reducible first | exact HB.out | apply below_alloc | apply pw_below_drewN | apply below_drew1) | exact HB.out))); (case aF => exact (fun k_ hk => Kd.fresh' (Kd.R_lt (by (with_reducible repeat (first | apply Kd.R_alloc | apply Kd.R_drewN | apply Kd.R_drew)); exact HO_7.out)) k_ hk)); (case aO => exact (by (with_reducible repeat (first | apply Kd.R_alloc | apply Kd.R_drewN | apply Kd.R_drew)); exact Kd.R_mono HO378.out (fun _ hk => hk.2))); (case aS => exact (below_size (by repeat (first | (with_reducible first | exact HB.out | apply below_alloc | apply pw_below_drewN | apply below_drew1) | exact HB.out)))); (case aL => have := LMc19.out; omega); intro v380 w23 ho hb hg hat; rw [← Ny379.out] at ho; have n0_ := Aside0.mk (Kd.R_after (ok := (fun _ => True)) (by (with_reducible repeat (first | apply Kd.R_alloc | apply Kd.R_drewN | apply Kd.R_drew)); exact HO_7.out) hg hat); have n1_ := Aside0.mk (hb); have n2_ := Aside0.mk (ho); clear HO_7; clear HB; clear HO378; have HO_7 := n0_; have HB := n1_; have HO381 := n2_; clear n0_ n1_ n2_; clear ho hb hg hat; obtain ⟨Ao24, co24, eo24⟩ := Kd.R_slice HO_7.out; subst eo24) | (go_at_call 32; (with_reducible refine (rickref04_Bytes.calls k3 _ _ x7_3 t382 _ ?side1 ?side2 A20.out).mono ?_); (case side1 => repeat (first | exact (Kd.R_reads' HO_7.out).2.2 | (with_reducible refine Kd.C_alloc ?_ _) | (with_reducible refine Kd.C_drewN ?_ _) | (with_reducible refine Kd.C_drew ?_))); (case side2 => exact (Kd.R_reads' HO_7.out).2.1); rintro e w25 ⟨v383, rfl, ho0, hb⟩; have n0_ := Aside0.mk (Kd.R_elder' (by (with_reducible repeat (first | apply Kd.R_alloc | apply Kd.R_drewN | apply Kd.R_drew)); exact HO_7.out) (Kd.R_base ho0) hb); have n1_ := Aside0.mk (Kd.R_elder' (by (with_reducible repeat (first | apply Kd.R_alloc | apply Kd.R_drewN | apply Kd.R_drew)); exact HO381.out) (Kd.R_base ho0) hb); have n2_ := Aside0.mk (Kd.R_lower (Kd.R_new' (Kd.R_new' ho0 (Kd.R_lt (by (with_reducible repeat (first | apply Kd.R_alloc | apply Kd.R_drewN | apply Kd.R_drew)); exact HO_7.out))) (Kd.R_lt (by (with_reducible repeat (first | apply Kd.R_alloc | apply Kd.R_drewN | apply Kd.R_drew)); exact HO381.out))) (below_size (by repeat (first | (with_reducible first | exact HB.out | apply below_alloc | apply pw_below_drewN | apply below_drew1) | exact HB.out)))); have n3_ := Aside0.mk (below_step (by repeat (first | (with_reducible first | exact HB.out | apply below_alloc | apply pw_below_drewN | apply below_drew1) | exact HB.out)) hb); clear HO_7; clear HO381; clear HB; have HO_7 := n0_; have HO381 := n1_; have HO384 := n2_; have HB := n3_; clear n0_ n1_ n2_ n3_; (try clear hb); (try clear hb2); (try clear hk); (try clear hi); (try clear ho0); obtain ⟨Ao27, co27, eo27⟩ := Kd.R_slice HO384.out; subst eo27) | ((with_reducible refine gate_builtin (b := .append) (xs := #[.tmp 68, .tmp 70]) rfl ?_); at_builtin; refine Kd.R_append_rows (Kd.int .u8) (w0 := w) w.heap.size rfl (.tmp 68) (.tmp 70) 22 5 (.int .u8 0) 1 rfl Try.underlying22 info5 rfl (by decide) (by omega) v380 y379 t382 _ _ _ (fun k_ => some k_ ≠ (.slice Ao24 x7_3.length co24 : Value).ownBlock ∧ some k_ ≠ (.slice Ao27 t382.length co27 : Value).ownBlock) (fun _ => False) rfl rfl ?aO ?aR (fun _ _ h => h) (fun _ h => h.elim) ?aF ?aB ?aS ?aL ?_; (case aR => repeat (first | exact (Kd.R_reads' HO384.out).2.2 | (with_reducible refine Kd.C_alloc ?_ _) | (with_reducible refine Kd.C_drewN ?_ _) | (with_reducible refine Kd.C_drew ?_))); (case aB => exact (by repeat (first | (with_reducible first | exact HB.out | apply below_alloc | apply pw_below_drewN | apply below_drew1) | exact HB.out))); (case aF => exact (fun k_ hk => ⟨Kd.fresh' (Kd.R_lt (by (with_reducible repeat (first | apply Kd.R_alloc | apply Kd.R_drewN | apply Kd.R_drew)); exact HO_7.out)) k_ hk, Kd.fresh' (Kd.R_lt (by (with_reducible repeat (first | apply Kd.R_alloc | apply Kd.R_drewN | apply Kd.R_drew)); exact HO384.out)) k_ hk⟩)); (case aO => exact (by (with_reducible repeat (first | apply Kd.R_alloc | apply Kd.R_drewN | apply Kd.R_drew)); exact HO381.out)); (case aS => exact (below_size (by repeat (first | (with_reducible first | exact HB.out | apply below_alloc | apply pw_below_drewN | apply below_drew1) | exact HB.out)))); (case aL => have := LMc21.out; omega); intro v386 w26 ho hb hg hat; rw [← Ny385.out] at ho; have n0_ := Aside0.mk (Kd.R_after (ok := (fun k_ => some k_ ≠ (.slice Ao27 t382.length co27 : Value).ownBlock)) (by (with_reducible repeat (first | apply Kd.R_alloc | apply Kd.R_drewN | apply Kd.R_drew)); exact Kd.R_mono HO_7.out (fun _ hk => ⟨hk.2, hk.1.2⟩)) hg hat); have n1_ := Aside0.mk (Kd.R_after (ok := (fun k_ => some k_ ≠ (.slice Ao24 x7_3.length co24 : Value).ownBlock)) (by (with_reducible repeat (first | apply Kd.R_alloc | apply Kd.R_drewN | apply Kd.R_drew)); exact Kd.R_mono HO384.out (fun _ hk => ⟨hk.1.2, hk.2⟩)) hg hat); have n2_ := Aside0.mk (hb); have n3_ := Aside0.mk (ho); clear HO_7; clear HO384; clear HB; clear HO381; have HO_7 := n0_; have HO384 := n1_; have HB := n2_; have HO387 := n3_; clear n0_ n1_ n2_ n3_; clear ho hb hg hat)))
                          go_ret
                          exact ⟨_, by first | rfl | (simp [errW_none, errW_some] <;> rfl) | (simp [*, errW_none, errW_some] <;> rfl), by (with_reducible repeat (first | apply Kd.R_alloc | apply Kd.R_drewN | apply Kd.R_drew)); exact Kd.R_mono HO387.out (fun _ hk => trivial), by repeat (first | (with_reducible first | exact HB.out | apply below_alloc | apply pw_below_drewN | apply below_drew1) | exact HB.out)⟩
                        · rw [if_neg c21] at H
                          exact absurd H (by simp)
                      · rw [if_neg c19] at H
                        exact absurd H (by simp)
    · rw [if_neg c3] at H
      exact absurd H (by simp)

end Go.Proofs.Ytmlbppfcpejlpaa.X

/- What the reference of layer 6 (pack) tells, and that packed numbers are told back. No conditions. -/
namespace Go.Proofs.Ytmlbppfcpejlpaa.Q06
open Go Go.RowKit Go.Proofs.YtmlbppfcpejlpaaW.PrintWords Go.Proofs.YtmlbppfcpejlpaaW.PrintMore Go.Proofs.Ytmlbppfcpejlpaa.S Go.Proofs.Ytmlbppfcpejlpaa.B Go.Proofs.Ytmlbppfcpejlpaa.X Go.Proofs.Ytmlbppfcpejlpaa.Q04
set_option linter.unusedVariables false
set_option linter.unusedSimpArgs false

theorem us_ok {l : List Int} (h : Us l) : pack_Put.ok l = true := List.all_eq_true.2 (fun x hx => by simpa using h x hx)
theorem lo_hi {l : List Int} (hu : Us l) (h0 : 0 < l.length) : 0 ≤ minL l ∧ minL l < 18446744073709551616 ∧ minL l ≤ maxL l ∧ maxL l < 18446744073709551616 ∧ 0 ≤ maxL l - minL l ∧ maxL l - minL l < 18446744073709551616 := by
  have h1 := hu _ (min_facts h0).1
  have h2 := hu _ (max_facts h0).1
  have h3 := (max_facts h0).2 _ (min_facts h0).1
  omega
theorem width_le {l : List Int} (hu : Us l) (h0 : 0 < l.length) : pack_Put.width l ≤ 64 := by
  have := lo_hi hu h0
  exact wd_le (by omega) (by omega)
theorem body_eq (l : List Int) : pack_Put.body l = (l.map (fun n => bitsN (pack_Put.width l) (n - minL l))).flatten := rfl
theorem flat_bits (w : Nat) (lo : Int) (l : List Int) : Bits ((l.map (fun n => bitsN w (n - lo))).flatten) := by
  intro x hx
  obtain ⟨y, hy, hx⟩ := List.mem_flatten.1 hx
  obtain ⟨n, _, rfl⟩ := List.mem_map.1 hy
  exact bitsN_bits _ _ x hx
theorem flat_len (w : Nat) (lo : Int) (l : List Int) : ((l.map (fun n => bitsN w (n - lo))).flatten).length = l.length * w := by
  induction l with
  | nil => simp
  | cons a l ih => rw [List.map_cons, List.flatten_cons, List.length_append, ih, bitsN_len, List.length_cons, Nat.succ_mul]; omega
theorem bits_bits (l : List Int) : Bits (pack_Put.bits l) := ((bitsN_bits _ _).append (bitsN_bits _ _)).append (flat_bits _ _ _)
theorem bits_len (l : List Int) : (pack_Put.bits l).length = 72 + l.length * pack_Put.width l := by
  unfold pack_Put.bits
  rw [List.length_append, List.length_append, bitsN_len, bitsN_len, body_eq, flat_len]

/-! ### a number in eight bytes -/
def raw8 (n : Int) : List Int := (List.range 8).map (fun i => n / 2 ^ (8 * (7 - i)) % 256)
theorem raw_l0 {n : Int} (h0 : 0 ≤ n) (h1 : n < 18446744073709551616) (d : Nat) : ∀ (i k : Nat), i + d = 8 → d < k → rickref06_Raw.l0 k n ((raw8 n).take i) ((d : Int) - 1) = some (raw8 n) := by
  induction d with
  | zero =>
    intro i k hd hk
    obtain ⟨k, rfl⟩ : ∃ q, k = q + 1 := ⟨k - 1, by omega⟩
    simp only [rickref06_Raw.l0]
    rw [if_neg (by omega), List.take_of_length_le (by simp [raw8]; omega)]
  | succ d ih =>
    intro i k hd hk
    obtain ⟨k, rfl⟩ : ∃ q, k = q + 1 := ⟨k - 1, by omega⟩
    have hlt : i < (raw8 n).length := by simp [raw8]; omega
    simp only [rickref06_Raw.l0]
    rw [show ((d + 1 : Nat) : Int) - 1 = (d : Int) by omega, if_pos (by omega), show wrap64 (8 * (d : Int)) = ((8 * d : Nat) : Int) by rw [wrap64_id] <;> omega, if_pos (by omega), if_pos (by rw [List.length_take]; omega), shr_nat .u64 n (by simp [IntKind.bits]; omega), wrap64_id (by omega) (by omega)]
    have := ih (i + 1) k (by omega) (by omega)
    rw [List.take_succ_eq_append_getElem hlt] at this
    have e : (raw8 n)[i] = n / 2 ^ (8 * d) % 256 := by
      simp only [raw8, List.getElem_map, List.getElem_range]
      congr 3; omega
    rw [e] at this
    exact this
theorem raw_spec {k : Nat} {n : Int} (h0 : 0 ≤ n) (h1 : n < 18446744073709551616) (hk : 8 < k) : rickref06_Raw.f k n = some (raw8 n) := by
  unfold rickref06_Raw.f
  have := raw_l0 h0 h1 8 0 k (by omega) hk
  simpa using this
theorem raw8_len (n : Int) : (raw8 n).length = 8 := by simp [raw8]
theorem packB_64 (v : Int) : packB (bitsN 64 v) = raw8 v := packB_bitsN 8 v
theorem bits_packB {l : List Int} (hu : Us l) (h0 : 0 < l.length) : packB (pack_Put.bits l) = raw8 (minL l) ++ [(pack_Put.width l : Int)] ++ packB (pack_Put.body l) := by
  have := width_le hu h0
  unfold pack_Put.bits
  rw [packB_append (by rw [List.length_append, bitsN_len, bitsN_len]), packB_append (by rw [bitsN_len]), packB_64, packB_8 (by omega) (by omega)]

/-! ### the reference's Put -/
theorem ref_l2_end {l : List Int} (hu : Us l) (h0 : 0 < l.length) (hl : l.length ≤ 200) (k : Nat) (hk : 20000 < k) :
    rickref06_Put.l2 (k + 1) l (minL l) (pack_Put.width l : Int) (pack_Put.body l) (l.length : Int) = some (packB (pack_Put.bits l)) := by
  have hlo := lo_hi hu h0
  have hw := width_le hu h0
  have hlen : (pack_Put.body l).length = l.length * pack_Put.width l := flat_len _ _ _
  have hmul : l.length * pack_Put.width l ≤ 200 * 64 := Nat.mul_le_mul hl hw
  have hbits : Bits (pack_Put.body l) := flat_bits _ _ _
  have hpk := bits_packB hu h0
  generalize pack_Put.bits l = L at hpk ⊢
  generalize pack_Put.body l = bd at *
  generalize pack_Put.width l = w at *
  generalize minL l = lo at *
  have e1 := raw_spec (k := k) hlo.1 hlo.2.1 (by omega)
  have e2 := refbytes_spec (k := k) hbits (by omega) (by omega)
  have hr := raw8_len lo
  have hp := packB_len bd
  have hm : (w : Int) % 256 = (w : Int) := Int.emod_eq_of_lt (by omega) (by omega)
  generalize raw8 lo = rr at *
  generalize packB bd = pp at *
  unfold rickref06_Put.l2
  rw [if_neg (by omega), e1, Option.bind_some, if_pos (by omega), Option.bind_some, e2, Option.bind_some, if_pos (by simp; omega), hm, hpk]
theorem ref_l2_step {l : List Int} (hu : Us l) (h0 : 0 < l.length) (hl : l.length ≤ 200) (i k : Nat) (hlt : i < l.length) (hk : 20000 < k) :
    rickref06_Put.l2 (k + 1) l (minL l) (pack_Put.width l : Int) (((l.take i).map (fun n => bitsN (pack_Put.width l) (n - minL l))).flatten) (i : Int) =
      rickref06_Put.l2 k l (minL l) (pack_Put.width l : Int) (((l.take (i + 1)).map (fun n => bitsN (pack_Put.width l) (n - minL l))).flatten) ((i + 1 : Nat) : Int) := by
  have hlo := lo_hi hu h0
  have hw := width_le hu h0
  have hcl : cl (pack_Put.width l : Int) = pack_Put.width l := by rw [cl_id (by omega) (by omega)]; omega
  have hel := hu _ (List.getElem_mem hlt)
  have hge := (min_facts h0).2 _ (List.getElem_mem hlt)
  have hlen := flat_len (pack_Put.width l) (minL l) (l.take i)
  have hmul : (l.take i).length * pack_Put.width l ≤ 200 * 64 := Nat.mul_le_mul (by rw [List.length_take]; omega) hw
  have hs : (((l.take (i + 1)).map (fun n => bitsN (pack_Put.width l) (n - minL l))).flatten) = (((l.take i).map (fun n => bitsN (pack_Put.width l) (n - minL l))).flatten) ++ bitsN (pack_Put.width l) (l[i] - minL l) := by
    rw [List.take_succ_eq_append_getElem hlt]
    simp only [List.map_append, List.flatten_append, List.map_cons, List.map_nil, List.flatten_cons, List.flatten_nil, List.append_nil]
  have e1 := refput_spec (k := k) (l := ((l.take i).map (fun n => bitsN (pack_Put.width l) (n - minL l))).flatten) (v := l[i] - minL l) (m := (pack_Put.width l : Int)) (by omega) (by omega) (by omega) (by omega)
  rw [hcl, ← hs] at e1
  have e2 := wrap_u64_id (n := l[i] - minL l) (by omega) (by omega)
  have e3 : wrap64 ((i : Int) + 1) = ((i + 1 : Nat) : Int) := Q06.succ64 (by omega)
  clear hs hlen hmul hcl
  generalize ((l.take i).map (fun n => bitsN (pack_Put.width l) (n - minL l))).flatten = P at e1 ⊢
  generalize ((l.take (i + 1)).map (fun n => bitsN (pack_Put.width l) (n - minL l))).flatten = P2 at e1 ⊢
  generalize pack_Put.width l = w at *
  rw [rickref06_Put.l2]
  rw [if_pos (by omega), if_pos (by omega), rd_get hlt, e2, e1, Option.bind_some, e3]
theorem ref_l2 {l : List Int} (hu : Us l) (h0 : 0 < l.length) (hl : l.length ≤ 200) (d : Nat) : ∀ (i k : Nat), i + d = l.length → 20001 + d < k →
    rickref06_Put.l2 k l (minL l) (pack_Put.width l : Int) (((l.take i).map (fun n => bitsN (pack_Put.width l) (n - minL l))).flatten) (i : Int) = some (packB (pack_Put.bits l)) := by
  induction d with
  | zero =>
    intro i k hd hk
    obtain ⟨k, rfl⟩ : ∃ q, k = q + 1 := ⟨k - 1, by omega⟩
    have hi : i = l.length := by simpa using hd
    subst hi
    rw [List.take_length]
    exact ref_l2_end hu h0 hl k (by omega)
  | succ d ih =>
    intro i k hd hk
    obtain ⟨k, rfl⟩ : ∃ q, k = q + 1 := ⟨k - 1, by omega⟩
    rw [ref_l2_step hu h0 hl i k (by omega) (by omega)]
    exact ih (i + 1) k (by omega) (by omega)
theorem shift_pos {x : Int} (h0 : 0 ≤ x) (w : Nat) : x / 2 ^ w > 0 ↔ w < wd x := by
  have hp : (0 : Int) < 2 ^ w := Int.pow_pos (by decide)
  obtain ⟨k1, k2⟩ := wd_facts h0
  constructor
  · intro h
    rcases Nat.lt_or_ge w (wd x) with h' | h'
    · exact h'
    · have : (2 : Int) ^ wd x ≤ 2 ^ w := by exact_mod_cast Nat.pow_le_pow_right (by decide) h'
      rw [Int.ediv_eq_zero_of_lt h0 (by omega)] at h
      omega
  · intro h
    have hx : x ≠ 0 := by rintro rfl; simp [wd] at h
    have := k2 hx
    have : (2 : Int) ^ w ≤ 2 ^ (wd x - 1) := by exact_mod_cast Nat.pow_le_pow_right (by decide) (show w ≤ wd x - 1 by omega)
    have := Int.le_ediv_of_mul_le hp (show 1 * 2 ^ w ≤ x by omega)
    omega
theorem ref_l1 {l : List Int} (hu : Us l) (h0 : 0 < l.length) (hl : l.length ≤ 200) (d : Nat) : ∀ (w k : Nat), w + d = pack_Put.width l → 21000 + d < k →
    rickref06_Put.l1 k l (minL l) (maxL l) (w : Int) = some (packB (pack_Put.bits l)) := by
  have hlo := lo_hi hu h0
  have hw := width_le hu h0
  have hj : ∀ k, 20500 < k → rickref06_Put.j2 k l (minL l) (pack_Put.width l : Int) = some (packB (pack_Put.bits l)) := by
    intro k hk
    obtain ⟨k, rfl⟩ : ∃ q, k = q + 1 := ⟨k - 1, by omega⟩
    simp only [rickref06_Put.j2]
    have := ref_l2 hu h0 hl l.length 0 k (by omega) (by omega)
    simpa using this
  induction d with
  | zero =>
    intro w k hd hk
    obtain ⟨k, rfl⟩ : ∃ q, k = q + 1 := ⟨k - 1, by omega⟩
    obtain rfl : w = pack_Put.width l := by omega
    simp only [rickref06_Put.l1]
    by_cases h64 : ((pack_Put.width l : Nat) : Int) < 64
    · have hn : ¬ (maxL l - minL l) / 2 ^ pack_Put.width l > 0 := by rw [shift_pos (by omega)]; unfold pack_Put.width; omega
      rw [if_pos h64, if_pos (by omega), wrap_u64_id (n := maxL l - minL l) (by omega) (by omega), shr_nat .u64 _ (by simp [IntKind.bits]; omega), if_neg hn]
      exact hj k (by omega)
    · rw [if_neg h64]
      exact hj k (by omega)
  | succ d ih =>
    intro w k hd hk
    obtain ⟨k, rfl⟩ : ∃ q, k = q + 1 := ⟨k - 1, by omega⟩
    have hn : (maxL l - minL l) / 2 ^ w > 0 := by rw [shift_pos (by omega)]; unfold pack_Put.width at hd; omega
    simp only [rickref06_Put.l1]
    rw [if_pos (by omega), if_pos (by omega), wrap_u64_id (n := maxL l - minL l) (by omega) (by omega), shr_nat .u64 _ (by simp [IntKind.bits]; omega), if_pos hn, Q06.succ64 (by omega)]
    exact ih (w + 1) k (by omega) (by omega)
theorem ref_l0 {l : List Int} (hu : Us l) (h0 : 0 < l.length) (hl : l.length ≤ 200) (d : Nat) : ∀ (i k : Nat) (a b : Int), i + d = l.length → 22000 + d < k → (l.drop i).foldl mn a = minL l → (l.drop i).foldl mx b = maxL l →
    rickref06_Put.l0 k l a b (i : Int) = some (packB (pack_Put.bits l)) := by
  induction d with
  | zero =>
    intro i k a b hd hk ha hb
    obtain ⟨k, rfl⟩ : ∃ q, k = q + 1 := ⟨k - 1, by omega⟩
    rw [List.drop_eq_nil_of_le (by omega)] at ha hb
    simp only [rickref06_Put.l0]
    rw [if_neg (by omega), show a = minL l from ha, show b = maxL l from hb]
    exact ref_l1 hu h0 hl (pack_Put.width l) 0 k (by omega) (by have := width_le hu h0; omega)
  | succ d ih =>
    intro i k a b hd hk ha hb
    obtain ⟨k, rfl⟩ : ∃ q, k = q + 1 := ⟨k - 1, by omega⟩
    have hlt : i < l.length := by omega
    rw [List.drop_eq_getElem_cons hlt, List.foldl_cons] at ha hb
    simp only [rickref06_Put.l0]
    rw [if_pos (by omega), if_pos (by omega), rd_get hlt, Q06.succ64 (by omega)]
    exact ih (i + 1) k _ _ (by omega) (by omega) ha hb
/-- The bytes of numbers, by the reference. -/
theorem ref6_spec {k : Nat} {l : List Int} (hu : Us l) (hl : l.length ≤ 200) (hk : 23000 < k) : rickref06_Put.f k l = some (if l.length = 0 then [] else packB (pack_Put.bits l)) := by
  unfold rickref06_Put.f
  by_cases h0 : l.length = 0
  · rw [if_pos (by omega), if_pos h0]
  · rw [if_neg (by omega), if_pos (by omega), if_neg h0]
    have hd : l.drop 0 = l := rfl
    obtain ⟨a, t, rfl⟩ : ∃ a t, l = a :: t := by cases l with | nil => simp at h0 | cons a t => exact ⟨a, t, rfl⟩
    have hr : rd (a :: t) 0 = a := rfl
    refine ref_l0 hu (by simp) hl (a :: t).length 0 k _ _ (by omega) (by omega) ?_ ?_
    · rw [List.drop_zero, List.foldl_cons, hr]; unfold minL; rw [show mn a a = a by unfold mn; simp, hr]; rfl
    · rw [List.drop_zero, List.foldl_cons, hr]; unfold maxL; rw [show mx a a = a by unfold mx; simp, hr]; rfl
theorem put6_spec {l : List Int} (hu : Us l) (hl : l.length ≤ 200) : pack_Put.f l = some (if l.length = 0 then [] else packB (pack_Put.bits l), 0) := by
  unfold pack_Put.f
  rw [if_neg (by omega)]
  by_cases h0 : l.length = 0
  · rw [if_pos h0, if_pos h0]
  · rw [if_neg h0, if_neg h0, if_pos (us_ok hu)]

/-! ### packed, and told back -/
theorem drop_len_add (a b : List Int) (n : Nat) : (a ++ b).drop (a.length + n) = b.drop n := by rw [← List.drop_drop, List.drop_left]
theorem body_at {l : List Int} (w : Nat) (lo : Int) {j : Nat} (h : j < l.length) : (((l.map (fun n => bitsN w (n - lo))).flatten).drop (j * w)).take w = bitsN w (l[j] - lo) := by
  induction l generalizing j with
  | nil => simp at h
  | cons a l ih =>
    rw [List.map_cons, List.flatten_cons]
    cases j with
    | zero => simp [bitsN_len]
    | succ j =>
      rw [show (j + 1) * w = (bitsN w (a - lo)).length + j * w by rw [bitsN_len, Nat.succ_mul]; omega, drop_len_add, ih (by simpa using h)]
      simp
theorem outs_packed {l more : List Int} (hu : Us l) (h0 : 0 < l.length) : pack_Get.outs (packB (pack_Put.bits l) ++ more) (minL l) (pack_Put.width l) l.length = l := by
  have hlo := lo_hi hu h0
  apply List.ext_getElem
  · rw [pack_Get.outs_len]
  · intro j h1 h2
    have hel := hu _ (List.getElem_mem h2)
    have hge := (min_facts h0).2 _ (List.getElem_mem h2)
    have hle := (max_facts h0).2 _ (List.getElem_mem h2)
    have hlen := bits_len l
    have hj : (j + 1) * pack_Put.width l ≤ l.length * pack_Put.width l := Nat.mul_le_mul_right _ h2
    rw [Nat.succ_mul] at hj
    simp only [pack_Get.outs, List.getElem_map, List.getElem_range]
    rw [gv_packB (bits_bits l) (by omega)]
    have e : ((pack_Put.bits l).drop (72 + j * pack_Put.width l)).take (pack_Put.width l) = bitsN (pack_Put.width l) (l[j] - minL l) := by
      unfold pack_Put.bits
      rw [show 72 + j * pack_Put.width l = (bitsN 64 (minL l) ++ bitsN 8 (pack_Put.width l : Int)).length + j * pack_Put.width l by rw [List.length_append, bitsN_len, bitsN_len], drop_len_add, body_eq]
      exact body_at _ _ h2
    have hw := (wd_facts (x := maxL l - minL l) (by omega)).1
    rw [e, valB_bitsN _ (by omega), Int.emod_eq_of_lt (by omega) (by unfold pack_Put.width; omega), wrap_u64_id (by omega) (by omega)]
    omega
theorem get6_spec {l more : List Int} (hu : Us l) (hl : l.length ≤ 200) (hm : Bs more) (hml : more.length ≤ 1000) :
    pack_Get.f ((if l.length = 0 then [] else packB (pack_Put.bits l)) ++ more) (l.length : Int) = some (l, ((if l.length = 0 then [] else packB (pack_Put.bits l)).length : Int), 0) := by
  unfold pack_Get.f
  rw [if_neg (by omega)]
  by_cases h0 : l.length = 0
  · have : l = [] := List.length_eq_zero_iff.1 h0
    subst this
    simp
  have h0' : 0 < l.length := by omega
  have hlo := lo_hi hu h0'
  have hw := width_le hu h0'
  have hlen := bits_len l
  have hpl := packB_len (pack_Put.bits l)
  have hmul : l.length * pack_Put.width l ≤ 200 * 64 := Nat.mul_le_mul hl hw
  rw [if_neg h0, if_neg (by omega), if_neg (by rw [List.length_append]; omega)]
  have hbs : Bs (packB (pack_Put.bits l) ++ more) := (packB_bs (bits_bits l)).append hm
  have hrd : rd (packB (pack_Put.bits l) ++ more) 8 = (pack_Put.width l : Int) := by
    have h8 : 8 < (packB (pack_Put.bits l) ++ more).length := by rw [List.length_append]; omega
    have := rd_get (l := packB (pack_Put.bits l) ++ more) (i := 8) h8
    rw [show ((8 : Nat) : Int) = 8 from rfl] at this
    rw [this]
    have e : packB (pack_Put.bits l) ++ more = raw8 (minL l) ++ ((pack_Put.width l : Int) :: (packB (pack_Put.body l) ++ more)) := by rw [bits_packB hu h0']; simp
    simp only [e]
    rw [List.getElem_append_right (by rw [raw8_len]; omega)]
    simp [raw8_len]
  have hlo64 : gv (packB (pack_Put.bits l) ++ more) 0 64 = minL l := by
    rw [gv_packB (bits_bits l) (by omega), List.drop_zero]
    have : (pack_Put.bits l).take 64 = bitsN 64 (minL l) := by
      unfold pack_Put.bits
      rw [List.append_assoc, List.take_append_of_le_length (by rw [bitsN_len]; omega), List.take_of_length_le (by rw [bitsN_len]; omega)]
    rw [this, valB_bitsN _ hlo.1, Int.emod_eq_of_lt hlo.1 (by omega)]
  rw [hrd, if_neg (by omega), if_pos (bs_okB hbs (by rw [List.length_append]; omega)), Int.toNat_natCast, Int.toNat_natCast, if_neg (by rw [List.length_append]; omega), hlo64, outs_packed hu h0', put6_spec hu hl, if_neg h0]
  simp only [Option.bind_some]
  rw [prefix_yes]
  simp
end Go.Proofs.Ytmlbppfcpejlpaa.Q06
