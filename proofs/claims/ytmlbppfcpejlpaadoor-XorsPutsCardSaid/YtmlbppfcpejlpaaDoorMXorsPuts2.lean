/- Texts of this claim, laid together (wip/merge.py): XRickref06Same, XRickref04Bytes, XRickref04Put, XRickref08Put, XRicklaw08Xorsputs, Q04, Q04r, Q06b, Q06c, Q06s, Q08, Q08b, PureXorsPuts, T08. No conditions. -/
import Derived.Test.YtmlbppfcpejlpaaDoorMXorsPuts1
import Derived.Test.YtmlbppfcpejlpaaDoorRows
import Derived.LaidMore
import Derived.Lib.LaidTab
import Derived.Stop.Joined
-- Printed by this session's own program (wip/xprint.py) over the translation; its external functions are hand-written. Lean checks it.
namespace Go.Proofs.YtmlbppfcpejlpaaDoor.X
open Go.RowKit Go.Proofs.YtmlbppfcpejlpaaDoorW.PrintWords Go.Proofs.YtmlbppfcpejlpaaDoorW.PrintLast Go.Proofs.YtmlbppfcpejlpaaDoorW.PrintMore
attribute [local go_sem] max2_int min2_int max_two min_two max_three min_three max_four min_four   -- for this text's walks alone
set_option linter.unusedVariables false
set_option linter.unusedSimpArgs false

/-! ### rickref06_Same: function 14 -/
def rickref06_Same.l0 : Nat → List Int → List Int → Int → Option (Bool)
  | 0, _, _, _ => none
  | k + 1, x0, x1, x5 => if x5 < (x0.length : Int) then (if 0 ≤ x5 then (if x5 < (x1.length : Int) then (if (rd x0 x5) = (rd x1 x5) then (rickref06_Same.l0 k x0 x1 (wrap64 (x5 + 1))) else (some false)) else (none)) else (none)) else (some true)
def rickref06_Same.f (k : Nat) (l0 : List Int) (l1 : List Int) : Option (Bool) := if (l0.length : Int) = (l1.length : Int) then (rickref06_Same.l0 k l0 l1 0) else (some false)
theorem rickref06_Same.mono_l : ∀ k, (∀ y0 y1 y2, LeO (rickref06_Same.l0 k y0 y1 y2) (rickref06_Same.l0 (k + 1) y0 y1 y2))
  | 0 => fun _ _ _ r h => by simp [rickref06_Same.l0] at h
  | k + 1 => by
    have ih0 := rickref06_Same.mono_l k
    · intro y0 y1 y2
      unfold rickref06_Same.l0
      repeat' first
      | (with_reducible exact ih0 _ _ _)
      | (with_reducible exact LeO.refl _)
      | (with_reducible exact LeO.none _)
      | (with_reducible refine LeO.ite ?_ ?_)
      | (with_reducible refine LeO.bind ?_ (fun _ => ?_))
      | exact ih0 _ _ _
      | exact LeO.none _
      | refine LeO.ite ?_ ?_
      | refine LeO.bind ?_ (fun _ => ?_)
theorem rickref06_Same.mono : ∀ a0 a1 k, LeO (rickref06_Same.f k a0 a1) (rickref06_Same.f (k + 1) a0 a1) := by
  intro a0 a1 k
  have ih0 := rickref06_Same.mono_l k
  unfold rickref06_Same.f
  repeat' first
      | (with_reducible exact ih0 _ _ _)
      | (with_reducible exact LeO.refl _)
      | (with_reducible exact LeO.none _)
      | (with_reducible refine LeO.ite ?_ ?_)
      | (with_reducible refine LeO.bind ?_ (fun _ => ?_))
      | exact ih0 _ _ _
      | exact LeO.none _
      | refine LeO.ite ?_ ?_
      | refine LeO.bind ?_ (fun _ => ?_)
set_option maxHeartbeats 8000000 in
set_option maxRecDepth 100000 in
theorem rickref06_Same.calls (k : Nat) (A0 : Option Addr) (c0 : Nat) (l0 : List Int) (A1 : Option Addr) (c1 : Nat) (l1 : List Int) (r : Bool) (w : World) (hr0 : Kd.C (Kd.int .u64) w A0 l0.length l0) (hc0 : l0.length ≤ c0) (hr1 : Kd.C (Kd.int .u64) w A1 l1.length l1) (hc1 : l1.length ≤ c1) (h : rickref06_Same.f k l0 l1 = some r) :
    Calls Tryd.prog 14 #[.slice A0 l0.length c0, .slice A1 l1.length c1] w fun e w' => e = .returned (.bool r) ∧ Drawn0 w w' := by
  have HR0 := Aside0.mk hr0
  have HC0 := Aside0.mk hc0
  clear hr0 hc0
  have HR1 := Aside0.mk hr1
  have HC1 := Aside0.mk hc1
  clear hr1 hc1
  have H : (if (l0.length : Int) = (l1.length : Int) then (rickref06_Same.l0 k l0 l1 0) else (some false)) = some r := h
  clear h
  by_cases c3 : (l0.length : Int) = (l1.length : Int)
  · rw [if_pos c3] at H
    have c3b0 : ((l0.length : Int) == (l1.length : Int)) = true := beq_iff_eq.mpr c3
    have c3b1 : ((l0.length : Int) != (l1.length : Int)) = false := bne_eq_false_iff_eq.mpr c3
    have c3b2 : (l0.length == l1.length) = true := by first | simpa using c3 | (simp at c3 ⊢; omega)
    clear c3
    have H' := Aside0.mk H
    clear H
    go_enter Tryd.func14, Tryd.ntmps14
    go_wp2
    repeat (go_quiet (fail); try go_wp2)
    go_loopg [5] k (fun kq v5 w' => ∃ (x5_1 : Int), v5 = .int .i64 x5_1 ∧ Aside0 (rickref06_Same.l0 kq l0 l1 x5_1 = some r) ∧ Aside0 (kq ≤ k) ∧ Drawn0 w w')
    case atStart => exact ⟨(0), (by first | rfl | (simp; done) | (simp [*]; done)), H', ⟨Nat.le_refl _⟩, by repeat (first | exact Drawn0.refl _ | apply Drawn0.step)⟩
    case round =>
      clear H'
      try clear c1
      try clear p2
      try clear c3
      try clear c3b0
      try clear c3b1
      try clear c3b2
      obtain ⟨x5_1, rfl, HA, HK1, ⟨m1, rfl⟩⟩ := hrel
      cases gk with
      | zero => exact absurd HA.out (by simp [rickref06_Same.l0])
      | succ k1 =>
        have H := HA.out
        clear HA
        simp only [rickref06_Same.l0] at H
        by_cases c4 : x5_1 < (l0.length : Int)
        · rw [if_pos c4] at H
          have c4b0 : decide (x5_1 < (l0.length : Int)) = true := decide_eq_true c4
          clear c4
          by_cases c5 : 0 ≤ x5_1
          · rw [if_pos c5] at H
            have c5b0 : decide (0 ≤ x5_1) = true := decide_eq_true c5
            clear c5
            by_cases c6 : x5_1 < (l1.length : Int)
            · rw [if_pos c6] at H
              have c6b0 : decide (x5_1 < (l1.length : Int)) = true := decide_eq_true c6
              clear c6
              by_cases c7 : (rd l0 x5_1) = (rd l1 x5_1)
              · rw [if_pos c7] at H
                have c7b0 : ((rd l0 x5_1) == (rd l1 x5_1)) = true := beq_iff_eq.mpr c7
                have c7b1 : ((rd l0 x5_1) != (rd l1 x5_1)) = false := bne_eq_false_iff_eq.mpr c7
                clear c7
                have H' := Aside0.mk H
                clear H
                have p176 : 0 ≤ (x5_1 : Int) := of_decide_eq_true (by first | (with_reducible assumption) | assumption)
                have q176 : x5_1 < (l0.length : Int) := of_decide_eq_true (by first | (with_reducible assumption) | assumption)
                obtain ⟨ad176, e176, hx176_0⟩ := Kd.at_int HR0.out x5_1 p176 q176
                cases e176
                replace p176 := eq_true p176
                replace q176 := eq_true q176
                have p177 : 0 ≤ (x5_1 : Int) := of_decide_eq_true (by first | (with_reducible assumption) | assumption)
                have q177 : x5_1 < (l1.length : Int) := of_decide_eq_true (by first | (with_reducible assumption) | assumption)
                obtain ⟨ad177, e177, hx177_0⟩ := Kd.at_int HR1.out x5_1 p177 q177
                cases e177
                replace p177 := eq_true p177
                replace q177 := eq_true q177
                go_wp2
                repeat (go_quiet (fail); try go_wp2)
                go_roundg k1
                case measure => have := HK1.out; omega
                case rel => exact ⟨(wrap64 (x5_1 + 1)), (by first | rfl | (simp; done) | (simp [*]; done)), H', ⟨by have := HK1.out; omega⟩, by repeat (first | exact Drawn0.refl _ | apply Drawn0.step)⟩
              · rw [if_neg c7] at H
                have c7b0 : ((rd l0 x5_1) == (rd l1 x5_1)) = false := beq_eq_false_iff_ne.mpr c7
                have c7b1 : ((rd l0 x5_1) != (rd l1 x5_1)) = true := bne_iff_ne.mpr c7
                obtain rfl := Option.some.inj H
                have p176 : 0 ≤ (x5_1 : Int) := of_decide_eq_true (by first | (with_reducible assumption) | assumption)
                have q176 : x5_1 < (l0.length : Int) := of_decide_eq_true (by first | (with_reducible assumption) | assumption)
                obtain ⟨ad176, e176, hx176_0⟩ := Kd.at_int HR0.out x5_1 p176 q176
                cases e176
                replace p176 := eq_true p176
                replace q176 := eq_true q176
                have p177 : 0 ≤ (x5_1 : Int) := of_decide_eq_true (by first | (with_reducible assumption) | assumption)
                have q177 : x5_1 < (l1.length : Int) := of_decide_eq_true (by first | (with_reducible assumption) | assumption)
                obtain ⟨ad177, e177, hx177_0⟩ := Kd.at_int HR1.out x5_1 p177 q177
                cases e177
                replace p177 := eq_true p177
                replace q177 := eq_true q177
                go_wp2
                repeat (go_quiet (fail); try go_wp2)
                go_ret
                exact ⟨by first | rfl | (simp; done) | (simp [*]; done), by repeat (first | exact Drawn0.refl _ | apply Drawn0.step)⟩
            · rw [if_neg c6] at H
              exact absurd H (by simp)
          · rw [if_neg c5] at H
            exact absurd H (by simp)
        · rw [if_neg c4] at H
          have c4b0 : decide (x5_1 < (l0.length : Int)) = false := decide_eq_false c4
          clear c4
          obtain rfl := Option.some.inj H
          go_wp2
          repeat (go_quiet (fail); try go_wp2)
          go_ret
          exact ⟨by first | rfl | (simp; done) | (simp [*]; done), by repeat (first | exact Drawn0.refl _ | apply Drawn0.step)⟩
  · rw [if_neg c3] at H
    have c3b0 : ((l0.length : Int) == (l1.length : Int)) = false := beq_eq_false_iff_ne.mpr c3
    have c3b1 : ((l0.length : Int) != (l1.length : Int)) = true := bne_iff_ne.mpr c3
    have c3b2 : (l0.length == l1.length) = false := by first | simpa using c3 | (simp at c3 ⊢; omega)
    obtain rfl := Option.some.inj H
    go_enter Tryd.func14, Tryd.ntmps14
    go_wp2
    repeat (go_quiet (fail); try go_wp2)
    go_ret
    exact ⟨by first | rfl | (simp; done) | (simp [*]; done), by repeat (first | exact Drawn0.refl _ | apply Drawn0.step)⟩

end Go.Proofs.YtmlbppfcpejlpaaDoor.X

-- Printed by this session's own program (wip/xprint.py) over the translation; its external functions are hand-written. Lean checks it.
namespace Go.Proofs.YtmlbppfcpejlpaaDoor.X
open Go.RowKit Go.Proofs.YtmlbppfcpejlpaaDoorW.PrintWords Go.Proofs.YtmlbppfcpejlpaaDoorW.PrintLast Go.Proofs.YtmlbppfcpejlpaaDoorW.PrintMore
attribute [local go_sem] max2_int min2_int max_two min_two max_three min_three max_four min_four   -- for this text's walks alone
set_option linter.unusedVariables false
set_option linter.unusedSimpArgs false

/-! ### rickref04_Bytes: function 26 -/
def rickref04_Bytes.l0 : Nat → List Int → List Int → Int → Option (List Int)
  | 0, _, _, _ => none
  | k + 1, x0, x3, x4 => if x4 < (x0.length : Int) then (if 0 ≤ (wrap64 (Int.tdiv x4 8)) then (if (wrap64 (Int.tdiv x4 8)) < (x3.length : Int) then (if 0 ≤ x4 then (if 0 ≤ (wrap64 (7 - (Int.tmod x4 8))) then (rickref04_Bytes.l0 k x0 (x3.set ((wrap64 (Int.tdiv x4 8)) : Int).toNat (Go.bits .or .u8 (rd x3 (wrap64 (Int.tdiv x4 8))) (shl .u8 (rd x0 x4) (wrap64 (7 - (Int.tmod x4 8)))))) (wrap64 (x4 + 1))) else (none)) else (none)) else (none)) else (none)) else (some x3)
def rickref04_Bytes.f (k : Nat) (l0 : List Int) : Option (List Int) := if 0 ≤ (wrap64 (Int.tdiv (wrap64 ((l0.length : Int) + 7)) 8)) then (if (wrap64 (Int.tdiv (wrap64 ((l0.length : Int) + 7)) 8) : Int).toNat ≤ 281474976710656 then (rickref04_Bytes.l0 k l0 (List.replicate (wrap64 (Int.tdiv (wrap64 ((l0.length : Int) + 7)) 8) : Int).toNat 0) 0) else (none)) else (none)
theorem rickref04_Bytes.mono_l : ∀ k, (∀ y0 y1 y2, LeO (rickref04_Bytes.l0 k y0 y1 y2) (rickref04_Bytes.l0 (k + 1) y0 y1 y2))
  | 0 => fun _ _ _ r h => by simp [rickref04_Bytes.l0] at h
  | k + 1 => by
    have ih0 := rickref04_Bytes.mono_l k
    · intro y0 y1 y2
      unfold rickref04_Bytes.l0
      repeat' first
      | (with_reducible exact ih0 _ _ _)
      | (with_reducible exact LeO.refl _)
      | (with_reducible exact LeO.none _)
      | (with_reducible refine LeO.ite ?_ ?_)
      | (with_reducible refine LeO.bind ?_ (fun _ => ?_))
      | exact ih0 _ _ _
      | exact LeO.none _
      | refine LeO.ite ?_ ?_
      | refine LeO.bind ?_ (fun _ => ?_)
theorem rickref04_Bytes.mono : ∀ a0 k, LeO (rickref04_Bytes.f k a0) (rickref04_Bytes.f (k + 1) a0) := by
  intro a0 k
  have ih0 := rickref04_Bytes.mono_l k
  unfold rickref04_Bytes.f
  repeat' first
      | (with_reducible exact ih0 _ _ _)
      | (with_reducible exact LeO.refl _)
      | (with_reducible exact LeO.none _)
      | (with_reducible refine LeO.ite ?_ ?_)
      | (with_reducible refine LeO.bind ?_ (fun _ => ?_))
      | exact ih0 _ _ _
      | exact LeO.none _
      | refine LeO.ite ?_ ?_
      | refine LeO.bind ?_ (fun _ => ?_)
def rickref04_Bytes.T5 : Bool × List (List Nat × List Nat) := (true, [([], []), ([], []), ([1], [1]), ([], []), ([], []), ([4], [4]), ([3, 5], [3, 5]), ([6], [6]), ([], []), ([], []), ([8, 9], [8, 9]), ([10], [10]), ([], []), ([12], [12]), ([13], [13]), ([11, 14], [11, 14]), ([7, 15], [7, 15]), ([0, 2, 0, 1, 2, 3, 4, 5, 6, 7, 8, 9, 10, 11, 12, 13, 14, 15, 16], [0, 2]), ([17, 16, 0, 1, 2, 3, 4, 5, 6, 7, 8, 9, 10, 11, 12, 13, 14, 15, 16], [16, 17])])
def rickref04_Bytes.B5 : List Nat := [0, 0, 2, 0, 0, 16, 56, 120, 0, 0, 768, 1792, 0, 4096, 12288, 32512, 65528, 131071, 262143]
theorem rickref04_Bytes.tab5 : rtab .any (opsOf Tryd.f26 5) = rickref04_Bytes.T5 := by kernel_rfl
theorem rickref04_Bytes.bits5 : waitsOk rickref04_Bytes.T5.2 rickref04_Bytes.B5 = true := by kernel_rfl
set_option maxHeartbeats 8000000 in
set_option maxRecDepth 100000 in
theorem rickref04_Bytes.calls (k : Nat) (A0 : Option Addr) (c0 : Nat) (l0 : List Int) (r : List Int) (w : World) (hr0 : Kd.C (Kd.int .u8) w A0 l0.length l0) (hc0 : l0.length ≤ c0) (h : rickref04_Bytes.f k l0 = some r) :
    Calls Tryd.prog 26 #[.slice A0 l0.length c0] w fun e w' => ∃ v0_ : Value, e = .returned (v0_) ∧ Kd.R (Kd.int .u8) 5 w' w.heap.size (fun _ => True) v0_ r ∧ Below w.heap.size w w' := by
  have HR0 := Aside0.mk hr0
  have HC0 := Aside0.mk hc0
  clear hr0 hc0
  have HB := Aside0.mk (Below.refl w.heap.size w)
  have H : (if 0 ≤ (wrap64 (Int.tdiv (wrap64 ((l0.length : Int) + 7)) 8)) then (if (wrap64 (Int.tdiv (wrap64 ((l0.length : Int) + 7)) 8) : Int).toNat ≤ 281474976710656 then (rickref04_Bytes.l0 k l0 (List.replicate (wrap64 (Int.tdiv (wrap64 ((l0.length : Int) + 7)) 8) : Int).toNat 0) 0) else (none)) else (none)) = some r := h
  clear h
  obtain ⟨ji2, hji2⟩ : ∃ j_ : Int, (wrap64 (Int.tdiv (wrap64 ((l0.length : Int) + 7)) 8)) = j_ := ⟨_, rfl⟩
  replace H : (if 0 ≤ (ji2) then (if (ji2 : Int).toNat ≤ 281474976710656 then (rickref04_Bytes.l0 k l0 (List.replicate (ji2 : Int).toNat 0) 0) else (none)) else (none)) = some r := by first | (rw [hji2] at H; exact H) | (simp only [hji2] at H ⊢; exact H)
  have hji2w : (IntKind.i64.wrap (Int.tdiv (wrap64 ((l0.length : Int) + 7)) 8)) = ji2 := (i64_w _).trans hji2
  by_cases c3 : 0 ≤ (ji2)
  · rw [if_pos c3] at H
    have c3b0 := eq_true c3
    have c3b1 : decide (0 ≤ (ji2)) = true := decide_eq_true c3
    clear c3
    by_cases c4 : (ji2 : Int).toNat ≤ 281474976710656
    · rw [if_pos c4] at H
      have c4b0 := eq_true c4
      have c4b1 : decide ((ji2 : Int).toNat ≤ 281474976710656) = true := decide_eq_true c4
      clear c4
      obtain ⟨y109, hy109⟩ : ∃ y_ : List Int, y_ = (List.replicate (ji2 : Int).toNat 0) := ⟨_, rfl⟩
      replace H : (rickref04_Bytes.l0 k l0 y109 0) = some r := by first | (rw [hy109]; with_reducible exact H) | (have H2_ := (Option.bind_some _ _).symm.trans H; rw [hy109]; with_reducible exact H2_) | (have H2_ := (Option.bind_some _ _).symm.trans H; with_reducible exact H2_) | with_reducible exact H | (rw [hy109]; exact H) | exact H
      have Ny109 := Aside0.mk hy109
      clear hy109
      have H' := Aside0.mk H
      clear H
      go_enter Tryd.func26, Tryd.ntmps26
      go_wp2_with (first | ((with_reducible refine gate_dst (N := 9) rfl ?_); refine Kd.R_make (Kd.int .u8) _ 5 rfl (N := 9) rfl 23 _ _ rfl ji2 rfl rfl Tryd.underlying23 (.int .u8 0) 1 info5 rfl (by decide) (by omega) 0 (ok := fun _ => True) (okp := fun _ => True) rfl (fun _ hk => hk) trivial (of_decide_eq_true (by first | (with_reducible assumption) | assumption)) (Nat.le_trans (Nat.mul_le_mul_right _ (of_decide_eq_true (by first | (with_reducible assumption) | assumption) : ji2.toNat ≤ 281474976710656)) (by omega)) (Below.refl _ _) (Nat.le_refl _) ?_; intro v110 w5 ho6 hb hg_ hnew_; clear hg_ hnew_; (first | rw [← Ny109.out] at ho6 | (simp only [Int.reduceToNat] at ho6; rw [← Ny109.out] at ho6)); have n0_ := Aside0.mk (Kd.R_lower ho6 (below_size (by repeat (first | (with_reducible first | exact HB.out | apply below_alloc | apply pw_below_drewN | apply below_drew1) | exact HB.out)))); have n1_ := Aside0.mk (below_step (by repeat (first | (with_reducible first | exact HB.out | apply below_alloc | apply pw_below_drewN | apply below_drew1) | exact HB.out)) hb); clear HB; have HO111 := n0_; have HB := n1_; clear n0_ n1_; clear hb ho6))
      go_loopg [4] k (fun kq v4 w' => ∃ (x3_1 : List Int) (x4_1 : Int), v4 = .int .i64 x4_1 ∧ Aside0 (rickref04_Bytes.l0 kq l0 x3_1 x4_1 = some r) ∧ Aside0 (kq ≤ k) ∧ Aside0 (Kd.R (Kd.int .u8) 5 w' w.heap.size (fun _ => True) v110 x3_1) ∧ Aside0 (Below w.heap.size w w'))
      case atStart => exact ⟨(y109), (0), (by first | rfl | (simp; done) | (simp [*]; done)), H', ⟨Nat.le_refl _⟩, ⟨by (with_reducible repeat (first | apply Kd.R_alloc | apply Kd.R_drewN | apply Kd.R_drew)); exact HO111.out⟩, ⟨by repeat (first | (with_reducible first | exact HB.out | apply below_alloc | apply pw_below_drewN | apply below_drew1) | exact HB.out)⟩⟩
      case round =>
        clear H'
        try clear c2
        try clear p2
        try clear c3
        try clear c3b0
        try clear c3b1
        try clear c4
        try clear c4b0
        try clear c4b1
        try clear p6
        obtain ⟨x3_1, x4_1, rfl, HA, HK1, HO_3, HB⟩ := hrel
        cases gk with
        | zero => exact absurd HA.out (by simp [rickref04_Bytes.l0])
        | succ k1 =>
          have H := HA.out
          clear HA
          simp only [rickref04_Bytes.l0] at H
          by_cases c7 : x4_1 < (l0.length : Int)
          · rw [if_pos c7] at H
            have c7b0 : decide (x4_1 < (l0.length : Int)) = true := decide_eq_true c7
            clear c7
            obtain ⟨ji8, hji8⟩ : ∃ j_ : Int, (wrap64 (Int.tdiv x4_1 8)) = j_ := ⟨_, rfl⟩
            replace H : (if 0 ≤ (ji8) then (if (ji8) < (x3_1.length : Int) then (if 0 ≤ x4_1 then (if 0 ≤ (wrap64 (7 - (Int.tmod x4_1 8))) then (rickref04_Bytes.l0 k1 l0 (x3_1.set ((ji8) : Int).toNat (Go.bits .or .u8 (rd x3_1 (ji8)) (shl .u8 (rd l0 x4_1) (wrap64 (7 - (Int.tmod x4_1 8)))))) (wrap64 (x4_1 + 1))) else (none)) else (none)) else (none)) else (none)) = some r := by first | (rw [hji8] at H; exact H) | (simp only [hji8] at H ⊢; exact H)
            have hji8w : (IntKind.i64.wrap (Int.tdiv x4_1 8)) = ji8 := (i64_w _).trans hji8
            by_cases c9 : 0 ≤ (ji8)
            · rw [if_pos c9] at H
              have c9b0 : decide (0 ≤ (ji8)) = true := decide_eq_true c9
              clear c9
              by_cases c10 : (ji8) < (x3_1.length : Int)
              · rw [if_pos c10] at H
                have c10b0 : decide ((ji8) < (x3_1.length : Int)) = true := decide_eq_true c10
                clear c10
                by_cases c11 : 0 ≤ x4_1
                · rw [if_pos c11] at H
                  have c11b0 : decide (0 ≤ x4_1) = true := decide_eq_true c11
                  clear c11
                  obtain ⟨ji12, hji12⟩ : ∃ j_ : Int, (wrap64 (7 - (Int.tmod x4_1 8))) = j_ := ⟨_, rfl⟩
                  replace H : (if 0 ≤ (ji12) then (rickref04_Bytes.l0 k1 l0 (x3_1.set ((ji8) : Int).toNat (Go.bits .or .u8 (rd x3_1 (ji8)) (shl .u8 (rd l0 x4_1) (ji12)))) (wrap64 (x4_1 + 1))) else (none)) = some r := by first | (rw [hji12] at H; exact H) | (simp only [hji12] at H ⊢; exact H)
                  have hji12w : (IntKind.i64.wrap (7 - (Int.tmod x4_1 8))) = ji12 := (i64_w _).trans hji12
                  by_cases c13 : 0 ≤ (ji12)
                  · rw [if_pos c13] at H
                    have c13b0 := eq_true c13
                    have c13b1 : decide (0 ≤ (ji12)) = true := decide_eq_true c13
                    clear c13
                    obtain ⟨ji14, hji14⟩ : ∃ j_ : Int, (shl .u8 (rd l0 x4_1) (ji12)) = j_ := ⟨_, rfl⟩
                    replace H : (rickref04_Bytes.l0 k1 l0 (x3_1.set ((ji8) : Int).toNat (Go.bits .or .u8 (rd x3_1 (ji8)) (ji14))) (wrap64 (x4_1 + 1))) = some r := by first | (rw [hji14] at H; exact H) | (simp only [hji14] at H ⊢; exact H)
                    have hji14_ : (IntKind.u8.wrap ((rd l0 x4_1) * 2 ^ min (ji12).toNat 8)) = ji14 := hji14
                    have hji14z : (ji12) ≤ 8 → (IntKind.u8.wrap ((rd l0 x4_1) * 2 ^ (ji12).toNat)) = ji14 := shl_small hji14
                    obtain ⟨y114, hy114⟩ : ∃ y_ : List Int, y_ = (x3_1.set ((ji8) : Int).toNat (Go.bits .or .u8 (rd x3_1 (ji8)) (ji14))) := ⟨_, rfl⟩
                    replace H : (rickref04_Bytes.l0 k1 l0 y114 (wrap64 (x4_1 + 1))) = some r := by first | (rw [hy114]; with_reducible exact H) | (have H2_ := (Option.bind_some _ _).symm.trans H; rw [hy114]; with_reducible exact H2_) | (have H2_ := (Option.bind_some _ _).symm.trans H; with_reducible exact H2_) | with_reducible exact H | (rw [hy114]; exact H) | exact H
                    have Ny114 := Aside0.mk hy114
                    clear hy114
                    have H' := Aside0.mk H
                    clear H
                    try go_wp2
                    have n0_ := Aside0.mk (Kd.R_drew HO_3.out)
                    have n1_ := Aside0.mk (below_drew1 HB.out)
                    clear HO_3
                    clear HB
                    have HO_3 := n0_
                    have HB := n1_
                    clear n0_ n1_
                    obtain ⟨Ao17, co17, eo17⟩ := Kd.R_slice HO_3.out
                    (first | subst eo17 | (injection eo17 with f1_ f2_ f3_; have f4_ := f1_.symm; have f5_ := f3_.symm; clear f1_ f2_ f3_; subst f4_; subst f5_))
                    have p112 : 0 ≤ ((ji8) : Int) := of_decide_eq_true (by first | (with_reducible assumption) | assumption)
                    have q112 : (ji8) < (x3_1.length : Int) := of_decide_eq_true (by first | (with_reducible assumption) | assumption)
                    obtain ⟨ad112, e112, hx112_0⟩ := Kd.at_int (Kd.R_reads' HO_3.out).2.2 (ji8) p112 q112
                    cases e112
                    replace p112 := eq_true p112
                    replace q112 := eq_true q112
                    have p113 : 0 ≤ (x4_1 : Int) := of_decide_eq_true (by first | (with_reducible assumption) | assumption)
                    have q113 : x4_1 < (l0.length : Int) := of_decide_eq_true (by first | (with_reducible assumption) | assumption)
                    obtain ⟨ad113, e113, hx113_0⟩ := Kd.at_int HR0.out x4_1 p113 q113
                    have hw113_0 := hx113_0
                    cases e113
                    replace hx113_0 := (HB.out.cell (World.block_lt_of_cell? w _ hx113_0)).trans hx113_0
                    replace p113 := eq_true p113
                    replace q113 := eq_true q113
                    have p15 : 0 ≤ ((ji8) : Int) := of_decide_eq_true (by first | (with_reducible assumption) | assumption)
                    have q15 : ((ji8) : Int) < ((x3_1.length : Int) : Int) := of_decide_eq_true (by first | (with_reducible assumption) | assumption)
                    obtain ⟨go15, co15, eo15, gb15, gl15, cl15, HG15⟩ := Kd.R_form HO_3.out (by omega)
                    (first | cases eo15 | (injection eo15 with ea_ en_ ec_; (first | subst ea_ | (injection ea_ with ea_; subst ea_)); subst ec_; clear en_))
                    have GB15 := Aside0.mk gb15
                    have GG15 := Aside0.mk HG15
                    clear gb15 gl15 HG15
                    (first | simp only [add_plain] at hx112_0 | skip)
                    obtain ⟨hx15_0, hf15_0⟩ := Kd.R_celln 0 HO_3.out ((ji8) : Int) p15 q15
                    replace p15 := eq_true p15
                    replace q15 := eq_true q15
                    have HP18 := Kd.R_putn HO_3.out ((ji8) : Int) (Go.bits .or .u8 (rd x3_1 (ji8)) (ji14))
                    rw [← Ny114.out] at HP18
                    have HQ18 := Aside0.mk HP18
                    clear HP18
                    refine start_ (n := 19) (S := fun w' => w'.cell? ⟨go15, ((ji8)).toNat, none⟩ = some (.int .u8 (rd x3_1 (ji8))) ∧ w'.cell? (ad113.add (x4_1).toNat) = some (.int .u8 (rd l0 x4_1))) (ds := [18]) #[false, false, false, false, false, false, false, false, false, false, false, false, false, false, false, false, false, false, false] (by kernel_rfl) rfl rfl ⟨hx112_0, ((HB.out.cell (World.block_lt_of_cell? w _ hw113_0)).trans hw113_0)⟩ (fun hHeld => ?_); refine with_tabW rickref04_Bytes.tab5 rickref04_Bytes.bits5 (fun HT_ HW_ => ?_)
                    generalize wr.drew = w16 at HO_3 HB GG15 HQ18 hf15_0 hx112_0 hx113_0 hx15_0 hHeld ⊢
                    refine pure_ (i := 0) (N := some 16) (v := ?_) (a' := ?_) #[true, false, false, false, false, false, false, false, false, false, false, false, false, false, false, false, false, false, false] rfl rfl (any_of HT_.out (by kernel_rfl)) (fun _ _ _ h => h) (Or.inl ⟨by rfl, ?_⟩) ?_ ?_
                    rotate_left
                    · intro w'
                      go_simp
                      with_reducible rfl
                    rotate_left
                    · simp only [Act.put, List.setIfInBounds_toArray, List.set_cons_zero, List.set_cons_succ, i64_w, i32_w]
                      rfl
                    refine pure_ (i := 1) (N := some 17) (v := ?_) (a' := ?_) #[true, true, false, false, false, false, false, false, false, false, false, false, false, false, false, false, false, false, false] rfl rfl (any_of HT_.out (by kernel_rfl)) (fun _ _ _ h => h) (Or.inl ⟨by rfl, ?_⟩) ?_ ?_
                    rotate_left
                    · intro w'
                      go_simp
                      with_reducible rfl
                    rotate_left
                    · simp only [Act.put, List.setIfInBounds_toArray, List.set_cons_zero, List.set_cons_succ, i64_w, i32_w]
                      rfl
                    refine pure_ (i := 2) (N := some 18) (v := ?_) (a' := ?_) #[true, true, true, false, false, false, false, false, false, false, false, false, false, false, false, false, false, false, false] rfl rfl (any_of HT_.out (by kernel_rfl)) (fun _ _ _ h => h) (Or.inl ⟨by rfl, ?_⟩) ?_ ?_
                    rotate_left
                    · intro w'
                      go_simp
                      with_reducible rfl
                    rotate_left
                    · simp only [Act.put, List.setIfInBounds_toArray, List.set_cons_zero, List.set_cons_succ, i64_w, i32_w]
                      rfl
                    refine pure_ (i := 3) (N := some 19) (v := ?_) (a' := ?_) #[true, true, true, true, false, false, false, false, false, false, false, false, false, false, false, false, false, false, false] rfl rfl (any_of HT_.out (by kernel_rfl)) (fun _ _ _ h => h) (Or.inl ⟨by rfl, ?_⟩) ?_ ?_
                    rotate_left
                    · intro w'
                      go_simp
                      with_reducible rfl
                    rotate_left
                    · simp only [Act.put, List.setIfInBounds_toArray, List.set_cons_zero, List.set_cons_succ, i64_w, i32_w]
                      rfl
                    refine pure_ (i := 4) (N := some 20) (v := ?_) (a' := ?_) #[true, true, true, true, true, false, false, false, false, false, false, false, false, false, false, false, false, false, false] rfl rfl (any_of HT_.out (by kernel_rfl)) (fun _ _ _ h => h) (Or.inl ⟨by rfl, ?_⟩) ?_ ?_
                    rotate_left
                    · intro w'
                      go_simp
                      with_reducible rfl
                    rotate_left
                    · simp only [Act.put, List.setIfInBounds_toArray, List.set_cons_zero, List.set_cons_succ, i64_w, i32_w]
                      rfl
                    refine pure_ (i := 5) (N := some 21) (v := ?_) (a' := ?_) #[true, true, true, true, true, true, false, false, false, false, false, false, false, false, false, false, false, false, false] rfl rfl (any_of HT_.out (by kernel_rfl)) (fun _ _ _ h => h) (Or.inl ⟨by rfl, ?_⟩) ?_ ?_
                    rotate_left
                    · intro w'
                      go_simp
                      with_reducible rfl
                    rotate_left
                    · simp only [Act.put, List.setIfInBounds_toArray, List.set_cons_zero, List.set_cons_succ, i64_w, i32_w]
                      rfl
                    refine pure_ (i := 6) (N := some 22) (v := ?_) (a' := ?_) #[true, true, true, true, true, true, true, false, false, false, false, false, false, false, false, false, false, false, false] rfl rfl (any_of HT_.out (by kernel_rfl)) (fun _ _ _ h => h) (Or.inl ⟨by rfl, ?_⟩) ?_ ?_
                    rotate_left
                    · intro w'
                      go_simp
                      with_reducible rfl
                    rotate_left
                    · simp only [Act.put, List.setIfInBounds_toArray, List.set_cons_zero, List.set_cons_succ, i64_w, i32_w]
                      rfl
                    refine pure_ (i := 8) (N := some 24) (v := ?_) (a' := ?_) #[true, true, true, true, true, true, true, false, true, false, false, false, false, false, false, false, false, false, false] rfl rfl (any_of HT_.out (by kernel_rfl)) (fun _ _ _ h => h) (Or.inl ⟨by rfl, ?_⟩) ?_ ?_
                    rotate_left
                    · intro w'
                      go_simp
                      with_reducible rfl
                    rotate_left
                    · simp only [Act.put, List.setIfInBounds_toArray, List.set_cons_zero, List.set_cons_succ, i64_w, i32_w]
                      rfl
                    refine pure_ (i := 9) (N := some 25) (v := ?_) (a' := ?_) #[true, true, true, true, true, true, true, false, true, true, false, false, false, false, false, false, false, false, false] rfl rfl (any_of HT_.out (by kernel_rfl)) (fun _ _ _ h => h) (Or.inl ⟨by rfl, ?_⟩) ?_ ?_
                    rotate_left
                    · intro w'
                      go_simp
                      with_reducible rfl
                    rotate_left
                    · simp only [Act.put, List.setIfInBounds_toArray, List.set_cons_zero, List.set_cons_succ, i64_w, i32_w]
                      rfl
                    refine pure_ (i := 10) (N := some 26) (v := ?_) (a' := ?_) #[true, true, true, true, true, true, true, false, true, true, true, false, false, false, false, false, false, false, false] rfl rfl (any_of HT_.out (by kernel_rfl)) (fun _ _ _ h => h) (Or.inl ⟨by rfl, ?_⟩) ?_ ?_
                    rotate_left
                    · intro w'
                      go_simp
                      with_reducible rfl
                    rotate_left
                    · simp only [Act.put, List.setIfInBounds_toArray, List.set_cons_zero, List.set_cons_succ, i64_w, i32_w]
                      rfl
                    refine pure_ (i := 12) (N := some 28) (v := ?_) (a' := ?_) #[true, true, true, true, true, true, true, false, true, true, true, false, true, false, false, false, false, false, false] rfl rfl (any_of HT_.out (by kernel_rfl)) (fun _ _ _ h => h) (Or.inl ⟨by rfl, ?_⟩) ?_ ?_
                    rotate_left
                    · intro w'
                      go_simp
                      with_reducible rfl
                    rotate_left
                    · simp only [Act.put, List.setIfInBounds_toArray, List.set_cons_zero, List.set_cons_succ, i64_w, i32_w]
                      rfl
                    refine pure_ (i := 13) (N := some 29) (v := ?_) (a' := ?_) #[true, true, true, true, true, true, true, false, true, true, true, false, true, true, false, false, false, false, false] rfl rfl (any_of HT_.out (by kernel_rfl)) (fun _ _ _ h => h) (Or.inl ⟨by rfl, ?_⟩) ?_ ?_
                    rotate_left
                    · intro w'
                      go_simp
                      with_reducible rfl
                    rotate_left
                    · simp only [Act.put, List.setIfInBounds_toArray, List.set_cons_zero, List.set_cons_succ, i64_w, i32_w]
                      rfl
                    refine pure_ (i := 14) (N := some 30) (v := ?_) (a' := ?_) #[true, true, true, true, true, true, true, false, true, true, true, false, true, true, true, false, false, false, false] rfl rfl (any_of HT_.out (by kernel_rfl)) (fun _ _ _ h => h) (Or.inl ⟨by rfl, ?_⟩) ?_ ?_
                    rotate_left
                    · intro w'
                      go_simp
                      with_reducible rfl
                    rotate_left
                    · simp only [Act.put, List.setIfInBounds_toArray, List.set_cons_zero, List.set_cons_succ, i64_w, i32_w]
                      rfl
                    refine take_ (i := 7) (N := some 23) (v := ?_) (a' := ?_) #[true, true, true, true, true, true, true, true, true, true, true, false, true, true, true, false, false, false, false] rfl rfl (take_ofW HT_.out HW_.out (by kernel_rfl)) (fun _ _ _ h => h) (Or.inl ⟨by rfl, ?_⟩) hHeld ?_ ?_
                    rotate_left
                    · rintro w' ⟨s0, s1⟩
                      go_simp
                      with_reducible rfl
                    rotate_left
                    · simp only [Act.put, List.setIfInBounds_toArray, List.set_cons_zero, List.set_cons_succ, i64_w, i32_w]
                      rfl
                    refine take_ (i := 11) (N := some 27) (v := ?_) (a' := ?_) #[true, true, true, true, true, true, true, true, true, true, true, true, true, true, true, false, false, false, false] rfl rfl (take_ofW HT_.out HW_.out (by kernel_rfl)) (fun _ _ _ h => h) (Or.inl ⟨by rfl, ?_⟩) hHeld ?_ ?_
                    rotate_left
                    · rintro w' ⟨s0, s1⟩
                      go_simp
                      with_reducible rfl
                    rotate_left
                    · simp only [Act.put, List.setIfInBounds_toArray, List.set_cons_zero, List.set_cons_succ, i64_w, i32_w]
                      rfl
                    refine pure_ (i := 15) (N := some 31) (v := ?_) (a' := ?_) #[true, true, true, true, true, true, true, true, true, true, true, true, true, true, true, true, false, false, false] rfl rfl (any_of HT_.out (by kernel_rfl)) (fun _ _ _ h => h) (Or.inl ⟨by rfl, ?_⟩) ?_ ?_
                    rotate_left
                    · intro w'
                      go_simp
                      with_reducible rfl
                    rotate_left
                    · simp only [Act.put, List.setIfInBounds_toArray, List.set_cons_zero, List.set_cons_succ, i64_w, i32_w]
                      rfl
                    refine pure_ (i := 16) (N := some 32) (v := ?_) (a' := ?_) #[true, true, true, true, true, true, true, true, true, true, true, true, true, true, true, true, true, false, false] rfl rfl (any_of HT_.out (by kernel_rfl)) (fun _ _ _ h => h) (Or.inl ⟨by rfl, ?_⟩) ?_ ?_
                    rotate_left
                    · intro w'
                      go_simp
                      with_reducible rfl
                    rotate_left
                    · simp only [Act.put, List.setIfInBounds_toArray, List.set_cons_zero, List.set_cons_succ, i64_w, i32_w]
                      rfl
                    refine pure_ (i := 17) (N := some 33) (v := ?_) (a' := ?_) #[true, true, true, true, true, true, true, true, true, true, true, true, true, true, true, true, true, true, false] rfl rfl (any_of HT_.out (by kernel_rfl)) (fun _ _ _ h => h) (Or.inl ⟨by rfl, ?_⟩) ?_ ?_
                    rotate_left
                    · intro w'
                      go_simp
                      with_reducible rfl
                    rotate_left
                    · simp only [Act.put, List.setIfInBounds_toArray, List.set_cons_zero, List.set_cons_succ, i64_w, i32_w]
                      rfl
                    refine last_ (i := 18) (N := none) #[true, true, true, true, true, true, true, true, true, true, true, true, true, true, true, true, true, true, true] rfl rfl (one_of HT_.out (by kernel_rfl)) (by decide) (fun K hK => ?_)
                    refine skip_ (w1 := ?_) (by rfl) rfl ?_ ?_
                    rotate_left
                    · go_simp
                      rfl
                    refine hK.out _ _ ?_
                    clear hK K
                    refine done_ (done_of HT_.out (by kernel_rfl)) ?_
                    try go_wp2
                    go_roundg k1
                    case measure => have := HK1.out; omega
                    case rel => exact ⟨(y114), (wrap64 (x4_1 + 1)), (by first | rfl | (simp; done) | (simp [*]; done)), H', ⟨by have := HK1.out; omega⟩, ⟨by (with_reducible repeat (first | apply Kd.R_alloc | apply Kd.R_drewN | apply Kd.R_drew)); exact HQ18.out⟩, ⟨by repeat (first | (with_reducible first | exact HB.out | apply below_alloc | apply pw_below_drewN | apply below_drew1 | refine below_set ?_ GB15.out) | exact HB.out)⟩⟩
                  · rw [if_neg c13] at H
                    exact absurd H (by simp)
                · rw [if_neg c11] at H
                  exact absurd H (by simp)
              · rw [if_neg c10] at H
                exact absurd H (by simp)
            · rw [if_neg c9] at H
              exact absurd H (by simp)
          · rw [if_neg c7] at H
            have c7b0 : decide (x4_1 < (l0.length : Int)) = false := decide_eq_false c7
            clear c7
            obtain rfl := Option.some.inj H
            go_wp2
            go_ret
            exact ⟨_, by first | rfl | (simp [errW_none, errW_some] <;> rfl) | (simp only [← hji2]; first | rfl | (simp [errW_none, errW_some] <;> rfl)) | (simp [*, errW_none, errW_some] <;> rfl), by (with_reducible repeat (first | apply Kd.R_alloc | apply Kd.R_drewN | apply Kd.R_drew)); exact HO_3.out, by repeat (first | (with_reducible first | exact HB.out | apply below_alloc | apply pw_below_drewN | apply below_drew1) | exact HB.out)⟩
    · rw [if_neg c4] at H
      exact absurd H (by simp)
  · rw [if_neg c3] at H
    exact absurd H (by simp)

end Go.Proofs.YtmlbppfcpejlpaaDoor.X

-- Printed by this session's own program (wip/xprint.py) over the translation; its external functions are hand-written. Lean checks it.
namespace Go.Proofs.YtmlbppfcpejlpaaDoor.X
open Go.RowKit Go.Proofs.YtmlbppfcpejlpaaDoorW.PrintWords Go.Proofs.YtmlbppfcpejlpaaDoorW.PrintLast Go.Proofs.YtmlbppfcpejlpaaDoorW.PrintMore
attribute [local go_sem] max2_int min2_int max_two min_two max_three min_three max_four min_four   -- for this text's walks alone
set_option linter.unusedVariables false
set_option linter.unusedSimpArgs false

/-! ### rickref04_Put: function 25 -/
def rickref04_Put.l0 : Nat → List Int → Int → Int → Option (List Int)
  | 0, _, _, _ => none
  | k + 1, x0, x1, x7 => if x7 ≥ 0 then (if 0 ≤ x7 then (if x0.length < 140737488355328 then (rickref04_Put.l0 k (x0 ++ [(Go.bits .and .u64 (shr .u64 x1 x7) 1) % 256]) x1 (wrap64 (x7 - 1))) else (none)) else (none)) else (some x0)
def rickref04_Put.f (k : Nat) (l0 : List Int) (a1 : Int) (a2 : Int) : Option (List Int) := rickref04_Put.l0 k l0 a1 ((mn (mx a2 0) 64) - 1)
theorem rickref04_Put.mono_l : ∀ k, (∀ y0 y1 y2, LeO (rickref04_Put.l0 k y0 y1 y2) (rickref04_Put.l0 (k + 1) y0 y1 y2))
  | 0 => fun _ _ _ r h => by simp [rickref04_Put.l0] at h
  | k + 1 => by
    have ih0 := rickref04_Put.mono_l k
    · intro y0 y1 y2
      unfold rickref04_Put.l0
      repeat' first
      | (with_reducible exact ih0 _ _ _)
      | (with_reducible exact LeO.refl _)
      | (with_reducible exact LeO.none _)
      | (with_reducible refine LeO.ite ?_ ?_)
      | (with_reducible refine LeO.bind ?_ (fun _ => ?_))
      | exact ih0 _ _ _
      | exact LeO.none _
      | refine LeO.ite ?_ ?_
      | refine LeO.bind ?_ (fun _ => ?_)
theorem rickref04_Put.mono : ∀ a0 a1 a2 k, LeO (rickref04_Put.f k a0 a1 a2) (rickref04_Put.f (k + 1) a0 a1 a2) := by
  intro a0 a1 a2 k
  have ih0 := rickref04_Put.mono_l k
  unfold rickref04_Put.f
  repeat' first
      | (with_reducible exact ih0 _ _ _)
      | (with_reducible exact LeO.refl _)
      | (with_reducible exact LeO.none _)
      | (with_reducible refine LeO.ite ?_ ?_)
      | (with_reducible refine LeO.bind ?_ (fun _ => ?_))
      | exact ih0 _ _ _
      | exact LeO.none _
      | refine LeO.ite ?_ ?_
      | refine LeO.bind ?_ (fun _ => ?_)
set_option maxHeartbeats 8000000 in
set_option maxRecDepth 100000 in
theorem rickref04_Put.calls (k : Nat) (P0_ : Nat → Prop) (u9000_ : Value) (l0 : List Int) (a1 : Int) (a2 : Int) (r : List Int) (w0 w : World) (hB : Below w0.heap.size w0 w) (ho0 : Kd.R (Kd.int .u8) 5 w w0.heap.size P0_ u9000_ l0) (h : rickref04_Put.f k l0 a1 a2 = some r) :
    Calls Tryd.prog 25 #[u9000_, .int .u64 a1, .int .i64 a2] w fun e w' => ∃ v0_ : Value, e = .returned (v0_) ∧ Kd.R (Kd.int .u8) 5 w' w0.heap.size (fun k_ => (P0_ k_ ∨ w.heap.size ≤ k_)) v0_ r ∧ Below w0.heap.size w0 w' ∧ Kept w w' (fun k_ => P0_ k_) := by
  have HO0 := Aside0.mk (show Kd.R (Kd.int .u8) 5 w w0.heap.size (fun k_ => (P0_ k_ ∨ w.heap.size ≤ k_)) u9000_ l0 from Kd.R_mono ho0 (fun k_ hk => (.inl hk)))
  have HK := Aside0.mk (Kept.refl w (fun k_ => P0_ k_))
  have HW0 := Aside0.mk hB.size
  have HB := Aside0.mk hB
  clear hB
  have H : (rickref04_Put.l0 k l0 a1 ((mn (mx a2 0) 64) - 1)) = some r := h
  clear h
  obtain ⟨ji4, hji4⟩ : ∃ j_ : Int, (mx a2 0) = j_ := ⟨_, rfl⟩
  replace H : (rickref04_Put.l0 k l0 a1 ((mn (ji4) 64) - 1)) = some r := by first | (rw [hji4] at H; exact H) | (simp only [hji4] at H ⊢; exact H)
  (try (have hji4l : 0 ≤ ji4 := by (rw [← hji4]; unfold mx; (repeat' split) <;> omega)))
  (try (have hji4m : 0 ≤ ji4 := by omega))
  have hji4_ : (if a2 < 0 then 0 else a2) = ji4 := hji4
  obtain ⟨ji5, hji5⟩ : ∃ j_ : Int, (mn (ji4) 64) = j_ := ⟨_, rfl⟩
  replace H : (rickref04_Put.l0 k l0 a1 ((ji5) - 1)) = some r := by first | (rw [hji5] at H; exact H) | (simp only [hji5] at H ⊢; exact H)
  have hji5_ : (if 64 < (ji4) then 64 else (ji4)) = ji5 := hji5
  have H' := Aside0.mk H
  clear H
  go_enter Tryd.func25, Tryd.ntmps25
  go_wp2
  go_loopg [0, 7] k (fun kq v0 v7 w' => ∃ (x0_1 : List Int) (x7_1 : Int), v7 = .int .i64 x7_1 ∧ Aside0 (rickref04_Put.l0 kq x0_1 a1 x7_1 = some r) ∧ Aside0 (kq ≤ k) ∧ Aside0 (Kd.R (Kd.int .u8) 5 w' w0.heap.size (fun k_ => (P0_ k_ ∨ w.heap.size ≤ k_)) v0 x0_1) ∧ Aside0 (Kept w w' (fun k_ => P0_ k_)) ∧ Aside0 (Below w0.heap.size w0 w'))
  case atStart => exact ⟨(l0), ((ji5) - 1), (by first | rfl | (simp; done) | (simp only [← hji5] <;> (first | rfl | simp)) | (simp [*]; done)), H', ⟨Nat.le_refl _⟩, ⟨by (with_reducible repeat (first | apply Kd.R_alloc | apply Kd.R_drewN | apply Kd.R_drew)); exact HO0.out⟩, ⟨by repeat (first | (with_reducible first | exact HK.out | apply Kept.alloc | apply Kept.drewN | apply Kept.drew) | exact HK.out)⟩, ⟨by repeat (first | (with_reducible first | exact HB.out | apply below_alloc | apply pw_below_drewN | apply below_drew1) | exact HB.out)⟩⟩
  case round =>
    clear H'
    try clear c2
    try clear p2
    obtain ⟨x0_1, x7_1, rfl, HA, HK1, HO_0, HK, HB⟩ := hrel
    cases gk with
    | zero => exact absurd HA.out (by simp [rickref04_Put.l0])
    | succ k1 =>
      have H := HA.out
      clear HA
      simp only [rickref04_Put.l0] at H
      by_cases c6 : x7_1 ≥ 0
      · rw [if_pos c6] at H
        have c6b0 : decide (0 ≤ x7_1) = true := decide_eq_true c6
        clear c6
        by_cases c7 : 0 ≤ x7_1
        · rw [if_pos c7] at H
          have c7b0 := eq_true c7
          have c7b1 : decide (0 ≤ x7_1) = true := decide_eq_true c7
          clear c7
          obtain ⟨ji8, hji8⟩ : ∃ j_ : Int, (shr .u64 a1 x7_1) = j_ := ⟨_, rfl⟩
          replace H : (if x0_1.length < 140737488355328 then (rickref04_Put.l0 k1 (x0_1 ++ [(Go.bits .and .u64 (ji8) 1) % 256]) a1 (wrap64 (x7_1 - 1))) else (none)) = some r := by first | (rw [hji8] at H; exact H) | (simp only [hji8] at H ⊢; exact H)
          have hji8_ : (a1 / 2 ^ min x7_1.toNat 64) = ji8 := hji8
          have hji8z : x7_1 ≤ 64 → (a1 / 2 ^ x7_1.toNat) = ji8 := shr_small hji8
          by_cases c9 : x0_1.length < 140737488355328
          · rw [if_pos c9] at H
            have LMc9 := Aside0.mk c9
            clear c9
            obtain ⟨y106, hy106⟩ : ∃ y_ : List Int, y_ = (x0_1 ++ [(Go.bits .and .u64 (ji8) 1) % 256]) := ⟨_, rfl⟩
            replace H : (rickref04_Put.l0 k1 y106 a1 (wrap64 (x7_1 - 1))) = some r := by first | (rw [hy106]; with_reducible exact H) | (have H2_ := (Option.bind_some _ _).symm.trans H; rw [hy106]; with_reducible exact H2_) | (have H2_ := (Option.bind_some _ _).symm.trans H; with_reducible exact H2_) | with_reducible exact H | (rw [hy106]; exact H) | exact H
            have Ny106 := Aside0.mk hy106
            clear hy106
            have H' := Aside0.mk H
            clear H
            go_wp2_with (first | ((with_reducible refine gate_builtin (b := .append) (xs := #[.tmp 16, .tmp 22]) rfl ?_); at_builtin; refine Kd.R_append (Kd.int .u8) (w0 := w0) w0.heap.size rfl (.tmp 16) (.tmp 22) 23 5 (.int .u8 0) 1 rfl Tryd.underlying23 info5 rfl (by decide) (by omega) u0 x0_1 ((Go.bits .and .u64 (ji8) 1) % 256) [.int .u8 ((Go.bits .and .u64 (ji8) 1) % 256)] (fun k_ => (P0_ k_ ∨ w.heap.size ≤ k_)) (fun _ => False) rfl rfl ?aP (fun _ hk => hk.elim) ?aF ?aO ?aB ?aS ?aL ?_; (case aP => exact rfl); (case aB => exact (by repeat (first | (with_reducible first | exact HB.out | apply below_alloc | apply pw_below_drewN | apply below_drew1) | exact HB.out))); (case aF => exact (fun k_ hk => (.inr (Nat.le_trans (by first | exact HK.out.1 | exact (show Kept w _ (fun k_ => P0_ k_) from by repeat (first | (with_reducible first | exact HK.out | apply Kept.alloc | apply Kept.drewN | apply Kept.drew) | exact HK.out)).1) hk)))); (case aO => exact (by (with_reducible repeat (first | apply Kd.R_alloc | apply Kd.R_drewN | apply Kd.R_drew)); exact HO_0.out)); (case aS => exact (below_size (by repeat (first | (with_reducible first | exact HB.out | apply below_alloc | apply pw_below_drewN | apply below_drew1) | exact HB.out)))); (case aL => have := LMc9.out; omega); intro v107 w10 ho hb hg hat; rw [← Ny106.out] at ho; have n0_ := Aside0.mk (hb); have n1_ := Aside0.mk (Kept.of_grown (S := (fun k_ => P0_ k_)) hg (by repeat (first | (with_reducible first | exact HK.out | apply Kept.alloc | apply Kept.drewN | apply Kept.drew) | exact HK.out)) (fun k_ e_ => (HO_0.out.1 k_ e_))); have n2_ := Aside0.mk (ho); clear HB; clear HK; clear HO_0; have HB := n0_; have HK := n1_; have HO108 := n2_; clear n0_ n1_ n2_; clear ho hb hg hat))
            go_roundg k1
            case measure => have := HK1.out; omega
            case rel => exact ⟨(y106), (wrap64 (x7_1 - 1)), (by first | rfl | (simp; done) | (simp [*]; done)), H', ⟨by have := HK1.out; omega⟩, ⟨by (with_reducible repeat (first | apply Kd.R_alloc | apply Kd.R_drewN | apply Kd.R_drew)); exact HO108.out⟩, ⟨by repeat (first | (with_reducible first | exact HK.out | apply Kept.alloc | apply Kept.drewN | apply Kept.drew) | exact HK.out)⟩, ⟨by repeat (first | (with_reducible first | exact HB.out | apply below_alloc | apply pw_below_drewN | apply below_drew1) | exact HB.out)⟩⟩
          · rw [if_neg c9] at H
            exact absurd H (by simp)
        · rw [if_neg c7] at H
          exact absurd H (by simp)
      · rw [if_neg c6] at H
        have c6b0 : decide (0 ≤ x7_1) = false := decide_eq_false c6
        clear c6
        obtain rfl := Option.some.inj H
        go_wp2
        go_ret
        exact ⟨_, by first | rfl | (simp [errW_none, errW_some] <;> rfl) | (simp only [← hji4, ← hji5]; first | rfl | (simp [errW_none, errW_some] <;> rfl)) | (simp [*, errW_none, errW_some] <;> rfl), by (with_reducible repeat (first | apply Kd.R_alloc | apply Kd.R_drewN | apply Kd.R_drew)); exact HO_0.out, by repeat (first | (with_reducible first | exact HB.out | apply below_alloc | apply pw_below_drewN | apply below_drew1) | exact HB.out), by repeat (first | (with_reducible first | exact HK.out | apply Kept.alloc | apply Kept.drewN | apply Kept.drew) | exact HK.out)⟩

end Go.Proofs.YtmlbppfcpejlpaaDoor.X

-- Printed by this session's own program (wip/xprint.py) over the translation; its external functions are hand-written. Lean checks it.
namespace Go.Proofs.YtmlbppfcpejlpaaDoor.X
open Go.RowKit Go.Proofs.YtmlbppfcpejlpaaDoorW.PrintWords Go.Proofs.YtmlbppfcpejlpaaDoorW.PrintLast Go.Proofs.YtmlbppfcpejlpaaDoorW.PrintMore
attribute [local go_sem] max2_int min2_int max_two min_two max_three min_three max_four min_four   -- for this text's walks alone
set_option linter.unusedVariables false
set_option linter.unusedSimpArgs false

/-! ### rickref08_Put: function 11 -/
mutual
def rickref08_Put.l0 : Nat → List Int → List Int → Int → Option (List Int)
  | 0, _, _, _ => none
  | k + 1, x0, x3, x4 => if x4 < (x0.length : Int) then (if x4 = 0 then (if 0 < (x0.length : Int) then ((rickref04_Put.f k x3 (rd x0 0) 64).bind fun t119 => (rickref08_Put.l0 k x0 t119 (wrap64 (x4 + 1)))) else (none)) else (if 0 ≤ x4 then (if 0 ≤ (wrap64 (x4 - 1)) then (if (wrap64 (x4 - 1)) < (x0.length : Int) then (if (Go.bits .xor .u64 (rd x0 x4) (rd x0 (wrap64 (x4 - 1)))) = 0 then ((rickref04_Put.f k x3 0 1).bind fun t124 => (rickref08_Put.l0 k x0 t124 (wrap64 (x4 + 1)))) else (rickref08_Put.l1 k x0 x3 x4 (Go.bits .xor .u64 (rd x0 x4) (rd x0 (wrap64 (x4 - 1)))) 0 0)) else (none)) else (none)) else (none))) else ((rickref04_Bytes.f k x3).bind fun t115 => (some t115))
def rickref08_Put.l1 : Nat → List Int → List Int → Int → Int → Int → Int → Option (List Int)
  | 0, _, _, _, _, _, _ => none
  | k + 1, x0, x3, x4, x5, x6, x7 => if 0 ≤ (wrap64 (63 - x6)) then (if (Go.bits .and .u64 (shr .u64 x5 (wrap64 (63 - x6))) 1) = 0 then (rickref08_Put.l1 k x0 x3 x4 x5 (wrap64 (x6 + 1)) x7) else (rickref08_Put.l2 k x0 x3 x4 x5 x6 x7)) else (none)
def rickref08_Put.l2 : Nat → List Int → List Int → Int → Int → Int → Int → Option (List Int)
  | 0, _, _, _, _, _, _ => none
  | k + 1, x0, x3, x4, x5, x6, x7 => if 0 ≤ x7 then (if (Go.bits .and .u64 (shr .u64 x5 x7) 1) = 0 then (rickref08_Put.l2 k x0 x3 x4 x5 x6 (wrap64 (x7 + 1))) else ((rickref04_Put.f k x3 1 1).bind fun t127 => ((rickref04_Put.f k t127 (IntKind.u64.wrap (x6)) 6).bind fun t130 => ((rickref04_Put.f k t130 (IntKind.u64.wrap (wrap64 ((wrap64 ((wrap64 (64 - x6)) - x7)) - 1))) 6).bind fun t133 => ((rickref04_Put.f k t133 (shr .u64 x5 x7) (wrap64 ((wrap64 (64 - x6)) - x7))).bind fun t136 => (rickref08_Put.l0 k x0 t136 (wrap64 (x4 + 1)))))))) else (none)
end
def rickref08_Put.f (k : Nat) (l0 : List Int) : Option (List Int) := rickref08_Put.l0 k l0 ([] : List Int) 0
theorem rickref08_Put.mono_l : ∀ k, (∀ y0 y1 y2, LeO (rickref08_Put.l0 k y0 y1 y2) (rickref08_Put.l0 (k + 1) y0 y1 y2)) ∧ (∀ y0 y1 y2 y3 y4 y5, LeO (rickref08_Put.l1 k y0 y1 y2 y3 y4 y5) (rickref08_Put.l1 (k + 1) y0 y1 y2 y3 y4 y5)) ∧ (∀ y0 y1 y2 y3 y4 y5, LeO (rickref08_Put.l2 k y0 y1 y2 y3 y4 y5) (rickref08_Put.l2 (k + 1) y0 y1 y2 y3 y4 y5))
  | 0 => ⟨fun _ _ _ r h => by simp [rickref08_Put.l0] at h, fun _ _ _ _ _ _ r h => by simp [rickref08_Put.l1] at h, fun _ _ _ _ _ _ r h => by simp [rickref08_Put.l2] at h⟩
  | k + 1 => by
    obtain ⟨ih0, ih1, ih2⟩ := rickref08_Put.mono_l k
    refine ⟨?_, ?_, ?_⟩
    · intro y0 y1 y2
      unfold rickref08_Put.l0
      repeat' first
      | (with_reducible exact ih0 _ _ _)
      | (with_reducible exact ih1 _ _ _ _ _ _)
      | (with_reducible exact ih2 _ _ _ _ _ _)
      | (with_reducible exact rickref04_Bytes.mono _ _)
      | (with_reducible exact rickref04_Put.mono _ _ _ _)
      | (with_reducible exact LeO.refl _)
      | (with_reducible exact LeO.none _)
      | (with_reducible refine LeO.ite ?_ ?_)
      | (with_reducible refine LeO.bind ?_ (fun _ => ?_))
      | exact ih0 _ _ _
      | exact ih1 _ _ _ _ _ _
      | exact ih2 _ _ _ _ _ _
      | exact rickref04_Bytes.mono _ _
      | exact rickref04_Put.mono _ _ _ _
      | exact LeO.none _
      | refine LeO.ite ?_ ?_
      | refine LeO.bind ?_ (fun _ => ?_)
    · intro y0 y1 y2 y3 y4 y5
      unfold rickref08_Put.l1
      repeat' first
      | (with_reducible exact ih0 _ _ _)
      | (with_reducible exact ih1 _ _ _ _ _ _)
      | (with_reducible exact ih2 _ _ _ _ _ _)
      | (with_reducible exact rickref04_Bytes.mono _ _)
      | (with_reducible exact rickref04_Put.mono _ _ _ _)
      | (with_reducible exact LeO.refl _)
      | (with_reducible exact LeO.none _)
      | (with_reducible refine LeO.ite ?_ ?_)
      | (with_reducible refine LeO.bind ?_ (fun _ => ?_))
      | exact ih0 _ _ _
      | exact ih1 _ _ _ _ _ _
      | exact ih2 _ _ _ _ _ _
      | exact rickref04_Bytes.mono _ _
      | exact rickref04_Put.mono _ _ _ _
      | exact LeO.none _
      | refine LeO.ite ?_ ?_
      | refine LeO.bind ?_ (fun _ => ?_)
    · intro y0 y1 y2 y3 y4 y5
      unfold rickref08_Put.l2
      repeat' first
      | (with_reducible exact ih0 _ _ _)
      | (with_reducible exact ih1 _ _ _ _ _ _)
      | (with_reducible exact ih2 _ _ _ _ _ _)
      | (with_reducible exact rickref04_Bytes.mono _ _)
      | (with_reducible exact rickref04_Put.mono _ _ _ _)
      | (with_reducible exact LeO.refl _)
      | (with_reducible exact LeO.none _)
      | (with_reducible refine LeO.ite ?_ ?_)
      | (with_reducible refine LeO.bind ?_ (fun _ => ?_))
      | exact ih0 _ _ _
      | exact ih1 _ _ _ _ _ _
      | exact ih2 _ _ _ _ _ _
      | exact rickref04_Bytes.mono _ _
      | exact rickref04_Put.mono _ _ _ _
      | exact LeO.none _
      | refine LeO.ite ?_ ?_
      | refine LeO.bind ?_ (fun _ => ?_)
theorem rickref08_Put.mono : ∀ a0 k, LeO (rickref08_Put.f k a0) (rickref08_Put.f (k + 1) a0) := by
  intro a0 k
  obtain ⟨ih0, ih1, ih2⟩ := rickref08_Put.mono_l k
  unfold rickref08_Put.f
  repeat' first
      | (with_reducible exact ih0 _ _ _)
      | (with_reducible exact ih1 _ _ _ _ _ _)
      | (with_reducible exact ih2 _ _ _ _ _ _)
      | (with_reducible exact rickref04_Bytes.mono _ _)
      | (with_reducible exact rickref04_Put.mono _ _ _ _)
      | (with_reducible exact LeO.refl _)
      | (with_reducible exact LeO.none _)
      | (with_reducible refine LeO.ite ?_ ?_)
      | (with_reducible refine LeO.bind ?_ (fun _ => ?_))
      | exact ih0 _ _ _
      | exact ih1 _ _ _ _ _ _
      | exact ih2 _ _ _ _ _ _
      | exact rickref04_Bytes.mono _ _
      | exact rickref04_Put.mono _ _ _ _
      | exact LeO.none _
      | refine LeO.ite ?_ ?_
      | refine LeO.bind ?_ (fun _ => ?_)
set_option maxHeartbeats 8000000 in
set_option maxRecDepth 100000 in
theorem rickref08_Put.calls (k : Nat) (A0 : Option Addr) (c0 : Nat) (l0 : List Int) (r : List Int) (w : World) (hr0 : Kd.C (Kd.int .u64) w A0 l0.length l0) (hc0 : l0.length ≤ c0) (h : rickref08_Put.f k l0 = some r) :
    Calls Tryd.prog 11 #[.slice A0 l0.length c0] w fun e w' => ∃ v0_ : Value, e = .returned (v0_) ∧ Kd.R (Kd.int .u8) 5 w' w.heap.size (fun _ => True) v0_ r ∧ Below w.heap.size w w' := by
  have HR0 := Aside0.mk hr0
  have HC0 := Aside0.mk hc0
  clear hr0 hc0
  have HB := Aside0.mk (Below.refl w.heap.size w)
  have H : (rickref08_Put.l0 k l0 ([] : List Int) 0) = some r := h
  clear h
  have H' := Aside0.mk H
  clear H
  go_enter Tryd.func11, Tryd.ntmps11
  go_wp2
  repeat (go_quiet (fail); try go_wp2)
  go_loopg [3, 4] k (fun kq v3 v4 w' => ∃ (x3_1 : List Int) (x4_1 : Int), v4 = .int .i64 x4_1 ∧ Aside0 (rickref08_Put.l0 kq l0 x3_1 x4_1 = some r) ∧ Aside0 (kq ≤ k) ∧ Aside0 (Kd.R (Kd.int .u8) 5 w' w.heap.size (fun _ => True) v3 x3_1) ∧ Aside0 (Below w.heap.size w w'))
  case atStart => exact ⟨(([] : List Int)), (0), (by first | rfl | (simp; done) | (simp [*]; done)), H', ⟨Nat.le_refl _⟩, ⟨by first | exact Kd.R_nil _ _ _ _ _ | exact Kd.N_nil _ _ _ _ _ | exact Kd.V_nil _ _ _ _ _ | exact Kd.Q_nil _ _ _ _ _ | exact Kd.S_nil _ _ _ _ _⟩, ⟨by repeat (first | (with_reducible first | exact HB.out | apply below_alloc | apply pw_below_drewN | apply below_drew1) | exact HB.out)⟩⟩
  case round =>
    clear H'
    try clear c1
    obtain ⟨x3_1, x4_1, rfl, HA, HK1, HO_3, HB⟩ := hrel
    cases gk with
    | zero => exact absurd HA.out (by simp [rickref08_Put.l0])
    | succ k1 =>
      have H := HA.out
      clear HA
      simp only [rickref08_Put.l0] at H
      by_cases c2 : x4_1 < (l0.length : Int)
      · rw [if_pos c2] at H
        have c2b0 : decide (x4_1 < (l0.length : Int)) = true := decide_eq_true c2
        clear c2
        by_cases c3 : x4_1 = 0
        · rw [if_pos c3] at H
          have c3b0 : (x4_1 == 0) = true := beq_iff_eq.mpr c3
          have c3b1 : (x4_1 != 0) = false := bne_eq_false_iff_eq.mpr c3
          clear c3
          by_cases c4 : 0 < (l0.length : Int)
          · rw [if_pos c4] at H
            have c4b0 : decide (0 < (l0.length : Int)) = true := decide_eq_true c4
            have c4b1 : decide (0 < l0.length) = true := decide_eq_true (by omega)
            clear c4
            replace H := Option.bind_eq_some_iff.mp H
            obtain ⟨t119, A50, H⟩ := H
            replace H : (rickref08_Put.l0 k1 l0 t119 (wrap64 (x4_1 + 1))) = some r := H
            have A5 := Aside0.mk A50
            clear A50
            have H' := Aside0.mk H
            clear H
            have p118 : 0 ≤ (0 : Int) := (by omega)
            have q118 : 0 < (l0.length : Int) := of_decide_eq_true (by first | (with_reducible assumption) | assumption)
            obtain ⟨ad118, e118, hx118_0⟩ := Kd.at_int HR0.out 0 p118 q118
            cases e118
            have qi118 : (0 < l0.length) = True := eq_true (by omega)
            (try rw [show ((0 : Int)).toNat = 0 from rfl] at hx118_0)
            (try rw [Addr.add_zero'] at hx118_0)
            replace hx118_0 := (HB.out.cell (World.block_lt_of_cell? w _ hx118_0)).trans hx118_0
            replace p118 := eq_true p118
            replace q118 := eq_true q118
            obtain ⟨Ao6, co6, eo6⟩ := Kd.R_slice HO_3.out
            subst eo6
            go_wp2_with (first | (go_at_call 25; (with_reducible refine (rickref04_Put.calls k1 (fun k_ => some k_ = (.slice Ao6 x3_1.length co6 : Value).ownBlock) (.slice Ao6 x3_1.length co6) x3_1 (rd l0 0) 64 t119 w _ ?side1 ?side2 A5.out).mono ?_); (case side1 => repeat (first | (with_reducible first | exact HB.out | apply below_alloc | apply pw_below_drewN | apply below_drew1) | exact HB.out)); (case side2 => exact Kd.R_tight rfl HO_3.out); rintro e w7 ⟨v120, rfl, ho0, hb, hkp⟩; have n0_ := Aside0.mk (Kd.R_mono (ok' := fun k_ => True) ho0 (fun k_ hk_ => trivial)); have n1_ := Aside0.mk (hb); clear HB; clear HO_3; have HO121 := n0_; have HB := n1_; clear n0_ n1_; (try clear hb); (try clear hkp); (try clear ho0)))
            repeat (go_quiet (first | (go_at_call 25; (with_reducible refine (rickref04_Put.calls k1 (fun k_ => some k_ = (.slice Ao6 x3_1.length co6 : Value).ownBlock) (.slice Ao6 x3_1.length co6) x3_1 (rd l0 0) 64 t119 w _ ?side1 ?side2 A5.out).mono ?_); (case side1 => repeat (first | (with_reducible first | exact HB.out | apply below_alloc | apply pw_below_drewN | apply below_drew1) | exact HB.out)); (case side2 => exact Kd.R_tight rfl HO_3.out); rintro e w7 ⟨v120, rfl, ho0, hb, hkp⟩; have n0_ := Aside0.mk (Kd.R_mono (ok' := fun k_ => True) ho0 (fun k_ hk_ => trivial)); have n1_ := Aside0.mk (hb); clear HB; clear HO_3; have HO121 := n0_; have HB := n1_; clear n0_ n1_; (try clear hb); (try clear hkp); (try clear ho0))); try go_wp2_with (first | (go_at_call 25; (with_reducible refine (rickref04_Put.calls k1 (fun k_ => some k_ = (.slice Ao6 x3_1.length co6 : Value).ownBlock) (.slice Ao6 x3_1.length co6) x3_1 (rd l0 0) 64 t119 w _ ?side1 ?side2 A5.out).mono ?_); (case side1 => repeat (first | (with_reducible first | exact HB.out | apply below_alloc | apply pw_below_drewN | apply below_drew1) | exact HB.out)); (case side2 => exact Kd.R_tight rfl HO_3.out); rintro e w7 ⟨v120, rfl, ho0, hb, hkp⟩; have n0_ := Aside0.mk (Kd.R_mono (ok' := fun k_ => True) ho0 (fun k_ hk_ => trivial)); have n1_ := Aside0.mk (hb); clear HB; clear HO_3; have HO121 := n0_; have HB := n1_; clear n0_ n1_; (try clear hb); (try clear hkp); (try clear ho0))))
            go_roundg k1
            case measure => have := HK1.out; omega
            case rel => exact ⟨(t119), (wrap64 (x4_1 + 1)), (by first | rfl | (simp; done) | (simp [*]; done)), H', ⟨by have := HK1.out; omega⟩, ⟨by (with_reducible repeat (first | apply Kd.R_alloc | apply Kd.R_drewN | apply Kd.R_drew)); exact HO121.out⟩, ⟨by repeat (first | (with_reducible first | exact HB.out | apply below_alloc | apply pw_below_drewN | apply below_drew1) | exact HB.out)⟩⟩
          · rw [if_neg c4] at H
            exact absurd H (by simp)
        · rw [if_neg c3] at H
          have c3b0 : (x4_1 == 0) = false := beq_eq_false_iff_ne.mpr c3
          have c3b1 : (x4_1 != 0) = true := bne_iff_ne.mpr c3
          by_cases c8 : 0 ≤ x4_1
          · rw [if_pos c8] at H
            have c8b0 : decide (0 ≤ x4_1) = true := decide_eq_true c8
            clear c8
            obtain ⟨ji9, hji9⟩ : ∃ j_ : Int, (wrap64 (x4_1 - 1)) = j_ := ⟨_, rfl⟩
            replace H : (if 0 ≤ (ji9) then (if (ji9) < (l0.length : Int) then (if (Go.bits .xor .u64 (rd l0 x4_1) (rd l0 (ji9))) = 0 then ((rickref04_Put.f k1 x3_1 0 1).bind fun t124 => (rickref08_Put.l0 k1 l0 t124 (wrap64 (x4_1 + 1)))) else (rickref08_Put.l1 k1 l0 x3_1 x4_1 (Go.bits .xor .u64 (rd l0 x4_1) (rd l0 (ji9))) 0 0)) else (none)) else (none)) = some r := by first | (rw [hji9] at H; exact H) | (simp only [hji9] at H ⊢; exact H)
            have hji9w : (IntKind.i64.wrap (x4_1 - 1)) = ji9 := (i64_w _).trans hji9
            by_cases c10 : 0 ≤ (ji9)
            · rw [if_pos c10] at H
              have c10b0 : decide (0 ≤ (ji9)) = true := decide_eq_true c10
              clear c10
              by_cases c11 : (ji9) < (l0.length : Int)
              · rw [if_pos c11] at H
                have c11b0 : decide ((ji9) < (l0.length : Int)) = true := decide_eq_true c11
                clear c11
                by_cases c12 : (Go.bits .xor .u64 (rd l0 x4_1) (rd l0 (ji9))) = 0
                · rw [if_pos c12] at H
                  have c12b0 : ((Go.bits .xor .u64 (rd l0 x4_1) (rd l0 (ji9))) == 0) = true := beq_iff_eq.mpr c12
                  have c12b1 : ((Go.bits .xor .u64 (rd l0 x4_1) (rd l0 (ji9))) != 0) = false := bne_eq_false_iff_eq.mpr c12
                  clear c12
                  replace H := Option.bind_eq_some_iff.mp H
                  obtain ⟨t124, A130, H⟩ := H
                  replace H : (rickref08_Put.l0 k1 l0 t124 (wrap64 (x4_1 + 1))) = some r := H
                  have A13 := Aside0.mk A130
                  clear A130
                  have H' := Aside0.mk H
                  clear H
                  have p122 : 0 ≤ (x4_1 : Int) := of_decide_eq_true (by first | (with_reducible assumption) | assumption)
                  have q122 : x4_1 < (l0.length : Int) := of_decide_eq_true (by first | (with_reducible assumption) | assumption)
                  obtain ⟨ad122, e122, hx122_0⟩ := Kd.at_int HR0.out x4_1 p122 q122
                  cases e122
                  replace hx122_0 := (HB.out.cell (World.block_lt_of_cell? w _ hx122_0)).trans hx122_0
                  replace p122 := eq_true p122
                  replace q122 := eq_true q122
                  have p123 : 0 ≤ ((ji9) : Int) := of_decide_eq_true (by first | (with_reducible assumption) | assumption)
                  have q123 : (ji9) < (l0.length : Int) := of_decide_eq_true (by first | (with_reducible assumption) | assumption)
                  obtain ⟨ad123, e123, hx123_0⟩ := Kd.at_int HR0.out (ji9) p123 q123
                  obtain rfl : ad122 = ad123 := (by injection e123)
                  replace hx123_0 := (HB.out.cell (World.block_lt_of_cell? w _ hx123_0)).trans hx123_0
                  replace p123 := eq_true p123
                  replace q123 := eq_true q123
                  obtain ⟨Ao14, co14, eo14⟩ := Kd.R_slice HO_3.out
                  subst eo14
                  go_wp2_with (first | (go_at_call 25; (with_reducible refine (rickref04_Put.calls k1 (fun k_ => some k_ = (.slice Ao14 x3_1.length co14 : Value).ownBlock) (.slice Ao14 x3_1.length co14) x3_1 0 1 t124 w _ ?side1 ?side2 A13.out).mono ?_); (case side1 => repeat (first | (with_reducible first | exact HB.out | apply below_alloc | apply pw_below_drewN | apply below_drew1) | exact HB.out)); (case side2 => exact Kd.R_tight rfl HO_3.out); rintro e w15 ⟨v125, rfl, ho0, hb, hkp⟩; have n0_ := Aside0.mk (Kd.R_mono (ok' := fun k_ => True) ho0 (fun k_ hk_ => trivial)); have n1_ := Aside0.mk (hb); clear HB; clear HO_3; have HO126 := n0_; have HB := n1_; clear n0_ n1_; (try clear hb); (try clear hkp); (try clear ho0)))
                  repeat (go_quiet (first | (go_at_call 25; (with_reducible refine (rickref04_Put.calls k1 (fun k_ => some k_ = (.slice Ao14 x3_1.length co14 : Value).ownBlock) (.slice Ao14 x3_1.length co14) x3_1 0 1 t124 w _ ?side1 ?side2 A13.out).mono ?_); (case side1 => repeat (first | (with_reducible first | exact HB.out | apply below_alloc | apply pw_below_drewN | apply below_drew1) | exact HB.out)); (case side2 => exact Kd.R_tight rfl HO_3.out); rintro e w15 ⟨v125, rfl, ho0, hb, hkp⟩; have n0_ := Aside0.mk (Kd.R_mono (ok' := fun k_ => True) ho0 (fun k_ hk_ => trivial)); have n1_ := Aside0.mk (hb); clear HB; clear HO_3; have HO126 := n0_; have HB := n1_; clear n0_ n1_; (try clear hb); (try clear hkp); (try clear ho0))); try go_wp2_with (first | (go_at_call 25; (with_reducible refine (rickref04_Put.calls k1 (fun k_ => some k_ = (.slice Ao14 x3_1.length co14 : Value).ownBlock) (.slice Ao14 x3_1.length co14) x3_1 0 1 t124 w _ ?side1 ?side2 A13.out).mono ?_); (case side1 => repeat (first | (with_reducible first | exact HB.out | apply below_alloc | apply pw_below_drewN | apply below_drew1) | exact HB.out)); (case side2 => exact Kd.R_tight rfl HO_3.out); rintro e w15 ⟨v125, rfl, ho0, hb, hkp⟩; have n0_ := Aside0.mk (Kd.R_mono (ok' := fun k_ => True) ho0 (fun k_ hk_ => trivial)); have n1_ := Aside0.mk (hb); clear HB; clear HO_3; have HO126 := n0_; have HB := n1_; clear n0_ n1_; (try clear hb); (try clear hkp); (try clear ho0))))
                  go_roundg k1
                  case measure => have := HK1.out; omega
                  case rel => exact ⟨(t124), (wrap64 (x4_1 + 1)), (by first | rfl | (simp; done) | (simp [*]; done)), H', ⟨by have := HK1.out; omega⟩, ⟨by (with_reducible repeat (first | apply Kd.R_alloc | apply Kd.R_drewN | apply Kd.R_drew)); exact HO126.out⟩, ⟨by repeat (first | (with_reducible first | exact HB.out | apply below_alloc | apply pw_below_drewN | apply below_drew1) | exact HB.out)⟩⟩
                · rw [if_neg c12] at H
                  have c12b0 : ((Go.bits .xor .u64 (rd l0 x4_1) (rd l0 (ji9))) == 0) = false := beq_eq_false_iff_ne.mpr c12
                  have c12b1 : ((Go.bits .xor .u64 (rd l0 x4_1) (rd l0 (ji9))) != 0) = true := bne_iff_ne.mpr c12
                  have H' := Aside0.mk H
                  clear H
                  have p122 : 0 ≤ (x4_1 : Int) := of_decide_eq_true (by first | (with_reducible assumption) | assumption)
                  have q122 : x4_1 < (l0.length : Int) := of_decide_eq_true (by first | (with_reducible assumption) | assumption)
                  obtain ⟨ad122, e122, hx122_0⟩ := Kd.at_int HR0.out x4_1 p122 q122
                  cases e122
                  replace hx122_0 := (HB.out.cell (World.block_lt_of_cell? w _ hx122_0)).trans hx122_0
                  replace p122 := eq_true p122
                  replace q122 := eq_true q122
                  have p123 : 0 ≤ ((ji9) : Int) := of_decide_eq_true (by first | (with_reducible assumption) | assumption)
                  have q123 : (ji9) < (l0.length : Int) := of_decide_eq_true (by first | (with_reducible assumption) | assumption)
                  obtain ⟨ad123, e123, hx123_0⟩ := Kd.at_int HR0.out (ji9) p123 q123
                  obtain rfl : ad122 = ad123 := (by injection e123)
                  replace hx123_0 := (HB.out.cell (World.block_lt_of_cell? w _ hx123_0)).trans hx123_0
                  replace p123 := eq_true p123
                  replace q123 := eq_true q123
                  go_wp2
                  repeat (go_quiet (fail); try go_wp2)
                  go_loopg [6] k1 (fun kq v6 w' => ∃ (x6_2 : Int), v6 = .int .i64 x6_2 ∧ Aside0 (rickref08_Put.l1 kq l0 x3_1 x4_1 (Go.bits .xor .u64 (rd l0 x4_1) (rd l0 (ji9))) x6_2 0 = some r) ∧ Aside0 (kq ≤ k1) ∧ Aside0 (Kd.R (Kd.int .u8) 5 w' w.heap.size (fun _ => True) u3 x3_1) ∧ Aside0 (Below w.heap.size w w'))
                  case atStart => exact ⟨(0), (by first | rfl | (simp; done) | (simp [*]; done)), H', ⟨Nat.le_refl _⟩, ⟨by (with_reducible repeat (first | apply Kd.R_alloc | apply Kd.R_drewN | apply Kd.R_drew)); exact HO_3.out⟩, ⟨by repeat (first | (with_reducible first | exact HB.out | apply below_alloc | apply pw_below_drewN | apply below_drew1) | exact HB.out)⟩⟩
                  case round =>
                    clear H'
                    try clear c1
                    try clear p1
                    try clear q1
                    try clear hx1
                    try clear qi1
                    try clear c2
                    try clear c2b0
                    try clear p2
                    try clear c3
                    try clear c3b0
                    try clear c3b1
                    try clear c4
                    try clear c4b0
                    try clear c4b1
                    try clear p6
                    try clear c8
                    try clear c8b0
                    try clear c10
                    try clear c10b0
                    try clear c11
                    try clear c11b0
                    try clear p11
                    try clear q11
                    try clear hx11
                    try clear qi11
                    try clear c12
                    try clear c12b0
                    try clear c12b1
                    try clear p12
                    try clear q12
                    try clear hx12
                    try clear hx118_0
                    try clear hx122_0
                    try clear hx123_0
                    try clear p118
                    try clear p122
                    try clear p123
                    try clear q118
                    try clear q122
                    try clear q123
                    obtain ⟨x6_2, rfl, HA, HK2, HO_3, HB⟩ := hrel
                    cases gk with
                    | zero => exact absurd HA.out (by simp [rickref08_Put.l1])
                    | succ k2 =>
                      have H := HA.out
                      clear HA
                      simp only [rickref08_Put.l1] at H
                      obtain ⟨ji16, hji16⟩ : ∃ j_ : Int, (wrap64 (63 - x6_2)) = j_ := ⟨_, rfl⟩
                      replace H : (if 0 ≤ (ji16) then (if (Go.bits .and .u64 (shr .u64 (Go.bits .xor .u64 (rd l0 x4_1) (rd l0 (ji9))) (ji16)) 1) = 0 then (rickref08_Put.l1 k2 l0 x3_1 x4_1 (Go.bits .xor .u64 (rd l0 x4_1) (rd l0 (ji9))) (wrap64 (x6_2 + 1)) 0) else (rickref08_Put.l2 k2 l0 x3_1 x4_1 (Go.bits .xor .u64 (rd l0 x4_1) (rd l0 (ji9))) x6_2 0)) else (none)) = some r := by first | (rw [hji16] at H; exact H) | (simp only [hji16] at H ⊢; exact H)
                      have hji16w : (IntKind.i64.wrap (63 - x6_2)) = ji16 := (i64_w _).trans hji16
                      by_cases c17 : 0 ≤ (ji16)
                      · rw [if_pos c17] at H
                        have c17b0 := eq_true c17
                        have c17b1 : decide (0 ≤ (ji16)) = true := decide_eq_true c17
                        clear c17
                        obtain ⟨ji18, hji18⟩ : ∃ j_ : Int, (shr .u64 (Go.bits .xor .u64 (rd l0 x4_1) (rd l0 (ji9))) (ji16)) = j_ := ⟨_, rfl⟩
                        replace H : (if (Go.bits .and .u64 (ji18) 1) = 0 then (rickref08_Put.l1 k2 l0 x3_1 x4_1 (Go.bits .xor .u64 (rd l0 x4_1) (rd l0 (ji9))) (wrap64 (x6_2 + 1)) 0) else (rickref08_Put.l2 k2 l0 x3_1 x4_1 (Go.bits .xor .u64 (rd l0 x4_1) (rd l0 (ji9))) x6_2 0)) = some r := by first | (rw [hji18] at H; exact H) | (simp only [hji18] at H ⊢; exact H)
                        have hji18_ : ((Go.bits .xor .u64 (rd l0 x4_1) (rd l0 (ji9))) / 2 ^ min (ji16).toNat 64) = ji18 := hji18
                        have hji18z : (ji16) ≤ 64 → ((Go.bits .xor .u64 (rd l0 x4_1) (rd l0 (ji9))) / 2 ^ (ji16).toNat) = ji18 := shr_small hji18
                        by_cases c19 : (Go.bits .and .u64 (ji18) 1) = 0
                        · rw [if_pos c19] at H
                          have c19b0 : ((Go.bits .and .u64 (ji18) 1) == 0) = true := beq_iff_eq.mpr c19
                          have c19b1 : ((Go.bits .and .u64 (ji18) 1) != 0) = false := bne_eq_false_iff_eq.mpr c19
                          clear c19
                          have H' := Aside0.mk H
                          clear H
                          go_wp2
                          repeat (go_quiet (fail); try go_wp2)
                          go_roundg k2
                          case measure => have := HK1.out; have := HK2.out; omega
                          case rel => exact ⟨(wrap64 (x6_2 + 1)), (by first | rfl | (simp; done) | (simp [*]; done)), H', ⟨by have := HK1.out; have := HK2.out; omega⟩, ⟨by (with_reducible repeat (first | apply Kd.R_alloc | apply Kd.R_drewN | apply Kd.R_drew)); exact HO_3.out⟩, ⟨by repeat (first | (with_reducible first | exact HB.out | apply below_alloc | apply pw_below_drewN | apply below_drew1) | exact HB.out)⟩⟩
                        · rw [if_neg c19] at H
                          have c19b0 : ((Go.bits .and .u64 (ji18) 1) == 0) = false := beq_eq_false_iff_ne.mpr c19
                          have c19b1 : ((Go.bits .and .u64 (ji18) 1) != 0) = true := bne_iff_ne.mpr c19
                          have H' := Aside0.mk H
                          clear H
                          go_wp2
                          repeat (go_quiet (fail); try go_wp2)
                          go_loopg [7] k2 (fun kq v7 w' => ∃ (x7_3 : Int), v7 = .int .i64 x7_3 ∧ Aside0 (rickref08_Put.l2 kq l0 x3_1 x4_1 (Go.bits .xor .u64 (rd l0 x4_1) (rd l0 (ji9))) x6_2 x7_3 = some r) ∧ Aside0 (kq ≤ k2) ∧ Aside0 (Kd.R (Kd.int .u8) 5 w' w.heap.size (fun _ => True) u3 x3_1) ∧ Aside0 (Below w.heap.size w w'))
                          case atStart => exact ⟨(0), (by first | rfl | (simp; done) | (simp [*]; done)), H', ⟨Nat.le_refl _⟩, ⟨by (with_reducible repeat (first | apply Kd.R_alloc | apply Kd.R_drewN | apply Kd.R_drew)); exact HO_3.out⟩, ⟨by repeat (first | (with_reducible first | exact HB.out | apply below_alloc | apply pw_below_drewN | apply below_drew1) | exact HB.out)⟩⟩
                          case round =>
                            clear H'
                            try clear c1
                            try clear p1
                            try clear q1
                            try clear hx1
                            try clear qi1
                            try clear c2
                            try clear c2b0
                            try clear p2
                            try clear c3
                            try clear c3b0
                            try clear c3b1
                            try clear c4
                            try clear c4b0
                            try clear c4b1
                            try clear p6
                            try clear c8
                            try clear c8b0
                            try clear c10
                            try clear c10b0
                            try clear c11
                            try clear c11b0
                            try clear p11
                            try clear q11
                            try clear hx11
                            try clear qi11
                            try clear c12
                            try clear c12b0
                            try clear c12b1
                            try clear p12
                            try clear q12
                            try clear hx12
                            try clear c17
                            try clear c17b0
                            try clear c17b1
                            try clear c19
                            try clear c19b0
                            try clear c19b1
                            try clear hx118_0
                            try clear hx122_0
                            try clear hx123_0
                            try clear p1
                            try clear p11
                            try clear p118
                            try clear p12
                            try clear p122
                            try clear p123
                            try clear p2
                            try clear p6
                            try clear q1
                            try clear q11
                            try clear q118
                            try clear q12
                            try clear q122
                            try clear q123
                            obtain ⟨x7_3, rfl, HA, HK3, HO_3, HB⟩ := hrel
                            cases gk with
                            | zero => exact absurd HA.out (by simp [rickref08_Put.l2])
                            | succ k3 =>
                              have H := HA.out
                              clear HA
                              simp only [rickref08_Put.l2] at H
                              by_cases c20 : 0 ≤ x7_3
                              · rw [if_pos c20] at H
                                have c20b0 := eq_true c20
                                have c20b1 : decide (0 ≤ x7_3) = true := decide_eq_true c20
                                clear c20
                                obtain ⟨ji21, hji21⟩ : ∃ j_ : Int, (shr .u64 (Go.bits .xor .u64 (rd l0 x4_1) (rd l0 (ji9))) x7_3) = j_ := ⟨_, rfl⟩
                                replace H : (if (Go.bits .and .u64 (ji21) 1) = 0 then (rickref08_Put.l2 k3 l0 x3_1 x4_1 (Go.bits .xor .u64 (rd l0 x4_1) (rd l0 (ji9))) x6_2 (wrap64 (x7_3 + 1))) else ((rickref04_Put.f k3 x3_1 1 1).bind fun t127 => ((rickref04_Put.f k3 t127 (IntKind.u64.wrap (x6_2)) 6).bind fun t130 => ((rickref04_Put.f k3 t130 (IntKind.u64.wrap (wrap64 ((wrap64 ((wrap64 (64 - x6_2)) - x7_3)) - 1))) 6).bind fun t133 => ((rickref04_Put.f k3 t133 (ji21) (wrap64 ((wrap64 (64 - x6_2)) - x7_3))).bind fun t136 => (rickref08_Put.l0 k3 l0 t136 (wrap64 (x4_1 + 1)))))))) = some r := by first | (rw [hji21] at H; exact H) | (simp only [hji21] at H ⊢; exact H)
                                have hji21_ : ((Go.bits .xor .u64 (rd l0 x4_1) (rd l0 (ji9))) / 2 ^ min x7_3.toNat 64) = ji21 := hji21
                                have hji21z : x7_3 ≤ 64 → ((Go.bits .xor .u64 (rd l0 x4_1) (rd l0 (ji9))) / 2 ^ x7_3.toNat) = ji21 := shr_small hji21
                                by_cases c22 : (Go.bits .and .u64 (ji21) 1) = 0
                                · rw [if_pos c22] at H
                                  have c22b0 : ((Go.bits .and .u64 (ji21) 1) == 0) = true := beq_iff_eq.mpr c22
                                  have c22b1 : ((Go.bits .and .u64 (ji21) 1) != 0) = false := bne_eq_false_iff_eq.mpr c22
                                  clear c22
                                  have H' := Aside0.mk H
                                  clear H
                                  go_wp2
                                  repeat (go_quiet (fail); try go_wp2)
                                  go_roundg k3
                                  case measure => have := HK1.out; have := HK2.out; have := HK3.out; omega
                                  case rel => exact ⟨(wrap64 (x7_3 + 1)), (by first | rfl | (simp; done) | (simp [*]; done)), H', ⟨by have := HK1.out; have := HK2.out; have := HK3.out; omega⟩, ⟨by (with_reducible repeat (first | apply Kd.R_alloc | apply Kd.R_drewN | apply Kd.R_drew)); exact HO_3.out⟩, ⟨by repeat (first | (with_reducible first | exact HB.out | apply below_alloc | apply pw_below_drewN | apply below_drew1) | exact HB.out)⟩⟩
                                · rw [if_neg c22] at H
                                  have c22b0 : ((Go.bits .and .u64 (ji21) 1) == 0) = false := beq_eq_false_iff_ne.mpr c22
                                  have c22b1 : ((Go.bits .and .u64 (ji21) 1) != 0) = true := bne_iff_ne.mpr c22
                                  replace H := Option.bind_eq_some_iff.mp H
                                  obtain ⟨t127, A230, H⟩ := H
                                  replace H : ((rickref04_Put.f k3 t127 (IntKind.u64.wrap (x6_2)) 6).bind fun t130 => ((rickref04_Put.f k3 t130 (IntKind.u64.wrap (wrap64 ((wrap64 ((wrap64 (64 - x6_2)) - x7_3)) - 1))) 6).bind fun t133 => ((rickref04_Put.f k3 t133 (ji21) (wrap64 ((wrap64 (64 - x6_2)) - x7_3))).bind fun t136 => (rickref08_Put.l0 k3 l0 t136 (wrap64 (x4_1 + 1)))))) = some r := H
                                  have A23 := Aside0.mk A230
                                  clear A230
                                  replace H := Option.bind_eq_some_iff.mp H
                                  obtain ⟨t130, A240, H⟩ := H
                                  replace H : ((rickref04_Put.f k3 t130 (IntKind.u64.wrap (wrap64 ((wrap64 ((wrap64 (64 - x6_2)) - x7_3)) - 1))) 6).bind fun t133 => ((rickref04_Put.f k3 t133 (ji21) (wrap64 ((wrap64 (64 - x6_2)) - x7_3))).bind fun t136 => (rickref08_Put.l0 k3 l0 t136 (wrap64 (x4_1 + 1))))) = some r := H
                                  have A24 := Aside0.mk A240
                                  clear A240
                                  replace H := Option.bind_eq_some_iff.mp H
                                  obtain ⟨t133, A250, H⟩ := H
                                  replace H : ((rickref04_Put.f k3 t133 (ji21) (wrap64 ((wrap64 (64 - x6_2)) - x7_3))).bind fun t136 => (rickref08_Put.l0 k3 l0 t136 (wrap64 (x4_1 + 1)))) = some r := H
                                  have A25 := Aside0.mk A250
                                  clear A250
                                  have c26b0 := eq_true (of_decide_eq_true (by first | (with_reducible assumption) | assumption) : 0 ≤ x7_3)
                                  replace H := Option.bind_eq_some_iff.mp H
                                  obtain ⟨t136, A280, H⟩ := H
                                  replace H : (rickref08_Put.l0 k3 l0 t136 (wrap64 (x4_1 + 1))) = some r := H
                                  have A28 := Aside0.mk A280
                                  clear A280
                                  have H' := Aside0.mk H
                                  clear H
                                  obtain ⟨Ao29, co29, eo29⟩ := Kd.R_slice HO_3.out
                                  subst eo29
                                  go_wp2_with (first | (go_at_call 25; (with_reducible refine (rickref04_Put.calls k3 (fun k_ => some k_ = (.slice Ao29 x3_1.length co29 : Value).ownBlock) (.slice Ao29 x3_1.length co29) x3_1 1 1 t127 w _ ?side1 ?side2 A23.out).mono ?_); (case side1 => repeat (first | (with_reducible first | exact HB.out | apply below_alloc | apply pw_below_drewN | apply below_drew1) | exact HB.out)); (case side2 => exact Kd.R_tight rfl HO_3.out); rintro e w30 ⟨v128, rfl, ho0, hb, hkp⟩; have n0_ := Aside0.mk (Kd.R_mono (ok' := fun k_ => True) ho0 (fun k_ hk_ => trivial)); have n1_ := Aside0.mk (hb); clear HB; clear HO_3; have HO129 := n0_; have HB := n1_; clear n0_ n1_; (try clear hb); (try clear hkp); (try clear ho0); obtain ⟨Ao31, co31, eo31⟩ := Kd.R_slice HO129.out; subst eo31) | (go_at_call 25; (with_reducible refine (rickref04_Put.calls k3 (fun k_ => some k_ = (.slice Ao31 t127.length co31 : Value).ownBlock) (.slice Ao31 t127.length co31) t127 (IntKind.u64.wrap (x6_2)) 6 t130 w _ ?side1 ?side2 A24.out).mono ?_); (case side1 => repeat (first | (with_reducible first | exact HB.out | apply below_alloc | apply pw_below_drewN | apply below_drew1) | exact HB.out)); (case side2 => exact Kd.R_tight rfl HO129.out); rintro e w32 ⟨v131, rfl, ho0, hb, hkp⟩; have n0_ := Aside0.mk (Kd.R_mono (ok' := fun k_ => True) ho0 (fun k_ hk_ => trivial)); have n1_ := Aside0.mk (hb); clear HB; clear HO129; have HO132 := n0_; have HB := n1_; clear n0_ n1_; (try clear hb); (try clear hkp); (try clear ho0); obtain ⟨Ao33, co33, eo33⟩ := Kd.R_slice HO132.out; subst eo33) | (go_at_call 25; (with_reducible refine (rickref04_Put.calls k3 (fun k_ => some k_ = (.slice Ao33 t130.length co33 : Value).ownBlock) (.slice Ao33 t130.length co33) t130 (IntKind.u64.wrap (wrap64 ((wrap64 ((wrap64 (64 - x6_2)) - x7_3)) - 1))) 6 t133 w _ ?side1 ?side2 A25.out).mono ?_); (case side1 => repeat (first | (with_reducible first | exact HB.out | apply below_alloc | apply pw_below_drewN | apply below_drew1) | exact HB.out)); (case side2 => exact Kd.R_tight rfl HO132.out); rintro e w34 ⟨v134, rfl, ho0, hb, hkp⟩; have n0_ := Aside0.mk (Kd.R_mono (ok' := fun k_ => True) ho0 (fun k_ hk_ => trivial)); have n1_ := Aside0.mk (hb); clear HB; clear HO132; have HO135 := n0_; have HB := n1_; clear n0_ n1_; (try clear hb); (try clear hkp); (try clear ho0); obtain ⟨Ao35, co35, eo35⟩ := Kd.R_slice HO135.out; subst eo35) | (go_at_call 25; (with_reducible refine (rickref04_Put.calls k3 (fun k_ => some k_ = (.slice Ao35 t133.length co35 : Value).ownBlock) (.slice Ao35 t133.length co35) t133 ji21 (wrap64 ((wrap64 (64 - x6_2)) - x7_3)) t136 w _ ?side1 ?side2 A28.out).mono ?_); (case side1 => repeat (first | (with_reducible first | exact HB.out | apply below_alloc | apply pw_below_drewN | apply below_drew1) | exact HB.out)); (case side2 => exact Kd.R_tight rfl HO135.out); rintro e w36 ⟨v137, rfl, ho0, hb, hkp⟩; have n0_ := Aside0.mk (Kd.R_mono (ok' := fun k_ => True) ho0 (fun k_ hk_ => trivial)); have n1_ := Aside0.mk (hb); clear HB; clear HO135; have HO138 := n0_; have HB := n1_; clear n0_ n1_; (try clear hb); (try clear hkp); (try clear ho0)))
                                  repeat (go_quiet (first | (go_at_call 25; (with_reducible refine (rickref04_Put.calls k3 (fun k_ => some k_ = (.slice Ao29 x3_1.length co29 : Value).ownBlock) (.slice Ao29 x3_1.length co29) x3_1 1 1 t127 w _ ?side1 ?side2 A23.out).mono ?_); (case side1 => repeat (first | (with_reducible first | exact HB.out | apply below_alloc | apply pw_below_drewN | apply below_drew1) | exact HB.out)); (case side2 => exact Kd.R_tight rfl HO_3.out); rintro e w30 ⟨v128, rfl, ho0, hb, hkp⟩; have n0_ := Aside0.mk (Kd.R_mono (ok' := fun k_ => True) ho0 (fun k_ hk_ => trivial)); have n1_ := Aside0.mk (hb); clear HB; clear HO_3; have HO129 := n0_; have HB := n1_; clear n0_ n1_; (try clear hb); (try clear hkp); (try clear ho0); obtain ⟨Ao31, co31, eo31⟩ := Kd.R_slice HO129.out; subst eo31) | (go_at_call 25; (with_reducible refine (rickref04_Put.calls k3 (fun k_ => some k_ = (.slice Ao31 t127.length co31 : Value).ownBlock) (.slice Ao31 t127.length co31) t127 (IntKind.u64.wrap (x6_2)) 6 t130 w _ ?side1 ?side2 A24.out).mono ?_); (case side1 => repeat (first | (with_reducible first | exact HB.out | apply below_alloc | apply pw_below_drewN | apply below_drew1) | exact HB.out)); (case side2 => exact Kd.R_tight rfl HO129.out); rintro e w32 ⟨v131, rfl, ho0, hb, hkp⟩; have n0_ := Aside0.mk (Kd.R_mono (ok' := fun k_ => True) ho0 (fun k_ hk_ => trivial)); have n1_ := Aside0.mk (hb); clear HB; clear HO129; have HO132 := n0_; have HB := n1_; clear n0_ n1_; (try clear hb); (try clear hkp); (try clear ho0); obtain ⟨Ao33, co33, eo33⟩ := Kd.R_slice HO132.out; subst eo33) | (go_at_call 25; (with_reducible refine (rickref04_Put.calls k3 (fun k_ => some k_ = (.slice Ao33 t130.length co33 : Value).ownBlock) (.slice Ao33 t130.length co33) t130 (IntKind.u64.wrap (wrap64 ((wrap64 ((wrap64 (64 - x6_2)) - x7_3)) - 1))) 6 t133 w _ ?side1 ?side2 A25.out).mono ?_); (case side1 => repeat (first | (with_reducible first | exact HB.out | apply below_alloc | apply pw_below_drewN | apply below_drew1) | exact HB.out)); (case side2 => exact Kd.R_tight rfl HO132.out); rintro e w34 ⟨v134, rfl, ho0, hb, hkp⟩; have n0_ := Aside0.mk (Kd.R_mono (ok' := fun k_ => True) ho0 (fun k_ hk_ => trivial)); have n1_ := Aside0.mk (hb); clear HB; clear HO132; have HO135 := n0_; have HB := n1_; clear n0_ n1_; (try clear hb); (try clear hkp); (try clear ho0); obtain ⟨Ao35, co35, eo35⟩ := Kd.R_slice HO135.out; subst eo35) | (go_at_call 25; (with_reducible refine (rickref04_Put.calls k3 (fun k_ => some k_ = (.slice Ao35 t133.length co35 : Value).ownBlock) (.slice Ao35 t133.length co35) t133 ji21 (wrap64 ((wrap64 (64 - x6_2)) - x7_3)) t136 w _ ?side1 ?side2 A28.out).mono ?_); (case side1 => repeat (first | (with_reducible first | exact HB.out | apply below_alloc | apply pw_below_drewN | apply below_drew1) | exact HB.out)); (case side2 => exact Kd.R_tight rfl HO135.out); rintro e w36 ⟨v137, rfl, ho0, hb, hkp⟩; have n0_ := Aside0.mk (Kd.R_mono (ok' := fun k_ => True) ho0 (fun k_ hk_ => trivial)); have n1_ := Aside0.mk (hb); clear HB; clear HO135; have HO138 := n0_; have HB := n1_; clear n0_ n1_; (try clear hb); (try clear hkp); (try clear ho0))); try go_wp2_with (first | (go_at_call 25; (with_reducible refine (rickref04_Put.calls k3 (fun k_ => some k_ = (.slice Ao29 x3_1.length co29 : Value).ownBlock) (.slice Ao29 x3_1.length co29) x3_1 1 1 t127 w _ ?side1 ?side2 A23.out).mono ?_); (case side1 => repeat (first | (with_reducible first | exact HB.out | apply below_alloc | apply pw_below_drewN | apply below_drew1) | exact HB.out)); (case side2 => exact Kd.R_tight rfl HO_3.out); rintro e w30 ⟨v128, rfl, ho0, hb, hkp⟩; have n0_ := Aside0.mk (Kd.R_mono (ok' := fun k_ => True) ho0 (fun k_ hk_ => trivial)); have n1_ := Aside0.mk (hb); clear HB; clear HO_3; have HO129 := n0_; have HB := n1_; clear n0_ n1_; (try clear hb); (try clear hkp); (try clear ho0); obtain ⟨Ao31, co31, eo31⟩ := Kd.R_slice HO129.out; subst eo31) | (go_at_call 25; (with_reducible refine (rickref04_Put.calls k3 (fun k_ => some k_ = (.slice Ao31 t127.length co31 : Value).ownBlock) (.slice Ao31 t127.length co31) t127 (IntKind.u64.wrap (x6_2)) 6 t130 w _ ?side1 ?side2 A24.out).mono ?_); (case side1 => repeat (first | (with_reducible first | exact HB.out | apply below_alloc | apply pw_below_drewN | apply below_drew1) | exact HB.out)); (case side2 => exact Kd.R_tight rfl HO129.out); rintro e w32 ⟨v131, rfl, ho0, hb, hkp⟩; have n0_ := Aside0.mk (Kd.R_mono (ok' := fun k_ => True) ho0 (fun k_ hk_ => trivial)); have n1_ := Aside0.mk (hb); clear HB; clear HO129; have HO132 := n0_; have HB := n1_; clear n0_ n1_; (try clear hb); (try clear hkp); (try clear ho0); obtain ⟨Ao33, co33, eo33⟩ := Kd.R_slice HO132.out; subst eo33) | (go_at_call 25; (with_reducible refine (rickref04_Put.calls k3 (fun k_ => some k_ = (.slice Ao33 t130.length co33 : Value).ownBlock) (.slice Ao33 t130.length co33) t130 (IntKind.u64.wrap (wrap64 ((wrap64 ((wrap64 (64 - x6_2)) - x7_3)) - 1))) 6 t133 w _ ?side1 ?side2 A25.out).mono ?_); (case side1 => repeat (first | (with_reducible first | exact HB.out | apply below_alloc | apply pw_below_drewN | apply below_drew1) | exact HB.out)); (case side2 => exact Kd.R_tight rfl HO132.out); rintro e w34 ⟨v134, rfl, ho0, hb, hkp⟩; have n0_ := Aside0.mk (Kd.R_mono (ok' := fun k_ => True) ho0 (fun k_ hk_ => trivial)); have n1_ := Aside0.mk (hb); clear HB; clear HO132; have HO135 := n0_; have HB := n1_; clear n0_ n1_; (try clear hb); (try clear hkp); (try clear ho0); obtain ⟨Ao35, co35, eo35⟩ := Kd.R_slice HO135.out; subst eo35) | (go_at_call 25; (with_reducible refine (rickref04_Put.calls k3 (fun k_ => some k_ = (.slice Ao35 t133.length co35 : Value).ownBlock) (.slice Ao35 t133.length co35) t133 ji21 (wrap64 ((wrap64 (64 - x6_2)) - x7_3)) t136 w _ ?side1 ?side2 A28.out).mono ?_); (case side1 => repeat (first | (with_reducible first | exact HB.out | apply below_alloc | apply pw_below_drewN | apply below_drew1) | exact HB.out)); (case side2 => exact Kd.R_tight rfl HO135.out); rintro e w36 ⟨v137, rfl, ho0, hb, hkp⟩; have n0_ := Aside0.mk (Kd.R_mono (ok' := fun k_ => True) ho0 (fun k_ hk_ => trivial)); have n1_ := Aside0.mk (hb); clear HB; clear HO135; have HO138 := n0_; have HB := n1_; clear n0_ n1_; (try clear hb); (try clear hkp); (try clear ho0))))
                                  go_roundg k3
                                  case measure => have := HK1.out; have := HK2.out; have := HK3.out; omega
                                  case rel => exact ⟨(t136), (wrap64 (x4_1 + 1)), (by first | rfl | (simp; done) | (simp [*]; done)), H', ⟨by have := HK1.out; have := HK2.out; have := HK3.out; omega⟩, ⟨by (with_reducible repeat (first | apply Kd.R_alloc | apply Kd.R_drewN | apply Kd.R_drew)); exact HO138.out⟩, ⟨by repeat (first | (with_reducible first | exact HB.out | apply below_alloc | apply pw_below_drewN | apply below_drew1) | exact HB.out)⟩⟩
                              · rw [if_neg c20] at H
                                exact absurd H (by simp)
                      · rw [if_neg c17] at H
                        exact absurd H (by simp)
              · rw [if_neg c11] at H
                exact absurd H (by simp)
            · rw [if_neg c10] at H
              exact absurd H (by simp)
          · rw [if_neg c8] at H
            exact absurd H (by simp)
      · rw [if_neg c2] at H
        have c2b0 : decide (x4_1 < (l0.length : Int)) = false := decide_eq_false c2
        clear c2
        replace H := Option.bind_eq_some_iff.mp H
        obtain ⟨t115, A370, H⟩ := H
        replace H : (some t115) = some r := H
        have A37 := Aside0.mk A370
        clear A370
        obtain rfl := Option.some.inj H
        obtain ⟨Ao38, co38, eo38⟩ := Kd.R_slice HO_3.out
        subst eo38
        go_wp2_with (first | (go_at_call 26; (with_reducible refine (rickref04_Bytes.calls k1 _ _ x3_1 t115 _ ?side1 ?side2 A37.out).mono ?_); (case side1 => repeat (first | exact (Kd.R_reads' HO_3.out).2.2 | (with_reducible refine Kd.C_alloc ?_ _) | (with_reducible refine Kd.C_drewN ?_ _) | (with_reducible refine Kd.C_drew ?_))); (case side2 => exact (Kd.R_reads' HO_3.out).2.1); rintro e w39 ⟨v116, rfl, ho0, hb⟩; have n0_ := Aside0.mk (Kd.R_elder' (by (with_reducible repeat (first | apply Kd.R_alloc | apply Kd.R_drewN | apply Kd.R_drew)); exact HO_3.out) (Kd.R_base ho0) hb); have n1_ := Aside0.mk (Kd.R_lower (Kd.R_new' ho0 (Kd.R_lt (by (with_reducible repeat (first | apply Kd.R_alloc | apply Kd.R_drewN | apply Kd.R_drew)); exact HO_3.out))) (below_size (by repeat (first | (with_reducible first | exact HB.out | apply below_alloc | apply pw_below_drewN | apply below_drew1) | exact HB.out)))); have n2_ := Aside0.mk (below_step (by repeat (first | (with_reducible first | exact HB.out | apply below_alloc | apply pw_below_drewN | apply below_drew1) | exact HB.out)) hb); clear HO_3; clear HB; have HO_3 := n0_; have HO117 := n1_; have HB := n2_; clear n0_ n1_ n2_; (try clear hb); (try clear hb2); (try clear hk); (try clear hi); (try clear ho0)))
        repeat (go_quiet (first | (go_at_call 26; (with_reducible refine (rickref04_Bytes.calls k1 _ _ x3_1 t115 _ ?side1 ?side2 A37.out).mono ?_); (case side1 => repeat (first | exact (Kd.R_reads' HO_3.out).2.2 | (with_reducible refine Kd.C_alloc ?_ _) | (with_reducible refine Kd.C_drewN ?_ _) | (with_reducible refine Kd.C_drew ?_))); (case side2 => exact (Kd.R_reads' HO_3.out).2.1); rintro e w39 ⟨v116, rfl, ho0, hb⟩; have n0_ := Aside0.mk (Kd.R_elder' (by (with_reducible repeat (first | apply Kd.R_alloc | apply Kd.R_drewN | apply Kd.R_drew)); exact HO_3.out) (Kd.R_base ho0) hb); have n1_ := Aside0.mk (Kd.R_lower (Kd.R_new' ho0 (Kd.R_lt (by (with_reducible repeat (first | apply Kd.R_alloc | apply Kd.R_drewN | apply Kd.R_drew)); exact HO_3.out))) (below_size (by repeat (first | (with_reducible first | exact HB.out | apply below_alloc | apply pw_below_drewN | apply below_drew1) | exact HB.out)))); have n2_ := Aside0.mk (below_step (by repeat (first | (with_reducible first | exact HB.out | apply below_alloc | apply pw_below_drewN | apply below_drew1) | exact HB.out)) hb); clear HO_3; clear HB; have HO_3 := n0_; have HO117 := n1_; have HB := n2_; clear n0_ n1_ n2_; (try clear hb); (try clear hb2); (try clear hk); (try clear hi); (try clear ho0))); try go_wp2_with (first | (go_at_call 26; (with_reducible refine (rickref04_Bytes.calls k1 _ _ x3_1 t115 _ ?side1 ?side2 A37.out).mono ?_); (case side1 => repeat (first | exact (Kd.R_reads' HO_3.out).2.2 | (with_reducible refine Kd.C_alloc ?_ _) | (with_reducible refine Kd.C_drewN ?_ _) | (with_reducible refine Kd.C_drew ?_))); (case side2 => exact (Kd.R_reads' HO_3.out).2.1); rintro e w39 ⟨v116, rfl, ho0, hb⟩; have n0_ := Aside0.mk (Kd.R_elder' (by (with_reducible repeat (first | apply Kd.R_alloc | apply Kd.R_drewN | apply Kd.R_drew)); exact HO_3.out) (Kd.R_base ho0) hb); have n1_ := Aside0.mk (Kd.R_lower (Kd.R_new' ho0 (Kd.R_lt (by (with_reducible repeat (first | apply Kd.R_alloc | apply Kd.R_drewN | apply Kd.R_drew)); exact HO_3.out))) (below_size (by repeat (first | (with_reducible first | exact HB.out | apply below_alloc | apply pw_below_drewN | apply below_drew1) | exact HB.out)))); have n2_ := Aside0.mk (below_step (by repeat (first | (with_reducible first | exact HB.out | apply below_alloc | apply pw_below_drewN | apply below_drew1) | exact HB.out)) hb); clear HO_3; clear HB; have HO_3 := n0_; have HO117 := n1_; have HB := n2_; clear n0_ n1_ n2_; (try clear hb); (try clear hb2); (try clear hk); (try clear hi); (try clear ho0))))
        go_ret
        exact ⟨_, by first | rfl | (simp [errW_none, errW_some] <;> rfl) | (simp [*, errW_none, errW_some] <;> rfl), by (with_reducible repeat (first | apply Kd.R_alloc | apply Kd.R_drewN | apply Kd.R_drew)); exact Kd.R_mono HO117.out (fun _ hk => trivial), by repeat (first | (with_reducible first | exact HB.out | apply below_alloc | apply pw_below_drewN | apply below_drew1) | exact HB.out)⟩

end Go.Proofs.YtmlbppfcpejlpaaDoor.X

-- Printed by this session's own program (wip/xprint.py) over the translation; its external functions are hand-written. Lean checks it.
namespace Go.Proofs.YtmlbppfcpejlpaaDoor.X
open Go.RowKit Go.Proofs.YtmlbppfcpejlpaaDoorW.PrintWords Go.Proofs.YtmlbppfcpejlpaaDoorW.PrintLast Go.Proofs.YtmlbppfcpejlpaaDoorW.PrintMore
attribute [local go_sem] max2_int min2_int max_two min_two max_three min_three max_four min_four   -- for this text's walks alone
set_option linter.unusedVariables false
set_option linter.unusedSimpArgs false

/-! ### ricklaw08_XorsPuts: function 3 -/
def ricklaw08_XorsPuts.f (k : Nat) (l0 : List Int) (l1 : List Int) : Option (Bool) := (some (([] : List Int) : List Int)).bind fun y178 => (if 0 ≤ (mn (l0.length : Int) 200) then (if (mn (l0.length : Int) 200) ≤ (l0.length : Int) then (if y178.length + (l0.take ((mn (l0.length : Int) 200) : Int).toNat).length < 17592186044416 then ((some (y178 ++ (l0.take ((mn (l0.length : Int) 200) : Int).toNat) : List Int)).bind fun y182 => ((xors_Put.f y182).bind fun bt185 => ((rickref08_Put.f k y182).bind fun t189 => ((some (([] : List Int) : List Int)).bind fun y192 => (if y192.length + t189.length < 140737488355328 then ((some (y192 ++ t189 : List Int)).bind fun y195 => (if 0 ≤ (mn (l1.length : Int) 20) then (if (mn (l1.length : Int) 20) ≤ (l1.length : Int) then (if y195.length + (l1.take ((mn (l1.length : Int) 20) : Int).toNat).length < 140737488355328 then ((xors_Get.f (y195 ++ (l1.take ((mn (l1.length : Int) 20) : Int).toNat)) (y182.length : Int)).bind fun bt202 => (if 201 ≤ 35184372088832 then ((xors_Put.f (List.replicate 201 0)).bind fun bt210 => ((ricklaw08_puts.f).bind fun t214 => (if t214 = true then (if bt185.2 = 0 then (if (strOfNums bt185.1).toList = (strOfNums t189).toList then (if bt202.2.2 = 0 then (if bt202.2.1 = (t189.length : Int) then ((rickref06_Same.f k bt202.1 y182).bind fun t215 => (if t215 = true then (some (bt210.2 == 1)) else (some false))) else (some false)) else (some false)) else (some false)) else (some false)) else (some false)))) else (none))) else (none)) else (none)) else (none))) else (none)))))) else (none)) else (none)) else (none))
theorem ricklaw08_XorsPuts.mono : ∀ a0 a1 k, LeO (ricklaw08_XorsPuts.f k a0 a1) (ricklaw08_XorsPuts.f (k + 1) a0 a1) := by
  intro a0 a1 k
  unfold ricklaw08_XorsPuts.f
  repeat' first
      | (with_reducible exact rickref06_Same.mono _ _ _)
      | (with_reducible exact rickref08_Put.mono _ _)
      | (with_reducible exact LeO.refl _)
      | (with_reducible exact LeO.none _)
      | (with_reducible refine LeO.ite ?_ ?_)
      | (with_reducible refine LeO.bind ?_ (fun _ => ?_))
      | exact rickref06_Same.mono _ _ _
      | exact rickref08_Put.mono _ _
      | exact LeO.none _
      | refine LeO.ite ?_ ?_
      | refine LeO.bind ?_ (fun _ => ?_)
def ricklaw08_XorsPuts.T4 : Bool × List (List Nat × List Nat) := (true, [([], []), ([], []), ([0, 1], [0, 1]), ([], []), ([], []), ([4], [4]), ([5], [5]), ([3, 6], [3, 6]), ([2, 7, 2], [2, 7]), ([], []), ([9], [9]), ([8, 10, 8], [8, 10]), ([11], [11]), ([12], [12]), ([12], [12]), ([12], [12]), ([13, 11, 0, 1, 2, 3, 4, 5, 6, 7, 8, 9, 10, 11, 12, 13], [13]), ([14, 16, 0, 1, 2, 3, 4, 5, 6, 7, 8, 9, 10, 11, 12, 13, 14, 16], [14]), ([15, 17, 0, 1, 2, 3, 4, 5, 6, 7, 8, 9, 10, 11, 12, 13, 14, 15, 16, 17], [15])])
def ricklaw08_XorsPuts.B4 : List Nat := [0, 0, 3, 0, 0, 16, 48, 120, 255, 0, 512, 2047, 4095, 8191, 8191, 8191, 16383, 98303, 262143]
theorem ricklaw08_XorsPuts.tab4 : rtab .any (opsOf Tryd.f3 4) = ricklaw08_XorsPuts.T4 := by kernel_rfl
theorem ricklaw08_XorsPuts.bits4 : waitsOk ricklaw08_XorsPuts.T4.2 ricklaw08_XorsPuts.B4 = true := by kernel_rfl
set_option maxHeartbeats 8000000 in
set_option maxRecDepth 100000 in
theorem ricklaw08_XorsPuts.calls (k : Nat) (A0 : Option Addr) (c0 : Nat) (l0 : List Int) (A1 : Option Addr) (c1 : Nat) (l1 : List Int) (r : Bool) (w : World) (hr0 : Kd.C (Kd.int .u64) w A0 l0.length l0) (hc0 : l0.length ≤ c0) (hr1 : Kd.C (Kd.int .u8) w A1 l1.length l1) (hc1 : l1.length ≤ c1) (hT_ : Go.Proofs.YtmlbppfcpejlpaaDoor.W08.Tab w) (h : ricklaw08_XorsPuts.f k l0 l1 = some r) (hrt : r = true) :
    Calls Tryd.prog 3 #[.slice A0 l0.length c0, .slice A1 l1.length c1] w fun e w' => e = .returned (.bool r) ∧ Below w.heap.size w w' := by
  have HTAB := Aside0.mk hT_
  clear hT_
  have HRT := Aside0.mk hrt
  clear hrt
  have HR0 := Aside0.mk hr0
  have HC0 := Aside0.mk hc0
  clear hr0 hc0
  have HR1 := Aside0.mk hr1
  have HC1 := Aside0.mk hc1
  clear hr1 hc1
  have HB := Aside0.mk (Below.refl w.heap.size w)
  have H : ((some (([] : List Int) : List Int)).bind fun y178 => (if 0 ≤ (mn (l0.length : Int) 200) then (if (mn (l0.length : Int) 200) ≤ (l0.length : Int) then (if y178.length + (l0.take ((mn (l0.length : Int) 200) : Int).toNat).length < 17592186044416 then ((some (y178 ++ (l0.take ((mn (l0.length : Int) 200) : Int).toNat) : List Int)).bind fun y182 => ((xors_Put.f y182).bind fun bt185 => ((rickref08_Put.f k y182).bind fun t189 => ((some (([] : List Int) : List Int)).bind fun y192 => (if y192.length + t189.length < 140737488355328 then ((some (y192 ++ t189 : List Int)).bind fun y195 => (if 0 ≤ (mn (l1.length : Int) 20) then (if (mn (l1.length : Int) 20) ≤ (l1.length : Int) then (if y195.length + (l1.take ((mn (l1.length : Int) 20) : Int).toNat).length < 140737488355328 then ((xors_Get.f (y195 ++ (l1.take ((mn (l1.length : Int) 20) : Int).toNat)) (y182.length : Int)).bind fun bt202 => (if 201 ≤ 35184372088832 then ((xors_Put.f (List.replicate 201 0)).bind fun bt210 => ((ricklaw08_puts.f).bind fun t214 => (if t214 = true then (if bt185.2 = 0 then (if (strOfNums bt185.1).toList = (strOfNums t189).toList then (if bt202.2.2 = 0 then (if bt202.2.1 = (t189.length : Int) then ((rickref06_Same.f k bt202.1 y182).bind fun t215 => (if t215 = true then (some (bt210.2 == 1)) else (some false))) else (some false)) else (some false)) else (some false)) else (some false)) else (some false)))) else (none))) else (none)) else (none)) else (none))) else (none)))))) else (none)) else (none)) else (none))) = some r := h
  clear h
  obtain ⟨y178, hy178⟩ : ∃ y_ : List Int, y_ = (([] : List Int)) := ⟨_, rfl⟩
  replace H : (if 0 ≤ (mn (l0.length : Int) 200) then (if (mn (l0.length : Int) 200) ≤ (l0.length : Int) then (if y178.length + (l0.take ((mn (l0.length : Int) 200) : Int).toNat).length < 17592186044416 then ((some (y178 ++ (l0.take ((mn (l0.length : Int) 200) : Int).toNat) : List Int)).bind fun y182 => ((xors_Put.f y182).bind fun bt185 => ((rickref08_Put.f k y182).bind fun t189 => ((some (([] : List Int) : List Int)).bind fun y192 => (if y192.length + t189.length < 140737488355328 then ((some (y192 ++ t189 : List Int)).bind fun y195 => (if 0 ≤ (mn (l1.length : Int) 20) then (if (mn (l1.length : Int) 20) ≤ (l1.length : Int) then (if y195.length + (l1.take ((mn (l1.length : Int) 20) : Int).toNat).length < 140737488355328 then ((xors_Get.f (y195 ++ (l1.take ((mn (l1.length : Int) 20) : Int).toNat)) (y182.length : Int)).bind fun bt202 => (if 201 ≤ 35184372088832 then ((xors_Put.f (List.replicate 201 0)).bind fun bt210 => ((ricklaw08_puts.f).bind fun t214 => (if t214 = true then (if bt185.2 = 0 then (if (strOfNums bt185.1).toList = (strOfNums t189).toList then (if bt202.2.2 = 0 then (if bt202.2.1 = (t189.length : Int) then ((rickref06_Same.f k bt202.1 y182).bind fun t215 => (if t215 = true then (some (bt210.2 == 1)) else (some false))) else (some false)) else (some false)) else (some false)) else (some false)) else (some false)))) else (none))) else (none)) else (none)) else (none))) else (none)))))) else (none)) else (none)) else (none)) = some r := by first | (rw [hy178]; with_reducible exact H) | (have H2_ := (Option.bind_some _ _).symm.trans H; rw [hy178]; with_reducible exact H2_) | (have H2_ := (Option.bind_some _ _).symm.trans H; with_reducible exact H2_) | with_reducible exact H | (rw [hy178]; exact H) | exact H
  have Ny178 := Aside0.mk hy178
  clear hy178
  obtain ⟨ji3, hji3⟩ : ∃ j_ : Int, (mn (l0.length : Int) 200) = j_ := ⟨_, rfl⟩
  replace H : (if 0 ≤ (ji3) then (if (ji3) ≤ (l0.length : Int) then (if y178.length + (l0.take ((ji3) : Int).toNat).length < 17592186044416 then ((some (y178 ++ (l0.take ((ji3) : Int).toNat) : List Int)).bind fun y182 => ((xors_Put.f y182).bind fun bt185 => ((rickref08_Put.f k y182).bind fun t189 => ((some (([] : List Int) : List Int)).bind fun y192 => (if y192.length + t189.length < 140737488355328 then ((some (y192 ++ t189 : List Int)).bind fun y195 => (if 0 ≤ (mn (l1.length : Int) 20) then (if (mn (l1.length : Int) 20) ≤ (l1.length : Int) then (if y195.length + (l1.take ((mn (l1.length : Int) 20) : Int).toNat).length < 140737488355328 then ((xors_Get.f (y195 ++ (l1.take ((mn (l1.length : Int) 20) : Int).toNat)) (y182.length : Int)).bind fun bt202 => (if 201 ≤ 35184372088832 then ((xors_Put.f (List.replicate 201 0)).bind fun bt210 => ((ricklaw08_puts.f).bind fun t214 => (if t214 = true then (if bt185.2 = 0 then (if (strOfNums bt185.1).toList = (strOfNums t189).toList then (if bt202.2.2 = 0 then (if bt202.2.1 = (t189.length : Int) then ((rickref06_Same.f k bt202.1 y182).bind fun t215 => (if t215 = true then (some (bt210.2 == 1)) else (some false))) else (some false)) else (some false)) else (some false)) else (some false)) else (some false)))) else (none))) else (none)) else (none)) else (none))) else (none)))))) else (none)) else (none)) else (none)) = some r := by first | (rw [hji3] at H; exact H) | (simp only [hji3] at H ⊢; exact H)
  (try (have hji3h : ji3 ≤ 200 := by (rw [← hji3]; unfold mn; (repeat' split) <;> omega)))
  (try (have hji3g : ji3 ≤ 64 := by omega))
  (try (have hji3l : 0 ≤ ji3 := by (rw [← hji3]; unfold mn; (repeat' split) <;> omega)))
  (try (have hji3m : 0 ≤ ji3 := by omega))
  have hji3_ : (if 200 < (l0.length : Int) then 200 else (l0.length : Int)) = ji3 := hji3
  by_cases c4 : 0 ≤ (ji3)
  · rw [if_pos c4] at H
    have c4b0 := eq_true c4
    have c4b1 : decide (0 ≤ (ji3)) = true := decide_eq_true c4
    clear c4
    by_cases c5 : (ji3) ≤ (l0.length : Int)
    · rw [if_pos c5] at H
      have c5b0 := eq_true c5
      have c5b1 : decide ((ji3) ≤ (l0.length : Int)) = true := decide_eq_true c5
      clear c5
      by_cases c6 : y178.length + (l0.take ((ji3) : Int).toNat).length < 17592186044416
      · rw [if_pos c6] at H
        have LMc6 := Aside0.mk c6
        clear c6
        obtain ⟨y182, hy182⟩ : ∃ y_ : List Int, y_ = (y178 ++ (l0.take ((ji3) : Int).toNat)) := ⟨_, rfl⟩
        replace H : ((xors_Put.f y182).bind fun bt185 => ((rickref08_Put.f k y182).bind fun t189 => ((some (([] : List Int) : List Int)).bind fun y192 => (if y192.length + t189.length < 140737488355328 then ((some (y192 ++ t189 : List Int)).bind fun y195 => (if 0 ≤ (mn (l1.length : Int) 20) then (if (mn (l1.length : Int) 20) ≤ (l1.length : Int) then (if y195.length + (l1.take ((mn (l1.length : Int) 20) : Int).toNat).length < 140737488355328 then ((xors_Get.f (y195 ++ (l1.take ((mn (l1.length : Int) 20) : Int).toNat)) (y182.length : Int)).bind fun bt202 => (if 201 ≤ 35184372088832 then ((xors_Put.f (List.replicate 201 0)).bind fun bt210 => ((ricklaw08_puts.f).bind fun t214 => (if t214 = true then (if bt185.2 = 0 then (if (strOfNums bt185.1).toList = (strOfNums t189).toList then (if bt202.2.2 = 0 then (if bt202.2.1 = (t189.length : Int) then ((rickref06_Same.f k bt202.1 y182).bind fun t215 => (if t215 = true then (some (bt210.2 == 1)) else (some false))) else (some false)) else (some false)) else (some false)) else (some false)) else (some false)))) else (none))) else (none)) else (none)) else (none))) else (none))))) = some r := by first | (rw [hy182]; with_reducible exact H) | (have H2_ := (Option.bind_some _ _).symm.trans H; rw [hy182]; with_reducible exact H2_) | (have H2_ := (Option.bind_some _ _).symm.trans H; with_reducible exact H2_) | with_reducible exact H | (rw [hy182]; exact H) | exact H
        have Ny182 := Aside0.mk hy182
        clear hy182
        replace H := Option.bind_eq_some_iff.mp H
        obtain ⟨⟨t185, t186⟩, A70, H⟩ := H
        replace H : ((rickref08_Put.f k y182).bind fun t189 => ((some (([] : List Int) : List Int)).bind fun y192 => (if y192.length + t189.length < 140737488355328 then ((some (y192 ++ t189 : List Int)).bind fun y195 => (if 0 ≤ (mn (l1.length : Int) 20) then (if (mn (l1.length : Int) 20) ≤ (l1.length : Int) then (if y195.length + (l1.take ((mn (l1.length : Int) 20) : Int).toNat).length < 140737488355328 then ((xors_Get.f (y195 ++ (l1.take ((mn (l1.length : Int) 20) : Int).toNat)) (y182.length : Int)).bind fun bt202 => (if 201 ≤ 35184372088832 then ((xors_Put.f (List.replicate 201 0)).bind fun bt210 => ((ricklaw08_puts.f).bind fun t214 => (if t214 = true then (if t186 = 0 then (if (strOfNums t185).toList = (strOfNums t189).toList then (if bt202.2.2 = 0 then (if bt202.2.1 = (t189.length : Int) then ((rickref06_Same.f k bt202.1 y182).bind fun t215 => (if t215 = true then (some (bt210.2 == 1)) else (some false))) else (some false)) else (some false)) else (some false)) else (some false)) else (some false)))) else (none))) else (none)) else (none)) else (none))) else (none)))) = some r := H
        have A7 := Aside0.mk A70
        clear A70
        replace H := Option.bind_eq_some_iff.mp H
        obtain ⟨t189, A80, H⟩ := H
        replace H : ((some (([] : List Int) : List Int)).bind fun y192 => (if y192.length + t189.length < 140737488355328 then ((some (y192 ++ t189 : List Int)).bind fun y195 => (if 0 ≤ (mn (l1.length : Int) 20) then (if (mn (l1.length : Int) 20) ≤ (l1.length : Int) then (if y195.length + (l1.take ((mn (l1.length : Int) 20) : Int).toNat).length < 140737488355328 then ((xors_Get.f (y195 ++ (l1.take ((mn (l1.length : Int) 20) : Int).toNat)) (y182.length : Int)).bind fun bt202 => (if 201 ≤ 35184372088832 then ((xors_Put.f (List.replicate 201 0)).bind fun bt210 => ((ricklaw08_puts.f).bind fun t214 => (if t214 = true then (if t186 = 0 then (if (strOfNums t185).toList = (strOfNums t189).toList then (if bt202.2.2 = 0 then (if bt202.2.1 = (t189.length : Int) then ((rickref06_Same.f k bt202.1 y182).bind fun t215 => (if t215 = true then (some (bt210.2 == 1)) else (some false))) else (some false)) else (some false)) else (some false)) else (some false)) else (some false)))) else (none))) else (none)) else (none)) else (none))) else (none))) = some r := H
        have A8 := Aside0.mk A80
        clear A80
        obtain ⟨y192, hy192⟩ : ∃ y_ : List Int, y_ = (([] : List Int)) := ⟨_, rfl⟩
        replace H : (if y192.length + t189.length < 140737488355328 then ((some (y192 ++ t189 : List Int)).bind fun y195 => (if 0 ≤ (mn (l1.length : Int) 20) then (if (mn (l1.length : Int) 20) ≤ (l1.length : Int) then (if y195.length + (l1.take ((mn (l1.length : Int) 20) : Int).toNat).length < 140737488355328 then ((xors_Get.f (y195 ++ (l1.take ((mn (l1.length : Int) 20) : Int).toNat)) (y182.length : Int)).bind fun bt202 => (if 201 ≤ 35184372088832 then ((xors_Put.f (List.replicate 201 0)).bind fun bt210 => ((ricklaw08_puts.f).bind fun t214 => (if t214 = true then (if t186 = 0 then (if (strOfNums t185).toList = (strOfNums t189).toList then (if bt202.2.2 = 0 then (if bt202.2.1 = (t189.length : Int) then ((rickref06_Same.f k bt202.1 y182).bind fun t215 => (if t215 = true then (some (bt210.2 == 1)) else (some false))) else (some false)) else (some false)) else (some false)) else (some false)) else (some false)))) else (none))) else (none)) else (none)) else (none))) else (none)) = some r := by first | (rw [hy192]; with_reducible exact H) | (have H2_ := (Option.bind_some _ _).symm.trans H; rw [hy192]; with_reducible exact H2_) | (have H2_ := (Option.bind_some _ _).symm.trans H; with_reducible exact H2_) | with_reducible exact H | (rw [hy192]; exact H) | exact H
        have Ny192 := Aside0.mk hy192
        clear hy192
        by_cases c9 : y192.length + t189.length < 140737488355328
        · rw [if_pos c9] at H
          have LMc9 := Aside0.mk c9
          clear c9
          obtain ⟨y195, hy195⟩ : ∃ y_ : List Int, y_ = (y192 ++ t189) := ⟨_, rfl⟩
          replace H : (if 0 ≤ (mn (l1.length : Int) 20) then (if (mn (l1.length : Int) 20) ≤ (l1.length : Int) then (if y195.length + (l1.take ((mn (l1.length : Int) 20) : Int).toNat).length < 140737488355328 then ((xors_Get.f (y195 ++ (l1.take ((mn (l1.length : Int) 20) : Int).toNat)) (y182.length : Int)).bind fun bt202 => (if 201 ≤ 35184372088832 then ((xors_Put.f (List.replicate 201 0)).bind fun bt210 => ((ricklaw08_puts.f).bind fun t214 => (if t214 = true then (if t186 = 0 then (if (strOfNums t185).toList = (strOfNums t189).toList then (if bt202.2.2 = 0 then (if bt202.2.1 = (t189.length : Int) then ((rickref06_Same.f k bt202.1 y182).bind fun t215 => (if t215 = true then (some (bt210.2 == 1)) else (some false))) else (some false)) else (some false)) else (some false)) else (some false)) else (some false)))) else (none))) else (none)) else (none)) else (none)) = some r := by first | (rw [hy195]; with_reducible exact H) | (have H2_ := (Option.bind_some _ _).symm.trans H; rw [hy195]; with_reducible exact H2_) | (have H2_ := (Option.bind_some _ _).symm.trans H; with_reducible exact H2_) | with_reducible exact H | (rw [hy195]; exact H) | exact H
          have Ny195 := Aside0.mk hy195
          clear hy195
          obtain ⟨ji10, hji10⟩ : ∃ j_ : Int, (mn (l1.length : Int) 20) = j_ := ⟨_, rfl⟩
          replace H : (if 0 ≤ (ji10) then (if (ji10) ≤ (l1.length : Int) then (if y195.length + (l1.take ((ji10) : Int).toNat).length < 140737488355328 then ((xors_Get.f (y195 ++ (l1.take ((ji10) : Int).toNat)) (y182.length : Int)).bind fun bt202 => (if 201 ≤ 35184372088832 then ((xors_Put.f (List.replicate 201 0)).bind fun bt210 => ((ricklaw08_puts.f).bind fun t214 => (if t214 = true then (if t186 = 0 then (if (strOfNums t185).toList = (strOfNums t189).toList then (if bt202.2.2 = 0 then (if bt202.2.1 = (t189.length : Int) then ((rickref06_Same.f k bt202.1 y182).bind fun t215 => (if t215 = true then (some (bt210.2 == 1)) else (some false))) else (some false)) else (some false)) else (some false)) else (some false)) else (some false)))) else (none))) else (none)) else (none)) else (none)) = some r := by first | (rw [hji10] at H; exact H) | (simp only [hji10] at H ⊢; exact H)
          (try rw [hji10] at A7)
          (try rw [hji10] at A8)
          (try (have hji10h : ji10 ≤ 20 := by (rw [← hji10]; unfold mn; (repeat' split) <;> omega)))
          (try (have hji10g : ji10 ≤ 64 := by omega))
          (try (have hji10l : 0 ≤ ji10 := by (rw [← hji10]; unfold mn; (repeat' split) <;> omega)))
          (try (have hji10m : 0 ≤ ji10 := by omega))
          have hji10_ : (if 20 < (l1.length : Int) then 20 else (l1.length : Int)) = ji10 := hji10
          by_cases c11 : 0 ≤ (ji10)
          · rw [if_pos c11] at H
            have c11b0 := eq_true c11
            have c11b1 : decide (0 ≤ (ji10)) = true := decide_eq_true c11
            clear c11
            by_cases c12 : (ji10) ≤ (l1.length : Int)
            · rw [if_pos c12] at H
              have c12b0 := eq_true c12
              have c12b1 : decide ((ji10) ≤ (l1.length : Int)) = true := decide_eq_true c12
              clear c12
              by_cases c13 : y195.length + (l1.take ((ji10) : Int).toNat).length < 140737488355328
              · rw [if_pos c13] at H
                have LMc13 := Aside0.mk c13
                clear c13
                obtain ⟨y199, hy199⟩ : ∃ y_ : List Int, y_ = (y195 ++ (l1.take ((ji10) : Int).toNat)) := ⟨_, rfl⟩
                replace H : ((xors_Get.f y199 (y182.length : Int)).bind fun bt202 => (if 201 ≤ 35184372088832 then ((xors_Put.f (List.replicate 201 0)).bind fun bt210 => ((ricklaw08_puts.f).bind fun t214 => (if t214 = true then (if t186 = 0 then (if (strOfNums t185).toList = (strOfNums t189).toList then (if bt202.2.2 = 0 then (if bt202.2.1 = (t189.length : Int) then ((rickref06_Same.f k bt202.1 y182).bind fun t215 => (if t215 = true then (some (bt210.2 == 1)) else (some false))) else (some false)) else (some false)) else (some false)) else (some false)) else (some false)))) else (none))) = some r := by first | (rw [hy199]; with_reducible exact H) | (have H2_ := (Option.bind_some _ _).symm.trans H; rw [hy199]; with_reducible exact H2_) | (have H2_ := (Option.bind_some _ _).symm.trans H; with_reducible exact H2_) | with_reducible exact H | (rw [hy199]; exact H) | exact H
                have Ny199 := Aside0.mk hy199
                clear hy199
                replace H := Option.bind_eq_some_iff.mp H
                obtain ⟨⟨t202, t203, t204⟩, A140, H⟩ := H
                replace H : (if 201 ≤ 35184372088832 then ((xors_Put.f (List.replicate 201 0)).bind fun bt210 => ((ricklaw08_puts.f).bind fun t214 => (if t214 = true then (if t186 = 0 then (if (strOfNums t185).toList = (strOfNums t189).toList then (if t204 = 0 then (if t203 = (t189.length : Int) then ((rickref06_Same.f k t202 y182).bind fun t215 => (if t215 = true then (some (bt210.2 == 1)) else (some false))) else (some false)) else (some false)) else (some false)) else (some false)) else (some false)))) else (none)) = some r := H
                have A14 := Aside0.mk A140
                clear A140
                by_cases c15 : 201 ≤ 35184372088832
                · rw [if_pos c15] at H
                  have c15b0 := eq_true c15
                  have c15b1 : decide (201 ≤ 35184372088832) = true := decide_eq_true c15
                  clear c15
                  obtain ⟨y207, hy207⟩ : ∃ y_ : List Int, y_ = (List.replicate 201 0) := ⟨_, rfl⟩
                  replace H : ((xors_Put.f y207).bind fun bt210 => ((ricklaw08_puts.f).bind fun t214 => (if t214 = true then (if t186 = 0 then (if (strOfNums t185).toList = (strOfNums t189).toList then (if t204 = 0 then (if t203 = (t189.length : Int) then ((rickref06_Same.f k t202 y182).bind fun t215 => (if t215 = true then (some (bt210.2 == 1)) else (some false))) else (some false)) else (some false)) else (some false)) else (some false)) else (some false)))) = some r := by first | (rw [hy207]; with_reducible exact H) | (have H2_ := (Option.bind_some _ _).symm.trans H; rw [hy207]; with_reducible exact H2_) | (have H2_ := (Option.bind_some _ _).symm.trans H; with_reducible exact H2_) | with_reducible exact H | (rw [hy207]; exact H) | exact H
                  have Ny207 := Aside0.mk hy207
                  clear hy207
                  replace H := Option.bind_eq_some_iff.mp H
                  obtain ⟨⟨t210, t211⟩, A160, H⟩ := H
                  replace H : ((ricklaw08_puts.f).bind fun t214 => (if t214 = true then (if t186 = 0 then (if (strOfNums t185).toList = (strOfNums t189).toList then (if t204 = 0 then (if t203 = (t189.length : Int) then ((rickref06_Same.f k t202 y182).bind fun t215 => (if t215 = true then (some (t211 == 1)) else (some false))) else (some false)) else (some false)) else (some false)) else (some false)) else (some false))) = some r := H
                  have A16 := Aside0.mk A160
                  clear A160
                  replace H := Option.bind_eq_some_iff.mp H
                  obtain ⟨t214, A170, H⟩ := H
                  replace H : (if t214 = true then (if t186 = 0 then (if (strOfNums t185).toList = (strOfNums t189).toList then (if t204 = 0 then (if t203 = (t189.length : Int) then ((rickref06_Same.f k t202 y182).bind fun t215 => (if t215 = true then (some (t211 == 1)) else (some false))) else (some false)) else (some false)) else (some false)) else (some false)) else (some false)) = some r := H
                  have A17 := Aside0.mk A170
                  clear A170
                  by_cases c18 : t214 = true
                  · subst c18
                    have H1 : (if t186 = 0 then (if (strOfNums t185).toList = (strOfNums t189).toList then (if t204 = 0 then (if t203 = (t189.length : Int) then ((rickref06_Same.f k t202 y182).bind fun t215 => (if t215 = true then (some (t211 == 1)) else (some false))) else (some false)) else (some false)) else (some false)) else (some false)) = some r := by rw [if_pos rfl] at H; exact H
                    clear H
                    have H := H1
                    clear H1
                    by_cases c19 : t186 = 0
                    · rw [if_pos c19] at H
                      have c19b0 : (t186 == 0) = true := beq_iff_eq.mpr c19
                      have c19b1 : (t186 != 0) = false := bne_eq_false_iff_eq.mpr c19
                      clear c19
                      by_cases c20 : (strOfNums t185).toList = (strOfNums t189).toList
                      · rw [if_pos c20] at H
                        have c20b0 : ((strOfNums t185).toList == (strOfNums t189).toList) = true := beq_iff_eq.mpr c20
                        have c20b1 : ((strOfNums t185).toList != (strOfNums t189).toList) = false := bne_eq_false_iff_eq.mpr c20
                        clear c20
                        by_cases c21 : t204 = 0
                        · rw [if_pos c21] at H
                          have c21b0 : (t204 == 0) = true := beq_iff_eq.mpr c21
                          have c21b1 : (t204 != 0) = false := bne_eq_false_iff_eq.mpr c21
                          clear c21
                          by_cases c22 : t203 = (t189.length : Int)
                          · rw [if_pos c22] at H
                            have c22b0 : (t203 == (t189.length : Int)) = true := beq_iff_eq.mpr c22
                            have c22b1 : (t203 != (t189.length : Int)) = false := bne_eq_false_iff_eq.mpr c22
                            clear c22
                            replace H := Option.bind_eq_some_iff.mp H
                            obtain ⟨t215, A230, H⟩ := H
                            replace H : (if t215 = true then (some (t211 == 1)) else (some false)) = some r := H
                            have A23 := Aside0.mk A230
                            clear A230
                            by_cases c24 : t215 = true
                            · subst c24
                              have H1 : (some (t211 == 1)) = some r := by rw [if_pos rfl] at H; exact H
                              clear H
                              have H := H1
                              clear H1
                              obtain rfl := Option.some.inj H
                              obtain ⟨i027, hi027, _, hsz27, _⟩ := info_parts info34
                              obtain ⟨hcut27, hA27, hC27⟩ := print_take_of (P := Tryd.prog) (Value.int .u64) 0 22 34 .i64 Tryd.underlying22 hi027 hsz27 A0 c0 l0 (ji3) (of_decide_eq_true (by first | (with_reducible assumption) | assumption)) (of_decide_eq_true (by first | (with_reducible assumption) | assumption)) HC0.out
                              have HR181 := Aside0.mk (Kd.C_of_reads (h1 := fun _ => rfl) (hA27 _ (Kd.reads_of_C HR0.out)))
                              have HC181 := Aside0.mk hC27
                              clear hA27 hC27 hi027 hsz27
                              obtain ⟨yq27, hyq27⟩ : ∃ y_ : List Int, y_ = l0.take ((ji3) : Int).toNat := ⟨_, rfl⟩
                              rw [← hyq27] at hcut27 HR181 HC181
                              have eyq27 : (l0.take ((ji3) : Int).toNat) = yq27 := hyq27.symm
                              (try rw [eyq27] at H)
                              (try rw [eyq27] at A23)
                              (try rw [eyq27] at c22b1)
                              (try rw [eyq27] at c22b0)
                              (try rw [eyq27] at c21b1)
                              (try rw [eyq27] at c21b0)
                              (try rw [eyq27] at c20b1)
                              (try rw [eyq27] at c20b0)
                              (try rw [eyq27] at c19b1)
                              (try rw [eyq27] at c19b0)
                              (try rw [eyq27] at A17)
                              (try rw [eyq27] at A16)
                              (try rw [eyq27] at Ny207)
                              (try rw [eyq27] at c15b1)
                              (try rw [eyq27] at c15b0)
                              (try rw [eyq27] at A14)
                              (try rw [eyq27] at Ny199)
                              (try rw [eyq27] at LMc13)
                              (try rw [eyq27] at c12b1)
                              (try rw [eyq27] at c12b0)
                              (try rw [eyq27] at c11b1)
                              (try rw [eyq27] at c11b0)
                              (try rw [eyq27] at Ny195)
                              (try rw [eyq27] at LMc9)
                              (try rw [eyq27] at Ny192)
                              (try rw [eyq27] at A8)
                              (try rw [eyq27] at A7)
                              (try rw [eyq27] at Ny182)
                              (try rw [eyq27] at LMc6)
                              (try rw [eyq27] at c5b1)
                              (try rw [eyq27] at c5b0)
                              (try rw [eyq27] at c4b1)
                              (try rw [eyq27] at c4b0)
                              (try rw [eyq27] at Ny178)
                              (try rw [eyq27] at HC1)
                              (try rw [eyq27] at HC0)
                              have Nyq27 := Aside0.mk hyq27
                              clear eyq27 hyq27
                              go_enter Tryd.func3, Tryd.ntmps3
                              try go_wp2_with (first | ((with_reducible refine gate_dst (N := 13) rfl ?_); (try (refine gate_guard (by rfl) ?_; dsimp only)); refine Kd.R_lit (Kd.int .u64) _ 34 ?hg (N := 13) ?hd (xs := ([] : List Int)) (inner := []) (ok := fun _ => True) (okp := fun _ => True) ?hr ?hp (fun _ hk => hk) trivial (Below.refl _ _) (Nat.le_refl _) (by simp) ?_; (case hd => rfl); (case hg => rfl); (case hr => first | (go_simp; done) | (go_simp; rfl)); (case hp => exact (Reps.none _ _)); intro v179 w25 ho26 hb hg_ hnew_; clear hg_ hnew_; (first | rw [← Ny178.out] at ho26 | (simp only [Int.reduceToNat] at ho26; rw [← Ny178.out] at ho26)); have n0_ := Aside0.mk (Kd.R_lower ho26 (below_size (by repeat (first | (with_reducible first | exact HB.out | apply below_alloc | apply pw_below_drewN | apply below_drew1) | exact HB.out)))); have n1_ := Aside0.mk (below_step (by repeat (first | (with_reducible first | exact HB.out | apply below_alloc | apply pw_below_drewN | apply below_drew1) | exact HB.out)) hb); clear HB; have HO180 := n0_; have HB := n1_; clear n0_ n1_; clear hb ho26) | ((with_reducible refine gate_builtin (b := .append) (xs := #[.tmp 13, .tmp 18]) rfl ?_); (try (refine gate_guard (by rfl) ?_; dsimp only)); at_builtin; refine Kd.R_append_rows (Kd.int .u64) (w0 := w) w.heap.size rfl (.tmp 13) (.tmp 18) 22 34 (.int .u64 0) 8 rfl Tryd.underlying22 info34 rfl (by decide) (by omega) v179 y178 yq27 _ _ _ (fun _ => True) (fun _ => False) rfl rfl ?aO ?aR (fun _ _ h => h) (fun _ h => h.elim) ?aF ?aB ?aS ?aL ?_; (case aR => first | (rw [← show yq27.length = (ji3).toNat from (by rw [Nyq27.out, List.length_take]; have h_ : ((ji3) : Int) ≤ (l0.length : Int) := of_decide_eq_true (by first | (with_reducible assumption) | assumption); omega)]; repeat (first | exact (Kd.C_below HR181.out HB.out) | (with_reducible refine Kd.C_alloc ?_ _) | (with_reducible refine Kd.C_drewN ?_ _) | (with_reducible refine Kd.C_drew ?_))) | (repeat (first | exact (Kd.C_below HR181.out HB.out) | (with_reducible refine Kd.C_alloc ?_ _) | (with_reducible refine Kd.C_drewN ?_ _) | (with_reducible refine Kd.C_drew ?_)))); (case aB => exact (by repeat (first | (with_reducible first | exact HB.out | apply below_alloc | apply pw_below_drewN | apply below_drew1) | exact HB.out))); (case aF => exact (fun _ _ => trivial)); (case aO => exact (by (with_reducible repeat (first | apply Kd.R_alloc | apply Kd.R_drewN | apply Kd.R_drew)); exact HO180.out)); (case aS => exact (below_size (by repeat (first | (with_reducible first | exact HB.out | apply below_alloc | apply pw_below_drewN | apply below_drew1) | exact HB.out)))); (case aL => have := LMc6.out; have hlx_ := (show yq27.length = (ji3).toNat from (by rw [Nyq27.out, List.length_take]; have h_ : ((ji3) : Int) ≤ (l0.length : Int) := of_decide_eq_true (by first | (with_reducible assumption) | assumption); omega)); omega); intro v183 w28 ho hb hg hat; rw [← Ny182.out] at ho; have n0_ := Aside0.mk (hb); have n1_ := Aside0.mk (ho); clear HB; clear HO180; have HB := n0_; have HO184 := n1_; clear n0_ n1_; clear ho hb hg hat; obtain ⟨Ao29, co29, eo29⟩ := Kd.R_slice HO184.out; subst eo29) | ((with_reducible refine gate_callee (f := 10) rfl ?_); refine goesL_ (some 22) rfl rfl Tryd.func10 (by kernel_rfl) rfl #[.slice Ao29 y182.length co29] rfl (by (try simp only [List.map_toArray, List.map_cons, List.map_nil]); first | done | rfl | (simp only [List.length_drop, List.length_take]; rfl)) ?_; (with_reducible refine (xors_Put.calls _ _ y182 t185 t186 _ ?side1 ?side2 ?sideT A7.out).mono ?_); (case sideT => exact Go.Proofs.YtmlbppfcpejlpaaDoor.W08.Tab.below HTAB.out (by repeat (first | (with_reducible first | exact HB.out | apply below_alloc | apply pw_below_drewN | apply below_drew1) | exact HB.out))); (case side1 => repeat (first | exact (Kd.R_reads' HO184.out).2.2 | (with_reducible refine Kd.C_alloc ?_ _) | (with_reducible refine Kd.C_drewN ?_ _) | (with_reducible refine Kd.C_drew ?_))); (case side2 => exact (Kd.R_reads' HO184.out).2.1); rintro e w30 ⟨v187, rfl, ho0, hb⟩; refine ⟨_, rfl, ?_⟩; have n0_ := Aside0.mk (Kd.R_below (by (with_reducible repeat (first | apply Kd.R_alloc | apply Kd.R_drewN | apply Kd.R_drew)); exact HO184.out) hb); have n1_ := Aside0.mk (Kd.R_lower ho0 (below_size (by repeat (first | (with_reducible first | exact HB.out | apply below_alloc | apply pw_below_drewN | apply below_drew1) | exact HB.out)))); have n2_ := Aside0.mk (below_step (by repeat (first | (with_reducible first | exact HB.out | apply below_alloc | apply pw_below_drewN | apply below_drew1) | exact HB.out)) hb); clear HO184; clear HB; have HO184 := n0_; have HO188 := n1_; have HB := n2_; clear n0_ n1_ n2_; (try clear hb); (try clear hb2); (try clear hk); (try clear hi); (try clear ho0)) | ((with_reducible refine gate_callee (f := 11) rfl ?_); refine goesL_ (some 26) rfl rfl Tryd.func11 (by kernel_rfl) rfl #[.slice Ao29 y182.length co29] rfl (by (try simp only [List.map_toArray, List.map_cons, List.map_nil]); first | done | rfl | (simp only [List.length_drop, List.length_take]; rfl)) ?_; (with_reducible refine (rickref08_Put.calls k _ _ y182 t189 _ ?side1 ?side2 A8.out).mono ?_); (case side1 => repeat (first | exact (Kd.R_reads' HO184.out).2.2 | (with_reducible refine Kd.C_alloc ?_ _) | (with_reducible refine Kd.C_drewN ?_ _) | (with_reducible refine Kd.C_drew ?_))); (case side2 => exact (Kd.R_reads' HO184.out).2.1); rintro e w31 ⟨v190, rfl, ho0, hb⟩; refine ⟨_, rfl, ?_⟩; have n0_ := Aside0.mk (Kd.R_below (by (with_reducible repeat (first | apply Kd.R_alloc | apply Kd.R_drewN | apply Kd.R_drew)); exact HO184.out) hb); have n1_ := Aside0.mk (Kd.R_elder' (by (with_reducible repeat (first | apply Kd.R_alloc | apply Kd.R_drewN | apply Kd.R_drew)); exact HO188.out) (Kd.R_base ho0) hb); have n2_ := Aside0.mk (Kd.R_lower (Kd.R_new' ho0 (Kd.R_lt (by (with_reducible repeat (first | apply Kd.R_alloc | apply Kd.R_drewN | apply Kd.R_drew)); exact HO188.out))) (below_size (by repeat (first | (with_reducible first | exact HB.out | apply below_alloc | apply pw_below_drewN | apply below_drew1) | exact HB.out)))); have n3_ := Aside0.mk (below_step (by repeat (first | (with_reducible first | exact HB.out | apply below_alloc | apply pw_below_drewN | apply below_drew1) | exact HB.out)) hb); clear HO184; clear HO188; clear HB; have HO184 := n0_; have HO188 := n1_; have HO191 := n2_; have HB := n3_; clear n0_ n1_ n2_ n3_; (try clear hb); (try clear hb2); (try clear hk); (try clear hi); (try clear ho0)))
                              have n0_ := Aside0.mk (Kd.R_drew HO184.out)
                              have n1_ := Aside0.mk (Kd.R_drew HO188.out)
                              have n2_ := Aside0.mk (Kd.R_drew HO191.out)
                              have n3_ := Aside0.mk (below_drew1 HB.out)
                              clear HO184
                              clear HO188
                              clear HO191
                              clear HB
                              have HO184 := n0_
                              have HO188 := n1_
                              have HO191 := n2_
                              have HB := n3_
                              clear n0_ n1_ n2_ n3_
                              obtain ⟨i033, hi033, _, hsz33, _⟩ := info_parts info5
                              obtain ⟨hcut33, hA33, hC33⟩ := print_take_of (P := Tryd.prog) (Value.int .u8) 0 23 5 .i64 Tryd.underlying23 hi033 hsz33 A1 c1 l1 (ji10) (of_decide_eq_true (by first | (with_reducible assumption) | assumption)) (of_decide_eq_true (by first | (with_reducible assumption) | assumption)) HC1.out
                              have HR198 := Aside0.mk (Kd.C_of_reads (h1 := fun _ => rfl) (hA33 _ (Kd.reads_of_C HR1.out)))
                              have HC198 := Aside0.mk hC33
                              clear hA33 hC33 hi033 hsz33
                              obtain ⟨yq33, hyq33⟩ : ∃ y_ : List Int, y_ = l1.take ((ji10) : Int).toNat := ⟨_, rfl⟩
                              rw [← hyq33] at hcut33 HR198 HC198
                              have eyq33 : (l1.take ((ji10) : Int).toNat) = yq33 := hyq33.symm
                              (try rw [eyq33] at HC181)
                              (try rw [eyq33] at H)
                              (try rw [eyq33] at A23)
                              (try rw [eyq33] at c22b1)
                              (try rw [eyq33] at c22b0)
                              (try rw [eyq33] at c21b1)
                              (try rw [eyq33] at c21b0)
                              (try rw [eyq33] at c20b1)
                              (try rw [eyq33] at c20b0)
                              (try rw [eyq33] at c19b1)
                              (try rw [eyq33] at c19b0)
                              (try rw [eyq33] at A17)
                              (try rw [eyq33] at A16)
                              (try rw [eyq33] at Ny207)
                              (try rw [eyq33] at c15b1)
                              (try rw [eyq33] at c15b0)
                              (try rw [eyq33] at A14)
                              (try rw [eyq33] at Ny199)
                              (try rw [eyq33] at LMc13)
                              (try rw [eyq33] at c12b1)
                              (try rw [eyq33] at c12b0)
                              (try rw [eyq33] at c11b1)
                              (try rw [eyq33] at c11b0)
                              (try rw [eyq33] at Ny195)
                              (try rw [eyq33] at LMc9)
                              (try rw [eyq33] at Ny192)
                              (try rw [eyq33] at A8)
                              (try rw [eyq33] at A7)
                              (try rw [eyq33] at Ny182)
                              (try rw [eyq33] at LMc6)
                              (try rw [eyq33] at c5b1)
                              (try rw [eyq33] at c5b0)
                              (try rw [eyq33] at c4b1)
                              (try rw [eyq33] at c4b0)
                              (try rw [eyq33] at Ny178)
                              (try rw [eyq33] at HC1)
                              (try rw [eyq33] at HC0)
                              have Nyq33 := Aside0.mk hyq33
                              clear eyq33 hyq33
                              refine start_ (n := 19) (S := fun w' => True) (ds := []) #[false, false, false, false, false, false, false, false, false, false, false, false, false, false, false, false, false, false, false] (by kernel_rfl) rfl rfl trivial (fun hHeld => ?_); refine with_tabW ricklaw08_XorsPuts.tab4 ricklaw08_XorsPuts.bits4 (fun HT_ HW_ => ?_)
                              generalize w31.drew = w32 at HO184 HO188 HO191 HB HR198 hHeld ⊢
                              refine pure_ (i := 1) (N := some 29) (v := ?_) (a' := ?_) #[false, true, false, false, false, false, false, false, false, false, false, false, false, false, false, false, false, false, false] rfl rfl (any_of HT_.out (by kernel_rfl)) (fun _ _ _ h => h) (Or.inl ⟨by rfl, ?_⟩) ?_ ?_
                              rotate_left
                              · intro w'
                                go_simp
                                with_reducible rfl
                              rotate_left
                              · simp only [Act.put, List.setIfInBounds_toArray, List.set_cons_zero, List.set_cons_succ, i64_w, i32_w]
                                rfl
                              refine pure_ (i := 3) (N := some 31) (v := ?_) (a' := ?_) #[false, true, false, true, false, false, false, false, false, false, false, false, false, false, false, false, false, false, false] rfl rfl (any_of HT_.out (by kernel_rfl)) (fun _ _ _ h => h) (Or.inl ⟨by rfl, ?_⟩) ?_ ?_
                              rotate_left
                              · intro w'
                                go_simp
                                with_reducible rfl
                              rotate_left
                              · simp only [Act.put, List.setIfInBounds_toArray, List.set_cons_zero, List.set_cons_succ, i64_w, i32_w]
                                rfl
                              refine pure_ (i := 4) (N := some 32) (v := ?_) (a' := ?_) #[false, true, false, true, true, false, false, false, false, false, false, false, false, false, false, false, false, false, false] rfl rfl (any_of HT_.out (by kernel_rfl)) (fun _ _ _ h => h) (Or.inl ⟨by rfl, ?_⟩) ?_ ?_
                              rotate_left
                              · intro w'
                                go_simp
                                with_reducible rfl
                              rotate_left
                              · simp only [Act.put, List.setIfInBounds_toArray, List.set_cons_zero, List.set_cons_succ, i64_w, i32_w]
                                rfl
                              refine pure_ (i := 5) (N := some 33) (v := ?_) (a' := ?_) #[false, true, false, true, true, true, false, false, false, false, false, false, false, false, false, false, false, false, false] rfl rfl (any_of HT_.out (by kernel_rfl)) (fun _ _ _ h => h) (Or.inl ⟨by rfl, ?_⟩) ?_ ?_
                              rotate_left
                              · intro w'
                                go_simp
                                with_reducible rfl
                              rotate_left
                              · simp only [Act.put, List.setIfInBounds_toArray, List.set_cons_zero, List.set_cons_succ, i64_w, i32_w]
                                rfl
                              refine pure_ (i := 6) (N := some 34) (v := ?_) (a' := ?_) #[false, true, false, true, true, true, true, false, false, false, false, false, false, false, false, false, false, false, false] rfl rfl (any_of HT_.out (by kernel_rfl)) (fun _ _ _ h => h) (Or.inl ⟨by rfl, ?_⟩) ?_ ?_
                              rotate_left
                              · intro w'
                                go_simp
                                with_reducible rfl
                              rotate_left
                              · simp only [Act.put, List.setIfInBounds_toArray, List.set_cons_zero, List.set_cons_succ, i64_w, i32_w]
                                rfl
                              refine pure_ (i := 7) (N := some 35) (v := ?_) (a' := ?_) #[false, true, false, true, true, true, true, true, false, false, false, false, false, false, false, false, false, false, false] rfl rfl (any_of HT_.out (by kernel_rfl)) (fun _ _ _ h => h) (Or.inl ⟨by rfl, ?_⟩) ?_ ?_
                              rotate_left
                              · intro w'
                                go_simp
                                with_reducible rfl
                              rotate_left
                              · simp only [Act.put, List.setIfInBounds_toArray, List.set_cons_zero, List.set_cons_succ, i64_w, i32_w]
                                rfl
                              refine pure_ (i := 9) (N := some 37) (v := ?_) (a' := ?_) #[false, true, false, true, true, true, true, true, false, true, false, false, false, false, false, false, false, false, false] rfl rfl (any_of HT_.out (by kernel_rfl)) (fun _ _ _ h => h) (Or.inl ⟨by rfl, ?_⟩) ?_ ?_
                              rotate_left
                              · intro w'
                                go_simp
                                with_reducible rfl
                              rotate_left
                              · simp only [Act.put, List.setIfInBounds_toArray, List.set_cons_zero, List.set_cons_succ, i64_w, i32_w]
                                rfl
                              refine pure_ (i := 10) (N := some 38) (v := ?_) (a' := ?_) #[false, true, false, true, true, true, true, true, false, true, true, false, false, false, false, false, false, false, false] rfl rfl (any_of HT_.out (by kernel_rfl)) (fun _ _ _ h => h) (Or.inl ⟨by rfl, ?_⟩) ?_ ?_
                              rotate_left
                              · intro w'
                                go_simp
                                with_reducible rfl
                              rotate_left
                              · simp only [Act.put, List.setIfInBounds_toArray, List.set_cons_zero, List.set_cons_succ, i64_w, i32_w]
                                rfl
                              refine one_ (i := 0) (N := some 28) #[true, true, false, true, true, true, true, true, false, true, true, false, false, false, false, false, false, false, false] rfl rfl (one_of HT_.out (by kernel_rfl)) (by decide) (fun K hK => ?_)
                              refine Kd.R_lit_step (Kd.int .u8) _ 5 ?hg (N := 28) ?hd (xs := ([] : List Int)) (inner := []) (ok := fun _ => True) (okp := fun _ => True) ?hr ?hp (fun _ hk => hk) trivial (Below.refl _ _) (Nat.le_refl _) (by simp) ?_; (case hd => rfl); (case hg => rfl); (case hr => first | (go_simp; done) | (go_simp; rfl)); (case hp => exact (Reps.none _ _))
                              intro v193 w34 ho35 hb hg_ hnew_
                              clear hg_ hnew_
                              (first | rw [← Ny192.out] at ho35 | (simp only [Int.reduceToNat] at ho35; rw [← Ny192.out] at ho35))
                              have n0_ := Aside0.mk (Kd.R_below (by (with_reducible repeat (first | apply Kd.R_alloc | apply Kd.R_drewN | apply Kd.R_drew)); exact HO184.out) hb)
                              have n1_ := Aside0.mk (Kd.R_elder' (by (with_reducible repeat (first | apply Kd.R_alloc | apply Kd.R_drewN | apply Kd.R_drew)); exact HO188.out) (Kd.R_base ho35) hb)
                              have n2_ := Aside0.mk (Kd.R_elder' (by (with_reducible repeat (first | apply Kd.R_alloc | apply Kd.R_drewN | apply Kd.R_drew)); exact HO191.out) (Kd.R_base ho35) hb)
                              have n3_ := Aside0.mk (Kd.R_lower (Kd.R_new' (Kd.R_new' ho35 (Kd.R_lt (by (with_reducible repeat (first | apply Kd.R_alloc | apply Kd.R_drewN | apply Kd.R_drew)); exact HO188.out))) (Kd.R_lt (by (with_reducible repeat (first | apply Kd.R_alloc | apply Kd.R_drewN | apply Kd.R_drew)); exact HO191.out))) (below_size (by repeat (first | (with_reducible first | exact HB.out | apply below_alloc | apply pw_below_drewN | apply below_drew1) | exact HB.out))))
                              have n4_ := Aside0.mk (below_step (by repeat (first | (with_reducible first | exact HB.out | apply below_alloc | apply pw_below_drewN | apply below_drew1) | exact HB.out)) hb)
                              clear HO184
                              clear HO188
                              clear HO191
                              clear HB
                              have HO184 := n0_
                              have HO188 := n1_
                              have HO191 := n2_
                              have HO194 := n3_
                              have HB := n4_
                              clear n0_ n1_ n2_ n3_ n4_
                              clear hb ho35
                              obtain ⟨Ao37, co37, eo37⟩ := Kd.R_slice HO191.out
                              (first | subst eo37 | (injection eo37 with f1_ f2_ f3_; have f4_ := f1_.symm; have f5_ := f3_.symm; clear f1_ f2_ f3_; subst f4_; subst f5_))
                              refine hK.out _ _ trivial (fun hHeld => ?_)
                              clear hK K
                              refine norm_ (a' := ?_) ?_ ?_
                              rotate_left
                              · show Act.put _ (some 28) _ = _
                                simp only [Act.put, List.setIfInBounds_toArray, List.set_cons_zero, List.set_cons_succ, i64_w, i32_w]
                                rfl
                              refine one_ (i := 2) (N := some 30) #[true, true, true, true, true, true, true, true, false, true, true, false, false, false, false, false, false, false, false] rfl rfl (one_of HT_.out (by kernel_rfl)) (by decide) (fun K hK => ?_)
                              refine Kd.R_append_rows_step (Kd.int .u8) (w0 := w) w.heap.size (by rfl) (.tmp 28) (.tmp 29) 23 5 (.int .u8 0) 1 rfl Tryd.underlying23 info5 rfl (by decide) (by omega) v193 y192 t189 _ _ _ (fun k_ => some k_ ≠ (v187 : Value).ownBlock ∧ some k_ ≠ (.slice Ao37 t189.length co37 : Value).ownBlock) (fun _ => False) rfl rfl ?aO ?aR (fun _ _ h => h) (fun _ h => h.elim) ?aF ?aB ?aS ?aL ?_
                              (case aR => repeat (first | exact (Kd.R_reads' HO191.out).2.2 | (with_reducible refine Kd.C_alloc ?_ _) | (with_reducible refine Kd.C_drewN ?_ _) | (with_reducible refine Kd.C_drew ?_)))
                              (case aB => exact (by repeat (first | (with_reducible first | exact HB.out | apply below_alloc | apply pw_below_drewN | apply below_drew1) | exact HB.out)))
                              (case aF => exact (fun k_ hk => ⟨Kd.fresh' (Kd.R_lt (by (with_reducible repeat (first | apply Kd.R_alloc | apply Kd.R_drewN | apply Kd.R_drew)); exact HO188.out)) k_ hk, Kd.fresh' (Kd.R_lt (by (with_reducible repeat (first | apply Kd.R_alloc | apply Kd.R_drewN | apply Kd.R_drew)); exact HO191.out)) k_ hk⟩))
                              (case aO => exact (by (with_reducible repeat (first | apply Kd.R_alloc | apply Kd.R_drewN | apply Kd.R_drew)); exact Kd.R_mono HO194.out (fun _ hk => ⟨hk.1.2, hk.2⟩)))
                              (case aS => exact (below_size (by repeat (first | (with_reducible first | exact HB.out | apply below_alloc | apply pw_below_drewN | apply below_drew1) | exact HB.out))))
                              (case aL => have := LMc9.out; omega)
                              intro v196 w36 ho hb hg hat
                              rw [← Ny195.out] at ho
                              have n0_ := Aside0.mk (Kd.R_over' (by (with_reducible repeat (first | apply Kd.R_alloc | apply Kd.R_drewN | apply Kd.R_drew)); exact HO184.out) (Kd.R_typed (by (with_reducible repeat (first | apply Kd.R_alloc | apply Kd.R_drewN | apply Kd.R_drew)); exact HO194.out)) (by decide) hg)
                              have n1_ := Aside0.mk (Kd.R_after (ok := (fun k_ => some k_ ≠ (.slice Ao37 t189.length co37 : Value).ownBlock)) (by (with_reducible repeat (first | apply Kd.R_alloc | apply Kd.R_drewN | apply Kd.R_drew)); exact Kd.R_mono HO188.out (fun _ hk => ⟨hk.1.2, hk.2⟩)) hg hat)
                              have n2_ := Aside0.mk (Kd.R_after (ok := (fun k_ => some k_ ≠ (v187 : Value).ownBlock)) (by (with_reducible repeat (first | apply Kd.R_alloc | apply Kd.R_drewN | apply Kd.R_drew)); exact Kd.R_mono HO191.out (fun _ hk => ⟨hk.1.2, hk.2⟩)) hg hat)
                              have n3_ := Aside0.mk (hb)
                              have n4_ := Aside0.mk (ho)
                              clear HO184
                              clear HO188
                              clear HO191
                              clear HB
                              clear HO194
                              have HO184 := n0_
                              have HO188 := n1_
                              have HO191 := n2_
                              have HB := n3_
                              have HO197 := n4_
                              clear n0_ n1_ n2_ n3_ n4_
                              clear ho hb hg hat
                              refine hK.out _ _ trivial (fun hHeld => ?_)
                              clear hK K
                              refine norm_ (a' := ?_) ?_ ?_
                              rotate_left
                              · show Act.put _ (some 30) _ = _
                                simp only [Act.put, List.setIfInBounds_toArray, List.set_cons_zero, List.set_cons_succ, i64_w, i32_w]
                                rfl
                              refine one_ (i := 8) (N := some 36) #[true, true, true, true, true, true, true, true, true, true, true, false, false, false, false, false, false, false, false] rfl rfl (one_of HT_.out (by kernel_rfl)) (by decide) (fun K hK => ?_)
                              refine Kd.R_append_rows_step (Kd.int .u8) (w0 := w) w.heap.size (by rfl) (.tmp 30) (.tmp 35) 23 5 (.int .u8 0) 1 rfl Tryd.underlying23 info5 rfl (by decide) (by omega) v196 y195 yq33 _ _ _ (fun k_ => some k_ ≠ (v187 : Value).ownBlock ∧ some k_ ≠ (.slice Ao37 t189.length co37 : Value).ownBlock) (fun _ => False) rfl rfl ?aO ?aR (fun _ _ h => h) (fun _ h => h.elim) ?aF ?aB ?aS ?aL ?_
                              (case aR => first | (rw [← show yq33.length = (ji10).toNat from (by rw [Nyq33.out, List.length_take]; have h_ : ((ji10) : Int) ≤ (l1.length : Int) := of_decide_eq_true (by first | (with_reducible assumption) | assumption); omega)]; repeat (first | exact (Kd.C_below HR198.out HB.out) | (with_reducible refine Kd.C_alloc ?_ _) | (with_reducible refine Kd.C_drewN ?_ _) | (with_reducible refine Kd.C_drew ?_))) | (repeat (first | exact (Kd.C_below HR198.out HB.out) | (with_reducible refine Kd.C_alloc ?_ _) | (with_reducible refine Kd.C_drewN ?_ _) | (with_reducible refine Kd.C_drew ?_))))
                              (case aB => exact (by repeat (first | (with_reducible first | exact HB.out | apply below_alloc | apply pw_below_drewN | apply below_drew1) | exact HB.out)))
                              (case aF => exact (fun k_ hk => ⟨Kd.fresh' (Kd.R_lt (by (with_reducible repeat (first | apply Kd.R_alloc | apply Kd.R_drewN | apply Kd.R_drew)); exact HO188.out)) k_ hk, Kd.fresh' (Kd.R_lt (by (with_reducible repeat (first | apply Kd.R_alloc | apply Kd.R_drewN | apply Kd.R_drew)); exact HO191.out)) k_ hk⟩))
                              (case aO => exact (by (with_reducible repeat (first | apply Kd.R_alloc | apply Kd.R_drewN | apply Kd.R_drew)); exact HO197.out))
                              (case aS => exact (below_size (by repeat (first | (with_reducible first | exact HB.out | apply below_alloc | apply pw_below_drewN | apply below_drew1) | exact HB.out))))
                              (case aL => have := LMc13.out; have hlx_ := (show yq33.length = (ji10).toNat from (by rw [Nyq33.out, List.length_take]; have h_ : ((ji10) : Int) ≤ (l1.length : Int) := of_decide_eq_true (by first | (with_reducible assumption) | assumption); omega)); omega)
                              intro v200 w38 ho hb hg hat
                              rw [← Ny199.out] at ho
                              have n0_ := Aside0.mk (Kd.R_over' (by (with_reducible repeat (first | apply Kd.R_alloc | apply Kd.R_drewN | apply Kd.R_drew)); exact HO184.out) (Kd.R_typed (by (with_reducible repeat (first | apply Kd.R_alloc | apply Kd.R_drewN | apply Kd.R_drew)); exact HO197.out)) (by decide) hg)
                              have n1_ := Aside0.mk (Kd.R_after (ok := (fun k_ => some k_ ≠ (.slice Ao37 t189.length co37 : Value).ownBlock)) (by (with_reducible repeat (first | apply Kd.R_alloc | apply Kd.R_drewN | apply Kd.R_drew)); exact HO188.out) hg hat)
                              have n2_ := Aside0.mk (Kd.R_after (ok := (fun k_ => some k_ ≠ (v187 : Value).ownBlock)) (by (with_reducible repeat (first | apply Kd.R_alloc | apply Kd.R_drewN | apply Kd.R_drew)); exact HO191.out) hg hat)
                              have n3_ := Aside0.mk (hb)
                              have n4_ := Aside0.mk (ho)
                              clear HO184
                              clear HO188
                              clear HO191
                              clear HB
                              clear HO197
                              have HO184 := n0_
                              have HO188 := n1_
                              have HO191 := n2_
                              have HB := n3_
                              have HO201 := n4_
                              clear n0_ n1_ n2_ n3_ n4_
                              clear ho hb hg hat
                              obtain ⟨Ao39, co39, eo39⟩ := Kd.R_slice HO201.out
                              (first | subst eo39 | (injection eo39 with f1_ f2_ f3_; have f4_ := f1_.symm; have f5_ := f3_.symm; clear f1_ f2_ f3_; subst f4_; subst f5_))
                              refine hK.out _ _ trivial (fun hHeld => ?_)
                              clear hK K
                              refine norm_ (a' := ?_) ?_ ?_
                              rotate_left
                              · show Act.put _ (some 36) _ = _
                                simp only [Act.put, List.setIfInBounds_toArray, List.set_cons_zero, List.set_cons_succ, i64_w, i32_w]
                                rfl
                              refine one_ (i := 11) (N := some 39) #[true, true, true, true, true, true, true, true, true, true, true, true, false, false, false, false, false, false, false] rfl rfl (one_of HT_.out (by kernel_rfl)) (by decide) (fun K hK => ?_)
                              refine goes_ Tryd.func12 (by kernel_rfl) rfl #[.slice Ao39 y199.length co39, .int .i64 (y182.length : Int)] (by rfl) rfl rfl (by (try simp only [List.map_toArray, List.map_cons, List.map_nil]); first | done | rfl | (simp only [List.length_drop, List.length_take]; rfl)) ?_
                              with_reducible refine (xors_Get.calls _ _ y199 (y182.length : Int) t202 t203 t204 _ ?side1 ?side2 ?sideT A14.out).mono ?_
                              (case sideT => exact Go.Proofs.YtmlbppfcpejlpaaDoor.W08.Tab.below HTAB.out (by repeat (first | (with_reducible first | exact HB.out | apply below_alloc | apply pw_below_drewN | apply below_drew1) | exact HB.out)))
                              (case side1 => repeat (first | exact (Kd.R_reads' HO201.out).2.2 | (with_reducible refine Kd.C_alloc ?_ _) | (with_reducible refine Kd.C_drewN ?_ _) | (with_reducible refine Kd.C_drew ?_)))
                              (case side2 => exact (Kd.R_reads' HO201.out).2.1)
                              rintro e w40 ⟨v205, rfl, ho0, hb⟩
                              refine ⟨_, rfl, ?_⟩
                              have n0_ := Aside0.mk (Kd.R_elder' (by (with_reducible repeat (first | apply Kd.R_alloc | apply Kd.R_drewN | apply Kd.R_drew)); exact HO184.out) (Kd.R_base ho0) hb)
                              have n1_ := Aside0.mk (Kd.R_below (by (with_reducible repeat (first | apply Kd.R_alloc | apply Kd.R_drewN | apply Kd.R_drew)); exact HO188.out) hb)
                              have n2_ := Aside0.mk (Kd.R_below (by (with_reducible repeat (first | apply Kd.R_alloc | apply Kd.R_drewN | apply Kd.R_drew)); exact HO191.out) hb)
                              have n3_ := Aside0.mk (Kd.R_below (by (with_reducible repeat (first | apply Kd.R_alloc | apply Kd.R_drewN | apply Kd.R_drew)); exact HO201.out) hb)
                              have n4_ := Aside0.mk (Kd.R_lower (Kd.R_new' ho0 (Kd.R_lt (by (with_reducible repeat (first | apply Kd.R_alloc | apply Kd.R_drewN | apply Kd.R_drew)); exact HO184.out))) (below_size (by repeat (first | (with_reducible first | exact HB.out | apply below_alloc | apply pw_below_drewN | apply below_drew1) | exact HB.out))))
                              have n5_ := Aside0.mk (below_step (by repeat (first | (with_reducible first | exact HB.out | apply below_alloc | apply pw_below_drewN | apply below_drew1) | exact HB.out)) hb)
                              clear HO184
                              clear HO188
                              clear HO191
                              clear HO201
                              clear HB
                              have HO184 := n0_
                              have HO188 := n1_
                              have HO191 := n2_
                              have HO201 := n3_
                              have HO206 := n4_
                              have HB := n5_
                              clear n0_ n1_ n2_ n3_ n4_ n5_
                              (try clear hb)
                              (try clear hb2)
                              (try clear hk)
                              (try clear hi)
                              (try clear ho0)
                              refine hK.out _ _ trivial (fun hHeld => ?_)
                              clear hK K
                              refine norm_ (a' := ?_) ?_ ?_
                              rotate_left
                              · show Act.put _ (some 39) _ = _
                                simp only [Act.put, List.setIfInBounds_toArray, List.set_cons_zero, List.set_cons_succ, i64_w, i32_w]
                                rfl
                              refine pure_ (i := 12) (N := some 27) (v := ?_) (a' := ?_) #[true, true, true, true, true, true, true, true, true, true, true, true, true, false, false, false, false, false, false] rfl rfl (any_of HT_.out (by kernel_rfl)) (fun _ _ _ h => h) (Or.inl ⟨by rfl, ?_⟩) ?_ ?_
                              rotate_left
                              · intro w'
                                go_simp
                                with_reducible rfl
                              rotate_left
                              · simp only [Act.put, List.setIfInBounds_toArray, List.set_cons_zero, List.set_cons_succ, i64_w, i32_w]
                                rfl
                              refine pure_ (i := 13) (N := some 40) (v := ?_) (a' := ?_) #[true, true, true, true, true, true, true, true, true, true, true, true, true, true, false, false, false, false, false] rfl rfl (any_of HT_.out (by kernel_rfl)) (fun _ _ _ h => h) (Or.inl ⟨by rfl, ?_⟩) ?_ ?_
                              rotate_left
                              · intro w'
                                go_simp
                                with_reducible rfl
                              rotate_left
                              · simp only [Act.put, List.setIfInBounds_toArray, List.set_cons_zero, List.set_cons_succ, i64_w, i32_w]
                                rfl
                              refine pure_ (i := 14) (N := some 41) (v := ?_) (a' := ?_) #[true, true, true, true, true, true, true, true, true, true, true, true, true, true, true, false, false, false, false] rfl rfl (any_of HT_.out (by kernel_rfl)) (fun _ _ _ h => h) (Or.inl ⟨by rfl, ?_⟩) ?_ ?_
                              rotate_left
                              · intro w'
                                go_simp
                                with_reducible rfl
                              rotate_left
                              · simp only [Act.put, List.setIfInBounds_toArray, List.set_cons_zero, List.set_cons_succ, i64_w, i32_w]
                                rfl
                              refine pure_ (i := 15) (N := some 42) (v := ?_) (a' := ?_) #[true, true, true, true, true, true, true, true, true, true, true, true, true, true, true, true, false, false, false] rfl rfl (any_of HT_.out (by kernel_rfl)) (fun _ _ _ h => h) (Or.inl ⟨by rfl, ?_⟩) ?_ ?_
                              rotate_left
                              · intro w'
                                go_simp
                                with_reducible rfl
                              rotate_left
                              · simp only [Act.put, List.setIfInBounds_toArray, List.set_cons_zero, List.set_cons_succ, i64_w, i32_w]
                                rfl
                              refine pure_ (i := 16) (N := some 8) (v := ?_) (a' := ?_) #[true, true, true, true, true, true, true, true, true, true, true, true, true, true, true, true, true, false, false] rfl rfl (any_of HT_.out (by kernel_rfl)) (fun _ _ _ h => h) (Or.inl ⟨by rfl, ?_⟩) ?_ ?_
                              rotate_left
                              · intro w'
                                go_simp
                                with_reducible rfl
                              rotate_left
                              · simp only [Act.put, List.setIfInBounds_toArray, List.set_cons_zero, List.set_cons_succ, i64_w, i32_w]
                                rfl
                              refine pure_ (i := 17) (N := some 9) (v := ?_) (a' := ?_) #[true, true, true, true, true, true, true, true, true, true, true, true, true, true, true, true, true, true, false] rfl rfl (any_of HT_.out (by kernel_rfl)) (fun _ _ _ h => h) (Or.inl ⟨by rfl, ?_⟩) ?_ ?_
                              rotate_left
                              · intro w'
                                go_simp
                                with_reducible rfl
                              rotate_left
                              · simp only [Act.put, List.setIfInBounds_toArray, List.set_cons_zero, List.set_cons_succ, i64_w, i32_w]
                                rfl
                              refine pure_ (i := 18) (N := some 10) (v := ?_) (a' := ?_) #[true, true, true, true, true, true, true, true, true, true, true, true, true, true, true, true, true, true, true] rfl rfl (any_of HT_.out (by kernel_rfl)) (fun _ _ _ h => h) (Or.inl ⟨by rfl, ?_⟩) ?_ ?_
                              rotate_left
                              · intro w'
                                go_simp
                                with_reducible rfl
                              rotate_left
                              · simp only [Act.put, List.setIfInBounds_toArray, List.set_cons_zero, List.set_cons_succ, i64_w, i32_w]
                                rfl
                              refine done_ (done_of HT_.out (by kernel_rfl)) ?_
                              try go_wp2_with (first | ((with_reducible refine gate_dst (N := 44) rfl ?_); (try (refine gate_guard (by rfl) ?_; dsimp only)); refine Kd.R_make (Kd.int .u64) _ 34 rfl (N := 44) rfl 22 _ _ rfl 201 rfl rfl Tryd.underlying22 (.int .u64 0) 8 info34 rfl (by decide) (by omega) 0 (ok := fun _ => True) (okp := fun _ => True) rfl (fun _ hk => hk) trivial (by omega) (by omega) (Below.refl _ _) (Nat.le_refl _) ?_; intro v208 w41 ho42 hb hg_ hnew_; clear hg_ hnew_; (first | rw [← Ny207.out] at ho42 | (simp only [Int.reduceToNat] at ho42; rw [← Ny207.out] at ho42)); have n0_ := Aside0.mk (Kd.R_elder' (by (with_reducible repeat (first | apply Kd.R_alloc | apply Kd.R_drewN | apply Kd.R_drew)); exact HO184.out) (Kd.R_base ho42) hb); have n1_ := Aside0.mk (Kd.R_below (by (with_reducible repeat (first | apply Kd.R_alloc | apply Kd.R_drewN | apply Kd.R_drew)); exact HO188.out) hb); have n2_ := Aside0.mk (Kd.R_below (by (with_reducible repeat (first | apply Kd.R_alloc | apply Kd.R_drewN | apply Kd.R_drew)); exact HO191.out) hb); have n3_ := Aside0.mk (Kd.R_below (by (with_reducible repeat (first | apply Kd.R_alloc | apply Kd.R_drewN | apply Kd.R_drew)); exact HO201.out) hb); have n4_ := Aside0.mk (Kd.R_elder' (by (with_reducible repeat (first | apply Kd.R_alloc | apply Kd.R_drewN | apply Kd.R_drew)); exact HO206.out) (Kd.R_base ho42) hb); have n5_ := Aside0.mk (Kd.R_lower (Kd.R_new' (Kd.R_new' ho42 (Kd.R_lt (by (with_reducible repeat (first | apply Kd.R_alloc | apply Kd.R_drewN | apply Kd.R_drew)); exact HO184.out))) (Kd.R_lt (by (with_reducible repeat (first | apply Kd.R_alloc | apply Kd.R_drewN | apply Kd.R_drew)); exact HO206.out))) (below_size (by repeat (first | (with_reducible first | exact HB.out | apply below_alloc | apply pw_below_drewN | apply below_drew1) | exact HB.out)))); have n6_ := Aside0.mk (below_step (by repeat (first | (with_reducible first | exact HB.out | apply below_alloc | apply pw_below_drewN | apply below_drew1) | exact HB.out)) hb); clear HO184; clear HO188; clear HO191; clear HO201; clear HO206; clear HB; have HO184 := n0_; have HO188 := n1_; have HO191 := n2_; have HO201 := n3_; have HO206 := n4_; have HO209 := n5_; have HB := n6_; clear n0_ n1_ n2_ n3_ n4_ n5_ n6_; clear hb ho42; obtain ⟨Ao43, co43, eo43⟩ := Kd.R_slice HO209.out; subst eo43) | ((with_reducible refine gate_callee (f := 10) rfl ?_); refine goesL_ (some 45) rfl rfl Tryd.func10 (by kernel_rfl) rfl #[.slice Ao43 y207.length co43] rfl (by (try simp only [List.map_toArray, List.map_cons, List.map_nil]); first | done | rfl | (simp only [List.length_drop, List.length_take]; rfl)) ?_; (with_reducible refine (xors_Put.calls _ _ y207 t210 t211 _ ?side1 ?side2 ?sideT A16.out).mono ?_); (case sideT => exact Go.Proofs.YtmlbppfcpejlpaaDoor.W08.Tab.below HTAB.out (by repeat (first | (with_reducible first | exact HB.out | apply below_alloc | apply pw_below_drewN | apply below_drew1) | exact HB.out))); (case side1 => repeat (first | exact (Kd.R_reads' HO209.out).2.2 | (with_reducible refine Kd.C_alloc ?_ _) | (with_reducible refine Kd.C_drewN ?_ _) | (with_reducible refine Kd.C_drew ?_))); (case side2 => exact (Kd.R_reads' HO209.out).2.1); rintro e w44 ⟨v212, rfl, ho0, hb⟩; refine ⟨_, rfl, ?_⟩; have n0_ := Aside0.mk (Kd.R_below (by (with_reducible repeat (first | apply Kd.R_alloc | apply Kd.R_drewN | apply Kd.R_drew)); exact HO184.out) hb); have n1_ := Aside0.mk (Kd.R_elder' (by (with_reducible repeat (first | apply Kd.R_alloc | apply Kd.R_drewN | apply Kd.R_drew)); exact HO188.out) (Kd.R_base ho0) hb); have n2_ := Aside0.mk (Kd.R_elder' (by (with_reducible repeat (first | apply Kd.R_alloc | apply Kd.R_drewN | apply Kd.R_drew)); exact HO191.out) (Kd.R_base ho0) hb); have n3_ := Aside0.mk (Kd.R_elder' (by (with_reducible repeat (first | apply Kd.R_alloc | apply Kd.R_drewN | apply Kd.R_drew)); exact HO201.out) (Kd.R_base ho0) hb); have n4_ := Aside0.mk (Kd.R_below (by (with_reducible repeat (first | apply Kd.R_alloc | apply Kd.R_drewN | apply Kd.R_drew)); exact HO206.out) hb); have n5_ := Aside0.mk (Kd.R_below (by (with_reducible repeat (first | apply Kd.R_alloc | apply Kd.R_drewN | apply Kd.R_drew)); exact HO209.out) hb); have n6_ := Aside0.mk (Kd.R_lower (Kd.R_new' (Kd.R_new' (Kd.R_new' ho0 (Kd.R_lt (by (with_reducible repeat (first | apply Kd.R_alloc | apply Kd.R_drewN | apply Kd.R_drew)); exact HO188.out))) (Kd.R_lt (by (with_reducible repeat (first | apply Kd.R_alloc | apply Kd.R_drewN | apply Kd.R_drew)); exact HO191.out))) (Kd.R_lt (by (with_reducible repeat (first | apply Kd.R_alloc | apply Kd.R_drewN | apply Kd.R_drew)); exact HO201.out))) (below_size (by repeat (first | (with_reducible first | exact HB.out | apply below_alloc | apply pw_below_drewN | apply below_drew1) | exact HB.out)))); have n7_ := Aside0.mk (below_step (by repeat (first | (with_reducible first | exact HB.out | apply below_alloc | apply pw_below_drewN | apply below_drew1) | exact HB.out)) hb); clear HO184; clear HO188; clear HO191; clear HO201; clear HO206; clear HO209; clear HB; have HO184 := n0_; have HO188 := n1_; have HO191 := n2_; have HO201 := n3_; have HO206 := n4_; have HO209 := n5_; have HO213 := n6_; have HB := n7_; clear n0_ n1_ n2_ n3_ n4_ n5_ n6_ n7_; (try clear hb); (try clear hb2); (try clear hk); (try clear hi); (try clear ho0)) | ((with_reducible refine gate_callee (f := 13) rfl ?_); refine goesL_ (some 48) rfl rfl Tryd.func13 (by kernel_rfl) rfl #[] rfl (by (try simp only [List.map_toArray, List.map_cons, List.map_nil]); first | done | rfl | (simp only [List.length_drop, List.length_take]; rfl)) ?_; (with_reducible refine (ricklaw08_puts.calls  true _ ?sideT A17.out).mono ?_); (case sideT => exact Go.Proofs.YtmlbppfcpejlpaaDoor.W08.Tab.below HTAB.out (by repeat (first | (with_reducible first | exact HB.out | apply below_alloc | apply pw_below_drewN | apply below_drew1) | exact HB.out))); rintro e w45 ⟨rfl, hb⟩; refine ⟨_, rfl, ?_⟩; have n0_ := Aside0.mk (Kd.R_below (by (with_reducible repeat (first | apply Kd.R_alloc | apply Kd.R_drewN | apply Kd.R_drew)); exact HO184.out) hb); have n1_ := Aside0.mk (Kd.R_below (by (with_reducible repeat (first | apply Kd.R_alloc | apply Kd.R_drewN | apply Kd.R_drew)); exact HO188.out) hb); have n2_ := Aside0.mk (Kd.R_below (by (with_reducible repeat (first | apply Kd.R_alloc | apply Kd.R_drewN | apply Kd.R_drew)); exact HO191.out) hb); have n3_ := Aside0.mk (Kd.R_below (by (with_reducible repeat (first | apply Kd.R_alloc | apply Kd.R_drewN | apply Kd.R_drew)); exact HO201.out) hb); have n4_ := Aside0.mk (Kd.R_below (by (with_reducible repeat (first | apply Kd.R_alloc | apply Kd.R_drewN | apply Kd.R_drew)); exact HO206.out) hb); have n5_ := Aside0.mk (Kd.R_below (by (with_reducible repeat (first | apply Kd.R_alloc | apply Kd.R_drewN | apply Kd.R_drew)); exact HO209.out) hb); have n6_ := Aside0.mk (Kd.R_below (by (with_reducible repeat (first | apply Kd.R_alloc | apply Kd.R_drewN | apply Kd.R_drew)); exact HO213.out) hb); have n7_ := Aside0.mk (below_step (by repeat (first | (with_reducible first | exact HB.out | apply below_alloc | apply pw_below_drewN | apply below_drew1) | exact HB.out)) hb); clear HO184; clear HO188; clear HO191; clear HO201; clear HO206; clear HO209; clear HO213; clear HB; have HO184 := n0_; have HO188 := n1_; have HO191 := n2_; have HO201 := n3_; have HO206 := n4_; have HO209 := n5_; have HO213 := n6_; have HB := n7_; clear n0_ n1_ n2_ n3_ n4_ n5_ n6_ n7_; (try clear hb); (try clear hb2); (try clear hk); (try clear hi); have hcv46 := own_string (P := Tryd.prog) Tryd.underlying23 Tryd.underlying5 Tryd.underlying9 (Kd.own_of_R HO188.out); have hcv47 := own_string (P := Tryd.prog) Tryd.underlying23 Tryd.underlying5 Tryd.underlying9 (Kd.own_of_R HO191.out); obtain ⟨Ao48, co48, eo48⟩ := Kd.R_slice HO206.out; subst eo48) | (go_at_call 14; (with_reducible refine (rickref06_Same.calls k _ _ t202 _ _ y182 true _ ?side1 ?side2 ?side3 ?side4 A23.out).mono ?_); (case side1 => repeat (first | exact (Kd.R_reads' HO206.out).2.2 | (with_reducible refine Kd.C_alloc ?_ _) | (with_reducible refine Kd.C_drewN ?_ _) | (with_reducible refine Kd.C_drew ?_))); (case side2 => exact (Kd.R_reads' HO206.out).2.1); (case side3 => repeat (first | exact (Kd.R_reads' HO184.out).2.2 | (with_reducible refine Kd.C_alloc ?_ _) | (with_reducible refine Kd.C_drewN ?_ _) | (with_reducible refine Kd.C_drew ?_))); (case side4 => exact (Kd.R_reads' HO184.out).2.1); rintro e w' ⟨rfl, ⟨nd, rfl⟩⟩))
                              go_ret
                              exact ⟨by first | rfl | (simp [errW_none, errW_some] <;> rfl) | (simp only [← hji3, ← hji10]; first | rfl | (simp [errW_none, errW_some] <;> rfl)) | (simp [*, errW_none, errW_some] <;> rfl), by repeat (first | (with_reducible first | exact HB.out | apply below_alloc | apply pw_below_drewN | apply below_drew1) | exact HB.out)⟩
                            · replace c24 := Bool.eq_false_iff.mpr c24
                              subst c24
                              have H1 : (some false) = some r := by rw [if_neg (show ¬ (false = true) by decide)] at H; exact H
                              clear H
                              have H := H1
                              clear H1
                              exact absurd (Option.some.inj (H.trans (congrArg some HRT.out))) (by decide)
                          · rw [if_neg c22] at H
                            exact absurd (Option.some.inj (H.trans (congrArg some HRT.out))) (by decide)
                        · rw [if_neg c21] at H
                          exact absurd (Option.some.inj (H.trans (congrArg some HRT.out))) (by decide)
                      · rw [if_neg c20] at H
                        exact absurd (Option.some.inj (H.trans (congrArg some HRT.out))) (by decide)
                    · rw [if_neg c19] at H
                      exact absurd (Option.some.inj (H.trans (congrArg some HRT.out))) (by decide)
                  · replace c18 := Bool.eq_false_iff.mpr c18
                    subst c18
                    have H1 : (some false) = some r := by rw [if_neg (show ¬ (false = true) by decide)] at H; exact H
                    clear H
                    have H := H1
                    clear H1
                    exact absurd (Option.some.inj (H.trans (congrArg some HRT.out))) (by decide)
                · rw [if_neg c15] at H
                  exact absurd H (by simp)
              · rw [if_neg c13] at H
                exact absurd H (by simp)
            · rw [if_neg c12] at H
              exact absurd H (by simp)
          · rw [if_neg c11] at H
            exact absurd H (by simp)
        · rw [if_neg c9] at H
          exact absurd H (by simp)
      · rw [if_neg c6] at H
        exact absurd H (by simp)
    · rw [if_neg c5] at H
      exact absurd H (by simp)
  · rw [if_neg c4] at H
    exact absurd H (by simp)

/-- THE ONE PURE STATEMENT of ricklaw08_XorsPuts: yours. -/
def ricklaw08_XorsPuts.Pure : Prop := ∀ (l0 : List Int) (l1 : List Int), l0.length ≤ maxLen → l0.length * 8 ≤ 140737488351232 → (∀ x ∈ l0, (Lit.int .u64 x).wf = true) → l1.length ≤ maxLen → l1.length * 1 ≤ 140737488351232 → (∀ x ∈ l1, (Lit.int .u8 x).wf = true) → ∃ k, ricklaw08_XorsPuts.f k l0 l1 = some true
theorem ricklaw08_XorsPuts.walk (P : ricklaw08_XorsPuts.Pure) (a0 : Option Addr) (len0 cap0 : Nat) (z0 : List Int) (a1 : Option Addr) (len1 cap1 : Nat) (z1 : List Int) (w : World) (hT_ : Go.Proofs.YtmlbppfcpejlpaaDoor.W08.Tab w) (w0 : (a0 = none ∧ len0 = 0 ∧ cap0 = 0 ∧ z0 = []) ∨ ∃ x, a0 = some x ∧ len0 ≤ cap0 ∧ cap0 ≤ maxLen ∧ z0.length = cap0 ∧ (∀ i, i < z0.length → w.cell? (x.add i) = some (.int .u64 (z0.getD i 0))) ∧ ∀ n ∈ z0, (Lit.int .u64 n).wf = true) (y0 : len0 * 8 ≤ 140737488351232) (w1 : (a1 = none ∧ len1 = 0 ∧ cap1 = 0 ∧ z1 = []) ∨ ∃ x, a1 = some x ∧ len1 ≤ cap1 ∧ cap1 ≤ maxLen ∧ z1.length = cap1 ∧ (∀ i, i < z1.length → w.cell? (x.add i) = some (.int .u8 (z1.getD i 0))) ∧ ∀ n ∈ z1, (Lit.int .u8 n).wf = true) (y1 : len1 * 1 ≤ 140737488351232) :
    Calls Tryd.prog 3 #[.slice a0 len0 cap0, .slice a1 len1 cap1] w fun e w' => e = .returned (.bool true) ∧ Below w.heap.size w w' := by
  obtain ⟨l0, rfl, hr0, hm0, hw0, hc0⟩ := ReadsInt.ofRowC w0
  obtain ⟨l1, rfl, hr1, hm1, hw1, hc1⟩ := ReadsInt.ofRowC w1
  obtain ⟨k, h⟩ := P l0 l1 hm0 y0 hw0 hm1 y1 hw1
  refine (ricklaw08_XorsPuts.calls k _ _ l0 _ _ l1 true w (Kd.C_of_reads (d := (0 : Int)) (h1 := fun _ => rfl) hr0) hc0 (Kd.C_of_reads (d := (0 : Int)) (h1 := fun _ => rfl) hr1) hc1 hT_ h rfl).mono ?_
  rintro e w' ⟨rfl, hd⟩
  exact ⟨rfl, hd⟩

end Go.Proofs.YtmlbppfcpejlpaaDoor.X

/- What the printed functions of layer 4 (bits) tell: rows of bits, their bytes, and back. No conditions. -/
namespace Go.Proofs.YtmlbppfcpejlpaaDoor.Q04
open Go Go.RowKit Go.Proofs.YtmlbppfcpejlpaaDoorW.PrintWords Go.Proofs.YtmlbppfcpejlpaaDoorW.PrintMore Go.Proofs.YtmlbppfcpejlpaaDoor.S Go.Proofs.YtmlbppfcpejlpaaDoor.B Go.Proofs.YtmlbppfcpejlpaaDoor.X
set_option linter.unusedVariables false
set_option linter.unusedSimpArgs false

theorem and_one_u8 {x : Int} (h0 : 0 ≤ x) (h1 : x < 256) : Go.bits .and .u8 x 1 = x % 2 := by
  simpa using bits_mask .u8 8 (by decide) wraps_u8 1 (by decide) x h0 (by omega)
theorem and_one_u64 {x : Int} (h0 : 0 ≤ x) (h1 : x < 18446744073709551616) : Go.bits .and .u64 x 1 = x % 2 := by
  simpa using bits_mask .u64 64 (by decide) wraps_u64 1 (by decide) x h0 (by omega)
theorem shr_nat (k : IntKind) (x : Int) {j : Nat} (h : j ≤ k.bits) : shr k x (j : Int) = x / 2 ^ j := by
  unfold shr
  rw [show min ((j : Int).toNat) k.bits = j by rw [Int.toNat_natCast]; omega]
theorem ediv_pow_range {x : Int} (h0 : 0 ≤ x) (j : Nat) : 0 ≤ x / 2 ^ j ∧ x / 2 ^ j ≤ x :=
  ⟨Int.ediv_nonneg h0 (Int.pow_nonneg (by omega)), Int.ediv_le_self _ h0⟩
theorem bit_u64 {v : Int} (h0 : 0 ≤ v) (h1 : v < 18446744073709551616) {j : Nat} (hj : j < 64) : (Go.bits .and .u64 (shr .u64 v (j : Int)) 1) % 256 = v / 2 ^ j % 2 := by
  have := ediv_pow_range h0 j
  rw [shr_nat .u64 v (by simp [IntKind.bits]; omega), and_one_u64 this.1 (by omega)]
  omega
theorem refput_l0 {v : Int} (h0 : 0 ≤ v) (h1 : v < 18446744073709551616) (j : Nat) : ∀ (k : Nat) (l : List Int), j ≤ 64 → j < k → l.length + j < 140737488355328 →
    rickref04_Put.l0 k l v ((j : Int) - 1) = some (l ++ bitsN j v) := by
  induction j with
  | zero =>
    intro k l _ hk _
    obtain ⟨k, rfl⟩ : ∃ q, k = q + 1 := ⟨k - 1, by omega⟩
    simp only [rickref04_Put.l0]
    rw [if_neg (by omega)]
    simp [bitsN]
  | succ j ih =>
    intro k l hj hk hl
    obtain ⟨k, rfl⟩ : ∃ q, k = q + 1 := ⟨k - 1, by omega⟩
    simp only [rickref04_Put.l0]
    rw [if_pos (by omega), if_pos (by omega), if_pos (by omega), show ((j + 1 : Nat) : Int) - 1 = (j : Int) by omega, bit_u64 h0 h1 (by omega), wrap64_id (by omega) (by omega)]
    rw [ih k _ (by omega) (by omega) (by simp; omega), List.append_assoc]
    rfl
theorem refput_spec {k : Nat} {l : List Int} {v m : Int} (h0 : 0 ≤ v) (h1 : v < 18446744073709551616) (hk : 64 < k) (hl : l.length < 1000000000000) :
    rickref04_Put.f k l v m = some (l ++ bitsN (cl m) v) := by
  unfold rickref04_Put.f
  rw [cl_eq]
  have := cl_le m
  exact refput_l0 h0 h1 (cl m) k l (by omega) (by omega) (by omega)

theorem shl_bit {b : Int} (hb : b = 0 ∨ b = 1) {r : Nat} (hr : r < 8) : shl .u8 b (r : Int) = b * 2 ^ r := by
  unfold shl
  rw [show min ((r : Int).toNat) IntKind.u8.bits = r by rw [Int.toNat_natCast]; simp [IntKind.bits]; omega, IntKind.wrap_u8]
  rcases pow_r hr with h | h | h | h | h | h | h | h <;> subst h <;> rcases hb with rfl | rfl <;> decide
theorem refbytes_l0 {l : List Int} (hb : Bits l) (hl : l.length < 1000000000000) (d : Nat) : ∀ (i k : Nat), i + d = l.length → d < k →
    rickref04_Bytes.l0 k l (rows (l.take i) ((l.length + 7) / 8)) (i : Int) = some (packB l) := by
  induction d with
  | zero =>
    intro i k hd hk
    obtain ⟨k, rfl⟩ : ∃ q, k = q + 1 := ⟨k - 1, by omega⟩
    simp only [rickref04_Bytes.l0]
    rw [if_neg (by omega), List.take_of_length_le (by omega)]
    rfl
  | succ d ih =>
    intro i k hd hk
    obtain ⟨k, rfl⟩ : ∃ q, k = q + 1 := ⟨k - 1, by omega⟩
    have hlt : i < l.length := by omega
    have hli : (l.take i).length = i := by rw [List.length_take]; omega
    have hbit := hb _ (List.getElem_mem hlt)
    have e1 : wrap64 (Int.tdiv (i : Int) 8) = ((i / 8 : Nat) : Int) := by
      rw [Int.tdiv_eq_ediv_of_nonneg (by omega), wrap64_id (by omega) (by omega)]; omega
    have e2 : wrap64 (7 - Int.tmod (i : Int) 8) = ((7 - i % 8 : Nat) : Int) := by
      rw [Int.tmod_eq_emod_of_nonneg (by omega), wrap64_id (by omega) (by omega)]; omega
    simp only [rickref04_Bytes.l0]
    rw [e1, e2, if_pos (by omega), if_pos (by omega), if_pos (by rw [rows_len]; omega), if_pos (by omega), if_pos (by omega), rd_get hlt, rd_rows _ (by omega), shl_bit hbit (by omega), Int.toNat_natCast]
    have := rows_push (l.take i) (fun x hx => hb x (List.mem_of_mem_take hx)) l[i] hbit ((l.length + 7) / 8) (by rw [hli]; omega)
    rw [hli] at this
    rw [this, ← List.take_succ_eq_append_getElem hlt, show wrap64 ((i : Int) + 1) = ((i + 1 : Nat) : Int) by rw [wrap64_id] <;> omega]
    exact ih (i + 1) k (by omega) (by omega)
theorem refbytes_spec {k : Nat} {l : List Int} (hb : Bits l) (hl : l.length < 1000000000000) (hk : l.length < k) : rickref04_Bytes.f k l = some (packB l) := by
  have e : wrap64 (Int.tdiv (wrap64 ((l.length : Int) + 7)) 8) = (((l.length + 7) / 8 : Nat) : Int) := by
    rw [wrap64_id (n := (l.length : Int) + 7) (by omega) (by omega), Int.tdiv_eq_ediv_of_nonneg (by omega), wrap64_id (by omega) (by omega)]; omega
  unfold rickref04_Bytes.f
  rw [e, if_pos (by omega), if_pos (by rw [Int.toNat_natCast]; omega), Int.toNat_natCast, ← rows_nil]
  have := refbytes_l0 hb hl l.length 0 k (by omega) hk
  simpa using this
end Go.Proofs.YtmlbppfcpejlpaaDoor.Q04

/- What the printed reader of layer 4 (bits) tells. No conditions. -/
namespace Go.Proofs.YtmlbppfcpejlpaaDoor.Q04
open Go Go.RowKit Go.Proofs.YtmlbppfcpejlpaaDoorW.PrintWords Go.Proofs.YtmlbppfcpejlpaaDoorW.PrintMore Go.Proofs.YtmlbppfcpejlpaaDoor.S Go.Proofs.YtmlbppfcpejlpaaDoor.B Go.Proofs.YtmlbppfcpejlpaaDoor.X
set_option linter.unusedVariables false
set_option linter.unusedSimpArgs false

theorem bit_u8 {b : List Int} (hb : Bs b) {i : Nat} (hi : i < 8 * b.length) :
    Go.bits .and .u8 (shr .u8 (rd b ((i / 8 : Nat) : Int)) ((7 - i % 8 : Nat) : Int)) 1 = bitAt b i := by
  have hlt : i / 8 < b.length := by omega
  obtain ⟨r0, r1⟩ := hb _ (List.getElem_mem hlt)
  have := ediv_pow_range r0 (7 - i % 8)
  rw [rd_get hlt, shr_nat .u8 _ (by simp [IntKind.bits]; omega), and_one_u8 this.1 (by omega)]
  unfold bitAt
  rw [List.getD_eq_getElem?_getD, List.getElem?_eq_getElem hlt]; rfl
theorem idx8 {i : Nat} (h : i < 10000000000000) : wrap64 (Int.tdiv (i : Int) 8) = ((i / 8 : Nat) : Int) ∧ wrap64 (7 - Int.tmod (i : Int) 8) = ((7 - i % 8 : Nat) : Int) := by
  constructor
  · rw [Int.tdiv_eq_ediv_of_nonneg (by omega), wrap64_id (by omega) (by omega)]; omega
  · rw [Int.tmod_eq_emod_of_nonneg (by omega), wrap64_id (by omega) (by omega)]; omega
theorem succ64 {i : Nat} (h : i < 10000000000000) : wrap64 ((i : Int) + 1) = ((i + 1 : Nat) : Int) := by rw [wrap64_id] <;> omega
theorem pow_le64 {n : Nat} (h : n ≤ 64) : (2 : Int) ^ n ≤ 18446744073709551616 := by
  have : (2 : Int) ^ n ≤ 2 ^ 64 := by exact_mod_cast Nat.pow_le_pow_right (by decide) h
  simpa using this
theorem or_one {x b : Int} (h0 : 0 ≤ x) (h1 : x % 2 = 0) (h2 : x < 18446744073709551616) (hb : b = 0 ∨ b = 1) : Go.bits .or .u64 x b = x + b :=
  or_join 1 h0 (by simpa using h1) h2 (by omega) (by simp; omega) (by omega)
theorem take_l0 {b : List Int} (hb : Bs b) (hl : b.length < 1000000000000) (n at0 : Nat) (hn : n ≤ 64) (hnl : at0 + n ≤ 8 * b.length) (d : Nat) : ∀ (i k : Nat), i + d = n → d < k →
    bits_Reader_Take.l0 k (valB (((bitsOf b).drop at0).take i)) (n : Int) (i : Int) b ((at0 + i : Nat) : Int) false = some (valB (((bitsOf b).drop at0).take n), ((at0 + n : Nat) : Int), false) := by
  induction d with
  | zero =>
    intro i k hd hk
    obtain ⟨k, rfl⟩ : ∃ q, k = q + 1 := ⟨k - 1, by omega⟩
    obtain rfl : i = n := by omega
    simp only [bits_Reader_Take.l0]
    rw [if_neg (by omega)]
  | succ d ih =>
    intro i k hd hk
    obtain ⟨k, rfl⟩ : ∃ q, k = q + 1 := ⟨k - 1, by omega⟩
    obtain ⟨e1, e2⟩ := idx8 (i := at0 + i) (by omega)
    have hlen : ((bitsOf b).drop at0).length = 8 * b.length - at0 := by rw [List.length_drop, bitsOf_len]
    have hlt : i < ((bitsOf b).drop at0).length := by omega
    have hB := bitsOf_bits b
    have hbd : Bits ((bitsOf b).drop at0) := fun x hx => hB x (List.mem_of_mem_drop hx)
    have hr := valB_range (l := ((bitsOf b).drop at0).take (i + 1)) (fun x hx => hbd x (List.mem_of_mem_take hx))
    have hr0 := valB_range (l := ((bitsOf b).drop at0).take i) (fun x hx => hbd x (List.mem_of_mem_take hx))
    rw [List.length_take, show min (i + 1) ((bitsOf b).drop at0).length = i + 1 by omega] at hr
    have hp := pow_le64 (n := i + 1) (by omega)
    rw [List.take_succ_eq_append_getElem hlt, valB_snoc] at hr
    have hbit := hbd _ (List.getElem_mem hlt)
    have hget : ((bitsOf b).drop at0)[i] = bitAt b (at0 + i) := by rw [List.getElem_drop, bitsOf_get]
    simp only [bits_Reader_Take.l0]
    rw [if_pos (by omega), e1, e2, if_pos (by omega), if_pos (by omega), if_pos (by omega), bit_u8 hb (by omega), ← hget, wrap_u64_id (n := valB _ * 2) (by omega) (by omega), wrap_u64_id (n := ((bitsOf b).drop at0)[i]) (by omega) (by omega), or_one (by omega) (by omega) (by omega) hbit, ← valB_snoc, ← List.take_succ_eq_append_getElem hlt, succ64 (by omega), succ64 (by omega)]
    exact ih (i + 1) k (by omega) (by omega)
theorem left_spec {b : List Int} {at0 : Nat} (hl : b.length < 1000000000000) (ha : at0 ≤ 8 * b.length) : bits_Reader_Left.f b (at0 : Int) false = some (((8 * b.length - at0 : Nat) : Int), (at0 : Int), false) := by
  unfold bits_Reader_Left.f
  have e : wrap64 (wrap64 (8 * (b.length : Int)) - (at0 : Int)) = ((8 * b.length - at0 : Nat) : Int) := by
    rw [wrap64_id (n := 8 * (b.length : Int)) (by omega) (by omega), wrap64_id (by omega) (by omega)]; omega
  rw [e]
theorem held_spec (m : Int) : bits_held.f m = some (cl m : Int) := by unfold bits_held.f; rw [cl_eq]
theorem take_bad {k : Nat} {b : List Int} {m at0 : Int} : bits_Reader_Take.f k b at0 true m = some (0, at0, true) := by
  unfold bits_Reader_Take.f
  exact if_pos rfl
theorem take_short {k : Nat} {b : List Int} {m : Int} {at0 : Nat} (hl : b.length < 1000000000000) (ha : at0 ≤ 8 * b.length) (h : ¬ at0 + cl m ≤ 8 * b.length) : bits_Reader_Take.f k b (at0 : Int) false m = some (0, (at0 : Int), true) := by
  unfold bits_Reader_Take.f
  rw [if_neg (by decide), held_spec, Option.bind_some, left_spec hl ha, Option.bind_some]
  exact if_pos (by omega)
theorem take_ok {k : Nat} {b : List Int} {m : Int} {at0 : Nat} (hb : Bs b) (hl : b.length < 1000000000000) (h : at0 + cl m ≤ 8 * b.length) (hk : 64 < k) : bits_Reader_Take.f k b (at0 : Int) false m = some (valB (((bitsOf b).drop at0).take (cl m)), ((at0 + cl m : Nat) : Int), false) := by
  have hc := cl_le m
  unfold bits_Reader_Take.f
  rw [if_neg (by decide), held_spec, Option.bind_some, left_spec hl (by omega), Option.bind_some]
  refine (if_neg (by omega)).trans ?_
  exact take_l0 hb hl (cl m) at0 (by omega) h (cl m) 0 k (by omega) (by omega)
end Go.Proofs.YtmlbppfcpejlpaaDoor.Q04

/- Whole numbers told by bits at a place. No conditions. -/
namespace Go.Proofs.YtmlbppfcpejlpaaDoor.Q06
open Go Go.RowKit Go.Proofs.YtmlbppfcpejlpaaDoorW.PrintWords Go.Proofs.YtmlbppfcpejlpaaDoorW.PrintMore Go.Proofs.YtmlbppfcpejlpaaDoor.S Go.Proofs.YtmlbppfcpejlpaaDoor.B Go.Proofs.YtmlbppfcpejlpaaDoor.X Go.Proofs.YtmlbppfcpejlpaaDoor.Q04
set_option linter.unusedVariables false
set_option linter.unusedSimpArgs false

/-- The number of the n bits at a place. -/
def gv (b : List Int) (at0 n : Nat) : Int := valB (((bitsOf b).drop at0).take n)
theorem gv_range (b : List Int) (at0 n : Nat) : 0 ≤ gv b at0 n ∧ gv b at0 n < 2 ^ n := by
  have hb : Bits (((bitsOf b).drop at0).take n) := fun x hx => bitsOf_bits b x (List.mem_of_mem_drop (List.mem_of_mem_take hx))
  have h := valB_range hb
  refine ⟨h.1, Int.lt_of_lt_of_le h.2 ?_⟩
  exact_mod_cast Nat.pow_le_pow_right (by decide) (List.length_take_le _ _)
theorem gv_range64 (b : List Int) (at0 : Nat) {n : Nat} (hn : n ≤ 64) : 0 ≤ gv b at0 n ∧ gv b at0 n < 18446744073709551616 := by
  have h := gv_range b at0 n
  have := pow_le64 hn
  omega
theorem cl_id {m : Int} (h0 : 0 ≤ m) (h1 : m ≤ 64) : cl m = m.toNat := by unfold cl mn mx; split <;> split <;> omega
theorem take_good {b : List Int} {m : Int} {at0 : Nat} (hb : Bs b) (hl : b.length < 1000000000000) (h0 : 0 ≤ m) (h1 : m ≤ 64) (h : at0 + m.toNat ≤ 8 * b.length) :
    bits_Reader_Take.f 65 b (at0 : Int) false m = some (gv b at0 m.toNat, ((at0 + m.toNat : Nat) : Int), false) := by
  have := take_ok (k := 65) (m := m) hb hl (by rw [cl_id h0 h1]; exact h) (by omega)
  rw [cl_id h0 h1] at this
  exact this
theorem take_any {b : List Int} {m : Int} {at0 : Nat} {bad : Bool} (hb : Bs b) (hl : b.length < 1000000000000) (ha : at0 ≤ 8 * b.length) (h0 : 0 ≤ m) (h1 : m ≤ 64) :
    ∃ (tv : Int) (a1 : Nat) (bad1 : Bool), bits_Reader_Take.f 65 b (at0 : Int) bad m = some (tv, (a1 : Int), bad1) ∧ 0 ≤ tv ∧ tv < 18446744073709551616 ∧ a1 ≤ 8 * b.length ∧
      ((bad = true ∧ bad1 = true ∧ tv = 0 ∧ a1 = at0) ∨ (bad = false ∧ bad1 = false ∧ at0 + m.toNat ≤ 8 * b.length ∧ a1 = at0 + m.toNat ∧ tv = gv b at0 m.toNat) ∨ (bad = false ∧ bad1 = true ∧ 8 * b.length < at0 + m.toNat ∧ tv = 0 ∧ a1 = at0)) := by
  cases bad with
  | true => exact ⟨0, at0, true, take_bad, by omega, by omega, ha, .inl ⟨rfl, rfl, rfl, rfl⟩⟩
  | false =>
    by_cases h : at0 + m.toNat ≤ 8 * b.length
    · have := gv_range64 b at0 (n := m.toNat) (by omega)
      exact ⟨_, _, false, take_good hb hl h0 h1 h, this.1, this.2, h, .inr (.inl ⟨rfl, rfl, h, rfl, rfl⟩)⟩
    · exact ⟨0, at0, true, take_short hl ha (by rw [cl_id h0 h1]; exact h), by omega, by omega, ha, .inr (.inr ⟨rfl, rfl, by omega, rfl, rfl⟩)⟩
theorem gv_byte {b : List Int} (hb : Bs b) {q : Nat} (hq : q < b.length) : gv b (8 * q) 8 = b[q] := by
  have e : ((bitsOf b).drop (8 * q)).take 8 = (List.range 8).map (fun j => bitAt b (8 * q + j)) := by
    apply List.ext_getElem
    · rw [List.length_take, List.length_drop, bitsOf_len, List.length_map, List.length_range]; omega
    · intro i h1 h2
      rw [List.getElem_take, List.getElem_drop, bitsOf_get, List.getElem_map, List.getElem_range]
  obtain ⟨r0, r1⟩ := hb _ (List.getElem_mem hq)
  have hbit : ∀ j, j < 8 → bitAt b (8 * q + j) = b[q] / 2 ^ (7 - j) % 2 := fun j hj => by
    unfold bitAt
    rw [show (8 * q + j) / 8 = q by omega, show (8 * q + j) % 8 = j by omega, List.getD_eq_getElem?_getD, List.getElem?_eq_getElem hq]; rfl
  unfold gv
  rw [e, show List.range 8 = [0, 1, 2, 3, 4, 5, 6, 7] by rfl]
  simp only [List.map_cons, List.map_nil, valB, List.foldl_cons, List.foldl_nil]
  rw [hbit 0 (by omega), hbit 1 (by omega), hbit 2 (by omega), hbit 3 (by omega), hbit 4 (by omega), hbit 5 (by omega), hbit 6 (by omega), hbit 7 (by omega)]
  generalize b[q] = y at *
  simp only [Nat.reduceSub, show (2 : Int) ^ 7 = 128 by decide, show (2 : Int) ^ 6 = 64 by decide, show (2 : Int) ^ 5 = 32 by decide, show (2 : Int) ^ 4 = 16 by decide, show (2 : Int) ^ 3 = 8 by decide, show (2 : Int) ^ 2 = 4 by decide, show (2 : Int) ^ 1 = 2 by decide, show (2 : Int) ^ 0 = 1 by decide]
  omega
def okB (l : List Int) : Bool := l.all (fun x => decide (0 ≤ x ∧ x < 256)) && decide (l.length < 1000000000)
theorem okB_bs {l : List Int} (h : okB l = true) : Bs l ∧ l.length < 1000000000 := by
  unfold okB at h
  rw [Bool.and_eq_true] at h
  exact ⟨fun x hx => by simpa using List.all_eq_true.1 h.1 x hx, by simpa using h.2⟩
theorem bs_okB {l : List Int} (h : Bs l) (hl : l.length < 1000000000) : okB l = true := by
  unfold okB
  rw [Bool.and_eq_true]
  exact ⟨List.all_eq_true.2 (fun x hx => by simpa using h x hx), by simpa using hl⟩
end Go.Proofs.YtmlbppfcpejlpaaDoor.Q06

/- Bytes of whole numbers, laid end to end; prefixes. No conditions. -/
namespace Go.Proofs.YtmlbppfcpejlpaaDoor.Q06
open Go Go.RowKit Go.Proofs.YtmlbppfcpejlpaaDoorW.PrintWords Go.Proofs.YtmlbppfcpejlpaaDoorW.PrintMore Go.Proofs.YtmlbppfcpejlpaaDoor.S Go.Proofs.YtmlbppfcpejlpaaDoor.B Go.Proofs.YtmlbppfcpejlpaaDoor.X Go.Proofs.YtmlbppfcpejlpaaDoor.Q04
set_option linter.unusedVariables false
set_option linter.unusedSimpArgs false

theorem getD_append_left {a b : List Int} {i : Nat} (h : i < a.length) : (a ++ b).getD i 0 = a.getD i 0 := by
  simp only [List.getD_eq_getElem?_getD, List.getElem?_append_left h]
theorem getD_append_right {a b : List Int} {i : Nat} (h : a.length ≤ i) : (a ++ b).getD i 0 = b.getD (i - a.length) 0 := by
  simp only [List.getD_eq_getElem?_getD, List.getElem?_append_right h]
theorem packB_append {a b : List Int} (h : a.length % 8 = 0) : packB (a ++ b) = packB a ++ packB b := by
  apply List.ext_getElem
  · rw [packB_len, List.length_append, List.length_append, packB_len, packB_len]; omega
  · intro i h1 h2
    have e : ∀ (l : List Int) (i : Nat) (h : i < (packB l).length), (packB l)[i] = byteAt l i := fun l i h => by simp [packB, rows]
    rw [e, List.getElem_append]
    split
    · rename_i hi
      rw [packB_len] at hi
      rw [e]
      unfold byteAt
      repeat rw [getD_append_left (by omega)]
    · rename_i hi
      rw [packB_len] at hi
      rw [e]
      unfold byteAt
      have q : ∀ j, (a ++ b).getD (8 * i + j) 0 = b.getD (8 * (i - (packB a).length) + j) 0 := fun j => by
        rw [getD_append_right (by omega), packB_len]; congr 1; omega
      have q0 := q 0
      simp only [Nat.add_zero] at q0
      rw [q0, q 1, q 2, q 3, q 4, q 5, q 6, q 7]
theorem bitsN_getD (n : Nat) (v : Int) : ∀ j, j < n → (bitsN n v).getD j 0 = v / 2 ^ (n - 1 - j) % 2 := by
  induction n with
  | zero => intro j h; omega
  | succ n ih =>
    intro j h
    cases j with
    | zero => simp [bitsN]
    | succ j =>
      have := ih j (by omega)
      rw [bitsN, List.getD_cons_succ, this, show n + 1 - 1 - (j + 1) = n - 1 - j by omega]
theorem byte_split (y : Int) : y / 128 % 2 * 128 + y / 64 % 2 * 64 + y / 32 % 2 * 32 + y / 16 % 2 * 16 + y / 8 % 2 * 8 + y / 4 % 2 * 4 + y / 2 % 2 * 2 + y % 2 = y % 256 := by omega
theorem packB_bitsN (m : Nat) (v : Int) : packB (bitsN (8 * m) v) = (List.range m).map (fun i => v / 2 ^ (8 * (m - 1 - i)) % 256) := by
  apply List.ext_getElem
  · rw [packB_len, bitsN_len, List.length_map, List.length_range]; omega
  · intro i h1 h2
    rw [List.length_map, List.length_range] at h2
    rw [List.getElem_map, List.getElem_range]
    have e : (packB (bitsN (8 * m) v))[i] = byteAt (bitsN (8 * m) v) i := by simp [packB, rows]
    rw [e, ← byte_split]
    unfold byteAt
    have q : ∀ j, j < 8 → (bitsN (8 * m) v).getD (8 * i + j) 0 = v / 2 ^ (8 * (m - 1 - i)) / 2 ^ (7 - j) % 2 := fun j hj => by
      rw [bitsN_getD _ _ _ (by omega), Int.ediv_ediv_of_nonneg (Int.pow_nonneg (by omega)), ← Int.pow_add]
      congr 3; omega
    have q0 := q 0 (by omega)
    simp only [Nat.add_zero] at q0
    rw [q0, q 1 (by omega), q 2 (by omega), q 3 (by omega), q 4 (by omega), q 5 (by omega), q 6 (by omega), q 7 (by omega)]
    simp only [Nat.reduceSub, show (2 : Int) ^ 7 = 128 by decide, show (2 : Int) ^ 6 = 64 by decide, show (2 : Int) ^ 5 = 32 by decide, show (2 : Int) ^ 4 = 16 by decide, show (2 : Int) ^ 3 = 8 by decide, show (2 : Int) ^ 2 = 4 by decide, show (2 : Int) ^ 1 = 2 by decide, show (2 : Int) ^ 0 = 1 by decide, Int.ediv_one]
theorem packB_8 {v : Int} (h0 : 0 ≤ v) (h1 : v < 256) : packB (bitsN 8 v) = [v] := by
  have := packB_bitsN 1 v
  simp at this
  rw [this, Int.emod_eq_of_lt h0 h1]
theorem bitsOf_append (a b : List Int) : bitsOf (a ++ b) = bitsOf a ++ bitsOf b := by
  apply List.ext_getElem
  · simp only [bitsOf_len, List.length_append]; omega
  · intro i h1 h2
    rw [bitsOf_get, List.getElem_append]
    split
    · rename_i hi
      rw [bitsOf_len] at hi
      rw [bitsOf_get]
      unfold bitAt
      rw [getD_append_left (by omega)]
    · rename_i hi
      rw [bitsOf_len] at hi
      rw [bitsOf_get]
      unfold bitAt
      rw [getD_append_right (by omega), bitsOf_len]
      congr 2
      · congr 1; omega
      · congr 1; omega
/-- Of bits that were laid as bytes, some are told at their place. -/
theorem gv_packB {L more : List Int} (hL : Bits L) {at0 n : Nat} (h : at0 + n ≤ L.length) : gv (packB L ++ more) at0 n = valB ((L.drop at0).take n) := by
  unfold gv
  rw [bitsOf_append, bitsOf_packB hL, List.append_assoc, List.drop_append_of_le_length (by omega), List.take_append_of_le_length (by rw [List.length_drop]; omega)]

theorem u8_inj {x y : Int} (hx : 0 ≤ x ∧ x < 256) (hy : 0 ≤ y ∧ y < 256) (h : UInt8.ofNat x.toNat = UInt8.ofNat y.toNat) : x = y := by
  have := congrArg UInt8.toNat h
  simp at this
  omega
theorem strOf_inj {a b : List Int} (ha : Bs a) (hb : Bs b) (h : (strOfNums a).toList = (strOfNums b).toList) : a = b := by
  rw [strOf_toList, strOf_toList] at h
  induction a generalizing b with
  | nil => cases b with | nil => rfl | cons y b => simp at h
  | cons x a ih =>
    cases b with
    | nil => simp at h
    | cons y b =>
      simp only [List.map_cons, List.cons.injEq] at h
      rw [u8_inj (ha x List.mem_cons_self) (hb y List.mem_cons_self) h.1, ih (fun z hz => ha z (List.mem_cons_of_mem _ hz)) (fun z hz => hb z (List.mem_cons_of_mem _ hz)) h.2]
theorem prefix_yes (b more : List Int) : bytes_HasPrefix.f (b ++ more) b = some true := by
  unfold bytes_HasPrefix.f
  rw [if_pos (by rw [List.length_append]; omega), if_pos (by omega), if_pos (by rw [List.length_append]; omega), Int.toNat_natCast, List.take_left]
  simp [bytes_Equal.f]
theorem prefix_spec {a b : List Int} (ha : Bs a) (hb : Bs b) : bytes_HasPrefix.f a b = some (decide (a.take b.length = b)) := by
  unfold bytes_HasPrefix.f
  by_cases h : b.length ≤ a.length
  · rw [if_pos (by omega), if_pos (by omega), if_pos (by omega), Int.toNat_natCast]
    simp only [bytes_Equal.f, Option.bind_some]
    congr 1
    by_cases e : a.take b.length = b
    · rw [e]; simp
    · rw [decide_eq_false e]
      rw [beq_eq_false_iff_ne]
      exact fun h => e (strOf_inj (ha.take _) hb h)
  · rw [if_neg (by omega), decide_eq_false]
    intro e
    have := congrArg List.length e
    rw [List.length_take] at this
    omega
end Go.Proofs.YtmlbppfcpejlpaaDoor.Q06

/- A row of bits that begins at a place of bytes, and numbers taken from there. No conditions. -/
namespace Go.Proofs.YtmlbppfcpejlpaaDoor.Q06
open Go Go.RowKit Go.Proofs.YtmlbppfcpejlpaaDoorW.PrintWords Go.Proofs.YtmlbppfcpejlpaaDoorW.PrintMore Go.Proofs.YtmlbppfcpejlpaaDoor.S Go.Proofs.YtmlbppfcpejlpaaDoor.B Go.Proofs.YtmlbppfcpejlpaaDoor.X Go.Proofs.YtmlbppfcpejlpaaDoor.Q04
set_option linter.unusedVariables false
set_option linter.unusedSimpArgs false

/-- The bits from a place on begin with P. -/
def Starts (b : List Int) (a : Nat) (P : List Int) : Prop := a ≤ 8 * b.length ∧ ∃ R, (bitsOf b).drop a = P ++ R
theorem Starts.of {L : List Int} (hL : Bits L) (more : List Int) : Starts (packB L ++ more) 0 L := by
  refine ⟨Nat.zero_le _, List.replicate (8 * (packB L).length - L.length) 0 ++ bitsOf more, ?_⟩
  rw [bitsOf_append, bitsOf_packB hL, List.drop_zero, List.append_assoc]
theorem Starts.le {b : List Int} {a : Nat} {P : List Int} (h : Starts b a P) : a + P.length ≤ 8 * b.length := by
  obtain ⟨h0, R, hR⟩ := h
  have := congrArg List.length hR
  rw [List.length_drop, bitsOf_len, List.length_append] at this
  omega
theorem Starts.next {b : List Int} {a : Nat} {P Q : List Int} (h : Starts b a (P ++ Q)) : Starts b (a + P.length) Q := by
  have hle := h.le
  obtain ⟨h0, R, hR⟩ := h
  refine ⟨by rw [List.length_append] at hle; omega, R, ?_⟩
  rw [← List.drop_drop, hR, List.append_assoc, List.drop_left]
theorem Starts.left {b : List Int} {a : Nat} {P Q : List Int} (h : Starts b a (P ++ Q)) : Starts b a P := by
  obtain ⟨h0, R, hR⟩ := h
  exact ⟨h0, Q ++ R, by rw [hR, List.append_assoc]⟩
theorem Starts.take {b : List Int} (hb : Bs b) (hl : b.length < 1000000000) {a n : Nat} {v m : Int} {Q : List Int} (h : Starts b a (bitsN n v ++ Q)) (hn : n ≤ 64) (hm : m = (n : Int)) (hv : 0 ≤ v) (k : Nat) (hk : 64 < k) :
    bits_Reader_Take.f k b (a : Int) false m = some (v % 2 ^ n, ((a + n : Nat) : Int), false) ∧ Starts b (a + n) Q := by
  have hc : cl m = n := by rw [cl_id (by omega) (by omega)]; omega
  have hle := h.left.le
  rw [bitsN_len] at hle
  have h2 := h.next
  rw [bitsN_len] at h2
  refine ⟨?_, h2⟩
  rw [take_ok hb (by omega) (by rw [hc]; exact hle) hk, hc]
  obtain ⟨_, R, hR⟩ := h
  rw [hR, List.append_assoc, List.take_append_of_le_length (by rw [bitsN_len]; exact Nat.le_refl _), List.take_of_length_le (by rw [bitsN_len]; exact Nat.le_refl _), valB_bitsN n hv]
end Go.Proofs.YtmlbppfcpejlpaaDoor.Q06

/- What the functions of layer 8 (xors) tell: what the reference lays, and what is read back. No conditions. -/
namespace Go.Proofs.YtmlbppfcpejlpaaDoor.Q08
open Go Go.RowKit Go.Proofs.YtmlbppfcpejlpaaDoorW.PrintWords Go.Proofs.YtmlbppfcpejlpaaDoorW.PrintMore Go.Proofs.YtmlbppfcpejlpaaDoor.S Go.Proofs.YtmlbppfcpejlpaaDoor.B Go.Proofs.YtmlbppfcpejlpaaDoor.X Go.Proofs.YtmlbppfcpejlpaaDoor.Q04 Go.Proofs.YtmlbppfcpejlpaaDoor.Q06 Go.Proofs.YtmlbppfcpejlpaaDoor.W08
set_option linter.unusedVariables false
set_option linter.unusedSimpArgs false

theorem and_one {y : Int} (h0 : 0 ≤ y) (h1 : y < 18446744073709551616) : Go.bits .and .u64 y 1 = y % 2 := by
  obtain ⟨n, rfl⟩ := Int.eq_ofNat_of_zero_le h0
  have := u64_and_nat n 1 (by omega) (by omega)
  rw [Nat.and_one_is_mod] at this
  rw [show (1 : Int) = ((1 : Nat) : Int) from rfl, this]; omega
theorem shr_u {x s : Int} (h0 : 0 ≤ s) (h1 : s ≤ 64) : shr .u64 x s = x / 2 ^ s.toNat := by
  unfold shr; rw [Nat.min_eq_left (by show s.toNat ≤ 64; omega)]
theorem div_rng {x : Int} (h0 : 0 ≤ x) (h1 : x < 18446744073709551616) (p : Nat) : 0 ≤ x / 2 ^ p ∧ x / 2 ^ p < 18446744073709551616 :=
  ⟨Int.ediv_nonneg h0 (Int.pow_nonneg (by decide)), Int.lt_of_le_of_lt (Int.ediv_le_self _ h0) h1⟩
/-- Above its width a number has no bit; the uppermost bit of its width is 1. -/
theorem top_bit {x : Int} (h0 : 0 < x) (p : Nat) (hp : wd x ≤ p) : x / 2 ^ p = 0 := by
  have h1 := (wd_facts (x := x) (by omega)).1
  have h2 : (2 : Int) ^ wd x ≤ 2 ^ p := by exact_mod_cast Nat.pow_le_pow_right (by decide : 0 < 2) hp
  exact Int.ediv_eq_zero_of_lt (by omega) (by omega)
theorem top_one {x : Int} (h0 : 0 < x) : x / 2 ^ (wd x - 1) = 1 ∧ 0 < wd x := by
  obtain ⟨h1, h2⟩ := wd_facts (x := x) (by omega)
  replace h2 := h2 (by omega)
  have hw : 0 < wd x := by
    apply Nat.pos_of_ne_zero
    intro e
    rw [e] at h1
    have : (2 : Int) ^ 0 = 1 := rfl
    omega
  refine ⟨?_, hw⟩
  have hp : (2 : Int) ^ wd x = 2 ^ (wd x - 1) * 2 := by have h3 := Int.pow_succ (2 : Int) (wd x - 1); rwa [show (wd x - 1).succ = wd x by omega] at h3
  have hpos : (0 : Int) < 2 ^ (wd x - 1) := Int.pow_pos (by decide)
  generalize (2 : Int) ^ (wd x - 1) = P at *
  rw [hp] at h1
  have : x / P < 2 := Int.ediv_lt_of_lt_mul hpos (by omega)
  have : 1 ≤ x / P := (Int.le_ediv_iff_mul_le hpos).2 (by omega)
  omega
theorem tz_form {x : Int} (h0 : 0 < x) (h1 : x < 18446744073709551616) : ∃ m : Int, 0 ≤ m ∧ x = 2 ^ tz x * (2 * m + 1) := by
  have hx : x.toNat < 2 ^ 64 := by have : (2 : Nat) ^ 64 = 18446744073709551616 := by decide
                                   omega
  obtain ⟨m, hm, _⟩ := Lib.ctzFrom_spec 64 x.toNat (by omega) hx
  have e : tz x = Lib.ctzFrom 64 x.toNat := by unfold tz Lib.ctz; rw [if_neg (by omega)]
  refine ⟨m, by omega, ?_⟩
  rw [e]
  have h2 : ((x.toNat : Nat) : Int) = ((2 ^ Lib.ctzFrom 64 x.toNat * (2 * m + 1) : Nat) : Int) := by exact_mod_cast hm
  rw [Int.toNat_of_nonneg (by omega)] at h2
  push_cast at h2
  exact h2
theorem low_bit {x : Int} (h0 : 0 < x) (h1 : x < 18446744073709551616) (p : Nat) (hp : p < tz x) : x / 2 ^ p % 2 = 0 := by
  obtain ⟨m, hm, e⟩ := tz_form h0 h1
  generalize tz x = t at *
  have hpos : (0 : Int) < 2 ^ p := Int.pow_pos (by decide)
  have e2 : (2 : Int) ^ t * (2 * m + 1) = 2 ^ p * (2 * (2 ^ (t - p - 1) * (2 * m + 1))) := by
    rw [show t = p + (1 + (t - p - 1)) by omega, Int.pow_add, Int.pow_add, show p + (1 + (t - p - 1)) - p - 1 = t - p - 1 by omega, show (2 : Int) ^ 1 = 2 from rfl]
    simp only [Int.mul_assoc]
  rw [e, e2, Int.mul_ediv_cancel_left _ (by omega)]
  omega
theorem low_one {x : Int} (h0 : 0 < x) (h1 : x < 18446744073709551616) : x / 2 ^ tz x % 2 = 1 := by
  obtain ⟨m, hm, e⟩ := tz_form h0 h1
  have hpos : (0 : Int) < 2 ^ tz x := Int.pow_pos (by decide)
  have e2 : x / 2 ^ tz x = 2 * m + 1 := Int.ediv_eq_of_eq_mul_right (by omega) e
  rw [e2]; omega
/-- The reference counts the noughts ahead. -/
theorem l1_run {l acc : List Int} {i x : Int} (h0 : 0 < x) (h1 : x < 18446744073709551616) : ∀ (d a k : Nat), a + d + wd x = 64 →
    rickref08_Put.l1 (k + d + 1) l acc i x (a : Int) 0 = rickref08_Put.l2 k l acc i x (64 - (wd x : Int)) 0 := by
  intro d
  obtain ⟨ho, hw⟩ := top_one h0
  induction d with
  | zero =>
    intro a k ha
    have e : wrap64 (63 - (a : Int)) = ((wd x - 1 : Nat) : Int) := by rw [wrap64_id (by omega) (by omega)]; omega
    rw [Nat.add_zero, rickref08_Put.l1, e, if_pos (by omega), shr_u (by omega) (by omega), Int.toNat_natCast, ho, if_neg (by decide), show (a : Int) = 64 - (wd x : Int) by omega]
  | succ d ih =>
    intro a k ha
    have e : wrap64 (63 - (a : Int)) = ((63 - a : Nat) : Int) := by rw [wrap64_id (by omega) (by omega)]; omega
    have e2 : wrap64 ((a : Int) + 1) = ((a + 1 : Nat) : Int) := by rw [wrap64_id (by omega) (by omega)]; omega
    rw [show k + (d + 1) + 1 = (k + d + 1) + 1 by omega, rickref08_Put.l1, e, if_pos (by omega), shr_u (by omega) (by omega), Int.toNat_natCast, top_bit h0 _ (by omega), if_pos (by decide), e2, ih (a + 1) k (by omega)]
/-- The reference counts the noughts behind. -/
theorem l2_run {l acc : List Int} {i x A : Int} (h0 : 0 < x) (h1 : x < 18446744073709551616) (ht : tz x < 64) : ∀ (d b k : Nat), b + d = tz x →
    rickref08_Put.l2 (k + d) l acc i x A (b : Int) = rickref08_Put.l2 k l acc i x A (tz x : Int) := by
  intro d
  induction d with
  | zero => intro b k hb; rw [Nat.add_zero, show b = tz x by omega]
  | succ d ih =>
    intro b k hb
    have hr := div_rng (x := x) (by omega) h1 b
    have e2 : wrap64 ((b : Int) + 1) = ((b + 1 : Nat) : Int) := by rw [wrap64_id (by omega) (by omega)]; omega
    rw [show k + (d + 1) = (k + d) + 1 by omega, rickref08_Put.l2, if_pos (by omega), shr_u (by omega) (by omega), Int.toNat_natCast, and_one hr.1 hr.2, if_pos (low_bit h0 h1 b (by omega)), e2, ih (b + 1) k (by omega)]
theorem l2_end {l acc : List Int} {i x : Int} (h0 : 0 < x) (h1 : x < 18446744073709551616) (ha : acc.length < 100000000) (k : Nat) (hk : 64 < k) :
    rickref08_Put.l2 (k + 1) l acc i x (64 - (wd x : Int)) (tz x : Int) = rickref08_Put.l0 k l (acc ++ xbits x) (wrap64 (i + 1)) := by
  obtain ⟨t1, t2, t3, t4⟩ := ctz_lt h0 h1
  have hr := div_rng (x := x) (by omega) h1 (tz x)
  have e1 : wrap64 (64 - (64 - (wd x : Int))) = (wd x : Int) := by rw [wrap64_id (by omega) (by omega)]; omega
  have e2 : wrap64 ((wd x : Int) - (tz x : Int)) = ((wd x - tz x : Nat) : Int) := by rw [wrap64_id (by omega) (by omega)]; omega
  have e3 : wrap64 (((wd x - tz x : Nat) : Int) - 1) = (wd x : Int) - (tz x : Int) - 1 := by rw [wrap64_id (by omega) (by omega)]; omega
  have c1 : cl 1 = 1 := by decide
  have c6 : cl 6 = 6 := by decide
  have cn : cl ((wd x - tz x : Nat) : Int) = wd x - tz x := by rw [cl_id (by omega) (by omega), Int.toNat_natCast]
  have hx : xbits x = bitsN 1 1 ++ bitsN 6 ((64 : Int) - (wd x : Int)) ++ bitsN 6 ((wd x : Int) - (tz x : Int) - 1) ++ bitsN (wd x - tz x) (x / 2 ^ tz x) := by unfold xbits; rw [if_neg (by omega)]; rfl
  rw [rickref08_Put.l2, if_pos (by omega), shr_u (by omega) (by omega), Int.toNat_natCast, and_one hr.1 hr.2, if_neg (by rw [low_one h0 h1]; decide), e1, e2, e3, wrap_u64_id (by omega) (by omega), wrap_u64_id (by omega) (by omega)]
  generalize x / 2 ^ tz x = sv at *
  rw [refput_spec (by decide) (by decide) hk (by omega), Option.bind_some, c1,
    refput_spec (by omega) (by omega) hk (by rw [List.length_append, bitsN_len]; omega), Option.bind_some, c6,
    refput_spec (by omega) (by omega) hk (by simp only [List.length_append, bitsN_len]; omega), Option.bind_some, c6,
    refput_spec hr.1 hr.2 hk (by simp only [List.length_append, bitsN_len]; omega), Option.bind_some, cn, hx]
  simp only [List.append_assoc]
theorem l1_all {l acc : List Int} {i x : Int} (h0 : 0 < x) (h1 : x < 18446744073709551616) (ha : acc.length < 100000000) (k : Nat) (hk : 200 < k) :
    ∃ k', k ≤ k' + 130 ∧ k' ≤ k ∧ rickref08_Put.l1 k l acc i x 0 0 = rickref08_Put.l0 k' l (acc ++ xbits x) (wrap64 (i + 1)) := by
  obtain ⟨t1, t2, t3, t4⟩ := ctz_lt h0 h1
  have e1 := l1_run (l := l) (acc := acc) (i := i) h0 h1 (64 - wd x) 0 (k - (64 - wd x) - 1) (by omega)
  have e2 := l2_run (l := l) (acc := acc) (i := i) (A := 64 - (wd x : Int)) h0 h1 t1 (tz x) 0 (k - (64 - wd x) - 1 - tz x) (by omega)
  have e3 := l2_end (l := l) (acc := acc) (i := i) h0 h1 ha (k - (64 - wd x) - 1 - tz x - 1) (by omega)
  refine ⟨k - (64 - wd x) - 1 - tz x - 1, by omega, by omega, ?_⟩
  rw [show k - (64 - wd x) - 1 + (64 - wd x) + 1 = k by omega] at e1
  rw [show k - (64 - wd x) - 1 - tz x + tz x = k - (64 - wd x) - 1 by omega] at e2
  rw [show k - (64 - wd x) - 1 - tz x - 1 + 1 = k - (64 - wd x) - 1 - tz x by omega] at e3
  exact (e1.trans e2).trans e3
theorem xbits_bits (x : Int) : Bits (xbits x) := by
  unfold xbits
  split
  · exact Bits.one (.inl rfl)
  · exact (((Bits.one (.inr rfl)).append (bitsN_bits _ _)).append (bitsN_bits _ _)).append (bitsN_bits _ _)
theorem part_bits (l : List Int) (i : Nat) : Bits (xors_Put.part l i) := by
  induction i with
  | zero => exact Bits.nil
  | succ i ih =>
    refine ih.append ?_
    unfold xors_Put.piece
    split
    · exact bitsN_bits _ _
    · exact xbits_bits _
theorem us_rd {l : List Int} (h : Us l) (j : Int) : 0 ≤ rd l j ∧ rd l j < 18446744073709551616 := by
  unfold rd
  by_cases hj : j.toNat < l.length
  · simp [List.getD, hj]
    exact h _ (List.getElem_mem hj)
  · simp [List.getD, hj]
/-- The reference lays the same bits. -/
theorem l0_run {l : List Int} (hu : Us l) (hl : l.length ≤ 200) : ∀ (d i k : Nat), i + d = l.length → 200 * d + 16000 < k →
    rickref08_Put.l0 k l (xors_Put.part l i) (i : Int) = some (packB (xors_Put.part l l.length)) := by
  intro d
  induction d with
  | zero =>
    intro i k hi hk
    have hn : i = l.length := by omega
    have hlen := xors_Put.part_len hu l.length (Nat.le_refl _)
    obtain ⟨q, rfl⟩ : ∃ q, k = q + 1 := ⟨k - 1, by omega⟩
    rw [hn, rickref08_Put.l0, if_neg (by omega), refbytes_spec (part_bits l l.length) (by omega) (by omega)]
    rfl
  | succ d ih =>
    intro i k hi hk
    have hlen := xors_Put.part_len hu i (by omega)
    obtain ⟨q, rfl⟩ : ∃ q, k = q + 1 := ⟨k - 1, by omega⟩
    have e2 : wrap64 ((i : Int) + 1) = ((i + 1 : Nat) : Int) := by rw [wrap64_id (by omega) (by omega)]; omega
    have hp : xors_Put.part l (i + 1) = xors_Put.part l i ++ xors_Put.piece l i := rfl
    by_cases h0 : i = 0
    · subst h0
      have hr := us_rd hu 0
      have c : cl 64 = 64 := by decide
      have hq : xors_Put.piece l 0 = bitsN 64 (rd l 0) := by unfold xors_Put.piece; rw [if_pos rfl]; rfl
      have := ih 1 q (by omega) (by omega)
      rw [hp, hq] at this
      rw [rickref08_Put.l0, if_pos (by omega), if_pos (by omega), if_pos (by omega), refput_spec hr.1 hr.2 (by omega) (by omega), Option.bind_some, c, e2]
      exact this
    · have hd := xors_Put.dif_u hu (i := i) (by omega)
      have e1 : wrap64 ((i : Int) - 1) = (i : Int) - 1 := wrap64_id (by omega) (by omega)
      have hq : xors_Put.piece l i = xbits (xors_Put.dif l i) := by unfold xors_Put.piece; rw [if_neg h0]
      have hdd : Go.bits .xor .u64 (rd l (i : Int)) (rd l ((i : Int) - 1)) = xors_Put.dif l i := rfl
      rw [rickref08_Put.l0, if_pos (by omega), if_neg (by omega), if_pos (by omega), e1, if_pos (by omega), if_pos (by omega), hdd]
      rw [hq] at hp
      generalize xors_Put.dif l i = x at *
      by_cases hx : x = 0
      · have hb : xbits x = bitsN 1 0 := by unfold xbits; rw [if_pos hx]; rfl
        have c : cl 1 = 1 := by decide
        have := ih (i + 1) q (by omega) (by omega)
        rw [hp, hb] at this
        rw [if_pos hx, refput_spec (by decide) (by decide) (by omega) (by omega), Option.bind_some, c, e2]
        exact this
      · obtain ⟨k', k1, k2, e⟩ := l1_all (l := l) (acc := xors_Put.part l i) (i := (i : Int)) (x := x) (by omega) hd.2 (by omega) q (by omega)
        have := ih (i + 1) k' (by omega) (by omega)
        rw [hp] at this
        rw [if_neg hx, e, e2]
        exact this
theorem ref_spec {l : List Int} (hu : Us l) (hl : l.length ≤ 200) {k : Nat} (hk : 60000 < k) : rickref08_Put.f k l = some (packB (xors_Put.part l l.length)) :=
  l0_run hu hl l.length 0 k (by omega) (by omega)
theorem put_spec {l : List Int} (hu : Us l) (hl : l.length ≤ 200) : xors_Put.f l = some (packB (xors_Put.part l l.length), 0) := by
  unfold xors_Put.f
  rw [if_neg (by omega), if_pos (show xors_Put.ok l = true from List.all_eq_true.2 (fun x hx => by simpa using hu x hx))]
/-- What is another bit, read back. -/
theorem take_spec {b : List Int} (hb : Bs b) (hl : b.length < 1000000000) {a : Nat} {x : Int} {Q : List Int} (x0 : 0 ≤ x) (x1 : x < 18446744073709551616) (h : Starts b a (xbits x ++ Q)) :
    xors_take.f 200 b (a : Int) false = some (x, ((a + (xbits x).length : Nat) : Int), false) := by
  by_cases hx : x = 0
  · have hx2 : xbits x = bitsN 1 0 := by unfold xbits; rw [if_pos hx]; rfl
    rw [hx2] at h ⊢
    obtain ⟨ht, _⟩ := h.take hb hl (by omega) (m := 1) rfl (by omega) 200 (by omega)
    unfold xors_take.f
    rw [ht, Option.bind_some, if_pos (show (0 : Int) % 2 ^ 1 = 0 by decide), bitsN_len, hx]
  · have h0 : 0 < x := by omega
    obtain ⟨t1, t2, t3, t4⟩ := ctz_lt h0 x1
    obtain ⟨tp, tw⟩ := top_one h0
    have hr := div_rng (x := x) (by omega) x1 (tz x)
    have hv : x / 2 ^ tz x % 2 ^ (wd x - tz x) = x / 2 ^ tz x := by
      refine Int.emod_eq_of_lt hr.1 (Int.ediv_lt_of_lt_mul (Int.pow_pos (by decide)) ?_)
      rw [← Int.pow_add, show wd x - tz x + tz x = wd x by omega]
      exact (wd_facts (by omega)).1
    have hxm : x / 2 ^ tz x * 2 ^ tz x = x := by
      obtain ⟨m, hm, e⟩ := tz_form h0 x1
      have hpos : (0 : Int) < 2 ^ tz x := Int.pow_pos (by decide)
      have : x / 2 ^ tz x = 2 * m + 1 := by
        refine Int.ediv_eq_of_eq_mul_right (by omega) e
      rw [this, Int.mul_comm]; exact e.symm
    have hx2 : xbits x = bitsN 1 1 ++ (bitsN 6 ((64 : Int) - (wd x : Int)) ++ (bitsN 6 ((wd x : Int) - (tz x : Int) - 1) ++ bitsN (wd x - tz x) (x / 2 ^ tz x))) := by unfold xbits; rw [if_neg hx]; simp only [List.append_assoc]; rfl
    rw [hx2] at h
    simp only [List.append_assoc] at h
    obtain ⟨g1, h⟩ := h.take hb hl (by omega) (m := 1) rfl (by omega) 200 (by omega)
    obtain ⟨g2, h⟩ := h.take hb hl (by omega) (m := 6) rfl (by omega) 200 (by omega)
    obtain ⟨g3, h⟩ := h.take hb hl (by omega) (m := 6) rfl (by omega) 200 (by omega)
    obtain ⟨g4, h⟩ := h.take hb hl (by omega) (m := ((wd x - tz x : Nat) : Int)) rfl hr.1 200 (by omega)
    have hlen : (xbits x).length = 13 + (wd x - tz x) := by rw [hx2, List.length_append, List.length_append, List.length_append, bitsN_len, bitsN_len, bitsN_len, bitsN_len]; omega
    have p6 : (2 : Int) ^ 6 = 64 := by decide
    have m1 : ((64 : Int) - (wd x : Int)) % 2 ^ 6 = 64 - (wd x : Int) := by rw [p6]; omega
    have m2 : ((wd x : Int) - (tz x : Int) - 1) % 2 ^ 6 = (wd x : Int) - (tz x : Int) - 1 := by rw [p6]; omega
    rw [m1] at g2
    rw [m2] at g3
    rw [hv] at g4
    have w1 : wrap64 ((wd x : Int) - (tz x : Int) - 1) = (wd x : Int) - (tz x : Int) - 1 := wrap64_id (by omega) (by omega)
    have w2 : wrap64 ((wd x : Int) - (tz x : Int) - 1 + 1) = ((wd x - tz x : Nat) : Int) := by rw [wrap64_id (by omega) (by omega)]; omega
    have w3 : wrap64 (64 - (wd x : Int)) = 64 - (wd x : Int) := wrap64_id (by omega) (by omega)
    have w4 : wrap64 (64 - (wd x : Int) + ((wd x - tz x : Nat) : Int)) = 64 - (tz x : Int) := by rw [wrap64_id (by omega) (by omega)]; omega
    have w5 : wrap64 (64 - (64 - (wd x : Int))) = (wd x : Int) := by rw [wrap64_id (by omega) (by omega)]; omega
    have w6 : wrap64 ((wd x : Int) - ((wd x - tz x : Nat) : Int)) = (tz x : Int) := by rw [wrap64_id (by omega) (by omega)]; omega
    have hs : shl .u64 (x / 2 ^ tz x) (tz x : Int) = x := by
      unfold shl
      rw [Int.toNat_natCast, Nat.min_eq_left (by show tz x ≤ 64; omega), hxm, wrap_u64_id (by omega) x1]
    unfold xors_take.f
    rw [g1, Option.bind_some, if_neg (show ¬ ((1 : Int) % 2 ^ 1 = 0) by decide), g2, Option.bind_some, g3, Option.bind_some]
    simp only [w1, w2, w3, w4, w5, w6]
    rw [g4, Option.bind_some, if_neg (by omega), if_pos (by omega)]
    simp only [hs, hlen]
    congr 3
    omega
theorem xor_back {a c : Int} (a0 : 0 ≤ a) (a1 : a < 18446744073709551616) (c0 : 0 ≤ c) (c1 : c < 18446744073709551616) : Go.bits .xor .u64 a (Go.bits .xor .u64 c a) = c := by
  obtain ⟨n, rfl⟩ := Int.eq_ofNat_of_zero_le a0
  obtain ⟨m, rfl⟩ := Int.eq_ofNat_of_zero_le c0
  have hm : m ^^^ n < 2 ^ 64 := Nat.xor_lt_two_pow (by omega) (by omega)
  rw [u64_xor_nat m n (by omega) (by omega), u64_xor_nat n (m ^^^ n) (by omega) (by omega)]
  congr 1
  apply Nat.eq_of_testBit_eq
  intro j
  simp only [Nat.testBit_xor]
  cases n.testBit j <;> cases m.testBit j <;> rfl
theorem part_split (l : List Int) : ∀ d i : Nat, ∃ T, xors_Put.part l (i + d) = xors_Put.part l i ++ T := by
  intro d
  induction d with
  | zero => intro i; exact ⟨[], by simp⟩
  | succ d ih =>
    intro i
    obtain ⟨T, h⟩ := ih i
    exact ⟨T ++ xors_Put.piece l (i + d), by rw [show i + (d + 1) = (i + d) + 1 by omega, xors_Put.part, h, List.append_assoc]⟩
/-- What was laid is read back. -/
theorem run_spec {l more : List Int} (hu : Us l) (hl : l.length ≤ 200) (hm : Bs more) (hml : more.length < 100000000) : ∀ i : Nat, i ≤ l.length →
    xors_Get.run (packB (xors_Put.part l l.length) ++ more) i = some (l.take i, ((xors_Put.part l i).length : Int), false) := by
  have hbs : Bs (packB (xors_Put.part l l.length) ++ more) := fun x hx => (List.mem_append.1 hx).elim (packB_bs (part_bits l _) x) (hm x)
  have hln : (packB (xors_Put.part l l.length) ++ more).length < 1000000000 := by
    have := xors_Put.part_len hu l.length (Nat.le_refl _)
    rw [List.length_append, packB_len]; omega
  have hst := Starts.of (part_bits l l.length) more
  intro i
  induction i with
  | zero => intro _; simp [xors_Get.run, xors_Put.part]
  | succ i ih =>
    intro hi
    have hrun := ih (by omega)
    obtain ⟨T, hT⟩ := part_split l (l.length - (i + 1)) (i + 1)
    rw [show i + 1 + (l.length - (i + 1)) = l.length by omega, xors_Put.part, List.append_assoc] at hT
    generalize packB (xors_Put.part l l.length) ++ more = b at *
    rw [hT] at hst
    have hst2 := hst.next
    rw [Nat.zero_add] at hst2
    have htk : l.take (i + 1) = l.take i ++ [l[i]] := List.take_succ_eq_append_getElem (by omega)
    have hcur : rd l (i : Int) = l[i] := rd_get (by omega)
    have hel := hu _ (List.getElem_mem (show i < l.length by omega))
    rw [xors_Get.run, hrun, Option.bind_some, xors_Put.part, List.length_append]
    by_cases h0 : i = 0
    · have hq : xors_Put.piece l i = bitsN 64 l[i] := by unfold xors_Put.piece; rw [if_pos h0, hcur]
      rw [hq] at hst2 ⊢
      obtain ⟨ht, _⟩ := hst2.take hbs hln (by omega) (m := 64) rfl hel.1 200 (by omega)
      have hmod : l[i] % 2 ^ 64 = l[i] := by rw [show (2 : Int) ^ 64 = 18446744073709551616 by decide]; omega
      rw [if_pos h0, ht, Option.bind_some, hmod, htk, bitsN_len]
    · have hd := xors_Put.dif_u hu (i := i) (by omega)
      have hq : xors_Put.piece l i = xbits (xors_Put.dif l i) := by unfold xors_Put.piece; rw [if_neg h0]
      rw [hq] at hst2 ⊢
      have ht := take_spec hbs hln hd.1 hd.2 hst2
      have hpr := us_rd hu ((i : Int) - 1)
      have hrp : rd (l.take i) ((i : Int) - 1) = rd l ((i : Int) - 1) := by
        rw [show (i : Int) - 1 = ((i - 1 : Nat) : Int) by omega, rd_get (i := i - 1) (by rw [List.length_take]; omega), rd_get (i := i - 1) (by omega), List.getElem_take]
      have hxb : Go.bits .xor .u64 (rd l ((i : Int) - 1)) (xors_Put.dif l i) = l[i] := by
        unfold xors_Put.dif
        rw [xor_back hpr.1 hpr.2 (by rw [hcur]; exact hel.1) (by rw [hcur]; exact hel.2), hcur]
      rw [if_neg h0, ht, Option.bind_some, hrp, hxb, htk]
theorem get_spec {l more : List Int} (hu : Us l) (hl : l.length ≤ 200) (hm : Bs more) (hml : more.length < 100000000) :
    xors_Get.f (packB (xors_Put.part l l.length) ++ more) (l.length : Int) = some (l, ((packB (xors_Put.part l l.length)).length : Int), 0) := by
  have h := run_spec hu hl hm hml l.length (Nat.le_refl _)
  rw [List.take_length] at h
  have hp := xors_Put.part_len hu l.length (Nat.le_refl _)
  unfold xors_Get.f
  rw [if_neg (by omega), if_pos (by rw [List.length_append, packB_len]; omega), Int.toNat_natCast, h, Option.bind_some, if_neg (show ¬ (false = true) by decide), put_spec hu hl, Option.bind_some, prefix_yes, Option.bind_some, if_pos rfl]
end Go.Proofs.YtmlbppfcpejlpaaDoor.Q08

/- Layer 8: words that the laws share. No conditions. -/
namespace Go.Proofs.YtmlbppfcpejlpaaDoor.Q08
open Go Go.RowKit Go.Proofs.YtmlbppfcpejlpaaDoorW.PrintWords Go.Proofs.YtmlbppfcpejlpaaDoorW.PrintMore Go.Proofs.YtmlbppfcpejlpaaDoor.S Go.Proofs.YtmlbppfcpejlpaaDoor.B Go.Proofs.YtmlbppfcpejlpaaDoor.X Go.Proofs.YtmlbppfcpejlpaaDoor.Q04 Go.Proofs.YtmlbppfcpejlpaaDoor.Q06 Go.Proofs.YtmlbppfcpejlpaaDoor.W08
set_option linter.unusedVariables false
set_option linter.unusedSimpArgs false

theorem same_l0 {l : List Int} (hl : l.length < 1000000000000) (d : Nat) : ∀ (i k : Nat), i + d = l.length → d < k → rickref06_Same.l0 k l l (i : Int) = some true := by
  induction d with
  | zero =>
    intro i k hd hk
    obtain ⟨k, rfl⟩ : ∃ q, k = q + 1 := ⟨k - 1, by omega⟩
    simp only [rickref06_Same.l0]
    rw [if_neg (by omega)]
  | succ d ih =>
    intro i k hd hk
    obtain ⟨k, rfl⟩ : ∃ q, k = q + 1 := ⟨k - 1, by omega⟩
    simp only [rickref06_Same.l0, if_true]
    have e2 : wrap64 ((i : Int) + 1) = ((i + 1 : Nat) : Int) := by rw [wrap64_id (by omega) (by omega)]; omega
    rw [if_pos (by omega), if_pos (by omega), if_pos (by omega), e2]
    exact ih (i + 1) k (by omega) (by omega)
theorem same_spec {k : Nat} {l : List Int} (hl : l.length < 1000000000000) (hk : l.length < k) : rickref06_Same.f k l l = some true := by
  unfold rickref06_Same.f
  rw [if_pos rfl]
  exact same_l0 hl l.length 0 k (by omega) hk
theorem get_same {l : List Int} (hu : Us l) (hl : l.length ≤ 200) : xors_Get.f (packB (xors_Put.part l l.length)) (l.length : Int) = some (l, ((packB (xors_Put.part l l.length)).length : Int), 0) := by
  have := get_spec (more := []) hu hl (fun x hx => by cases hx) (by simp)
  rwa [List.append_nil] at this
theorem xor_self {a : Int} (a0 : 0 ≤ a) (a1 : a < 18446744073709551616) : Go.bits .xor .u64 a a = 0 := by
  obtain ⟨n, rfl⟩ := Int.eq_ofNat_of_zero_le a0
  rw [u64_xor_nat n n (by omega) (by omega), Nat.xor_self]; rfl
theorem rep_rd (K : Nat) (x : Int) (i : Nat) (h : i < K) : rd (List.replicate K x) (i : Int) = x := by
  rw [rd_get (by rw [List.length_replicate]; exact h), List.getElem_replicate]
theorem rep_len {x : Int} (x0 : 0 ≤ x) (x1 : x < 18446744073709551616) (K : Nat) : ∀ i : Nat, i + 1 ≤ K → (xors_Put.part (List.replicate K x) (i + 1)).length = 64 + i := by
  intro i
  induction i with
  | zero => intro h; simp [xors_Put.part, xors_Put.piece, bitsN_len]
  | succ i ih =>
    intro h
    have hq : xors_Put.piece (List.replicate K x) (i + 1) = [0] := by
      unfold xors_Put.piece xors_Put.dif
      rw [if_neg (by omega), rep_rd K x (i + 1) (by omega), show ((i + 1 : Nat) : Int) - 1 = (i : Int) by omega, rep_rd K x i (by omega), xor_self x0 x1]
      unfold xbits; rw [if_pos rfl]
    rw [xors_Put.part, List.length_append, ih (by omega), hq]
    rfl
theorem rep_us {x : Int} (x0 : 0 ≤ x) (x1 : x < 18446744073709551616) (K : Nat) : Us (List.replicate K x) := fun y hy => by
  rw [List.eq_of_mem_replicate hy]; exact ⟨x0, x1⟩
theorem puts8_spec : ricklaw08_puts.f = some true := by
  have hu : Us (List.replicate 2 (5 : Int)) := rep_us (by decide) (by decide) 2
  have h1 := put_spec hu (by simp)
  have h2 := get_same hu (by simp)
  have h3 := rep_len (x := 5) (by decide) (by decide) 2 1 (by decide)
  have h4 := packB_len (xors_Put.part (List.replicate 2 (5 : Int)) 2)
  rw [List.length_replicate] at h1 h2
  rw [h3] at h4
  have e : ([5, 5] : List Int) = List.replicate 2 5 := rfl
  unfold ricklaw08_puts.f
  rw [e]
  generalize packB (xors_Put.part (List.replicate 2 (5 : Int)) 2) = W at *
  rw [h1, Option.bind_some]
  have h2' : xors_Get.f W 2 = some (List.replicate 2 5, (W.length : Int), 0) := h2
  rw [h2', Option.bind_some, h4]
  rfl
end Go.Proofs.YtmlbppfcpejlpaaDoor.Q08

/- XorsPuts: the reference lays the same bytes; they are read back, whatever lies behind. No conditions. -/
namespace Go.Proofs.YtmlbppfcpejlpaaDoor.Pure
open Go Go.RowKit Go.Proofs.YtmlbppfcpejlpaaDoorW.PrintWords Go.Proofs.YtmlbppfcpejlpaaDoorW.PrintMore Go.Proofs.YtmlbppfcpejlpaaDoor.S Go.Proofs.YtmlbppfcpejlpaaDoor.B Go.Proofs.YtmlbppfcpejlpaaDoor.X Go.Proofs.YtmlbppfcpejlpaaDoor.Q04 Go.Proofs.YtmlbppfcpejlpaaDoor.Q06 Go.Proofs.YtmlbppfcpejlpaaDoor.W08 Go.Proofs.YtmlbppfcpejlpaaDoor.Q08
set_option linter.unusedVariables false
set_option linter.unusedSimpArgs false

theorem mn_nat8 (a b : Nat) : mn (a : Int) (b : Int) = ((min a b : Nat) : Int) := by unfold mn; split <;> omega
theorem XorsPuts : ricklaw08_XorsPuts.Pure := by
  intro l0 more hl1 hl2 hl3 hm1 hm2 hm3
  have hm : Bs more := fun x hx => wf_u8 (hm3 x hx)
  have hu0 : Us l0 := fun x hx => wf_u64 (hl3 x hx)
  obtain ⟨l, hl⟩ : ∃ l, l = l0.take (min l0.length 200) := ⟨_, rfl⟩
  have hll : l.length ≤ 200 := by rw [hl, List.length_take]; omega
  have hu : Us l := by rw [hl]; exact hu0.take _
  obtain ⟨mo, hmo⟩ : ∃ l, l = more.take (min more.length 20) := ⟨_, rfl⟩
  have hmol : mo.length ≤ 20 := by rw [hmo, List.length_take]; omega
  have hmb : Bs mo := by rw [hmo]; exact hm.take _
  have h200 : mn (l0.length : Int) 200 = ((min l0.length 200 : Nat) : Int) := mn_nat8 l0.length 200
  have h20 : mn (more.length : Int) 20 = ((min more.length 20 : Nat) : Int) := mn_nat8 more.length 20
  have e1 := put_spec hu hll
  have e2 := get_spec hu hll hmb (by omega)
  have e3 := ref_spec hu hll (k := 70000) (by omega)
  have e4 := same_spec (k := 70000) (l := l) (by omega) (by omega)
  have e5 : xors_Put.f (List.replicate 201 0) = some ([], 1) := by unfold xors_Put.f; rw [if_pos (by rw [List.length_replicate]; decide)]
  have hwl : (packB (xors_Put.part l l.length)).length ≤ 2000 := by
    have := xors_Put.part_len hu l.length (Nat.le_refl _)
    rw [packB_len]; omega
  refine ⟨70000, ?_⟩
  generalize packB (xors_Put.part l l.length) = W at *
  unfold ricklaw08_XorsPuts.f
  rw [Option.bind_some, h200, if_pos (by omega), if_pos (by omega), Int.toNat_natCast, ← hl, if_pos (by simp only [List.length_nil]; omega), Option.bind_some, List.nil_append, e1, Option.bind_some, e3, Option.bind_some, Option.bind_some, if_pos (by simp only [List.length_nil]; omega), Option.bind_some, List.nil_append, h20, if_pos (by omega), if_pos (by omega), Int.toNat_natCast, ← hmo, if_pos (by omega), e2, Option.bind_some, if_pos (by decide), e5, Option.bind_some, puts8_spec, Option.bind_some, if_pos rfl, if_pos rfl, if_pos rfl, if_pos rfl, if_pos rfl, e4]
  rfl
end Go.Proofs.YtmlbppfcpejlpaaDoor.Pure

/- The row's condition 'the table reads as listed' gives the walks their premise; the heap that the door leaves meets it. -/
namespace Go.Proofs.YtmlbppfcpejlpaaDoor.T08
open Go Go.RowKit Go.Proofs.YtmlbppfcpejlpaaDoor.W08
def laid1 : List (String × DataW Unit) := [("math/bits.deBruijn64tab", Rows.laid_math_bits_deBruijn64tab)]
def zs : List Int := Lib.deBruijn64tab.map (fun n => ((n : Nat) : Int))
theorem laid_zs : laid1 = [("math/bits.deBruijn64tab", Lib.tabData .u8 zs)] := by rfl
theorem gn : Tryd.prog.globalNamed "math/bits.deBruijn64tab" = some 0 := by kernel_rfl
theorem zs_at : ∀ j, j < 64 → zs.getD j 0 = ((Lib.deBruijn64tab.getD j 0 : Nat) : Int) := by decide +kernel
theorem zs_len : zs.length = 64 := by rfl
theorem tab_of {W : World} (h : laidMetH Tryd.prog laid1 W) : Tab W := by
  have h1 : laidMet Tryd.prog laid1 W := h
  rw [laid_zs] at h1
  have ht : Lib.TabIs Tryd.prog W "math/bits.deBruijn64tab" .u8 zs := Lib.tabIs_of_head (n := 64) (t := 84) (e := 5) gn (by kernel_rfl) (by kernel_rfl) (by kernel_rfl) (by kernel_rfl) (by kernel_rfl) h1
  intro j hj
  rw [← zs_at j hj]
  exact ht.cell gn j (by rw [zs_len]; exact hj)
theorem door_met (os : Os) (args : Array Value) : laidMetH Tryd.prog laid1 ((World.doorLaid Tryd.prog 600 os).forCall (fun _ _ => 0) ⟨#[], args, []⟩).memory :=
  laidMetH_of_parts3 (fuel := 8) (laidMet_of_run' 8 (by kernel_rfl) (by kernel_rfl)) (by kernel_rfl) (by kernel_rfl)
end Go.Proofs.YtmlbppfcpejlpaaDoor.T08
