/- Texts of this claim, laid together (wip/merge.py): XRickref10Right, Q05, Q09p, Q10, Q10b, XRicklaw10Chunkrights, PureChunkRights, T08. No conditions. -/
import Derived.Test.YtmlbppfcpejlpaaDoorMChunkRights1
import Derived.Test.YtmlbppfcpejlpaaDoorMChunkRights3
import Derived.Test.YtmlbppfcpejlpaaDoorMChunkRights2
import Derived.Test.YtmlbppfcpejlpaaDoorMChunkRights4
import Derived.Deep.SlicePairs
import Derived.ChangeArms
import Derived.Test.YtmlbppfcpejlpaaDoorRows
import Derived.LaidMore
import Derived.Lib.LaidTab
import Derived.Stop.Joined
namespace Go.Proofs.YtmlbppfcpejlpaaDoor.X
open Go.RowKit Go.Proofs.YtmlbppfcpejlpaaDoorW.PrintWords Go.Proofs.YtmlbppfcpejlpaaDoorW.PrintLast Go.Proofs.YtmlbppfcpejlpaaDoorW.PrintMore
attribute [local go_sem] max2_int min2_int max_two min_two max_three min_three max_four min_four   -- for this text's walks alone
set_option linter.unusedVariables false
set_option linter.unusedSimpArgs false

/-! ### rickref10_Right: function 18 -/
def rickref10_Right.l0 : Nat → List (S40) → Int → Option (Int)
 | 0, _, _ => none
 | k + 1, x0, x3 => if x3 < (x0.length : Int) then (if 0 ≤ x3 then (if 0 ≤ (wrap64 (x3 - 1)) then (if (wrap64 (x3 - 1)) < (x0.length : Int) then (if ((rd_T40 x0 x3).f0) ≤ ((rd_T40 x0 (wrap64 (x3 - 1))).f0) then (some 8) else (rickref10_Right.l0 k x0 (wrap64 (x3 + 1)))) else (none)) else (none)) else (none)) else (some 0)
def rickref10_Right.f (k : Nat) (l0 : List (S40)) : Option (Int) := if (l0.length : Int) = 0 then (some 7) else (if (l0.length : Int) > 200 then (some 6) else (rickref10_Right.l0 k l0 1))
theorem rickref10_Right.mono_l : ∀ k, (∀ y0 y1, LeO (rickref10_Right.l0 k y0 y1) (rickref10_Right.l0 (k + 1) y0 y1))
 | 0 => fun _ _ r h => by simp [rickref10_Right.l0] at h
 | k + 1 => by
  have ih0 := rickref10_Right.mono_l k
  ·intro y0 y1
   unfold rickref10_Right.l0
   repeat' first
   | (with_reducible exact ih0 _ _)
   | (with_reducible exact LeO.refl _)
   | (with_reducible exact LeO.none _)
   | (with_reducible refine LeO.ite ?_ ?_)
   | (with_reducible refine LeO.bind ?_ (fun _ => ?_))
   | exact ih0 _ _
   | exact LeO.none _
   | refine LeO.ite ?_ ?_
   | refine LeO.bind ?_ (fun _ => ?_)
theorem rickref10_Right.mono : ∀ a0 k, LeO (rickref10_Right.f k a0) (rickref10_Right.f (k + 1) a0) := by
 intro a0 k
 have ih0 := rickref10_Right.mono_l k
 unfold rickref10_Right.f
 repeat' first
   | (with_reducible exact ih0 _ _)
   | (with_reducible exact LeO.refl _)
   | (with_reducible exact LeO.none _)
   | (with_reducible refine LeO.ite ?_ ?_)
   | (with_reducible refine LeO.bind ?_ (fun _ => ?_))
   | exact ih0 _ _
   | exact LeO.none _
   | refine LeO.ite ?_ ?_
   | refine LeO.bind ?_ (fun _ => ?_)
set_option maxHeartbeats 8000000 in
set_option maxRecDepth 100000 in
theorem rickref10_Right.calls (k : Nat) (A0 : Option Addr) (c0 : Nat) (l0 : List (S40)) (r : Int) (w : World) (hr0 : Kd.C k40 w A0 l0.length l0) (hc0 : l0.length ≤ c0) (h : rickref10_Right.f k l0 = some r) :
  Calls Tryd.prog 18 #[.slice A0 l0.length c0] w fun e w' => e = .returned (.int .i64 r) ∧ Drawn0 w w' := by
 have HR0 := Aside0.mk hr0
 have HC0 := Aside0.mk hc0
 clear hr0 hc0
 have H : (if (l0.length : Int) = 0 then (some 7) else (if (l0.length : Int) > 200 then (some 6) else (rickref10_Right.l0 k l0 1))) = some r := h
 clear h
 by_cases c2 : (l0.length : Int) = 0
 ·rw [if_pos c2] at H
  have c2b0 : ((l0.length : Int) == 0) = true := beq_iff_eq.mpr c2
  have c2b1 : ((l0.length : Int) != 0) = false := bne_eq_false_iff_eq.mpr c2
  clear c2
  obtain rfl := Option.some.inj H
  go_enter Tryd.func18, Tryd.ntmps18
  go_wp2
  repeat (go_quiet (fail); try go_wp2)
  go_ret
  exact ⟨by first | rfl | (simp; done) | (simp [*]; done), by repeat (first | exact Drawn0.refl _ | apply Drawn0.step)⟩
 ·rw [if_neg c2] at H
  have c2b0 : ((l0.length : Int) == 0) = false := beq_eq_false_iff_ne.mpr c2
  have c2b1 : ((l0.length : Int) != 0) = true := bne_iff_ne.mpr c2
  have c2b2 : ¬ (l0 = []) := fun h_ => c2 (by rw [h_]; rfl)
  by_cases c3 : (l0.length : Int) > 200
  ·rw [if_pos c3] at H
   have c3b0 : decide (200 < (l0.length : Int)) = true := decide_eq_true c3
   have c3b1 : decide (200 < l0.length) = true := decide_eq_true (by omega)
   clear c3
   obtain rfl := Option.some.inj H
   go_enter Tryd.func18, Tryd.ntmps18
   go_wp2
   repeat (go_quiet (fail); try go_wp2)
   go_ret
   exact ⟨by first | rfl | (simp; done) | (simp [*]; done), by repeat (first | exact Drawn0.refl _ | apply Drawn0.step)⟩
  ·rw [if_neg c3] at H
   have c3b0 : decide (200 < (l0.length : Int)) = false := decide_eq_false c3
   have c3b1 : decide (200 < l0.length) = false := decide_eq_false (by omega)
   clear c3
   have H' := Aside0.mk H
   clear H
   go_enter Tryd.func18, Tryd.ntmps18
   go_wp2
   repeat (go_quiet (fail); try go_wp2)
   go_loopg [3] k (fun kq v3 w' => ∃ (x3_1 : Int), v3 = .int .i64 x3_1 ∧ Aside0 (rickref10_Right.l0 kq l0 x3_1 = some r) ∧ Aside0 (kq ≤ k) ∧ Drawn0 w w')
   case atStart => exact ⟨(1), (by first | rfl | (simp; done) | (simp [*]; done)), H', ⟨Nat.le_refl _⟩, by repeat (first | exact Drawn0.refl _ | apply Drawn0.step)⟩
   case round =>
    clear H'
    (try clear c1);(try clear c2);(try clear c2b0);(try clear c2b1);(try clear c2b2);(try clear p2);(try clear c3);(try clear c3b0);(try clear c3b1)
    obtain ⟨x3_1, rfl, HA, HK1, ⟨m1, rfl⟩⟩ := hrel
    cases gk with
    | zero => exact absurd HA.out (by simp [rickref10_Right.l0])
    | succ k1 =>
     have H := HA.out
     clear HA
     simp only [rickref10_Right.l0] at H
     by_cases c4 : x3_1 < (l0.length : Int)
     ·rw [if_pos c4] at H
      have c4b0 : decide (x3_1 < (l0.length : Int)) = true := decide_eq_true c4
      clear c4
      by_cases c5 : 0 ≤ x3_1
      ·rw [if_pos c5] at H
       have c5b0 : decide (0 ≤ x3_1) = true := decide_eq_true c5
       clear c5
       obtain ⟨ji6, hji6⟩ : ∃ j_ : Int, (wrap64 (x3_1 - 1)) = j_ := ⟨_, rfl⟩
       replace H : (if 0 ≤ (ji6) then (if (ji6) < (l0.length : Int) then (if ((rd_T40 l0 x3_1).f0) ≤ ((rd_T40 l0 (ji6)).f0) then (some 8) else (rickref10_Right.l0 k1 l0 (wrap64 (x3_1 + 1)))) else (none)) else (none)) = some r := by first | (rw [hji6] at H; exact H) | (simp only [hji6] at H ⊢; exact H)
       have hji6w : (IntKind.i64.wrap (x3_1 - 1)) = ji6 := (i64_w _).trans hji6
       by_cases c7 : 0 ≤ (ji6)
       ·rw [if_pos c7] at H
        have c7b0 : decide (0 ≤ (ji6)) = true := decide_eq_true c7
        clear c7
        by_cases c8 : (ji6) < (l0.length : Int)
        ·rw [if_pos c8] at H
         have c8b0 : decide ((ji6) < (l0.length : Int)) = true := decide_eq_true c8
         clear c8
         by_cases c9 : ((rd_T40 l0 x3_1).f0) ≤ ((rd_T40 l0 (ji6)).f0)
         ·rw [if_pos c9] at H
          have c9b0 : decide (((rd_T40 l0 x3_1).f0) ≤ ((rd_T40 l0 (ji6)).f0)) = true := decide_eq_true c9
          clear c9
          obtain rfl := Option.some.inj H
          have p584 : 0 ≤ (x3_1 : Int) := of_decide_eq_true (by first | (with_reducible assumption) | assumption)
          have q584 : x3_1 < (l0.length : Int) := of_decide_eq_true (by first | (with_reducible assumption) | assumption)
          obtain ⟨ad584, e584, hx584_0, hx584_1⟩ := at_T40 HR0.out x3_1 p584 q584
          cases e584
          replace p584 := eq_true p584
          replace q584 := eq_true q584
          have p585 : 0 ≤ ((ji6) : Int) := of_decide_eq_true (by first | (with_reducible assumption) | assumption)
          have q585 : (ji6) < (l0.length : Int) := of_decide_eq_true (by first | (with_reducible assumption) | assumption)
          obtain ⟨ad585, e585, hx585_0, hx585_1⟩ := at_T40 HR0.out (ji6) p585 q585
          obtain rfl : ad584 = ad585 := (by injection e585)
          replace p585 := eq_true p585
          replace q585 := eq_true q585
          go_wp2
          repeat (go_quiet (fail); try go_wp2)
          go_ret
          exact ⟨by first | rfl | (simp; done) | (simp only [← hji6] <;> (first | rfl | simp)) | (simp [*]; done), by repeat (first | exact Drawn0.refl _ | apply Drawn0.step)⟩
         ·rw [if_neg c9] at H
          have c9b0 : decide (((rd_T40 l0 x3_1).f0) ≤ ((rd_T40 l0 (ji6)).f0)) = false := decide_eq_false c9
          clear c9
          have H' := Aside0.mk H
          clear H
          have p584 : 0 ≤ (x3_1 : Int) := of_decide_eq_true (by first | (with_reducible assumption) | assumption)
          have q584 : x3_1 < (l0.length : Int) := of_decide_eq_true (by first | (with_reducible assumption) | assumption)
          obtain ⟨ad584, e584, hx584_0, hx584_1⟩ := at_T40 HR0.out x3_1 p584 q584
          cases e584
          replace p584 := eq_true p584
          replace q584 := eq_true q584
          have p585 : 0 ≤ ((ji6) : Int) := of_decide_eq_true (by first | (with_reducible assumption) | assumption)
          have q585 : (ji6) < (l0.length : Int) := of_decide_eq_true (by first | (with_reducible assumption) | assumption)
          obtain ⟨ad585, e585, hx585_0, hx585_1⟩ := at_T40 HR0.out (ji6) p585 q585
          obtain rfl : ad584 = ad585 := (by injection e585)
          replace p585 := eq_true p585
          replace q585 := eq_true q585
          go_wp2
          repeat (go_quiet (fail); try go_wp2)
          go_roundg k1
          case measure => have := HK1.out; omega
          case rel => exact ⟨(wrap64 (x3_1 + 1)), (by first | rfl | (simp; done) | (simp [*]; done)), H', ⟨by have := HK1.out; omega⟩, by repeat (first | exact Drawn0.refl _ | apply Drawn0.step)⟩
        ·rw [if_neg c8] at H
         exact absurd H (by simp)
       ·rw [if_neg c7] at H
        exact absurd H (by simp)
      ·rw [if_neg c5] at H
       exact absurd H (by simp)
     ·rw [if_neg c4] at H
      have c4b0 : decide (x3_1 < (l0.length : Int)) = false := decide_eq_false c4
      clear c4
      obtain rfl := Option.some.inj H
      go_wp2
      repeat (go_quiet (fail); try go_wp2)
      go_ret
      exact ⟨by first | rfl | (simp; done) | (simp [*]; done), by repeat (first | exact Drawn0.refl _ | apply Drawn0.step)⟩

end Go.Proofs.YtmlbppfcpejlpaaDoor.X

/- What the printed functions of layer 5 (varint) tell: the bytes of a number, and back. No conditions. -/
namespace Go.Proofs.YtmlbppfcpejlpaaDoor.Q05
open Go Go.RowKit Go.Proofs.YtmlbppfcpejlpaaDoorW.PrintWords Go.Proofs.YtmlbppfcpejlpaaDoorW.PrintMore Go.Proofs.YtmlbppfcpejlpaaDoor.S Go.Proofs.YtmlbppfcpejlpaaDoor.X
set_option linter.unusedVariables false
set_option linter.unusedSimpArgs false

/-- The bytes of a number; ten at the most. -/
def vbF : Nat → Int → List Int
 | 0, _ => []
 | f + 1, n => if n < 128 then [n] else (n % 128 + 128) :: vbF f (n / 128)
def vb (n : Int) : List Int := vbF 10 n
theorem vbF_len : ∀ (f : Nat) (n : Int), (vbF f n).length ≤ f
 | 0, _ => by simp [vbF]
 | f + 1, n => by
  unfold vbF
  split
  ·simp
  ·have := vbF_len f (n / 128); simp; omega
theorem vb_len (n : Int) : (vb n).length ≤ 10 := vbF_len 10 n
theorem vb_pos (n : Int) : 1 ≤ (vb n).length := by unfold vb vbF; split <;> simp
theorem vbF_bs : ∀ (f : Nat) (n : Int), 0 ≤ n → Bs (vbF f n)
 | 0, _, _ => by simp [vbF, Bs]
 | f + 1, n, h => by
  unfold vbF
  split
  ·intro x hx; simp at hx; omega
  ·intro x hx
   rcases List.mem_cons.1 hx with rfl | hx
   ·omega
   ·exact vbF_bs f (n / 128) (by omega) x hx
theorem vb_bs {n : Int} (h : 0 ≤ n) : Bs (vb n) := vbF_bs 10 n h

theorem vbF_more : ∀ (f : Nat) (n : Int), 0 ≤ n → n < 128 ^ f → vbF f n = if f = 0 then [] else vbF (f + 1) n
 | 0, n, _, _ => by simp [vbF]
 | f + 1, n, h0, h1 => by
  rw [if_neg (by omega)]
  conv => lhs; unfold vbF
  conv => rhs; unfold vbF
  by_cases hs : n < 128
  ·rw [if_pos hs, if_pos hs]
  ·rw [if_neg hs, if_neg hs]
   have hf : f ≠ 0 := by rintro rfl; simp at h1; omega
   rw [vbF_more f (n / 128) (by omega) (Int.ediv_lt_of_lt_mul (by omega) (by rw [Int.pow_succ] at h1; omega)), if_neg hf]
theorem put_l0 (f : Nat) : ∀ (k : Nat) (n : Int) (l : List Int), 0 ≤ n → n < 128 ^ f → f < k → l.length + f < 140737488355328 → f ≠ 0 →
  varint_Put.l0 k n l = some (l ++ vbF f n) := by
 induction f with
 | zero => intro k n l h0 h1 hk hl hf; exact absurd rfl hf
 | succ f ih =>
  intro k n l h0 h1 hk hl _
  obtain ⟨k, rfl⟩ : ∃ m, k = m + 1 := ⟨k - 1, by omega⟩
  simp only [varint_Put.l0, vbF]
  by_cases hn : n < 128
  ·rw [if_neg (by omega), if_pos (by omega), if_pos hn]
   congr 3
   omega
  ·rw [if_pos (by omega), if_pos (by omega), if_neg hn, or128 (by omega) (by omega)]
   have hf : f ≠ 0 := by rintro rfl; simp at h1; omega
   have hp : n / 128 < 128 ^ f := Int.ediv_lt_of_lt_mul (by omega) (by rw [Int.pow_succ] at h1; omega)
   rw [ih k (n / 128) _ (by omega) hp (by omega) (by simp; omega) hf]
   rw [List.append_assoc, show n % 256 % 128 = n % 128 by omega]
   rfl
theorem put_spec {k : Nat} {n : Int} {l : List Int} (h0 : 0 ≤ n) (h1 : n < 18446744073709551616) (hk : 10 < k) (hl : l.length + 10 < 140737488355328) :
  varint_Put.f k l n = some (l ++ vb n) := by
 unfold varint_Put.f bytes_Clone.f
 rw [if_pos (by omega)]
 simp only [Option.bind_some]
 exact put_l0 10 k n l h0 (by omega) hk hl (by decide)

/-- The first number of bytes, from place i on, acc being what is known of it. -/
def vg : Nat → Int → List Int → Int × Int × Int
 | _, _, [] => (0, 0, 4)
 | i, acc, c :: cs =>
  if i = 10 then (0, 0, 3) else if i = 9 ∧ 1 < c then (0, 0, 3)
  else if 128 ≤ c then vg (i + 1) (acc + c % 128 * 2 ^ (7 * i)) cs
  else if c = 0 ∧ 0 < i then (0, 0, 3) else (acc + c % 128 * 2 ^ (7 * i), (i : Int) + 1, 0)

theorem shl_u64 {x : Int} {n : Nat} (h0 : 0 ≤ x) (hn : n ≤ 64) (h : x * 2 ^ n < 18446744073709551616) : shl .u64 x (n : Int) = x * 2 ^ n := by
 unfold shl
 have : min ((n : Int).toNat) IntKind.u64.bits = n := by simp [IntKind.bits]; omega
 rw [this]
 exact wrap_u64_id (Int.mul_nonneg h0 (Int.pow_nonneg (by omega))) h
theorem pow7 {i : Nat} (h : i < 10) : (2 : Int) ^ (7 * i) ≤ 9223372036854775808 ∧ 0 < (2 : Int) ^ (7 * i) ∧ (i < 9 → 128 * (2 : Int) ^ (7 * i) ≤ 9223372036854775808) ∧ (2 : Int) ^ (7 * (i + 1)) = 128 * 2 ^ (7 * i) := by
 have : i = 0 ∨ i = 1 ∨ i = 2 ∨ i = 3 ∨ i = 4 ∨ i = 5 ∨ i = 6 ∨ i = 7 ∨ i = 8 ∨ i = 9 := by omega
 rcases this with rfl | rfl | rfl | rfl | rfl | rfl | rfl | rfl | rfl | rfl <;> decide

/-- One step of what is known: the new bits lie above the old ones. -/
theorem step_acc {i : Nat} {acc c : Int} (hi : i < 10) (ha : 0 ≤ acc) (ha1 : acc < 2 ^ (7 * i)) (c0 : 0 ≤ c) (c1 : c < 256) (h9 : i = 9 → c ≤ 1) :
  Go.bits .or .u64 acc (shl .u64 (IntKind.u64.wrap (Go.bits .andNot .u8 c 128)) (wrap64 (7 * (i : Int)))) = acc + c % 128 * 2 ^ (7 * i) := by
 obtain ⟨p1, p2, p3, p4⟩ := pow7 hi
 rw [andNot128 c0 c1, wrap_u64_id (by omega) (by omega), wrap64_id (by omega) (by omega), show (7 : Int) * (i : Int) = ((7 * i : Nat) : Int) by simp]
 have hc : c % 128 * 2 ^ (7 * i) < 18446744073709551616 := by
  by_cases h : i = 9
  ·subst h; have := h9 rfl; have : c % 128 ≤ 1 := by omega
   have := Int.mul_le_mul_of_nonneg_right this (show (0 : Int) ≤ 2 ^ (7 * 9) by decide)
   omega
  ·have := p3 (by omega)
   have := Int.mul_le_mul_of_nonneg_right (show c % 128 ≤ 127 by omega) (Int.le_of_lt p2)
   omega
 rw [shl_u64 (by omega) (by omega) hc]
 have hy0 : 0 ≤ c % 128 * 2 ^ (7 * i) := Int.mul_nonneg (by omega) (Int.le_of_lt p2)
 rw [or_comm64 ha (by omega) hy0 hc, or_join (7 * i) hy0 (Int.mul_emod_left _ _) hc ha ha1 (by omega), Int.add_comm]

theorem get_l0 (b : List Int) (hb : Bs b) (hl : b.length < 1000000000000) (d : Nat) : ∀ (i k : Nat) (acc : Int), i + d = b.length → i ≤ 10 → 2 * d < k → 0 ≤ acc → (i < 10 → acc < 2 ^ (7 * i)) →
  varint_Get.l0 k acc b (b.length : Int) (i : Int) = some (vg i acc (b.drop i)) := by
 induction d with
 | zero =>
  intro i k acc hd hi hk h0 h1
  obtain ⟨k, rfl⟩ : ∃ m, k = m + 1 := ⟨k - 1, by omega⟩
  simp only [varint_Get.l0]
  rw [if_neg (by omega), List.drop_eq_nil_of_le (by omega)]
  simp [vg]
 | succ d ih =>
  intro i k acc hd hi hk h0 h1
  obtain ⟨k, rfl⟩ : ∃ m, k = m + 2 := ⟨k - 2, by omega⟩
  have hlt : i < b.length := by omega
  have hc := hb _ (List.getElem_mem hlt)
  simp only [varint_Get.l0]
  rw [if_pos (by omega), if_pos (by omega), if_pos (by omega), rd_get hlt, List.drop_eq_getElem_cons hlt]
  simp only [vg]
  by_cases h10 : i = 10
  ·rw [if_pos (by omega), if_pos h10]
   simp [varint_Get.j1]
  rw [if_neg (by omega), if_neg h10]
  have hacc := h1 (by omega)
  have key : (i = 9 → b[i] ≤ 1) → varint_Get.j1 (k + 1) acc (i : Int) b[i] b (b.length : Int) (i : Int) false = some (if 128 ≤ b[i] then vg (i + 1) (acc + b[i] % 128 * 2 ^ (7 * i)) (b.drop (i + 1)) else if b[i] = 0 ∧ 0 < i then (0, 0, 3) else (acc + b[i] % 128 * 2 ^ (7 * i), (i : Int) + 1, 0)) := by
   intro h9
   have hst := step_acc (show i < 10 by omega) h0 hacc hc.1 hc.2 h9
   obtain ⟨p1, p2, p3, p4⟩ := pow7 (show i < 10 by omega)
   simp only [varint_Get.j1, Bool.false_eq_true, if_false]
   rw [if_pos (by rw [wrap64_id] <;> omega), and128 hc.1 hc.2, hst]
   have hy0 : 0 ≤ b[i] % 128 * 2 ^ (7 * i) := Int.mul_nonneg (by omega) (Int.le_of_lt p2)
   by_cases hbig : 128 ≤ b[i]
   ·rw [if_neg (by rw [if_neg (by omega)]; decide), if_pos hbig, show wrap64 ((i : Int) + 1) = ((i + 1 : Nat) : Int) by rw [wrap64_id] <;> omega]
    refine ih (i + 1) k _ (by omega) (by omega) (by omega) (by omega) (fun h => ?_)
    rw [p4]
    have := Int.mul_le_mul_of_nonneg_right (show b[i] % 128 ≤ 127 by omega) (Int.le_of_lt p2)
    omega
   ·rw [if_pos (by rw [if_pos (by omega)]), if_neg hbig, show wrap64 ((i : Int) + 1) = (i : Int) + 1 by rw [wrap64_id] <;> omega]
    by_cases hz : b[i] = 0
    ·rw [if_pos hz]
     by_cases hi0 : 0 < i
     ·rw [if_pos (by omega), if_pos ⟨hz, hi0⟩]
     ·rw [if_neg (by omega), if_neg (fun h => hi0 h.2)]
    ·rw [if_neg hz, if_neg (fun h => hz h.1)]
  by_cases h9 : i = 9
  ·rw [if_pos (by omega)]
   by_cases hc1 : b[i] > 1
   ·rw [if_pos ⟨h9, hc1⟩]
    simp [varint_Get.j1, hc1]
   ·rw [if_neg (fun h => hc1 h.2), show decide (b[i] > 1) = false by simpa using hc1]
    exact key (fun _ => by omega)
  ·rw [if_neg (by omega), if_neg (fun h => h9 h.1)]
   exact key (fun h => absurd h h9)
theorem get_spec {k : Nat} {b : List Int} (hb : Bs b) (hl : b.length < 1000000000000) (hk : 2 * b.length < k) : varint_Get.f k b = some (vg 0 0 b) := by
 unfold varint_Get.f
 have := get_l0 b hb hl b.length 0 k 0 (by omega) (by omega) hk (by omega) (fun _ => by simp)
 simpa using this

/-- A number's bytes tell it, whatever stands behind. -/
theorem vg_vb (f : Nat) : ∀ (i : Nat) (n acc : Int) (more : List Int), i + f = 10 → 0 ≤ n → n * 2 ^ (7 * i) < 18446744073709551616 → (0 < i → n ≠ 0) → 0 < f →
  vg i acc (vbF f n ++ more) = (acc + n * 2 ^ (7 * i), (i : Int) + (vbF f n).length, 0) := by
 induction f with
 | zero => intro i n acc more _ _ _ _ hf; omega
 | succ f ih =>
  intro i n acc more hif h0 h1 hz _
  obtain ⟨p1, p2, p3, p4⟩ := pow7 (show i < 10 by omega)
  have h9 : i = 9 → n ≤ 1 := by
   rintro rfl
   simp at h1; omega
  unfold vbF
  by_cases hn : n < 128
  ·rw [if_pos hn]
   simp only [List.singleton_append, vg]
   rw [if_neg (by omega), if_neg (fun h => by have := h9 h.1; omega), if_neg (by omega), if_neg (fun h => (hz h.2) h.1), Int.emod_eq_of_lt h0 hn]
   simp
  ·rw [if_neg hn]
   simp only [List.cons_append, vg]
   rw [if_neg (by omega), if_neg (fun h => by have := h9 h.1; omega), if_pos (by omega)]
   have hf0 : 0 < f := by
    rcases Nat.eq_zero_or_pos f with h | h
    ·have := h9 (by omega); omega
    ·exact h
   have e : acc + (n % 128 + 128) % 128 * 2 ^ (7 * i) + n / 128 * 2 ^ (7 * (i + 1)) = acc + n * 2 ^ (7 * i) := by
    rw [p4, show (n % 128 + 128) % 128 = n % 128 by omega, show n / 128 * (128 * (2 : Int) ^ (7 * i)) = (n / 128 * 128) * 2 ^ (7 * i) by rw [Int.mul_assoc], Int.add_assoc, ← Int.add_mul]
    congr 2; omega
   have hle : n / 128 * 2 ^ (7 * (i + 1)) ≤ n * 2 ^ (7 * i) := by
    rw [p4, ← Int.mul_assoc]
    exact Int.mul_le_mul_of_nonneg_right (by omega) (Int.le_of_lt p2)
   rw [ih (i + 1) (n / 128) _ more (by omega) (by omega) (by omega) (fun _ => by omega) hf0, e]
   simp only [List.length_cons, Prod.mk.injEq, and_true, true_and]
   omega
theorem vg_put {n : Int} (h0 : 0 ≤ n) (h1 : n < 18446744073709551616) (more : List Int) : vg 0 0 (vb n ++ more) = (n, ((vb n).length : Int), 0) := by
 have := vg_vb 10 0 n 0 more (by omega) h0 (by simpa using h1) (by omega) (by omega)
 simpa [vb] using this
/-- Of a number's bytes but the last one nothing is told. -/
theorem vg_cut (f : Nat) : ∀ (i m : Nat) (n acc : Int), i + f = 10 → 0 ≤ n → n * 2 ^ (7 * i) < 18446744073709551616 → m < (vbF f n).length → vg i acc ((vbF f n).take m) = (0, 0, 4) := by
 induction f with
 | zero => intro i m n acc _ _ _ hm; simp [vbF] at hm
 | succ f ih =>
  intro i m n acc hif h0 h1 hm
  obtain ⟨p1, p2, p3, p4⟩ := pow7 (show i < 10 by omega)
  cases m with
  | zero => simp [vg]
  | succ m =>
   have h9 : i = 9 → n ≤ 1 := by
    rintro rfl
    simp at h1; omega
   unfold vbF at hm ⊢
   by_cases hn : n < 128
   ·rw [if_pos hn] at hm; simp at hm
   ·rw [if_neg hn] at hm ⊢
    simp only [List.take_succ_cons, vg]
    rw [if_neg (by omega), if_neg (fun h => by have := h9 h.1; omega), if_pos (by omega)]
    have hle : n / 128 * 2 ^ (7 * (i + 1)) ≤ n * 2 ^ (7 * i) := by
     rw [p4, ← Int.mul_assoc]
     exact Int.mul_le_mul_of_nonneg_right (by omega) (Int.le_of_lt p2)
    exact ih (i + 1) m (n / 128) _ (by omega) (by omega) (by omega) (by simp at hm; omega)
end Go.Proofs.YtmlbppfcpejlpaaDoor.Q05

/- What runs.Put tells. No conditions. -/
namespace Go.Proofs.YtmlbppfcpejlpaaDoor.Q09
open Go Go.RowKit Go.Proofs.YtmlbppfcpejlpaaDoorW.PrintWords Go.Proofs.YtmlbppfcpejlpaaDoorW.PrintMore Go.Proofs.YtmlbppfcpejlpaaDoor.S Go.Proofs.YtmlbppfcpejlpaaDoor.B Go.Proofs.YtmlbppfcpejlpaaDoor.X Go.Proofs.YtmlbppfcpejlpaaDoor.Q05
set_option linter.unusedVariables false
set_option linter.unusedSimpArgs false

/-- The bytes of values, run by run. -/
def runB : Nat → List Int → List Int
 | 0, _ => []
 | q + 1, l => if l.length = 0 then [] else vb (runs_Put.lead l : Int) ++ vb (rd l 0) ++ runB q (l.drop (runs_Put.lead l))
theorem runB_len (q : Nat) : ∀ l, (runB q l).length ≤ 20 * q := by
 induction q with
 | zero => intro l; simp [runB]
 | succ q ih =>
  intro l
  rw [runB]
  split
  ·simp
  ·rw [List.length_append, List.length_append]
   have h1 := vb_len (runs_Put.lead l : Int); have h2 := vb_len (rd l 0); have := ih (l.drop (runs_Put.lead l))
   omega
theorem rd0_u {l : List Int} (hu : Us l) (h : 0 < l.length) : 0 ≤ rd l 0 ∧ rd l 0 < 18446744073709551616 := by
 have := rd_get (l := l) (i := 0) h
 rw [show ((0 : Nat) : Int) = 0 from rfl] at this
 rw [this]; exact hu _ (List.getElem_mem h)
theorem runB_bs (q : Nat) : ∀ l, Us l → Bs (runB q l) := by
 induction q with
 | zero => intro l _ x hx; simp [runB] at hx
 | succ q ih =>
  intro l hu
  rw [runB]
  split
  ·intro x hx; simp at hx
  ·exact ((vb_bs (by omega)).append (vb_bs (rd0_u hu (by omega)).1)).append (ih _ (hu.drop _))
theorem put9_l0 (q : Nat) : ∀ (l out : List Int), Us l → l.length ≤ q → l.length ≤ 200 → out.length + 20 * q < 1000000 → runs_Put.l0 (q + 1) l out = some (out ++ runB q l) := by
 induction q with
 | zero =>
  intro l out hu hl _ _
  rw [runs_Put.l0, if_pos (by omega), runB, List.append_nil]
 | succ q ih =>
  intro l out hu hl h200 hout
  rw [runs_Put.l0, runB]
  by_cases h : l.length = 0
  ·rw [if_pos h, if_pos h, List.append_nil]
  ·rw [if_neg h, if_neg h]
   have hp := runs_Put.lead_pos (l := l) (by omega)
   have hle := runs_Put.lead_le l
   have hr := rd0_u hu (by omega)
   have h1 := vb_len (runs_Put.lead l : Int)
   have h2 := vb_len (rd l 0)
   rw [put_spec (by omega) (by omega) (by omega) (by omega), Option.bind_some, put_spec hr.1 hr.2 (by omega) (by rw [List.length_append]; omega), Option.bind_some]
   rw [ih _ _ (hu.drop _) (by rw [List.length_drop]; omega) (by rw [List.length_drop]; omega) (by rw [List.length_append, List.length_append]; omega)]
   simp only [List.append_assoc]
theorem put9_spec {l : List Int} (hu : Us l) (hl : l.length ≤ 200) : runs_Put.f l = some (runB 200 l, 0) := by
 unfold runs_Put.f
 rw [if_neg (by omega), put9_l0 200 l [] hu hl hl (by simp), Option.bind_some, List.nil_append]
theorem put9_long {l : List Int} (hl : 200 < l.length) : runs_Put.f l = some ([], 1) := by
 unfold runs_Put.f
 rw [if_pos hl]
end Go.Proofs.YtmlbppfcpejlpaaDoor.Q09

/- What the functions of layer 10 (chunk) lay down of samples. No conditions. -/
namespace Go.Proofs.YtmlbppfcpejlpaaDoor.Q10
open Go Go.RowKit Go.Proofs.YtmlbppfcpejlpaaDoorW.PrintWords Go.Proofs.YtmlbppfcpejlpaaDoorW.PrintMore Go.Proofs.YtmlbppfcpejlpaaDoor.S Go.Proofs.YtmlbppfcpejlpaaDoor.B Go.Proofs.YtmlbppfcpejlpaaDoor.X Go.Proofs.YtmlbppfcpejlpaaDoor.Q05 Go.Proofs.YtmlbppfcpejlpaaDoor.Q06
set_option linter.unusedVariables false
set_option linter.unusedSimpArgs false

abbrev Smp := S51
/-- A number's eight bytes, the highest first. -/
def b8 (x : Int) : List Int := [x / 72057594037927936 % 256, x / 281474976710656 % 256, x / 1099511627776 % 256, x / 4294967296 % 256, x / 16777216 % 256, x / 65536 % 256, x / 256 % 256, x % 256]
theorem b8_len (x : Int) : (b8 x).length = 8 := rfl
theorem b8_bs (x : Int) : Bs (b8 x) := by
 intro y hy
 simp only [b8, List.mem_cons, List.mem_nil_iff, or_false] at hy
 omega
theorem sh8 (x : Int) (i : Nat) (h : i < 8) : shr .u64 x (wrap64 (8 * (i : Int))) = x / 2 ^ (8 * i) := by
 rw [wrap64_id (by omega) (by omega)]
 unfold shr
 rw [show (8 * (i : Int)).toNat = 8 * i by omega, Nat.min_eq_left (by show 8 * i ≤ 64; omega)]
theorem dec64 (i : Nat) (h : i < 8) : wrap64 ((i : Int) - 1) = (i : Int) - 1 := wrap64_id (by omega) (by omega)
/-- The lowest i bytes of a number, the highest first. -/
def low (x : Int) : Nat → List Int
 | 0 => []
 | i + 1 => (x / 2 ^ (8 * i) % 256) :: low x i
theorem low_eight (x : Int) : low x 8 = b8 x := by
 simp only [low, b8, Nat.reduceMul, Int.reducePow, Nat.mul_zero, Int.pow_zero, Int.ediv_one]
theorem t_run (x : Int) : ∀ (i k : Nat) (l : List Int), i ≤ 8 → l.length + i < 140737488355329 → times_raw.l0 (k + i + 1) l x ((i : Int) - 1) = some (l ++ low x i) := by
 intro i
 induction i with
 | zero => intro k l _ _; rw [times_raw.l0, if_neg (by omega), low, List.append_nil]
 | succ i ih =>
  intro k l hi hl
  have e : ((i + 1 : Nat) : Int) - 1 = (i : Int) := by omega
  rw [e, times_raw.l0, if_pos (by omega), if_pos (by rw [wrap64_id] <;> omega), if_pos (by omega), sh8 x i (by omega), dec64 i (by omega), ← Nat.add_assoc, ih k _ (by omega) (by rw [List.length_append]; simp; omega), low, List.append_assoc, List.singleton_append]
theorem traw {k : Nat} {l : List Int} {x : Int} (hk : 8 < k) (hl : l.length + 8 < 140737488355328) : times_raw.f k l x = some (l ++ b8 x) := by
 obtain ⟨k, rfl⟩ : ∃ q, k = q + 8 + 1 := ⟨k - 9, by omega⟩
 unfold times_raw.f
 rw [← low_eight]
 exact t_run x 8 k l (by omega) (by omega)
/-- Numbers in eight bytes each. -/
def b8s (l : List Int) : List Int := (l.map b8).flatten
theorem b8s_len (l : List Int) : (b8s l).length = 8 * l.length := by
 induction l with
 | nil => rfl
 | cons a l ih => rw [b8s, List.map_cons, List.flatten_cons, List.length_append, b8_len, ← b8s, ih, List.length_cons]; omega
theorem b8s_cons (a : Int) (l : List Int) : b8s (a :: l) = b8 a ++ b8s l := rfl
theorem c_run (x : Int) (a : List Int) (n j : Int) : ∀ (i k : Nat) (l : List Int), i ≤ 8 → l.length + i < 140737488355329 → chunk_raw.l1 (k + i + 1) l x ((i : Int) - 1) a n j = chunk_raw.l0 k (l ++ low x i) a n (wrap64 (j + 1)) := by
 intro i
 induction i with
 | zero => intro k l _ _; rw [chunk_raw.l1, if_neg (by omega), low, List.append_nil]
 | succ i ih =>
  intro k l hi hl
  have e : ((i + 1 : Nat) : Int) - 1 = (i : Int) := by omega
  rw [e, chunk_raw.l1, if_pos (by omega), if_pos (by rw [wrap64_id] <;> omega), if_pos (by omega), sh8 x i (by omega), dec64 i (by omega), ← Nat.add_assoc, ih k _ (by omega) (by rw [List.length_append]; simp; omega), low, List.append_assoc, List.singleton_append]
theorem craw1 {k : Nat} {l : List Int} {x : Int} {a : List Int} {n j : Int} (hl : l.length + 8 < 140737488355328) : chunk_raw.l1 (k + 9) l x 7 a n j = chunk_raw.l0 k (l ++ b8 x) a n (wrap64 (j + 1)) := by
 rw [← low_eight]
 exact c_run x a n j 8 k l (by omega) (by omega)
theorem craw_l0 {l : List Int} (hl : l.length ≤ 200) (d : Nat) : ∀ (i k : Nat) (acc : List Int), i + d = l.length → 10 * d < k → acc.length + 8 * d < 1000000 → chunk_raw.l0 k acc l (l.length : Int) (i : Int) = some (acc ++ b8s (l.drop i)) := by
 induction d with
 | zero =>
  intro i k acc hi hk ha
  obtain ⟨k, rfl⟩ : ∃ q, k = q + 1 := ⟨k - 1, by omega⟩
  rw [chunk_raw.l0, if_neg (by omega), List.drop_of_length_le (by omega)]
  simp [b8s]
 | succ d ih =>
  intro i k acc hi hk ha
  obtain ⟨k, rfl⟩ : ∃ q, k = q + 10 := ⟨k - 10, by omega⟩
  have hlt : i < l.length := by omega
  rw [chunk_raw.l0, if_pos (by omega), if_pos (by omega), if_pos (by omega), craw1 (by omega), rd_get hlt, Q06.succ64 (by omega), ih (i + 1) k _ (by omega) (by omega) (by rw [List.length_append, b8_len]; omega), List.drop_eq_getElem_cons hlt, b8s_cons, List.append_assoc]
theorem craw {k : Nat} {l : List Int} (hl : l.length ≤ 200) (hk : 2000 < k) : chunk_raw.f k l = some (b8s l) := by
 unfold chunk_raw.f
 have := craw_l0 hl l.length 0 k [] (by omega) (by omega) (by simp; omega)
 simpa using this
/-- Differences with the first one. -/
def offs (l : List Int) : List Int := l.map (fun x => IntKind.u64.wrap (IntKind.u64.wrap x - IntKind.u64.wrap (rd l 0)))
theorem offs_len (l : List Int) : (offs l).length = l.length := by simp [offs]
theorem offs_us (l : List Int) : Us (offs l) := by
 intro x hx
 obtain ⟨y, _, rfl⟩ := List.mem_map.1 hx
 rw [wrap_u64]; omega
theorem offs_l0 {l : List Int} (hl : l.length ≤ 200) (d : Nat) : ∀ (i k : Nat) (acc : List Int), i + d = l.length → d < k → acc.length + d < 1000000 → times_offsets.l0 k l acc l (l.length : Int) (i : Int) = some (acc ++ (l.drop i).map (fun x => IntKind.u64.wrap (IntKind.u64.wrap x - IntKind.u64.wrap (rd l 0)))) := by
 induction d with
 | zero =>
  intro i k acc hi hk ha
  obtain ⟨k, rfl⟩ : ∃ q, k = q + 1 := ⟨k - 1, by omega⟩
  rw [times_offsets.l0, if_neg (by omega), List.drop_of_length_le (by omega)]
  simp
 | succ d ih =>
  intro i k acc hi hk ha
  obtain ⟨k, rfl⟩ : ∃ q, k = q + 1 := ⟨k - 1, by omega⟩
  have hlt : i < l.length := by omega
  rw [times_offsets.l0, if_pos (by omega), if_pos (by omega), if_pos (by omega), if_pos (by omega), if_pos (by omega), rd_get hlt, Q06.succ64 (by omega), ih (i + 1) k _ (by omega) (by omega) (by rw [List.length_append]; simp; omega), List.drop_eq_getElem_cons hlt, List.map_cons, List.append_assoc]
  rfl
theorem offs_spec {k : Nat} {l : List Int} (hl : l.length ≤ 200) (hk : 200 < k) : times_offsets.f k l = some (offs l) := by
 unfold times_offsets.f
 have := offs_l0 hl l.length 0 k [] (by omega) (by omega) (by simp; omega)
 simpa [offs] using this
/-- The bytes of numbers that are packed. -/
def packed (l : List Int) : List Int := if l.length = 0 then [] else packB (pack_Put.bits l)
theorem pack_spec {l : List Int} (hu : Us l) (hl : l.length ≤ 200) : pack_Put.f l = some (packed l, 0) := by
 unfold pack_Put.f packed
 rw [if_neg (by omega)]
 by_cases h : l.length = 0
 ·rw [if_pos h, if_pos h]
 ·rw [if_neg h, if_neg h, if_pos (show pack_Put.ok l = true from List.all_eq_true.2 (fun x hx => by simpa using hu x hx))]
theorem flat_len (n : Nat) (lo : Int) (l : List Int) : (l.map (fun x => bitsN n (x - lo))).flatten.length = l.length * n := by
 induction l with
 | nil => simp
 | cons a l ih => rw [List.map_cons, List.flatten_cons, List.length_append, ih, bitsN_len, List.length_cons, Nat.succ_mul]; omega
theorem wide {l : List Int} (hu : Us l) : pack_Put.width l ≤ 64 := by
 unfold pack_Put.width
 by_cases h : l.length = 0
 ·rw [List.length_eq_zero_iff.1 h]; decide +kernel
 ·have h1 := min_facts (l := l) (by omega)
  have h2 := max_facts (l := l) (by omega)
  have h3 := hu _ h1.1
  have h4 := hu _ h2.1
  have h5 := h1.2 _ h2.1
  generalize maxL l = a at *
  generalize minL l = b at *
  exact wd_le (by omega) (by rw [show (2 : Int) ^ 64 = 18446744073709551616 by decide]; omega)
theorem packed_len {l : List Int} (hu : Us l) (hl : l.length ≤ 200) : (packed l).length ≤ 100000 := by
 unfold packed
 split
 ·simp
 ·rw [packB_len]
  unfold pack_Put.bits pack_Put.body
  rw [List.length_append, List.length_append, bitsN_len, bitsN_len]
  have := flat_len (pack_Put.width l) (minL l) l
  have hw := wide hu
  have : l.length * pack_Put.width l ≤ 200 * 64 := Nat.mul_le_mul hl hw
  omega
/-- The bytes of values, by a way. -/
def vput (way : Int) (l : List Int) : List Int :=
 if way = 0 then b8s l else if way = 1 then packB (xors_Put.part l l.length) else if way = 2 then Q09.runB 200 l else packed l
theorem values_spec {k : Nat} {l : List Int} {way : Int} (hu : Us l) (hl : l.length ≤ 200) (hk : 2000 < k) : chunk_values.f k l way = some (vput way l) := by
 unfold chunk_values.f vput
 by_cases h0 : way = 0
 ·rw [if_pos h0, if_pos h0, craw hl hk]; rfl
 by_cases h1 : way = 1
 ·rw [if_neg h0, if_neg h0, if_pos h1, if_pos h1]
  unfold xors_Put.f
  rw [if_neg (by omega), if_pos (show xors_Put.ok l = true from List.all_eq_true.2 (fun x hx => by simpa using hu x hx))]; rfl
 by_cases h2 : way = 2
 ·rw [if_neg h0, if_neg h0, if_neg h1, if_neg h1, if_pos h2, if_pos h2, Q09.put9_spec hu hl]; rfl
 ·rw [if_neg h0, if_neg h0, if_neg h1, if_neg h1, if_neg h2, if_neg h2, pack_spec hu hl]; rfl
theorem vput_len {l : List Int} {way : Int} (hu : Us l) (hl : l.length ≤ 200) : (vput way l).length ≤ 100000 := by
 unfold vput
 split
 ·rw [b8s_len]; omega
 ·split
  ·rw [packB_len]; have := xors_Put.part_len hu l.length (by omega); omega
  ·split
   ·have := Q09.runB_len 200 l; omega
   ·exact packed_len hu hl
/-- The bytes of times, by a way. -/
def is_ (l : List Int) : Prop := ∀ x ∈ l, -9223372036854775808 ≤ x ∧ x < 9223372036854775808
def zg (n : Int) : Int := if 0 ≤ n then 2 * n else -2 * n - 1
def steps (l : List Int) : Nat → List Int
 | 0 => []
 | i + 1 => steps l i ++ vb (IntKind.u64.wrap (IntKind.u64.wrap (rd l ((i + 1 : Nat) : Int)) - IntKind.u64.wrap (rd l (i : Int))))
theorem steps_len (l : List Int) (i : Nat) : (steps l i).length ≤ 10 * i := by
 induction i with
 | zero => simp [steps]
 | succ i ih => rw [steps, List.length_append]; have := vb_len (IntKind.u64.wrap (IntKind.u64.wrap (rd l ((i + 1 : Nat) : Int)) - IntKind.u64.wrap (rd l (i : Int)))); omega
def tput (way : Int) (l : List Int) : List Int :=
 if l.length = 0 then [] else if way = 2 then packB (times_twice.part l l.length) else if way = 3 then b8 (IntKind.u64.wrap (rd l 0)) ++ packed (offs l) else if way = 0 then b8s (l.map IntKind.u64.wrap) else vb (zg (rd l 0)) ++ steps l (l.length - 1)
theorem zig_spec {n : Int} (h0 : -9223372036854775808 ≤ n) (h1 : n < 9223372036854775808) : varint_Zig.f n = some (zg n) := by
 unfold varint_Zig.f zg
 congr 1
 by_cases hn : 0 ≤ n
 ·rw [if_pos hn, show n / 9223372036854775808 = 0 by omega, show IntKind.u64.wrap 0 = 0 by rw [wrap_u64]; rfl, wrap_u64, wrap_u64]
  show IntKind.u64.wrap (((BitVec.ofInt 64 _ ^^^ BitVec.ofInt 64 0 : BitVec 64).toNat : Nat) : Int) = _
  rw [show BitVec.ofInt 64 0 = 0#64 by rfl, BitVec.xor_zero, BitVec.toNat_ofInt, wrap_u64]
  omega
 ·rw [if_neg hn, show n / 9223372036854775808 = -1 by omega, show IntKind.u64.wrap (-1) = 18446744073709551615 by rw [wrap_u64]; rfl, wrap_u64, wrap_u64]
  show IntKind.u64.wrap (((BitVec.ofInt 64 _ ^^^ BitVec.ofInt 64 18446744073709551615 : BitVec 64).toNat : Nat) : Int) = _
  rw [show BitVec.ofInt 64 18446744073709551615 = BitVec.allOnes 64 by decide +kernel, BitVec.xor_allOnes, BitVec.toNat_not, BitVec.toNat_ofInt, wrap_u64]
  omega
theorem t0_l0 {l : List Int} (hl : l.length ≤ 200) (d : Nat) : ∀ (i k : Nat) (acc : List Int), i + d = l.length → d + 10 < k → acc.length + 8 * d < 1000000 → times_Put.l0 k acc l (l.length : Int) (i : Int) = some (acc ++ b8s ((l.drop i).map IntKind.u64.wrap), 0) := by
 induction d with
 | zero =>
  intro i k acc hi hk ha
  obtain ⟨k, rfl⟩ : ∃ q, k = q + 1 := ⟨k - 1, by omega⟩
  rw [times_Put.l0, if_neg (by omega), List.drop_of_length_le (by omega)]
  simp [b8s]
 | succ d ih =>
  intro i k acc hi hk ha
  obtain ⟨k, rfl⟩ : ∃ q, k = q + 1 := ⟨k - 1, by omega⟩
  have hlt : i < l.length := by omega
  rw [times_Put.l0, if_pos (by omega), if_pos (by omega), if_pos (by omega), rd_get hlt, traw (by omega) (by omega), Option.bind_some, Q06.succ64 (by omega), ih (i + 1) k _ (by omega) (by omega) (by rw [List.length_append, b8_len]; omega), List.drop_eq_getElem_cons hlt, List.map_cons, b8s_cons, List.append_assoc]
theorem u64_rng (n : Int) : 0 ≤ IntKind.u64.wrap n ∧ IntKind.u64.wrap n < 18446744073709551616 := by rw [wrap_u64]; omega
theorem t1_l1 {l : List Int} (hl : l.length ≤ 200) (B : List Int) (hB : B.length ≤ 10) (d : Nat) : ∀ (i k : Nat), i + 1 + d = l.length → d + 12 < k → times_Put.l1 k l (B ++ steps l i) ((i + 1 : Nat) : Int) = some (B ++ steps l (l.length - 1), 0) := by
 induction d with
 | zero =>
  intro i k hi hk
  obtain ⟨k, rfl⟩ : ∃ q, k = q + 1 := ⟨k - 1, by omega⟩
  rw [times_Put.l1, if_neg (by omega), show l.length - 1 = i by omega]
 | succ d ih =>
  intro i k hi hk
  obtain ⟨k, rfl⟩ : ∃ q, k = q + 1 := ⟨k - 1, by omega⟩
  have e : wrap64 (((i + 1 : Nat) : Int) - 1) = (i : Int) := by rw [wrap64_id] <;> omega
  have hs := steps_len l i
  have hr := u64_rng (IntKind.u64.wrap (rd l ((i + 1 : Nat) : Int)) - IntKind.u64.wrap (rd l (i : Int)))
  rw [times_Put.l1, if_pos (by omega), if_pos (by omega), e, if_pos (by omega), if_pos (by omega), put_spec hr.1 hr.2 (by omega) (by rw [List.length_append]; omega), Option.bind_some, Q06.succ64 (by omega), List.append_assoc]
  exact ih (i + 1) k (by omega) (by omega)
theorem times_spec {k : Nat} {l : List Int} {way : Int} (hi : is_ l) (hl : l.length ≤ 200) (h0 : 0 ≤ way) (h3 : way ≤ 3) (hk : 2000 < k) : times_Put.f k l way = some (tput way l, 0) := by
 obtain ⟨k, rfl⟩ : ∃ q, k = q + 1 := ⟨k - 1, by omega⟩
 unfold times_Put.f tput
 rw [if_neg (by omega), if_neg (by omega), decide_eq_false (by omega), times_Put.j0, if_neg (by decide)]
 by_cases hn : l.length = 0
 ·rw [if_pos (by omega), if_pos hn]
 rw [if_neg (by omega), if_neg hn]
 by_cases h2 : way = 2
 ·rw [if_pos h2, if_pos h2]
  unfold times_twice.f
  rw [if_pos hl, Option.bind_some]
 rw [if_neg h2, if_neg h2]
 by_cases h3' : way = 3
 ·rw [if_pos h3', if_pos h3']
  unfold times_packed.f
  rw [offs_spec hl (by omega), Option.bind_some, pack_spec (offs_us l) (by rw [offs_len]; exact hl), Option.bind_some, if_pos (by omega), traw (by omega) (by simp), Option.bind_some, if_pos]
  ·rfl
  ·have := packed_len (offs_us l) (by rw [offs_len]; exact hl)
   simp only [List.nil_append, b8_len]; omega
 rw [if_neg h3', if_neg h3']
 by_cases h0' : way = 0
 ·rw [if_pos h0', if_pos h0']
  have := t0_l0 hl l.length 0 k [] (by omega) (by omega) (by simp; omega)
  simpa using this
 rw [if_neg h0', if_neg h0', if_pos (by omega)]
 have hr := hi (rd l 0) (by have := rd_get (l := l) (i := 0) (by omega); rw [show ((0 : Nat) : Int) = 0 from rfl] at this; rw [this]; exact List.getElem_mem _)
 have hz : 0 ≤ zg (rd l 0) ∧ zg (rd l 0) < 18446744073709551616 := by unfold zg; split <;> omega
 rw [zig_spec hr.1 hr.2, Option.bind_some, put_spec hz.1 hz.2 (by omega) (by simp), Option.bind_some, List.nil_append]
 have := t1_l1 hl (vb (zg (rd l 0))) (vb_len _) (l.length - 1) 0 k (by omega) (by omega)
 rw [steps, List.append_nil] at this
 exact this
theorem tput_len {l : List Int} {way : Int} (hl : l.length ≤ 200) : (tput way l).length ≤ 200000 := by
 unfold tput
 split
 ·simp
 ·split
  ·rw [packB_len]; have := times_twice.part_len l l.length; omega
  ·split
   ·have := packed_len (offs_us l) (by rw [offs_len]; exact hl)
    rw [List.length_append, b8_len]; omega
   ·split
    ·rw [b8s_len, List.length_map]; omega
    ·have h1 := vb_len (zg (rd l 0)); have h2 := steps_len l (l.length - 1)
     rw [List.length_append]; omega
/-- A chunk's times, its values; may they be a chunk's? -/
def ats (l : List Smp) : List Int := l.map (·.f0)
def vals (l : List Smp) : List Int := l.map (·.f1)
def rl (a : List Int) : Nat → Nat → Int
 | 0, _ => 0
 | d + 1, i => if rd a (i : Int) ≤ rd a ((i - 1 : Nat) : Int) then 8 else rl a d (i + 1)
def right (a : List Int) : Int := if a.length = 0 then 7 else if 200 < a.length then 6 else rl a (a.length - 1) 1
theorem rl_two (a : List Int) : ∀ d i, rl a d i = 0 ∨ rl a d i = 8 := by
 intro d
 induction d with
 | zero => intro i; exact Or.inl rfl
 | succ d ih => intro i; rw [rl]; split <;> simp [ih]
theorem right_rng (a : List Int) : right a = 0 ∨ right a = 6 ∨ right a = 7 ∨ right a = 8 := by
 unfold right
 split
 ·simp
 ·split
  ·simp
  ·rcases rl_two a (a.length - 1) 1 with h | h <;> simp [h]
theorem rd_at (l : List Smp) (i : Int) : (rd_T51 l i).f0 = rd (ats l) i := by
 unfold rd_T51 rd ats
 rw [List.getD_eq_getElem?_getD, List.getD_eq_getElem?_getD, List.getElem?_map]
 cases l[i.toNat]? <;> rfl
theorem rd_val (l : List Smp) (i : Int) : (rd_T51 l i).f1 = rd (vals l) i := by
 unfold rd_T51 rd vals
 rw [List.getD_eq_getElem?_getD, List.getD_eq_getElem?_getD, List.getElem?_map]
 cases l[i.toNat]? <;> rfl
theorem ats_len (l : List Smp) : (ats l).length = l.length := by simp [ats]
theorem vals_len (l : List Smp) : (vals l).length = l.length := by simp [vals]
theorem right_l0 {l : List Smp} (hl : l.length ≤ 200) (d : Nat) : ∀ (i k : Nat), i + 1 + d = l.length → d < k → chunk_Right.l0 k l ((i + 1 : Nat) : Int) = some (rl (ats l) d (i + 1)) := by
 induction d with
 | zero =>
  intro i k hi hk
  obtain ⟨k, rfl⟩ : ∃ q, k = q + 1 := ⟨k - 1, by omega⟩
  rw [chunk_Right.l0, if_neg (by omega)]; rfl
 | succ d ih =>
  intro i k hi hk
  obtain ⟨k, rfl⟩ : ∃ q, k = q + 1 := ⟨k - 1, by omega⟩
  have e : wrap64 (((i + 1 : Nat) : Int) - 1) = (i : Int) := by rw [wrap64_id] <;> omega
  rw [chunk_Right.l0, if_pos (by omega), if_pos (by omega), e, if_pos (by omega), if_pos (by omega), rd_at, rd_at, rl, Nat.add_sub_cancel]
  by_cases h : rd (ats l) ((i + 1 : Nat) : Int) ≤ rd (ats l) (i : Int)
  ·rw [if_pos h, if_pos h]
  ·rw [if_neg h, if_neg h, Q06.succ64 (by omega)]
   exact ih (i + 1) k (by omega) (by omega)
theorem right_spec {k : Nat} {l : List Smp} (hk : 300 < k) : chunk_Right.f k l = some (right (ats l)) := by
 unfold chunk_Right.f right
 rw [ats_len]
 by_cases h0 : l.length = 0
 ·rw [if_pos (by omega), if_pos h0]
 by_cases h1 : 200 < l.length
 ·rw [if_neg (by omega), if_pos (by omega), if_neg h0, if_pos h1]
 ·rw [if_neg (by omega), if_neg (by omega), if_neg h0, if_neg h1]
  exact right_l0 (by omega) (l.length - 1) 0 k (by omega) (by omega)
/-- Samples whose cells are numbers of their kinds. -/
def Ss (l : List Smp) : Prop := is_ (ats l) ∧ Us (vals l)
def enc (l : List Smp) (c : Int) : List Int :=
 [c % 256, (l.length : Int) / 256 % 256, (l.length : Int) % 256] ++ tput (Int.tdiv c 4) (ats l) ++ vput (Int.tmod c 4) (vals l)
theorem enc_l0 {l : List Smp} {c : Int} (hs : Ss l) (hl : l.length ≤ 200) (c0 : 0 ≤ c) (c1 : c < 16) (d : Nat) : ∀ (i k : Nat), i + d = l.length → 2500 + d < k →
  chunk_Encode.l0 k l c ((ats l).take i) ((vals l).take i) l (l.length : Int) (i : Int) = some (enc l c, 0) := by
 induction d with
 | zero =>
  intro i k hi hk
  obtain ⟨k, rfl⟩ : ∃ q, k = q + 1 := ⟨k - 1, by omega⟩
  have e : wrap64 (Int.tdiv c 4) = Int.tdiv c 4 := by rw [Int.tdiv_eq_ediv_of_nonneg c0]; exact wrap64_id (by omega) (by omega)
  have hw : 0 ≤ Int.tdiv c 4 ∧ Int.tdiv c 4 ≤ 3 := by rw [Int.tdiv_eq_ediv_of_nonneg c0]; omega
  have h1 := tput_len (l := ats l) (way := Int.tdiv c 4) (by rw [ats_len]; exact hl)
  have h2 := vput_len (l := vals l) (way := Int.tmod c 4) hs.2 (by rw [vals_len]; exact hl)
  rw [chunk_Encode.l0, if_neg (by omega), List.take_of_length_le (by rw [ats_len]; omega), List.take_of_length_le (by rw [vals_len]; omega), e, times_spec hs.1 (by rw [ats_len]; exact hl) hw.1 hw.2 (by omega), Option.bind_some]
  simp only []
  rw [if_pos trivial, Option.bind_some, if_pos (by simp only [List.length_cons, List.length_nil]; omega), Option.bind_some, values_spec hs.2 (by rw [vals_len]; exact hl) (by omega), Option.bind_some, if_pos (by simp only [List.length_append, List.length_cons, List.length_nil]; omega)]
  rfl
 | succ d ih =>
  intro i k hi hk
  obtain ⟨k, rfl⟩ : ∃ q, k = q + 1 := ⟨k - 1, by omega⟩
  have ha : i < (ats l).length := by rw [ats_len]; omega
  have hv : i < (vals l).length := by rw [vals_len]; omega
  rw [chunk_Encode.l0, if_pos (by omega), if_pos (by omega), if_pos (by omega), rd_at, rd_val, Option.bind_some, if_pos (by simp; omega), Option.bind_some, if_pos (by simp; omega), rd_get ha, rd_get hv, ← List.take_succ_eq_append_getElem ha, ← List.take_succ_eq_append_getElem hv, Q06.succ64 (by omega)]
  exact ih (i + 1) k (by omega) (by omega)
theorem enc_arg {k : Nat} {l : List Smp} {c : Int} (hc : c < 0 ∨ 16 ≤ c) (hk : 0 < k) : chunk_Encode.f k l c = some ([], 1) := by
 obtain ⟨k, rfl⟩ : ∃ q, k = q + 1 := ⟨k - 1, by omega⟩
 unfold chunk_Encode.f
 by_cases h : c < 0
 ·rw [if_pos h, chunk_Encode.j0, if_pos rfl]
 ·rw [if_neg h, decide_eq_true (by omega), chunk_Encode.j0, if_pos rfl]
theorem enc_bad {k : Nat} {l : List Smp} {c : Int} (c0 : 0 ≤ c) (c1 : c < 16) (hr : right (ats l) ≠ 0) (hk : 400 < k) : chunk_Encode.f k l c = some ([], right (ats l)) := by
 obtain ⟨k, rfl⟩ : ∃ q, k = q + 1 := ⟨k - 1, by omega⟩
 unfold chunk_Encode.f
 rw [if_neg (by omega), decide_eq_false (by omega), chunk_Encode.j0, if_neg (by decide), right_spec (by omega), Option.bind_some, if_neg hr]
theorem right_len {l : List Smp} (hr : right (ats l) = 0) : 0 < l.length ∧ l.length ≤ 200 := by
 unfold right at hr
 rw [ats_len] at hr
 split at hr
 ·simp at hr
 ·split at hr
  ·simp at hr
  ·omega
theorem enc_ok {k : Nat} {l : List Smp} {c : Int} (hs : Ss l) (c0 : 0 ≤ c) (c1 : c < 16) (hr : right (ats l) = 0) (hk : 3000 < k) : chunk_Encode.f k l c = some (enc l c, 0) := by
 obtain ⟨k, rfl⟩ : ∃ q, k = q + 1 := ⟨k - 1, by omega⟩
 have hl := right_len hr
 unfold chunk_Encode.f
 rw [if_neg (by omega), decide_eq_false (by omega), chunk_Encode.j0, if_neg (by decide), right_spec (by omega), Option.bind_some, if_pos hr]
 have := enc_l0 hs hl.2 c0 c1 l.length 0 k (by omega) (by omega)
 simpa using this
theorem enc_len (l : List Smp) (c : Int) : 3 ≤ (enc l c).length := by unfold enc; simp
/-- The codec by which there are the fewest bytes. -/
theorem best_l0 {l : List Smp} (hs : Ss l) (hr : right (ats l) = 0) (d : Nat) : ∀ (i k : Nat) (b m : Int), i + d = 16 → 3000 + d < k → (0 < i → 0 ≤ b ∧ b < 16 ∧ m = ((enc l b).length : Int) ∧ ∀ j : Nat, j < i → m ≤ ((enc l (j : Int)).length : Int)) →
  ∃ c : Int, chunk_Best.l0 k l b m (i : Int) = some (c, 0) ∧ 0 ≤ c ∧ c < 16 ∧ ∀ j : Nat, j < 16 → (enc l c).length ≤ (enc l (j : Int)).length := by
 induction d with
 | zero =>
  intro i k b m hi hk h
  obtain ⟨k, rfl⟩ : ∃ q, k = q + 1 := ⟨k - 1, by omega⟩
  obtain ⟨b0, b1, hm, hj⟩ := h (by omega)
  refine ⟨b, by rw [chunk_Best.l0, if_neg (by omega)], b0, b1, fun j hj' => ?_⟩
  have := hj j (by omega)
  omega
 | succ d ih =>
  intro i k b m hi hk h
  obtain ⟨k, rfl⟩ : ∃ q, k = q + 1 := ⟨k - 1, by omega⟩
  rw [chunk_Best.l0, if_pos (by omega), enc_ok hs (by omega) (by omega) hr (by omega), Option.bind_some, Q06.succ64 (by omega)]
  simp only []
  by_cases h0 : i = 0
  ·rw [if_pos (by omega)]
   refine ih (i + 1) k _ _ (by omega) (by omega) (fun _ => ⟨by omega, by omega, rfl, fun j hj => ?_⟩)
   rw [show j = i by omega]; exact Int.le_refl _
  ·rw [if_neg (by omega)]
   obtain ⟨b0, b1, hm, hj⟩ := h (by omega)
   by_cases hlt : ((enc l (i : Int)).length : Int) < m
   ·rw [if_pos hlt]
    refine ih (i + 1) k _ _ (by omega) (by omega) (fun _ => ⟨by omega, by omega, rfl, fun j hj' => ?_⟩)
    by_cases e : j = i
    ·rw [e]; exact Int.le_refl _
    ·have := hj j (by omega); omega
   ·rw [if_neg hlt]
    refine ih (i + 1) k _ _ (by omega) (by omega) (fun _ => ⟨b0, b1, hm, fun j hj' => ?_⟩)
    by_cases e : j = i
    ·rw [e]; omega
    ·exact hj j (by omega)
theorem best_ok {k : Nat} {l : List Smp} (hs : Ss l) (hr : right (ats l) = 0) (hk : 4000 < k) :
  ∃ c : Int, chunk_Best.f k l = some (c, 0) ∧ 0 ≤ c ∧ c < 16 ∧ ∀ j : Nat, j < 16 → (enc l c).length ≤ (enc l (j : Int)).length := by
 unfold chunk_Best.f
 rw [right_spec (by omega), Option.bind_some, if_pos hr]
 exact best_l0 hs hr 16 0 k 0 0 (by omega) (by omega) (fun h => by omega)
theorem best_bad {k : Nat} {l : List Smp} (hr : right (ats l) ≠ 0) (hk : 400 < k) : chunk_Best.f k l = some (0, right (ats l)) := by
 unfold chunk_Best.f
 rw [right_spec (by omega), Option.bind_some, if_neg hr]
end Go.Proofs.YtmlbppfcpejlpaaDoor.Q10

/- What ChunkRights asks of its callees. No conditions. -/
namespace Go.Proofs.YtmlbppfcpejlpaaDoor.Q10
open Go Go.RowKit Go.Proofs.YtmlbppfcpejlpaaDoorW.PrintWords Go.Proofs.YtmlbppfcpejlpaaDoorW.PrintMore Go.Proofs.YtmlbppfcpejlpaaDoor.S Go.Proofs.YtmlbppfcpejlpaaDoor.B Go.Proofs.YtmlbppfcpejlpaaDoor.X Go.Proofs.YtmlbppfcpejlpaaDoor.Q05
set_option linter.unusedVariables false
set_option linter.unusedSimpArgs false
abbrev Rmp := S40
def toS (x : Rmp) : Smp := ⟨x.f0, x.f1⟩
theorem rd_ref (l : List Rmp) (i : Int) : (rd_T40 l i).f0 = rd (ats (l.map toS)) i ∧ (rd_T40 l i).f1 = rd (vals (l.map toS)) i := by
 unfold rd_T40 rd ats vals
 simp only [List.getD_eq_getElem?_getD, List.getElem?_map]
 cases l[i.toNat]? <;> exact ⟨rfl, rfl⟩
theorem rd_ref' {l : List Rmp} {i : Nat} (h : i < l.length) : (⟨(rd_T40 l (i : Int)).f0, (rd_T40 l (i : Int)).f1⟩ : Smp) = toS l[i] := by
 unfold rd_T40
 rw [Int.toNat_natCast, List.getD_eq_getElem?_getD, List.getElem?_eq_getElem h]; rfl
theorem to_l0 {l : List Rmp} (hl : l.length ≤ 300) (d : Nat) : ∀ (i k : Nat), i + d = l.length → d < k → ricklaw10_To.l0 k l ((l.take i).map toS) (i : Int) = some (l.map toS) := by
 induction d with
 | zero =>
  intro i k hi hk
  obtain ⟨k, rfl⟩ : ∃ q, k = q + 1 := ⟨k - 1, by omega⟩
  rw [ricklaw10_To.l0, if_neg (by omega), List.take_of_length_le (by omega)]
 | succ d ih =>
  intro i k hi hk
  obtain ⟨k, rfl⟩ : ∃ q, k = q + 1 := ⟨k - 1, by omega⟩
  have hlt : i < l.length := by omega
  have e : (l.take i).map toS ++ [toS l[i]] = (l.take (i + 1)).map toS := by rw [List.take_succ_eq_append_getElem hlt, List.map_append]; rfl
  rw [ricklaw10_To.l0, if_pos (by omega), if_pos (by omega), if_pos (by simp; omega), rd_ref' hlt, e, Q06.succ64 (by omega)]
  exact ih (i + 1) k (by omega) (by omega)
theorem to_spec {k : Nat} {l : List Rmp} (hl : l.length ≤ 300) (hk : 300 < k) : ricklaw10_To.f k l = some (l.map toS) := by
 unfold ricklaw10_To.f
 have := to_l0 hl l.length 0 k (by omega) (by omega)
 simpa using this
theorem ref_l0 {l : List Rmp} (hl : l.length ≤ 200) (d : Nat) : ∀ (i k : Nat), i + 1 + d = l.length → d < k → rickref10_Right.l0 k l ((i + 1 : Nat) : Int) = some (rl (ats (l.map toS)) d (i + 1)) := by
 induction d with
 | zero =>
  intro i k hi hk
  obtain ⟨k, rfl⟩ : ∃ q, k = q + 1 := ⟨k - 1, by omega⟩
  rw [rickref10_Right.l0, if_neg (by omega)]; rfl
 | succ d ih =>
  intro i k hi hk
  obtain ⟨k, rfl⟩ : ∃ q, k = q + 1 := ⟨k - 1, by omega⟩
  have e : wrap64 (((i + 1 : Nat) : Int) - 1) = (i : Int) := by rw [wrap64_id] <;> omega
  rw [rickref10_Right.l0, if_pos (by omega), if_pos (by omega), e, if_pos (by omega), if_pos (by omega), (rd_ref _ _).1, (rd_ref _ _).1, rl, Nat.add_sub_cancel]
  by_cases h : rd (ats (l.map toS)) ((i + 1 : Nat) : Int) ≤ rd (ats (l.map toS)) (i : Int)
  ·rw [if_pos h, if_pos h]
  ·rw [if_neg h, if_neg h, Q06.succ64 (by omega)]
   exact ih (i + 1) k (by omega) (by omega)
theorem ref_spec {k : Nat} {l : List Rmp} (hk : 300 < k) : rickref10_Right.f k l = some (right (ats (l.map toS))) := by
 unfold rickref10_Right.f right
 rw [ats_len, List.length_map]
 by_cases h0 : l.length = 0
 ·rw [if_pos (by omega), if_pos h0]
 by_cases h1 : 200 < l.length
 ·rw [if_neg (by omega), if_pos (by omega), if_neg h0, if_pos h1]
 ·rw [if_neg (by omega), if_neg (by omega), if_neg h0, if_neg h1]
  exact ref_l0 (by omega) (l.length - 1) 0 k (by omega) (by omega)
set_option maxRecDepth 100000 in
theorem codes_spec {k : Nat} (hk : 299 ≤ k) : ricklaw10_codes.f k = some true := at_rounds ricklaw10_codes.mono hk (show ricklaw10_codes.f 299 = some true by decide +kernel)
/-- What the law's calls tell of samples. -/
def Facts (codec : Int) (xs : List Rmp) : Prop :=
 ∃ (ys : List Smp) (want bc : Int) (eb : List Int) (ee : Int), ricklaw10_To.f 9000 xs = some ys ∧ rickref10_Right.f 9000 xs = some want ∧ chunk_Encode.f 9000 ys codec = some (eb, ee) ∧ chunk_Best.f 9000 ys = some (bc, want) ∧ ricklaw10_codes.f 9000 = some true ∧ chunk_Right.f 9000 ys = some want ∧ (want ≠ 0 → bc = 0) ∧
  ((codec < 0 ∨ 15 < codec) → ee = 1 ∧ eb = []) ∧ (¬ (codec < 0 ∨ 15 < codec) → ee = want ∧ (want = 0 → 0 < eb.length) ∧ (want ≠ 0 → eb = []))
theorem facts {codec : Int} {xs : List Rmp} (hs : Ss (xs.map toS)) (hl : xs.length ≤ 300) : Facts codec xs := by
 have h1 := to_spec (k := 9000) hl (by omega)
 have h2 := ref_spec (k := 9000) (l := xs) (by omega)
 have h5 := codes_spec (k := 9000) (by omega)
 have h6 := right_spec (k := 9000) (l := xs.map toS) (by omega)
 by_cases hr : right (ats (xs.map toS)) = 0
 ·obtain ⟨bc, h4, _⟩ := best_ok (k := 9000) hs hr (by omega)
  by_cases hc : codec < 0 ∨ 15 < codec
  ·refine ⟨_, _, bc, [], 1, h1, h2, enc_arg (by omega) (by omega), by rw [hr]; exact h4, h5, h6, fun h => absurd hr h, fun _ => ⟨rfl, rfl⟩, fun h => absurd hc h⟩
  ·refine ⟨_, _, bc, _, _, h1, h2, enc_ok hs (by omega) (by omega) hr (by omega), by rw [hr]; exact h4, h5, h6, fun h => absurd hr h, fun h => absurd h hc, fun _ => ⟨hr.symm, fun _ => by have := enc_len (xs.map toS) codec; omega, fun h => absurd hr h⟩⟩
 ·have h4 := best_bad (k := 9000) (l := xs.map toS) hr (by omega)
  by_cases hc : codec < 0 ∨ 15 < codec
  ·refine ⟨_, _, 0, [], 1, h1, h2, enc_arg (by omega) (by omega), h4, h5, h6, fun _ => rfl, fun _ => ⟨rfl, rfl⟩, fun h => absurd hc h⟩
  ·refine ⟨_, _, 0, [], _, h1, h2, enc_bad (by omega) (by omega) hr (by omega), h4, h5, h6, fun _ => rfl, fun h => absurd h hc, fun _ => ⟨rfl, fun h => absurd h hr, fun _ => rfl⟩⟩
end Go.Proofs.YtmlbppfcpejlpaaDoor.Q10

namespace Go.Proofs.YtmlbppfcpejlpaaDoor.X
open Go.RowKit Go.Proofs.YtmlbppfcpejlpaaDoorW.PrintWords Go.Proofs.YtmlbppfcpejlpaaDoorW.PrintLast Go.Proofs.YtmlbppfcpejlpaaDoorW.PrintMore
attribute [local go_sem] max2_int min2_int max_two min_two max_three min_three max_four min_four   -- for this text's walks alone
set_option linter.unusedVariables false
set_option linter.unusedSimpArgs false

/-! ### ricklaw10_ChunkRights: function 8 -/
-- ALONE
open Go.Proofs.YtmlbppfcpejlpaaDoor.S Go.Proofs.YtmlbppfcpejlpaaDoor.B Go.Proofs.YtmlbppfcpejlpaaDoor.Q10
attribute [local go_sem ↓] Go.wp_at_zero Go.wp_at_succ
theorem ricklaw10_ChunkRights.cut_h (A : Option Addr) (n m c : Nat) (h : m ≤ n) (hc : n ≤ c) (W : World) : (Instr.slice 38 (.slice A n c) none (some (.int .i64 (m : Int))) none).run Tryd.prog W = .ok (.slice A m c) W := by
 obtain ⟨i0, hi0, _, hsz0, _⟩ := info_parts info40
 have hu : Tryd.prog.underlying 38 = some (.slice 40) := Tryd.underlying38
 have hel : Tryd.prog.elem 38 = 40 := by simp [Program.elem, hu]
 have hu' : Tryd.prog.underlying 38 = some (.slice (Tryd.prog.elem 38)) := by rw [hel]; exact hu
 have ha : (A.map fun x => x.add 0) = A := by cases A <;> simp [Addr.add]
 rw [run_slice_h W 38 A n c hu' .i64 (m : Int) (by omega) (by omega), hel]
 simp [sizeOf, typeInfo, hi0, hsz0, sliced, Result.andThen, ha]
/-- Rows of the law's own: the i-th at i. -/
def ricklaw10_ChunkRights.mk (i : Nat) : List S40 := (List.range i).map (fun j => (⟨((j : Nat) : Int), 0⟩ : S40))
theorem ricklaw10_ChunkRights.mk_len (i : Nat) : (ricklaw10_ChunkRights.mk i).length = i := by simp [ricklaw10_ChunkRights.mk]
theorem ricklaw10_ChunkRights.mk_succ (i : Nat) : ricklaw10_ChunkRights.mk (i + 1) = ricklaw10_ChunkRights.mk i ++ [(⟨(i : Int), 0⟩ : S40)] := by simp [ricklaw10_ChunkRights.mk, List.range_succ]
set_option maxHeartbeats 8000000 in
set_option maxRecDepth 100000 in
theorem ricklaw10_ChunkRights.calls (A0 : Option Addr) (c0 : Nat) (l0 : List S40) (codec : Int) (many : Bool) (w : World) (hr0 : Kd.C k40 w A0 l0.length l0) (hc0 : l0.length ≤ c0) (hT_ : Go.Proofs.YtmlbppfcpejlpaaDoor.W08.Tab w)
  (hf1 : Facts codec (l0.take (min l0.length 60))) (hf2 : ∀ i, i = 200 ∨ i = 201 → Facts codec (ricklaw10_ChunkRights.mk i)) :
  Calls Tryd.prog 8 #[.slice A0 l0.length c0, .int .i64 codec, .bool many] w fun e w' => e = .returned (.bool true) ∧ Below w.heap.size w w' := by
 have HTAB := Aside0.mk hT_
 have HF1 := Aside0.mk hf1
 have HF2 := Aside0.mk hf2
 have HX := Aside0.mk (Kd.C_take hr0 (m := min l0.length 60) (Nat.min_le_left _ _))
 have hcut := ricklaw10_ChunkRights.cut_h A0 l0.length (min l0.length 60) c0 (Nat.min_le_left _ _) hc0
 have HC0 : Aside0 (min l0.length 60 ≤ c0) := ⟨by omega⟩
 have hmin : ∀ (W : World), min l0.length 60 = min l0.length 60 := fun _ => rfl
 clear hT_ hf1 hf2 hr0 hc0
 obtain ⟨n, hn⟩ : ∃ n, min l0.length 60 = n := ⟨_, rfl⟩
 rw [hn] at HF1 HX hcut HC0
 have hn2 : (if (60 : Int) < (l0.length : Int) then (60 : Int) else (l0.length : Int)) = (n : Int) := by split <;> omega
 have hn3 : (if (l0.length : Int) < 60 then (l0.length : Int) else (60 : Int)) = (n : Int) := by split <;> omega
 cases many with
 | false =>
  obtain ⟨xs, hxs⟩ : ∃ xs, l0.take n = xs := ⟨_, rfl⟩
  have hlen : n = xs.length := by rw [← hxs, List.length_take]; omega
  rw [hxs] at HX HF1
  have HCAP : Aside0 (xs.length ≤ c0) := ⟨by have := HC0.out; omega⟩
  have HB := Aside0.mk (Below.refl w.heap.size w)
  have HF := HF1
  clear HF1 HF2 hn hxs HC0
  subst hlen
  go_enter Tryd.func8, Tryd.ntmps8
  obtain ⟨ys, want, bc, eb, ee, h1, h2, h3, h4, h5, h6, hbc, hout, hin⟩ := HF.out
  have F1 := Aside0.mk h1
  have F2 := Aside0.mk h2
  have F3 := Aside0.mk h3
  have F4 := Aside0.mk h4
  have F5 := Aside0.mk h5
  have F6 := Aside0.mk h6
  clear h1 h2 h3 h4 h5 h6 HF
  by_cases hw : want = 0
  all_goals by_cases hlo : codec < 0
  all_goals by_cases hhi : 15 < codec
  all_goals
   (try (have d5 : (want == 0) = false := beq_eq_false_iff_ne.mpr hw))
   (try (have d6 : (want != 0) = true := bne_iff_ne.mpr hw))
   (try (have h7 := hbc hw; subst h7))
   (try subst hw)
   first | (have h7 := hout (Or.inl hlo); obtain ⟨rfl, rfl⟩ := h7) | (have h7 := hout (Or.inr hhi); obtain ⟨rfl, rfl⟩ := h7) | (have h7 := hin (by omega); obtain ⟨rfl, h8, h9⟩ := h7)
   (try (have h7 := h9 hw; subst h7))
   first | (have d1 : decide (codec < 0) = true := decide_eq_true hlo) | (have d1 : decide (codec < 0) = false := decide_eq_false hlo)
   first | (have d2 : decide (15 < codec) = true := decide_eq_true hhi) | (have d2 : decide (15 < codec) = false := decide_eq_false hhi)
   (try (have d3 : decide (0 < (eb.length : Int)) = true := decide_eq_true (by have := h8 rfl; omega)))
   (try (have d4 : decide (0 < eb.length) = true := decide_eq_true (by have := h8 rfl; omega)))
   (try clear hbc)
   (try clear hin)
   (try clear hout)
   (try clear hw)
   (try clear hlo)
   (try clear hhi)
   (try clear h8)
   (try clear h9)
   go_wp2_with (first
   | (go_at_call 17; (with_reducible refine (ricklaw10_To.calls 9000 A0 c0 xs ys _ HX.out HCAP.out F1.out).mono ?_); rintro e w1 ⟨v1, rfl, ho, hb⟩; obtain ⟨A1, c1, e1⟩ := Kd.R_slice ho; subst e1; have HY1 := Aside0.mk ho; have HX1 := Aside0.mk (Kd.C_below HX.out hb); have HB1 := Aside0.mk (below_step HB.out hb); clear ho hb)
   | (go_at_call 18; (with_reducible refine (rickref10_Right.calls 9000 A0 c0 xs _ _ HX1.out HCAP.out F2.out).mono ?_); rintro e w2 ⟨rfl, hd⟩; have hb := Drawn0.below hd; have HY2 := Aside0.mk (Kd.R_below HY1.out hb); have HB2 := Aside0.mk (below_step HB1.out hb); clear hd hb HY1 HX1 HB1)
   | (go_at_call 19; (with_reducible refine (chunk_Encode.calls 9000 A1 c1 ys codec _ _ _ (Kd.R_reads' HY2.out).2.2 (Kd.R_reads' HY2.out).2.1 (Go.Proofs.YtmlbppfcpejlpaaDoor.W08.Tab.below HTAB.out HB2.out) F3.out).mono ?_); rintro e w3 ⟨v3, rfl, ho, hb⟩; obtain ⟨A3, c3, e3⟩ := Kd.R_slice ho; subst e3; have HY3 := Aside0.mk (Kd.R_below HY2.out hb); have HB3 := Aside0.mk (below_step HB2.out hb); clear ho hb HY2 HB2)
   | (go_at_call 20; (with_reducible refine (chunk_Best.calls 9000 A1 c1 ys _ _ _ (Kd.R_reads' HY3.out).2.2 (Kd.R_reads' HY3.out).2.1 (Go.Proofs.YtmlbppfcpejlpaaDoor.W08.Tab.below HTAB.out HB3.out) F4.out).mono ?_); rintro e w4 ⟨rfl, hb⟩; have HY4 := Aside0.mk (Kd.R_below HY3.out hb); have HB4 := Aside0.mk (below_step HB3.out hb); clear hb HY3 HB3)
   | (go_at_call 16; (with_reducible refine (ricklaw10_codes.calls 9000 true _ (Go.Proofs.YtmlbppfcpejlpaaDoor.W08.Tab.below HTAB.out HB4.out) F5.out rfl).mono ?_); rintro e w5 ⟨rfl, hb⟩; have HY5 := Aside0.mk (Kd.R_below HY4.out hb); have HB5 := Aside0.mk (below_step HB4.out hb); clear hb HY4 HB4)
   | (go_at_call 21; (with_reducible refine (chunk_Right.calls 9000 A1 c1 ys _ _ (Kd.R_reads' HY5.out).2.2 (Kd.R_reads' HY5.out).2.1 F6.out).mono ?_); rintro e w6 ⟨rfl, hd⟩; have hb := Drawn0.below hd; have HB6 := Aside0.mk (below_step HB5.out hb); clear hd hb HY5 HB5))
   go_ret
   exact ⟨rfl, HB6.out⟩
 | true =>
  go_enter Tryd.func8, Tryd.ntmps8
  go_wp2
  clear hcut HX HF1 hn2 hn3 hn HC0
  obtain ⟨m, hm, hm2⟩ : ∃ m : Nat, (200 : Int) + Int.tmod (IntKind.u64.wrap codec) 2 = (m : Int) ∧ (m = 200 ∨ m = 201) := by
   have := Int.tmod_eq_emod_of_nonneg (a := IntKind.u64.wrap codec) (b := 2) (by rw [wrap_u64]; omega)
   rw [this]
   exact ⟨(200 + IntKind.u64.wrap codec % 2).toNat, by omega, by omega⟩
  have HM := Aside0.mk hm2
  have HB := Aside0.mk (Below.refl w.heap.size w)
  go_loopw [0, 7] (fun v0 v7 wr => ∃ (i : Nat) (ii : Int), v7 = .int .i64 ii ∧ Aside0 (ii = (i : Int)) ∧ Aside0 (i ≤ m) ∧ Aside0 (Kd.R k40 40 wr w.heap.size (fun _ => True) v0 (ricklaw10_ChunkRights.mk i)) ∧ Aside0 (Below w.heap.size w wr)) (fun _ v7 _ => ((m : Int) - intOf v7).toNat)
  case atStart => exact ⟨0, 0, rfl, ⟨rfl⟩, ⟨Nat.zero_le _⟩, ⟨Kd.R_nil _ _ _ _ _⟩, HB⟩
  case round =>
   clear HB
   obtain ⟨i, ii, rfl, HI, HIM, HO, HB⟩ := hrel
   have hi0 : 0 ≤ ii := by have := HI.out; omega
   have hi1 : ii ≤ 201 := by have := HI.out; have := HIM.out; omega
   by_cases hlt : i < m
   ·have hd : decide (ii < (m : Int)) = true := decide_eq_true (by have := HI.out; omega)
    have hmk : ricklaw10_ChunkRights.mk i ++ [(⟨ii, 0⟩ : S40)] = ricklaw10_ChunkRights.mk (i + 1) := by rw [ricklaw10_ChunkRights.mk_succ, HI.out]
    have HMK := Aside0.mk hmk
    have HLN : Aside0 ((ricklaw10_ChunkRights.mk i).length = i) := ⟨ricklaw10_ChunkRights.mk_len i⟩
    clear hmk
    go_wp2_with ((with_reducible refine gate_builtin (b := .append) (xs := #[.tmp 29, .tmp 32]) rfl ?_); at_builtin; refine Kd.R_append k40 (w0 := w) w.heap.size rfl (.tmp 29) (.tmp 32) 38 40 (.agg #[(.int .i64 0), (.int .u64 0)]) 16 rfl Tryd.underlying38 info40 rfl (by decide) (by omega) u0 (ricklaw10_ChunkRights.mk i) (⟨ii, 0⟩ : S40) [.int .i64 ii, .int .u64 0] (fun _ => True) (fun _ => False) rfl rfl ?aP (fun _ hk => hk.elim) ?aF ?aO ?aB ?aS ?aL ?_; (case aP => exact k40_mkM _ _ _ (⟨ii, 0⟩ : S40)); (case aB => exact HB.out); (case aF => exact (fun _ _ => trivial)); (case aO => exact HO.out); (case aS => exact (below_size HB.out)); (case aL => have := HLN.out; omega); intro v6 w6 ho hb hg hat; have HO6 := Aside0.mk ho; have HB6 := Aside0.mk hb; clear ho hb hg hat)
    go_roundw
    case rel => exact ⟨i + 1, _, rfl, ⟨by have := HI.out; omega⟩, ⟨by omega⟩, ⟨by have := HO6.out; rw [HMK.out] at this; exact this⟩, HB6⟩
    case measure => simp [intOf]; have := HI.out; omega
   ·obtain ⟨A, cap, e0⟩ := Kd.R_slice HO.out
    subst e0
    obtain rfl : i = m := by have := HIM.out; omega
    have hd : decide (ii < (i : Int)) = false := decide_eq_false (by have := HI.out; omega)
    have HF := Aside0.mk (HF2.out i HM.out)
    have HX := Aside0.mk (Kd.R_reads' HO.out).2.2
    have HCAP := Aside0.mk (Kd.R_reads' HO.out).2.1
    clear HF2 HO HM hlt
    obtain ⟨ys, want, bc, eb, ee, h1, h2, h3, h4, h5, h6, hbc, hout, hin⟩ := HF.out
    have F1 := Aside0.mk h1
    have F2 := Aside0.mk h2
    have F3 := Aside0.mk h3
    have F4 := Aside0.mk h4
    have F5 := Aside0.mk h5
    have F6 := Aside0.mk h6
    clear h1 h2 h3 h4 h5 h6 HF
    by_cases hw : want = 0
    all_goals by_cases hlo : codec < 0
    all_goals by_cases hhi : 15 < codec
    all_goals
     (try (have d5 : (want == 0) = false := beq_eq_false_iff_ne.mpr hw))
     (try (have d6 : (want != 0) = true := bne_iff_ne.mpr hw))
     (try (have h7 := hbc hw; subst h7))
     (try subst hw)
     first | (have h7 := hout (Or.inl hlo); obtain ⟨rfl, rfl⟩ := h7) | (have h7 := hout (Or.inr hhi); obtain ⟨rfl, rfl⟩ := h7) | (have h7 := hin (by omega); obtain ⟨rfl, h8, h9⟩ := h7)
     (try (have h7 := h9 hw; subst h7))
     first | (have d1 : decide (codec < 0) = true := decide_eq_true hlo) | (have d1 : decide (codec < 0) = false := decide_eq_false hlo)
     first | (have d2 : decide (15 < codec) = true := decide_eq_true hhi) | (have d2 : decide (15 < codec) = false := decide_eq_false hhi)
     (try (have d3 : decide (0 < (eb.length : Int)) = true := decide_eq_true (by have := h8 rfl; omega)))
     (try (have d4 : decide (0 < eb.length) = true := decide_eq_true (by have := h8 rfl; omega)))
     (try clear hbc)
     (try clear hin)
     (try clear hout)
     (try clear hw)
     (try clear hlo)
     (try clear hhi)
     (try clear h8)
     (try clear h9)
     go_wp2_with (first
     | (go_at_call 17; (with_reducible refine (ricklaw10_To.calls 9000 A cap (ricklaw10_ChunkRights.mk i) ys _ HX.out HCAP.out F1.out).mono ?_); rintro e w1 ⟨v1, rfl, ho, hb⟩; obtain ⟨A1, c1, e1⟩ := Kd.R_slice ho; subst e1; have HY1 := Aside0.mk ho; have HX1 := Aside0.mk (Kd.C_below HX.out hb); have HB1 := Aside0.mk (below_step HB.out hb); clear ho hb)
     | (go_at_call 18; (with_reducible refine (rickref10_Right.calls 9000 A cap (ricklaw10_ChunkRights.mk i) _ _ HX1.out HCAP.out F2.out).mono ?_); rintro e w2 ⟨rfl, hd⟩; have hb := Drawn0.below hd; have HY2 := Aside0.mk (Kd.R_below HY1.out hb); have HB2 := Aside0.mk (below_step HB1.out hb); clear hd hb HY1 HX1 HB1)
     | (go_at_call 19; (with_reducible refine (chunk_Encode.calls 9000 A1 c1 ys codec _ _ _ (Kd.R_reads' HY2.out).2.2 (Kd.R_reads' HY2.out).2.1 (Go.Proofs.YtmlbppfcpejlpaaDoor.W08.Tab.below HTAB.out HB2.out) F3.out).mono ?_); rintro e w3 ⟨v3, rfl, ho, hb⟩; obtain ⟨A3, c3, e3⟩ := Kd.R_slice ho; subst e3; have HY3 := Aside0.mk (Kd.R_below HY2.out hb); have HB3 := Aside0.mk (below_step HB2.out hb); clear ho hb HY2 HB2)
     | (go_at_call 20; (with_reducible refine (chunk_Best.calls 9000 A1 c1 ys _ _ _ (Kd.R_reads' HY3.out).2.2 (Kd.R_reads' HY3.out).2.1 (Go.Proofs.YtmlbppfcpejlpaaDoor.W08.Tab.below HTAB.out HB3.out) F4.out).mono ?_); rintro e w4 ⟨rfl, hb⟩; have HY4 := Aside0.mk (Kd.R_below HY3.out hb); have HB4 := Aside0.mk (below_step HB3.out hb); clear hb HY3 HB3)
     | (go_at_call 16; (with_reducible refine (ricklaw10_codes.calls 9000 true _ (Go.Proofs.YtmlbppfcpejlpaaDoor.W08.Tab.below HTAB.out HB4.out) F5.out rfl).mono ?_); rintro e w5 ⟨rfl, hb⟩; have HY5 := Aside0.mk (Kd.R_below HY4.out hb); have HB5 := Aside0.mk (below_step HB4.out hb); clear hb HY4 HB4)
     | (go_at_call 21; (with_reducible refine (chunk_Right.calls 9000 A1 c1 ys _ _ (Kd.R_reads' HY5.out).2.2 (Kd.R_reads' HY5.out).2.1 F6.out).mono ?_); rintro e w6 ⟨rfl, hd⟩; have hb := Drawn0.below hd; have HB6 := Aside0.mk (below_step HB5.out hb); clear hd hb HY5 HB5))
     go_ret
     exact ⟨rfl, HB6.out⟩

end Go.Proofs.YtmlbppfcpejlpaaDoor.X

/- ChunkRights: of all samples it is told whether they may be a chunk's; of others nothing is encoded. No conditions. -/
namespace Go.Proofs.YtmlbppfcpejlpaaDoor.Pure
open Go Go.RowKit Go.Deep Go.ChangeShapes Go.WideShapes Go.Proofs.YtmlbppfcpejlpaaDoorW.PrintWords Go.Proofs.YtmlbppfcpejlpaaDoorW.PrintMore Go.Proofs.YtmlbppfcpejlpaaDoor.S Go.Proofs.YtmlbppfcpejlpaaDoor.X Go.Proofs.YtmlbppfcpejlpaaDoor.Q10
set_option linter.unusedVariables false
set_option linter.unusedSimpArgs false
/-- What an argument that is a slice of samples holds. -/
theorem samples_open {H : Type} {enc : TypeId × Value → H} {W : World} {base : Nat} {spare : Nat → Bool} {held : Bool} {a0 : Option Addr} {len0 cap0 : Nat} {d : DataW H} {ps : List MemPlace}
  (h : DataW.Trod enc Tryd.prog W base spare held 38 (.slice a0 len0 cap0) d ps) : ∃ xs : List Rmp, xs.length = len0 ∧ Kd.C k40 W a0 len0 xs ∧ len0 ≤ cap0 ∧ Ss (xs.map toS) := by
 obtain ⟨fuel, hf⟩ := h
 rcases open_slice_pairs Tryd.underlying38 Tryd.underlying40 (by kernel_rfl) rfl rfl (by kernel_rfl) (by kernel_rfl) hf with ⟨hcs, _⟩ | ⟨a, len, cap, m, n, V0, V1, D0, D1, P0, P1, hcs, hb, hl, hm, hmm, hx, hall⟩
 ·simp [Value.cells] at hcs
  obtain ⟨rfl, rfl, rfl⟩ := hcs
  exact ⟨[], rfl, ⟨rfl, by omega, fun h => by omega⟩, Nat.le_refl _, fun x hx => by simp [ats] at hx, fun x hx => by simp [vals] at hx⟩
 ·simp [Value.cells] at hcs
  obtain ⟨rfl, rfl, rfl⟩ := hcs
  have hml : maxLen ≤ 9223372036854775807 := by unfold maxLen; decide
  have key : ∀ i, i < len0 → W.cell? (a.add (i * 2)) = some (.int .i64 (intOf (V0 i))) ∧ W.cell? (a.add (i * 2 + 1)) = some (.int .u64 (intOf (V1 i))) ∧ (-9223372036854775808 ≤ intOf (V0 i) ∧ intOf (V0 i) < 9223372036854775808) ∧ (0 ≤ intOf (V1 i) ∧ intOf (V1 i) < 18446744073709551616) := by
   intro i hi
   obtain ⟨c0, c1, t0, t1⟩ := hall i (by rw [hmm]; split <;> omega)
   obtain ⟨n0, e0, _, wf0⟩ := DataW.trod_int Tryd.underlying2 t0
   obtain ⟨n1, e1, _, wf1⟩ := DataW.trod_int Tryd.underlying34 t1
   injection e0 with e0
   injection e1 with e1
   rw [e0] at c0
   rw [e1] at c1
   have r0 := S.wf_i64 wf0
   have r1 := S.wf_u64 wf1
   exact ⟨by simpa [e0, intOf] using c0, by simpa [e1, intOf] using c1, by simpa [e0, intOf] using r0, by simpa [e1, intOf] using r1⟩
  refine ⟨(List.range len0).map (fun i => (⟨intOf (V0 i), intOf (V1 i)⟩ : Rmp)), by simp, ⟨by simp, by omega, fun _ => ⟨a, rfl, fun j p hj => ?_⟩⟩, hl, ?_, ?_⟩
  ·have hjl : j < len0 := by
    have := (List.getElem?_eq_some_iff.1 hj).1
    simpa using this
   obtain ⟨c0, c1, _, _⟩ := key j hjl
   have hp : p = (⟨intOf (V0 j), intOf (V1 j)⟩ : Rmp) := by
    have := (List.getElem?_eq_some_iff.1 hj).2
    rw [← this]; simp
   subst hp
   refine ⟨[.int .i64 (intOf (V0 j)), .int .u64 (intOf (V1 j))], rfl, k40_mk W _, fun i u hu => ?_⟩
   rcases i with _ | _ | i
   ·simp at hu; subst hu; exact c0
   ·simp at hu; subst hu; exact c1
   ·simp at hu
  ·intro x hx
   simp only [ats, List.map_map, List.mem_map, List.mem_range] at hx
   obtain ⟨i, hi, rfl⟩ := hx
   exact (key i hi).2.2.1
  ·intro x hx
   simp only [vals, List.map_map, List.mem_map, List.mem_range] at hx
   obtain ⟨i, hi, rfl⟩ := hx
   exact (key i hi).2.2.2
theorem Ss.take {l : List Rmp} (h : Ss (l.map toS)) (n : Nat) : Ss ((l.take n).map toS) := by
 have e1 : ats ((l.take n).map toS) = (ats (l.map toS)).take n := by simp only [ats, ← List.map_take]
 have e2 : vals ((l.take n).map toS) = (vals (l.map toS)).take n := by simp only [vals, ← List.map_take]
 exact ⟨by rw [e1]; exact fun x hx => h.1 x (List.mem_of_mem_take hx), by rw [e2]; exact h.2.take n⟩
theorem mk_ss (i : Nat) (hi : i ≤ 300) : Ss ((ricklaw10_ChunkRights.mk i).map toS) := by
 constructor
 ·intro x hx
  simp only [ats, ricklaw10_ChunkRights.mk, List.map_map, List.mem_map, List.mem_range] at hx
  obtain ⟨j, hj, rfl⟩ := hx
  show -9223372036854775808 ≤ (j : Int) ∧ (j : Int) < 9223372036854775808
  omega
 ·intro x hx
  simp only [vals, ricklaw10_ChunkRights.mk, List.map_map, List.mem_map, List.mem_range] at hx
  obtain ⟨j, hj, rfl⟩ := hx
  show 0 ≤ (0 : Int) ∧ (0 : Int) < 18446744073709551616
  omega
/-- The law, at whatever world. -/
theorem ChunkRights (A0 : Option Addr) (c0 len0 : Nat) (l0 : List Rmp) (codec : Int) (many : Bool) (w : World) (hn : l0.length = len0) (hr0 : Kd.C k40 w A0 len0 l0) (hc0 : len0 ≤ c0) (hs : Ss (l0.map toS)) (hT_ : Go.Proofs.YtmlbppfcpejlpaaDoor.W08.Tab w) :
  Calls Tryd.prog 8 #[.slice A0 len0 c0, .int .i64 codec, .bool many] w fun e w' => e = .returned (.bool true) ∧ Below w.heap.size w w' := by
 subst hn
 refine ricklaw10_ChunkRights.calls A0 c0 l0 codec many w hr0 hc0 hT_ (facts (Ss.take hs _) (by rw [List.length_take]; omega)) (fun i hi => facts (mk_ss i (by omega)) (by rw [ricklaw10_ChunkRights.mk_len]; omega))
end Go.Proofs.YtmlbppfcpejlpaaDoor.Pure

/- The row's condition 'the table reads as listed' gives the walks their premise; the heap that the door leaves meets it. -/
namespace Go.Proofs.YtmlbppfcpejlpaaDoor.T08
open Go Go.RowKit Go.Proofs.YtmlbppfcpejlpaaDoor.W08
def laid1 : List (String × DataW Unit) := [("math/bits.deBruijn64tab", Rows.laid_math_bits_deBruijn64tab)]
def zs : List Int := Lib.deBruijn64tab.map (fun n => ((n : Nat) : Int))
theorem laid_zs : laid1 = [("math/bits.deBruijn64tab", Lib.tabData .u8 zs)] := by rfl
theorem gn : Tryd.prog.globalNamed "math/bits.deBruijn64tab" = some 0 := by kernel_rfl
theorem zs_at : ∀ j, j < 64 → zs.getD j 0 = ((Lib.deBruijn64tab.getD j 0 : Nat) : Int) := by decide +kernel
theorem zs_len : zs.length = 64 := by rfl
theorem tab_of {W : World} (h : laidMetH Tryd.prog laid1 W) : Tab W := by
 have h1 : laidMet Tryd.prog laid1 W := h
 rw [laid_zs] at h1
 have ht : Lib.TabIs Tryd.prog W "math/bits.deBruijn64tab" .u8 zs := Lib.tabIs_of_head (n := 64) (t := 84) (e := 5) gn (by kernel_rfl) (by kernel_rfl) (by kernel_rfl) (by kernel_rfl) (by kernel_rfl) h1
 intro j hj
 rw [← zs_at j hj]
 exact ht.cell gn j (by rw [zs_len]; exact hj)
theorem door_met (os : Os) (args : Array Value) : laidMetH Tryd.prog laid1 ((World.doorLaid Tryd.prog 600 os).forCall (fun _ _ => 0) ⟨#[], args, []⟩).memory :=
 laidMetH_of_parts3 (fuel := 8) (laidMet_of_run' 8 (by kernel_rfl) (by kernel_rfl)) (by kernel_rfl) (by kernel_rfl)
end Go.Proofs.YtmlbppfcpejlpaaDoor.T08
