/- What the printed functions of layer 5 (varint) tell: the bytes of a number, and back. No conditions. -/
import Derived.Test.YtmlbppfcpejlpaaS
import Derived.Test.YtmlbppfcpejlpaaXVarintPut
import Derived.Test.YtmlbppfcpejlpaaXVarintGet
namespace Go.Proofs.Ytmlbppfcpejlpaa.Q05
open Go Go.RowKit Go.Proofs.YtmlbppfcpejlpaaW.PrintWords Go.Proofs.YtmlbppfcpejlpaaW.PrintMore Go.Proofs.Ytmlbppfcpejlpaa.S Go.Proofs.Ytmlbppfcpejlpaa.X
set_option linter.unusedVariables false
set_option linter.unusedSimpArgs false

/-- The bytes of a number; ten at the most. -/
def vbF : Nat → Int → List Int
  | 0, _ => []
  | f + 1, n => if n < 128 then [n] else (n % 128 + 128) :: vbF f (n / 128)
def vb (n : Int) : List Int := vbF 10 n
theorem vbF_len : ∀ (f : Nat) (n : Int), (vbF f n).length ≤ f
  | 0, _ => by simp [vbF]
  | f + 1, n => by
    unfold vbF
    split
    · simp
    · have := vbF_len f (n / 128); simp; omega
theorem vb_len (n : Int) : (vb n).length ≤ 10 := vbF_len 10 n
theorem vb_pos (n : Int) : 1 ≤ (vb n).length := by unfold vb vbF; split <;> simp
theorem vbF_bs : ∀ (f : Nat) (n : Int), 0 ≤ n → Bs (vbF f n)
  | 0, _, _ => by simp [vbF, Bs]
  | f + 1, n, h => by
    unfold vbF
    split
    · intro x hx; simp at hx; omega
    · intro x hx
      rcases List.mem_cons.1 hx with rfl | hx
      · omega
      · exact vbF_bs f (n / 128) (by omega) x hx
theorem vb_bs {n : Int} (h : 0 ≤ n) : Bs (vb n) := vbF_bs 10 n h

theorem vbF_more : ∀ (f : Nat) (n : Int), 0 ≤ n → n < 128 ^ f → vbF f n = if f = 0 then [] else vbF (f + 1) n
  | 0, n, _, _ => by simp [vbF]
  | f + 1, n, h0, h1 => by
    rw [if_neg (by omega)]
    conv => lhs; unfold vbF
    conv => rhs; unfold vbF
    by_cases hs : n < 128
    · rw [if_pos hs, if_pos hs]
    · rw [if_neg hs, if_neg hs]
      have hf : f ≠ 0 := by rintro rfl; simp at h1; omega
      rw [vbF_more f (n / 128) (by omega) (Int.ediv_lt_of_lt_mul (by omega) (by rw [Int.pow_succ] at h1; omega)), if_neg hf]
theorem put_l0 (f : Nat) : ∀ (k : Nat) (n : Int) (l : List Int), 0 ≤ n → n < 128 ^ f → f < k → l.length + f < 140737488355328 → f ≠ 0 →
    varint_Put.l0 k n l = some (l ++ vbF f n) := by
  induction f with
  | zero => intro k n l h0 h1 hk hl hf; exact absurd rfl hf
  | succ f ih =>
    intro k n l h0 h1 hk hl _
    obtain ⟨k, rfl⟩ : ∃ m, k = m + 1 := ⟨k - 1, by omega⟩
    simp only [varint_Put.l0, vbF]
    by_cases hn : n < 128
    · rw [if_neg (by omega), if_pos (by omega), if_pos hn]
      congr 3
      omega
    · rw [if_pos (by omega), if_pos (by omega), if_neg hn, or128 (by omega) (by omega)]
      have hf : f ≠ 0 := by rintro rfl; simp at h1; omega
      have hp : n / 128 < 128 ^ f := Int.ediv_lt_of_lt_mul (by omega) (by rw [Int.pow_succ] at h1; omega)
      rw [ih k (n / 128) _ (by omega) hp (by omega) (by simp; omega) hf]
      rw [List.append_assoc, show n % 256 % 128 = n % 128 by omega]
      rfl
theorem put_spec {k : Nat} {n : Int} {l : List Int} (h0 : 0 ≤ n) (h1 : n < 18446744073709551616) (hk : 10 < k) (hl : l.length + 10 < 140737488355328) :
    varint_Put.f k l n = some (l ++ vb n) := by
  unfold varint_Put.f bytes_Clone.f
  rw [if_pos (by omega)]
  simp only [Option.bind_some]
  exact put_l0 10 k n l h0 (by omega) hk hl (by decide)

/-- The first number of bytes, from place i on, acc being what is known of it. -/
def vg : Nat → Int → List Int → Int × Int × Int
  | _, _, [] => (0, 0, 4)
  | i, acc, c :: cs =>
    if i = 10 then (0, 0, 3) else if i = 9 ∧ 1 < c then (0, 0, 3)
    else if 128 ≤ c then vg (i + 1) (acc + c % 128 * 2 ^ (7 * i)) cs
    else if c = 0 ∧ 0 < i then (0, 0, 3) else (acc + c % 128 * 2 ^ (7 * i), (i : Int) + 1, 0)

theorem shl_u64 {x : Int} {n : Nat} (h0 : 0 ≤ x) (hn : n ≤ 64) (h : x * 2 ^ n < 18446744073709551616) : shl .u64 x (n : Int) = x * 2 ^ n := by
  unfold shl
  have : min ((n : Int).toNat) IntKind.u64.bits = n := by simp [IntKind.bits]; omega
  rw [this]
  exact wrap_u64_id (Int.mul_nonneg h0 (Int.pow_nonneg (by omega))) h
theorem pow7 {i : Nat} (h : i < 10) : (2 : Int) ^ (7 * i) ≤ 9223372036854775808 ∧ 0 < (2 : Int) ^ (7 * i) ∧ (i < 9 → 128 * (2 : Int) ^ (7 * i) ≤ 9223372036854775808) ∧ (2 : Int) ^ (7 * (i + 1)) = 128 * 2 ^ (7 * i) := by
  have : i = 0 ∨ i = 1 ∨ i = 2 ∨ i = 3 ∨ i = 4 ∨ i = 5 ∨ i = 6 ∨ i = 7 ∨ i = 8 ∨ i = 9 := by omega
  rcases this with rfl | rfl | rfl | rfl | rfl | rfl | rfl | rfl | rfl | rfl <;> decide

/-- One step of what is known: the new bits lie above the old ones. -/
theorem step_acc {i : Nat} {acc c : Int} (hi : i < 10) (ha : 0 ≤ acc) (ha1 : acc < 2 ^ (7 * i)) (c0 : 0 ≤ c) (c1 : c < 256) (h9 : i = 9 → c ≤ 1) :
    Go.bits .or .u64 acc (shl .u64 (IntKind.u64.wrap (Go.bits .andNot .u8 c 128)) (wrap64 (7 * (i : Int)))) = acc + c % 128 * 2 ^ (7 * i) := by
  obtain ⟨p1, p2, p3, p4⟩ := pow7 hi
  rw [andNot128 c0 c1, wrap_u64_id (by omega) (by omega), wrap64_id (by omega) (by omega), show (7 : Int) * (i : Int) = ((7 * i : Nat) : Int) by simp]
  have hc : c % 128 * 2 ^ (7 * i) < 18446744073709551616 := by
    by_cases h : i = 9
    · subst h; have := h9 rfl; have : c % 128 ≤ 1 := by omega
      have := Int.mul_le_mul_of_nonneg_right this (show (0 : Int) ≤ 2 ^ (7 * 9) by decide)
      omega
    · have := p3 (by omega)
      have := Int.mul_le_mul_of_nonneg_right (show c % 128 ≤ 127 by omega) (Int.le_of_lt p2)
      omega
  rw [shl_u64 (by omega) (by omega) hc]
  have hy0 : 0 ≤ c % 128 * 2 ^ (7 * i) := Int.mul_nonneg (by omega) (Int.le_of_lt p2)
  rw [or_comm64 ha (by omega) hy0 hc, or_join (7 * i) hy0 (Int.mul_emod_left _ _) hc ha ha1 (by omega), Int.add_comm]

theorem get_l0 (b : List Int) (hb : Bs b) (hl : b.length < 1000000000000) (d : Nat) : ∀ (i k : Nat) (acc : Int), i + d = b.length → i ≤ 10 → 2 * d < k → 0 ≤ acc → (i < 10 → acc < 2 ^ (7 * i)) →
    varint_Get.l0 k acc b (b.length : Int) (i : Int) = some (vg i acc (b.drop i)) := by
  induction d with
  | zero =>
    intro i k acc hd hi hk h0 h1
    obtain ⟨k, rfl⟩ : ∃ m, k = m + 1 := ⟨k - 1, by omega⟩
    simp only [varint_Get.l0]
    rw [if_neg (by omega), List.drop_eq_nil_of_le (by omega)]
    simp [vg]
  | succ d ih =>
    intro i k acc hd hi hk h0 h1
    obtain ⟨k, rfl⟩ : ∃ m, k = m + 2 := ⟨k - 2, by omega⟩
    have hlt : i < b.length := by omega
    have hc := hb _ (List.getElem_mem hlt)
    simp only [varint_Get.l0]
    rw [if_pos (by omega), if_pos (by omega), if_pos (by omega), rd_get hlt, List.drop_eq_getElem_cons hlt]
    simp only [vg]
    by_cases h10 : i = 10
    · rw [if_pos (by omega), if_pos h10]
      simp [varint_Get.j1]
    rw [if_neg (by omega), if_neg h10]
    have hacc := h1 (by omega)
    have key : (i = 9 → b[i] ≤ 1) → varint_Get.j1 (k + 1) acc (i : Int) b[i] b (b.length : Int) (i : Int) false = some (if 128 ≤ b[i] then vg (i + 1) (acc + b[i] % 128 * 2 ^ (7 * i)) (b.drop (i + 1)) else if b[i] = 0 ∧ 0 < i then (0, 0, 3) else (acc + b[i] % 128 * 2 ^ (7 * i), (i : Int) + 1, 0)) := by
      intro h9
      have hst := step_acc (show i < 10 by omega) h0 hacc hc.1 hc.2 h9
      obtain ⟨p1, p2, p3, p4⟩ := pow7 (show i < 10 by omega)
      simp only [varint_Get.j1, Bool.false_eq_true, if_false]
      rw [if_pos (by rw [wrap64_id] <;> omega), and128 hc.1 hc.2, hst]
      have hy0 : 0 ≤ b[i] % 128 * 2 ^ (7 * i) := Int.mul_nonneg (by omega) (Int.le_of_lt p2)
      by_cases hbig : 128 ≤ b[i]
      · rw [if_neg (by rw [if_neg (by omega)]; decide), if_pos hbig, show wrap64 ((i : Int) + 1) = ((i + 1 : Nat) : Int) by rw [wrap64_id] <;> omega]
        refine ih (i + 1) k _ (by omega) (by omega) (by omega) (by omega) (fun h => ?_)
        rw [p4]
        have := Int.mul_le_mul_of_nonneg_right (show b[i] % 128 ≤ 127 by omega) (Int.le_of_lt p2)
        omega
      · rw [if_pos (by rw [if_pos (by omega)]), if_neg hbig, show wrap64 ((i : Int) + 1) = (i : Int) + 1 by rw [wrap64_id] <;> omega]
        by_cases hz : b[i] = 0
        · rw [if_pos hz]
          by_cases hi0 : 0 < i
          · rw [if_pos (by omega), if_pos ⟨hz, hi0⟩]
          · rw [if_neg (by omega), if_neg (fun h => hi0 h.2)]
        · rw [if_neg hz, if_neg (fun h => hz h.1)]
    by_cases h9 : i = 9
    · rw [if_pos (by omega)]
      by_cases hc1 : b[i] > 1
      · rw [if_pos ⟨h9, hc1⟩]
        simp [varint_Get.j1, hc1]
      · rw [if_neg (fun h => hc1 h.2), show decide (b[i] > 1) = false by simpa using hc1]
        exact key (fun _ => by omega)
    · rw [if_neg (by omega), if_neg (fun h => h9 h.1)]
      exact key (fun h => absurd h h9)
theorem get_spec {k : Nat} {b : List Int} (hb : Bs b) (hl : b.length < 1000000000000) (hk : 2 * b.length < k) : varint_Get.f k b = some (vg 0 0 b) := by
  unfold varint_Get.f
  have := get_l0 b hb hl b.length 0 k 0 (by omega) (by omega) hk (by omega) (fun _ => by simp)
  simpa using this

/-- A number's bytes tell it, whatever stands behind. -/
theorem vg_vb (f : Nat) : ∀ (i : Nat) (n acc : Int) (more : List Int), i + f = 10 → 0 ≤ n → n * 2 ^ (7 * i) < 18446744073709551616 → (0 < i → n ≠ 0) → 0 < f →
    vg i acc (vbF f n ++ more) = (acc + n * 2 ^ (7 * i), (i : Int) + (vbF f n).length, 0) := by
  induction f with
  | zero => intro i n acc more _ _ _ _ hf; omega
  | succ f ih =>
    intro i n acc more hif h0 h1 hz _
    obtain ⟨p1, p2, p3, p4⟩ := pow7 (show i < 10 by omega)
    have h9 : i = 9 → n ≤ 1 := by
      rintro rfl
      simp at h1; omega
    unfold vbF
    by_cases hn : n < 128
    · rw [if_pos hn]
      simp only [List.singleton_append, vg]
      rw [if_neg (by omega), if_neg (fun h => by have := h9 h.1; omega), if_neg (by omega), if_neg (fun h => (hz h.2) h.1), Int.emod_eq_of_lt h0 hn]
      simp
    · rw [if_neg hn]
      simp only [List.cons_append, vg]
      rw [if_neg (by omega), if_neg (fun h => by have := h9 h.1; omega), if_pos (by omega)]
      have hf0 : 0 < f := by
        rcases Nat.eq_zero_or_pos f with h | h
        · have := h9 (by omega); omega
        · exact h
      have e : acc + (n % 128 + 128) % 128 * 2 ^ (7 * i) + n / 128 * 2 ^ (7 * (i + 1)) = acc + n * 2 ^ (7 * i) := by
        rw [p4, show (n % 128 + 128) % 128 = n % 128 by omega, show n / 128 * (128 * (2 : Int) ^ (7 * i)) = (n / 128 * 128) * 2 ^ (7 * i) by rw [Int.mul_assoc], Int.add_assoc, ← Int.add_mul]
        congr 2; omega
      have hle : n / 128 * 2 ^ (7 * (i + 1)) ≤ n * 2 ^ (7 * i) := by
        rw [p4, ← Int.mul_assoc]
        exact Int.mul_le_mul_of_nonneg_right (by omega) (Int.le_of_lt p2)
      rw [ih (i + 1) (n / 128) _ more (by omega) (by omega) (by omega) (fun _ => by omega) hf0, e]
      simp only [List.length_cons, Prod.mk.injEq, and_true, true_and]
      omega
theorem vg_put {n : Int} (h0 : 0 ≤ n) (h1 : n < 18446744073709551616) (more : List Int) : vg 0 0 (vb n ++ more) = (n, ((vb n).length : Int), 0) := by
  have := vg_vb 10 0 n 0 more (by omega) h0 (by simpa using h1) (by omega) (by omega)
  simpa [vb] using this
/-- Of a number's bytes but the last one nothing is told. -/
theorem vg_cut (f : Nat) : ∀ (i m : Nat) (n acc : Int), i + f = 10 → 0 ≤ n → n * 2 ^ (7 * i) < 18446744073709551616 → m < (vbF f n).length → vg i acc ((vbF f n).take m) = (0, 0, 4) := by
  induction f with
  | zero => intro i m n acc _ _ _ hm; simp [vbF] at hm
  | succ f ih =>
    intro i m n acc hif h0 h1 hm
    obtain ⟨p1, p2, p3, p4⟩ := pow7 (show i < 10 by omega)
    cases m with
    | zero => simp [vg]
    | succ m =>
      have h9 : i = 9 → n ≤ 1 := by
        rintro rfl
        simp at h1; omega
      unfold vbF at hm ⊢
      by_cases hn : n < 128
      · rw [if_pos hn] at hm; simp at hm
      · rw [if_neg hn] at hm ⊢
        simp only [List.take_succ_cons, vg]
        rw [if_neg (by omega), if_neg (fun h => by have := h9 h.1; omega), if_pos (by omega)]
        have hle : n / 128 * 2 ^ (7 * (i + 1)) ≤ n * 2 ^ (7 * i) := by
          rw [p4, ← Int.mul_assoc]
          exact Int.mul_le_mul_of_nonneg_right (by omega) (Int.le_of_lt p2)
        exact ih (i + 1) m (n / 128) _ (by omega) (by omega) (by omega) (by simp at hm; omega)
end Go.Proofs.Ytmlbppfcpejlpaa.Q05
