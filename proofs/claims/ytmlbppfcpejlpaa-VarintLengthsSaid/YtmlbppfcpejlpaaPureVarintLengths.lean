/- VarintLengths: a number has as many bytes as it has sevens of bits, one at least. No conditions. -/
import Derived.Test.YtmlbppfcpejlpaaQ05b
import Derived.Test.YtmlbppfcpejlpaaXRicklaw05Varintlengths
namespace Go.Proofs.Ytmlbppfcpejlpaa.Pure
open Go Go.RowKit Go.Proofs.YtmlbppfcpejlpaaW.PrintWords Go.Proofs.YtmlbppfcpejlpaaW.PrintMore Go.Proofs.Ytmlbppfcpejlpaa.S Go.Proofs.Ytmlbppfcpejlpaa.X Go.Proofs.Ytmlbppfcpejlpaa.Q05
set_option linter.unusedVariables false
set_option linter.unusedSimpArgs false

theorem len_zero (n : Int) (n0 : 0 ≤ n) (n1 : n < 18446744073709551616) (k : Nat) (m j : Int) (hm : m = 0) {f : Nat} (hk : 50 + f < k) (hj : 1 ≤ j) {q : Int} (hl : (vb n).length = j + (if m = 0 then 0 else q)) : ricklaw05_VarintLengths.l0 k n j m = some true := by
  subst hm
  have hv := vb_len n
  have hp := vb_pos n
  obtain ⟨k, rfl⟩ : ∃ q, k = q + 1 := ⟨k - 1, by omega⟩
  simp only [ricklaw05_VarintLengths.l0]
  rw [if_neg (by omega), put_spec n0 n1 (by omega) (by simp)]
  simp only [Option.bind_some, List.nil_append]
  have e : mx (wrap64 (((vb n).length : Int) - 1)) 0 = (((vb n).length - 1 : Nat) : Int) := by
    rw [wrap64_id (by omega) (by omega)]; unfold mx; split <;> omega
  rw [e, if_pos (by omega), if_pos (by omega), Int.toNat_natCast, get_spec ((vb_bs n0).take _) (by rw [List.length_take]; omega) (by rw [List.length_take]; omega)]
  simp only [Option.bind_some]
  have hcut := vg_cut 10 0 ((vb n).length - 1) n 0 (by omega) n0 (by simpa using n1) (by show _ < (vb n).length; omega)
  rw [show vg 0 0 ((vb n).take ((vb n).length - 1)) = (0, 0, 4) from hcut, puts_spec (by omega)]
  simp only [Option.bind_some, if_true]
  rw [if_pos (by simpa using hl)]
  rfl
theorem len_l0 (n : Int) (n0 : 0 ≤ n) (n1 : n < 18446744073709551616) (f : Nat) : ∀ (k : Nat) (m j : Int), 0 ≤ m → m < 128 ^ f → 50 + f < k → 1 ≤ j → (vb n).length = j + (if m = 0 then 0 else ((vbF f m).length : Int)) → 
    ricklaw05_VarintLengths.l0 k n j m = some true := by
  induction f with
  | zero =>
    intro k m j m0 m1 hk hj hl
    exact len_zero n n0 n1 k m j (by simp at m1; omega) hk hj hl
  | succ f ih =>
    intro k m j m0 m1 hk hj hl
    have hlen := vbF_len (f + 1) m
    by_cases hm : m = 0
    · exact len_zero n n0 n1 k m j hm hk hj hl
    · have hv := vb_len n
      obtain ⟨k, rfl⟩ : ∃ q, k = q + 1 := ⟨k - 1, by omega⟩
      simp only [ricklaw05_VarintLengths.l0]
      rw [if_neg hm] at hl
      have hjn : j ≤ 10 := by omega
      rw [if_pos (by omega), wrap64_id (by omega) (by omega)]
      refine ih k (m / 128) (j + 1) (by omega) (Int.ediv_lt_of_lt_mul (by omega) (by rw [Int.pow_succ] at m1; omega)) (by omega) (by omega) ?_
      rw [hl]
      by_cases hs : m < 128
      · rw [if_pos (show m / 128 = 0 by omega)]
        unfold vbF; rw [if_pos hs]; simp
      · rw [if_neg (show ¬ m / 128 = 0 by omega)]
        conv => lhs; unfold vbF
        rw [if_neg hs]; simp; omega
theorem VarintLengths : ricklaw05_VarintLengths.Pure := by
  intro n hn
  obtain ⟨n0, n1⟩ := wf_u64 hn
  refine ⟨100, ?_⟩
  unfold ricklaw05_VarintLengths.f
  refine len_l0 n n0 n1 10 100 (n / 128) 1 (by omega) (by omega) (by omega) (by omega) ?_
  unfold vb
  conv => lhs; unfold vbF
  by_cases hs : n < 128
  · rw [if_pos hs, if_pos (show n / 128 = 0 by omega)]; simp
  · rw [if_neg hs, if_neg (show ¬ n / 128 = 0 by omega)]
    have e9 : vbF 9 (n / 128) = vbF 10 (n / 128) := (vbF_more 9 (n / 128) (by omega) (by omega)).trans (by simp)
    rw [← e9]; simp; omega
end Go.Proofs.Ytmlbppfcpejlpaa.Pure
