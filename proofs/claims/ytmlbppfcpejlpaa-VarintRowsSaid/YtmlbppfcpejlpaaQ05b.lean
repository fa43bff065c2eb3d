/- What the reference of layer 5 (varint) tells, numbers with signs, and the layer's own example. No conditions. -/
import Derived.Test.YtmlbppfcpejlpaaQ05
import Derived.Test.YtmlbppfcpejlpaaXRickref05Put
import Derived.Test.YtmlbppfcpejlpaaXRickref05Zig
import Derived.Test.YtmlbppfcpejlpaaXRicklaw05Puts
namespace Go.Proofs.Ytmlbppfcpejlpaa.Q05
open Go Go.RowKit Go.Proofs.YtmlbppfcpejlpaaW.PrintWords Go.Proofs.YtmlbppfcpejlpaaW.PrintMore Go.Proofs.Ytmlbppfcpejlpaa.S Go.Proofs.Ytmlbppfcpejlpaa.X
set_option linter.unusedVariables false
set_option linter.unusedSimpArgs false

theorem ref_l0 (f : Nat) : ∀ (k : Nat) (n : Int) (l : List Int), 0 ≤ n → n < 128 ^ f → n < 18446744073709551616 → f < k → l.length + f < 140737488355328 → f ≠ 0 →
    rickref05_Put.l0 k n l = some (l ++ vbF f n) := by
  induction f with
  | zero => intro k n l h0 h1 _ hk hl hf; exact absurd rfl hf
  | succ f ih =>
    intro k n l h0 h1 h2 hk hl _
    obtain ⟨k, rfl⟩ : ∃ m, k = m + 1 := ⟨k - 1, by omega⟩
    simp only [rickref05_Put.l0, vbF]
    by_cases hn : n < 128
    · rw [if_neg (by omega), if_pos (by omega), if_pos hn]
      congr 3
      omega
    · have hf : f ≠ 0 := by rintro rfl; simp at h1; omega
      have hp : n / 128 < 128 ^ f := Int.ediv_lt_of_lt_mul (by omega) (by rw [Int.pow_succ] at h1; omega)
      rw [if_pos (by omega), if_pos (by omega), if_neg hn, Int.tdiv_eq_ediv_of_nonneg h0, Int.tmod_eq_emod_of_nonneg h0, wrap_u64_id (by omega) (by omega)]
      rw [ih k (n / 128) _ (by omega) hp (by omega) (by omega) (by simp; omega) hf]
      rw [List.append_assoc, show (n % 128 + 128) % 256 = n % 128 + 128 by omega]
      rfl
theorem ref_spec {k : Nat} {n : Int} (h0 : 0 ≤ n) (h1 : n < 18446744073709551616) (hk : 10 < k) : rickref05_Put.f k n = some (vb n) := by
  unfold rickref05_Put.f
  have := ref_l0 10 k n [] h0 (by omega) h1 hk (by simp) (by decide)
  simpa [vb] using this

theorem puts_spec {k : Nat} (hk : 10 < k) : ricklaw05_puts.f k = some true := by
  unfold ricklaw05_puts.f
  rw [get_spec (by intro x hx; simp at hx; omega) (by simp) (by simp; omega), show vg 0 0 [172, 2] = (300, 2, 0) by decide +kernel]
  simp only [Option.bind_some]
  rw [put_spec (by omega) (by omega) hk (by simp), show ([] : List Int) ++ vb 300 = [172, 2] by decide +kernel]
  simp only [Option.bind_some]
  rw [strOf_toList]
  simp [varint_Zig.f, varint_Zag.f]
  decide +kernel
end Go.Proofs.Ytmlbppfcpejlpaa.Q05
