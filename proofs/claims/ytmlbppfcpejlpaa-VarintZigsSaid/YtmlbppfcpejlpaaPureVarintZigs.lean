/- VarintZigs: of all numbers with signs those without are told, and back. No conditions. -/
import Derived.Test.YtmlbppfcpejlpaaQ05b
import Derived.Test.YtmlbppfcpejlpaaXRicklaw05Varintzigs
namespace Go.Proofs.Ytmlbppfcpejlpaa.Pure
open Go Go.RowKit Go.Proofs.YtmlbppfcpejlpaaW.PrintWords Go.Proofs.YtmlbppfcpejlpaaW.PrintMore Go.Proofs.Ytmlbppfcpejlpaa.S Go.Proofs.Ytmlbppfcpejlpaa.X Go.Proofs.Ytmlbppfcpejlpaa.Q05
set_option linter.unusedVariables false
set_option linter.unusedSimpArgs false

theorem xor_nought (x : Int) (h0 : 0 ≤ x) (h1 : x < 18446744073709551616) : Go.bits .xor .u64 x 0 = x := by
  show IntKind.u64.wrap (((BitVec.ofInt 64 x ^^^ BitVec.ofInt 64 0 : BitVec 64).toNat : Nat) : Int) = _
  rw [show BitVec.ofInt 64 0 = 0#64 by rfl, BitVec.xor_zero, BitVec.toNat_ofInt, wrap_u64]
  omega
theorem xor_ones (x : Int) (h0 : 0 ≤ x) (h1 : x < 18446744073709551616) : Go.bits .xor .u64 x 18446744073709551615 = 18446744073709551615 - x := by
  show IntKind.u64.wrap (((BitVec.ofInt 64 x ^^^ BitVec.ofInt 64 18446744073709551615 : BitVec 64).toNat : Nat) : Int) = _
  rw [show BitVec.ofInt 64 18446744073709551615 = BitVec.allOnes 64 by decide +kernel, BitVec.xor_allOnes, BitVec.toNat_not, BitVec.toNat_ofInt, wrap_u64]
  omega
theorem wrap_i64' (n : Int) : IntKind.i64.wrap n = (n + 9223372036854775808) % 18446744073709551616 - 9223372036854775808 := IntKind.wrap_i64 n
theorem xor_nought' (x : Int) (h0 : -9223372036854775808 ≤ x) (h1 : x < 9223372036854775808) : Go.bits .xor .i64 x 0 = x := by
  show IntKind.i64.wrap (((BitVec.ofInt 64 x ^^^ BitVec.ofInt 64 0 : BitVec 64).toNat : Nat) : Int) = _
  rw [show BitVec.ofInt 64 0 = 0#64 by rfl, BitVec.xor_zero, BitVec.toNat_ofInt, wrap_i64']
  omega
theorem xor_ones' (x : Int) (h0 : -9223372036854775808 ≤ x) (h1 : x < 9223372036854775808) : Go.bits .xor .i64 x (-1) = -1 - x := by
  show IntKind.i64.wrap (((BitVec.ofInt 64 x ^^^ BitVec.ofInt 64 (-1) : BitVec 64).toNat : Nat) : Int) = _
  rw [show BitVec.ofInt 64 (-1) = BitVec.allOnes 64 by decide +kernel, BitVec.xor_allOnes, BitVec.toNat_not, BitVec.toNat_ofInt, wrap_i64']
  omega
theorem zig_spec {n : Int} (h0 : -9223372036854775808 ≤ n) (h1 : n < 9223372036854775808) : varint_Zig.f n = some (if 0 ≤ n then 2 * n else -2 * n - 1) := by
  unfold varint_Zig.f
  congr 1
  by_cases hn : 0 ≤ n
  · rw [if_pos hn, show n / 9223372036854775808 = 0 by omega, show IntKind.u64.wrap 0 = 0 by rw [wrap_u64]; rfl, wrap_u64, wrap_u64, xor_nought _ (by omega) (by omega)]
    omega
  · rw [if_neg hn, show n / 9223372036854775808 = -1 by omega, show IntKind.u64.wrap (-1) = 18446744073709551615 by rw [wrap_u64]; rfl, wrap_u64, wrap_u64, xor_ones _ (by omega) (by omega)]
    omega
theorem refzig_spec {n : Int} (h0 : -9223372036854775808 ≤ n) (h1 : n < 9223372036854775808) : rickref05_Zig.f n = some (if 0 ≤ n then 2 * n else -2 * n - 1) := by
  unfold rickref05_Zig.f
  by_cases hn : 0 ≤ n
  · rw [if_pos hn, if_pos hn]; congr 1; simp only [wrap_u64]; omega
  · rw [if_neg hn, if_neg hn]; congr 1; simp only [wrap_u64, wrap64_eq]; omega
theorem and_one {n : Int} (h0 : 0 ≤ n) (h1 : n < 18446744073709551616) : Go.bits .and .u64 n 1 = n % 2 := by
  have := bits_mask .u64 64 (by decide) wraps_u64 1 (by decide) n h0 (by omega)
  simpa using this
theorem zag_spec {n : Int} (h0 : 0 ≤ n) (h1 : n < 18446744073709551616) : varint_Zag.f n = some (if n % 2 = 0 then n / 2 else -(n / 2) - 1) := by
  unfold varint_Zag.f
  rw [and_one h0 h1, wrap64_id (n := n / 2) (by omega) (by omega), wrap64_id (n := n % 2) (by omega) (by omega), wrap64_id (n := -(n % 2)) (by omega) (by omega)]
  congr 1
  by_cases hn : n % 2 = 0
  · rw [if_pos hn, hn, Int.neg_zero, xor_nought' _ (by omega) (by omega)]
  · rw [if_neg hn, show n % 2 = 1 by omega, xor_ones' _ (by omega) (by omega)]
    omega
theorem VarintZigs : ricklaw05_VarintZigs.Pure := by
  intro n m hn hm
  obtain ⟨n0, n1⟩ := wf_i64 hn
  obtain ⟨m0, m1⟩ := wf_u64 hm
  refine ⟨11, ?_⟩
  unfold ricklaw05_VarintZigs.f
  rw [puts_spec (by omega), zig_spec n0 n1, refzig_spec n0 n1]
  simp only [Option.bind_some, if_true]
  rw [zag_spec (by split <;> omega) (by split <;> omega)]
  simp only [Option.bind_some]
  rw [if_pos (by split <;> split <;> omega), zag_spec m0 m1]
  simp only [Option.bind_some]
  rw [zig_spec (by split <;> omega) (by split <;> omega)]
  simp only [Option.bind_some]
  congr 1
  rw [beq_iff_eq]
  split <;> split <;> omega
end Go.Proofs.Ytmlbppfcpejlpaa.Pure
