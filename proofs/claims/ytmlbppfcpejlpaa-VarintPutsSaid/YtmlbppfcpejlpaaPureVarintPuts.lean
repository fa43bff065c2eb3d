/- VarintPuts: of all numbers the bytes are told, behind others; they are got again. No conditions. -/
import Derived.Test.YtmlbppfcpejlpaaQ05b
import Derived.Test.YtmlbppfcpejlpaaXRicklaw05Varintputs
namespace Go.Proofs.Ytmlbppfcpejlpaa.Pure
open Go Go.RowKit Go.Proofs.YtmlbppfcpejlpaaW.PrintWords Go.Proofs.YtmlbppfcpejlpaaW.PrintMore Go.Proofs.Ytmlbppfcpejlpaa.S Go.Proofs.Ytmlbppfcpejlpaa.X Go.Proofs.Ytmlbppfcpejlpaa.Q05
set_option linter.unusedVariables false
set_option linter.unusedSimpArgs false

theorem mn_len (l : List Int) : mn (l.length : Int) 20 = ((min l.length 20 : Nat) : Int) := by unfold mn; split <;> omega
theorem VarintPuts : ricklaw05_VarintPuts.Pure := by
  intro l n more hl1 hl2 hl3 hn hm1 hm2 hm3
  obtain ⟨n0, n1⟩ := wf_u64 hn
  have hb : Bs l := fun x hx => wf_u8 (hl3 x hx)
  have hm : Bs more := fun x hx => wf_u8 (hm3 x hx)
  obtain ⟨a, ha⟩ : ∃ a, a = l.take (min l.length 20) := ⟨_, rfl⟩
  obtain ⟨c, hc⟩ : ∃ c, c = more.take (min more.length 20) := ⟨_, rfl⟩
  have hal : a.length ≤ 20 := by rw [ha, List.length_take]; omega
  have hcl : c.length ≤ 20 := by rw [hc, List.length_take]; omega
  have hv := vb_len n
  have hcb : Bs c := by rw [hc]; exact hm.take _
  refine ⟨200, ?_⟩
  unfold ricklaw05_VarintPuts.f
  rw [if_pos (by rw [mn_len]; omega), if_pos (by rw [mn_len]; omega), mn_len, Int.toNat_natCast, ← ha, put_spec n0 n1 (by omega) (by omega)]
  simp only [Option.bind_some]
  rw [ref_spec n0 n1 (by omega)]
  simp only [Option.bind_some]
  rw [puts_spec (by omega)]
  simp only [Option.bind_some, if_true]
  have hs : ∀ l : List Int, (strOfNums l).size = l.length := fun l => by simp [strOfNums, ByteArray.size]
  rw [if_pos (by rw [hs, hs]; omega)]
  have happ : strOfNums (a ++ vb n) = strOfNums a ++ strOfNums (vb n) := by
    apply ByteArray.ext
    simp [strOfNums]
  rw [if_pos (by rw [happ])]
  simp only [List.length_nil, Nat.zero_add, List.nil_append]
  rw [if_pos (by omega), if_pos (by rw [mn_len]; omega), if_pos (by rw [mn_len]; omega), mn_len, Int.toNat_natCast, ← hc, if_pos (by omega)]
  rw [get_spec ((vb_bs n0).append hcb) (by rw [List.length_append]; omega) (by rw [List.length_append]; omega), vg_put n0 n1]
  simp
end Go.Proofs.Ytmlbppfcpejlpaa.Pure
