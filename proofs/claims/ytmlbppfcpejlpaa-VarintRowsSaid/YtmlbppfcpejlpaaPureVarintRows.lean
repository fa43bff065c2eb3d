/- VarintRows: numbers that are put side by side are got one by one. No conditions. -/
import Derived.Test.YtmlbppfcpejlpaaQ05b
import Derived.Test.YtmlbppfcpejlpaaXRicklaw05Varintrows
namespace Go.Proofs.Ytmlbppfcpejlpaa.Pure
open Go Go.RowKit Go.Proofs.YtmlbppfcpejlpaaW.PrintWords Go.Proofs.YtmlbppfcpejlpaaW.PrintMore Go.Proofs.Ytmlbppfcpejlpaa.S Go.Proofs.Ytmlbppfcpejlpaa.X Go.Proofs.Ytmlbppfcpejlpaa.Q05
set_option linter.unusedVariables false
set_option linter.unusedSimpArgs false

def cat (l : List Int) : List Int := (l.map vb).flatten
theorem cat_len (l : List Int) : (cat l).length ≤ 10 * l.length := by
  induction l with
  | nil => simp [cat]
  | cons a l ih => have := vb_len a; simp only [cat, List.map_cons, List.flatten_cons, List.length_append, List.length_cons] at *; omega
theorem cat_bs {l : List Int} (h : Us l) : Bs (cat l) := by
  intro x hx
  obtain ⟨y, hy, hx⟩ := List.mem_flatten.1 hx
  obtain ⟨n, hn, rfl⟩ := List.mem_map.1 hy
  exact vb_bs (h n hn).1 x hx
theorem cat_snoc (l : List Int) (i : Nat) (h : i < l.length) : cat (l.take (i + 1)) = cat (l.take i) ++ vb l[i] := by
  rw [List.take_succ_eq_append_getElem h]; simp only [cat, List.map_append, List.flatten_append, List.map_cons, List.map_nil, List.flatten_cons, List.flatten_nil, List.append_nil]
theorem cat_drop (l : List Int) (m i : Nat) (h : i < l.length) (hm : i < m) : cat ((l.take m).drop i) = vb l[i] ++ cat ((l.take m).drop (i + 1)) := by
  rw [List.drop_eq_getElem_cons (show i < (l.take m).length by rw [List.length_take]; omega)]
  simp [cat]
theorem rows_j3 (l : List Int) (hu : Us l) (d : Nat) : ∀ (i k : Nat), i + d = min l.length 40 → 1000 + 2 * d < k →
    ricklaw05_VarintRows.l1 k l (cat ((l.take (min l.length 40)).drop i)) (i : Int) = some true := by
  induction d with
  | zero =>
    intro i k hd hk
    obtain ⟨k, rfl⟩ : ∃ q, k = q + 2 := ⟨k - 2, by omega⟩
    have hn : (l.take (min l.length 40)).drop i = [] := List.drop_eq_nil_of_le (by rw [List.length_take]; omega)
    simp only [ricklaw05_VarintRows.l1]
    have hj : ricklaw05_VarintRows.j3 (k + 1) l (cat ((l.take (min l.length 40)).drop i)) (i : Int) false = some true := by
      simp only [ricklaw05_VarintRows.j3, Bool.false_eq_true, if_false]
      rw [puts_spec (by omega), hn]
      simp [cat]
    by_cases h : (i : Int) < (l.length : Int)
    · rw [if_pos h, show decide ((i : Int) < 40) = false by simp; omega]
      exact hj
    · rw [if_neg h]
      exact hj
  | succ d ih =>
    intro i k hd hk
    obtain ⟨k, rfl⟩ : ∃ q, k = q + 2 := ⟨k - 2, by omega⟩
    have hlt : i < l.length := by omega
    obtain ⟨u0, u1⟩ := hu _ (List.getElem_mem hlt)
    simp only [ricklaw05_VarintRows.l1]
    rw [if_pos (by omega), show decide ((i : Int) < 40) = true by simp; omega]
    simp only [ricklaw05_VarintRows.j3, if_true]
    have hbs : Bs (cat ((l.take (min l.length 40)).drop i)) := cat_bs ((hu.take _).drop _)
    have hln := cat_len ((l.take (min l.length 40)).drop i)
    rw [List.length_drop, List.length_take] at hln
    rw [get_spec hbs (by omega) (by omega)]
    simp only [Option.bind_some]
    rw [cat_drop l _ i hlt (by omega), vg_put u0 u1]
    have hp := vb_pos l[i]
    have hv := vb_len l[i]
    simp only []
    rw [if_pos (by omega), if_pos (by omega), rd_get hlt, if_pos rfl]
    simp only [if_true]
    rw [if_neg (by omega), if_neg (by rw [List.length_append]; omega), if_pos (by omega), if_pos (by rw [List.length_append]; omega), Int.toNat_natCast, List.drop_left, show wrap64 ((i : Int) + 1) = ((i + 1 : Nat) : Int) by rw [wrap64_id] <;> omega]
    exact ih (i + 1) k (by omega) (by omega)
theorem rows_l0 (l : List Int) (hu : Us l) (d : Nat) : ∀ (i k : Nat), i + d = min l.length 40 → 2000 + 2 * d < k →
    ricklaw05_VarintRows.l0 k l (cat (l.take i)) (i : Int) = some true := by
  have hj : ∀ (i k : Nat), i = min l.length 40 → 1900 < k → ricklaw05_VarintRows.j1 k l (cat (l.take i)) = some true := by
    intro i k hi hk
    obtain ⟨k, rfl⟩ : ∃ q, k = q + 1 := ⟨k - 1, by omega⟩
    simp only [ricklaw05_VarintRows.j1]
    have := rows_j3 l hu (min l.length 40) 0 k (by omega) (by omega)
    rw [hi]
    simpa using this
  induction d with
  | zero =>
    intro i k hd hk
    obtain ⟨k, rfl⟩ : ∃ q, k = q + 1 := ⟨k - 1, by omega⟩
    simp only [ricklaw05_VarintRows.l0]
    by_cases h : (i : Int) < (l.length : Int)
    · rw [if_pos h, if_neg (by omega)]
      exact hj i k (by omega) (by omega)
    · rw [if_neg h]
      exact hj i k (by omega) (by omega)
  | succ d ih =>
    intro i k hd hk
    obtain ⟨k, rfl⟩ : ∃ q, k = q + 1 := ⟨k - 1, by omega⟩
    have hlt : i < l.length := by omega
    obtain ⟨u0, u1⟩ := hu _ (List.getElem_mem hlt)
    have hln := cat_len (l.take i)
    rw [List.length_take] at hln
    simp only [ricklaw05_VarintRows.l0]
    rw [if_pos (by omega), if_pos (by omega), if_pos (by omega), rd_get hlt, put_spec u0 u1 (by omega) (by omega)]
    simp only [Option.bind_some]
    rw [show wrap64 ((i : Int) + 1) = ((i + 1 : Nat) : Int) by rw [wrap64_id] <;> omega, ← cat_snoc l i hlt]
    exact ih (i + 1) k (by omega) (by omega)
theorem VarintRows : ricklaw05_VarintRows.Pure := by
  intro l h1 h2 h3
  refine ⟨3000, ?_⟩
  unfold ricklaw05_VarintRows.f
  have := rows_l0 l (fun x hx => wf_u64 (h3 x hx)) (min l.length 40) 0 3000 (by omega) (by omega)
  simpa [cat] using this
end Go.Proofs.Ytmlbppfcpejlpaa.Pure
