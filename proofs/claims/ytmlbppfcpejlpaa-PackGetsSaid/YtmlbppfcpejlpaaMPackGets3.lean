/- Texts of this claim, laid together (wip/merge.py): Q06d, Q06e, PurePackGets. No conditions. -/
import Derived.Test.YtmlbppfcpejlpaaMPackGets2
import Derived.Test.YtmlbppfcpejlpaaMPackGets1
/- What the reference of layer 6 (pack) tells, and that packed numbers are told back. No conditions. -/
namespace Go.Proofs.Ytmlbppfcpejlpaa.Q06
open Go Go.RowKit Go.Proofs.YtmlbppfcpejlpaaW.PrintWords Go.Proofs.YtmlbppfcpejlpaaW.PrintMore Go.Proofs.Ytmlbppfcpejlpaa.S Go.Proofs.Ytmlbppfcpejlpaa.B Go.Proofs.Ytmlbppfcpejlpaa.X Go.Proofs.Ytmlbppfcpejlpaa.Q04
set_option linter.unusedVariables false
set_option linter.unusedSimpArgs false

theorem us_ok {l : List Int} (h : Us l) : pack_Put.ok l = true := List.all_eq_true.2 (fun x hx => by simpa using h x hx)
theorem lo_hi {l : List Int} (hu : Us l) (h0 : 0 < l.length) : 0 ≤ minL l ∧ minL l < 18446744073709551616 ∧ minL l ≤ maxL l ∧ maxL l < 18446744073709551616 ∧ 0 ≤ maxL l - minL l ∧ maxL l - minL l < 18446744073709551616 := by
  have h1 := hu _ (min_facts h0).1
  have h2 := hu _ (max_facts h0).1
  have h3 := (max_facts h0).2 _ (min_facts h0).1
  omega
theorem width_le {l : List Int} (hu : Us l) (h0 : 0 < l.length) : pack_Put.width l ≤ 64 := by
  have := lo_hi hu h0
  exact wd_le (by omega) (by omega)
theorem body_eq (l : List Int) : pack_Put.body l = (l.map (fun n => bitsN (pack_Put.width l) (n - minL l))).flatten := rfl
theorem flat_bits (w : Nat) (lo : Int) (l : List Int) : Bits ((l.map (fun n => bitsN w (n - lo))).flatten) := by
  intro x hx
  obtain ⟨y, hy, hx⟩ := List.mem_flatten.1 hx
  obtain ⟨n, _, rfl⟩ := List.mem_map.1 hy
  exact bitsN_bits _ _ x hx
theorem flat_len (w : Nat) (lo : Int) (l : List Int) : ((l.map (fun n => bitsN w (n - lo))).flatten).length = l.length * w := by
  induction l with
  | nil => simp
  | cons a l ih => rw [List.map_cons, List.flatten_cons, List.length_append, ih, bitsN_len, List.length_cons, Nat.succ_mul]; omega
theorem bits_bits (l : List Int) : Bits (pack_Put.bits l) := ((bitsN_bits _ _).append (bitsN_bits _ _)).append (flat_bits _ _ _)
theorem bits_len (l : List Int) : (pack_Put.bits l).length = 72 + l.length * pack_Put.width l := by
  unfold pack_Put.bits
  rw [List.length_append, List.length_append, bitsN_len, bitsN_len, body_eq, flat_len]

/-! ### a number in eight bytes -/
def raw8 (n : Int) : List Int := (List.range 8).map (fun i => n / 2 ^ (8 * (7 - i)) % 256)
theorem raw_l0 {n : Int} (h0 : 0 ≤ n) (h1 : n < 18446744073709551616) (d : Nat) : ∀ (i k : Nat), i + d = 8 → d < k → rickref06_Raw.l0 k n ((raw8 n).take i) ((d : Int) - 1) = some (raw8 n) := by
  induction d with
  | zero =>
    intro i k hd hk
    obtain ⟨k, rfl⟩ : ∃ q, k = q + 1 := ⟨k - 1, by omega⟩
    simp only [rickref06_Raw.l0]
    rw [if_neg (by omega), List.take_of_length_le (by simp [raw8]; omega)]
  | succ d ih =>
    intro i k hd hk
    obtain ⟨k, rfl⟩ : ∃ q, k = q + 1 := ⟨k - 1, by omega⟩
    have hlt : i < (raw8 n).length := by simp [raw8]; omega
    simp only [rickref06_Raw.l0]
    rw [show ((d + 1 : Nat) : Int) - 1 = (d : Int) by omega, if_pos (by omega), show wrap64 (8 * (d : Int)) = ((8 * d : Nat) : Int) by rw [wrap64_id] <;> omega, if_pos (by omega), if_pos (by rw [List.length_take]; omega), shr_nat .u64 n (by simp [IntKind.bits]; omega), wrap64_id (by omega) (by omega)]
    have := ih (i + 1) k (by omega) (by omega)
    rw [List.take_succ_eq_append_getElem hlt] at this
    have e : (raw8 n)[i] = n / 2 ^ (8 * d) % 256 := by
      simp only [raw8, List.getElem_map, List.getElem_range]
      congr 3; omega
    rw [e] at this
    exact this
theorem raw_spec {k : Nat} {n : Int} (h0 : 0 ≤ n) (h1 : n < 18446744073709551616) (hk : 8 < k) : rickref06_Raw.f k n = some (raw8 n) := by
  unfold rickref06_Raw.f
  have := raw_l0 h0 h1 8 0 k (by omega) hk
  simpa using this
theorem raw8_len (n : Int) : (raw8 n).length = 8 := by simp [raw8]
theorem packB_64 (v : Int) : packB (bitsN 64 v) = raw8 v := packB_bitsN 8 v
theorem bits_packB {l : List Int} (hu : Us l) (h0 : 0 < l.length) : packB (pack_Put.bits l) = raw8 (minL l) ++ [(pack_Put.width l : Int)] ++ packB (pack_Put.body l) := by
  have := width_le hu h0
  unfold pack_Put.bits
  rw [packB_append (by rw [List.length_append, bitsN_len, bitsN_len]), packB_append (by rw [bitsN_len]), packB_64, packB_8 (by omega) (by omega)]

/-! ### the reference's Put -/
theorem ref_l2_end {l : List Int} (hu : Us l) (h0 : 0 < l.length) (hl : l.length ≤ 200) (k : Nat) (hk : 20000 < k) :
    rickref06_Put.l2 (k + 1) l (minL l) (pack_Put.width l : Int) (pack_Put.body l) (l.length : Int) = some (packB (pack_Put.bits l)) := by
  have hlo := lo_hi hu h0
  have hw := width_le hu h0
  have hlen : (pack_Put.body l).length = l.length * pack_Put.width l := flat_len _ _ _
  have hmul : l.length * pack_Put.width l ≤ 200 * 64 := Nat.mul_le_mul hl hw
  have hbits : Bits (pack_Put.body l) := flat_bits _ _ _
  have hpk := bits_packB hu h0
  generalize pack_Put.bits l = L at hpk ⊢
  generalize pack_Put.body l = bd at *
  generalize pack_Put.width l = w at *
  generalize minL l = lo at *
  have e1 := raw_spec (k := k) hlo.1 hlo.2.1 (by omega)
  have e2 := refbytes_spec (k := k) hbits (by omega) (by omega)
  have hr := raw8_len lo
  have hp := packB_len bd
  have hm : (w : Int) % 256 = (w : Int) := Int.emod_eq_of_lt (by omega) (by omega)
  generalize raw8 lo = rr at *
  generalize packB bd = pp at *
  unfold rickref06_Put.l2
  rw [if_neg (by omega), e1, Option.bind_some, if_pos (by omega), Option.bind_some, e2, Option.bind_some, if_pos (by simp; omega), hm, hpk]
theorem ref_l2_step {l : List Int} (hu : Us l) (h0 : 0 < l.length) (hl : l.length ≤ 200) (i k : Nat) (hlt : i < l.length) (hk : 20000 < k) :
    rickref06_Put.l2 (k + 1) l (minL l) (pack_Put.width l : Int) (((l.take i).map (fun n => bitsN (pack_Put.width l) (n - minL l))).flatten) (i : Int) =
      rickref06_Put.l2 k l (minL l) (pack_Put.width l : Int) (((l.take (i + 1)).map (fun n => bitsN (pack_Put.width l) (n - minL l))).flatten) ((i + 1 : Nat) : Int) := by
  have hlo := lo_hi hu h0
  have hw := width_le hu h0
  have hcl : cl (pack_Put.width l : Int) = pack_Put.width l := by rw [cl_id (by omega) (by omega)]; omega
  have hel := hu _ (List.getElem_mem hlt)
  have hge := (min_facts h0).2 _ (List.getElem_mem hlt)
  have hlen := flat_len (pack_Put.width l) (minL l) (l.take i)
  have hmul : (l.take i).length * pack_Put.width l ≤ 200 * 64 := Nat.mul_le_mul (by rw [List.length_take]; omega) hw
  have hs : (((l.take (i + 1)).map (fun n => bitsN (pack_Put.width l) (n - minL l))).flatten) = (((l.take i).map (fun n => bitsN (pack_Put.width l) (n - minL l))).flatten) ++ bitsN (pack_Put.width l) (l[i] - minL l) := by
    rw [List.take_succ_eq_append_getElem hlt]
    simp only [List.map_append, List.flatten_append, List.map_cons, List.map_nil, List.flatten_cons, List.flatten_nil, List.append_nil]
  have e1 := refput_spec (k := k) (l := ((l.take i).map (fun n => bitsN (pack_Put.width l) (n - minL l))).flatten) (v := l[i] - minL l) (m := (pack_Put.width l : Int)) (by omega) (by omega) (by omega) (by omega)
  rw [hcl, ← hs] at e1
  have e2 := wrap_u64_id (n := l[i] - minL l) (by omega) (by omega)
  have e3 : wrap64 ((i : Int) + 1) = ((i + 1 : Nat) : Int) := Q06.succ64 (by omega)
  clear hs hlen hmul hcl
  generalize ((l.take i).map (fun n => bitsN (pack_Put.width l) (n - minL l))).flatten = P at e1 ⊢
  generalize ((l.take (i + 1)).map (fun n => bitsN (pack_Put.width l) (n - minL l))).flatten = P2 at e1 ⊢
  generalize pack_Put.width l = w at *
  rw [rickref06_Put.l2]
  rw [if_pos (by omega), if_pos (by omega), rd_get hlt, e2, e1, Option.bind_some, e3]
theorem ref_l2 {l : List Int} (hu : Us l) (h0 : 0 < l.length) (hl : l.length ≤ 200) (d : Nat) : ∀ (i k : Nat), i + d = l.length → 20001 + d < k →
    rickref06_Put.l2 k l (minL l) (pack_Put.width l : Int) (((l.take i).map (fun n => bitsN (pack_Put.width l) (n - minL l))).flatten) (i : Int) = some (packB (pack_Put.bits l)) := by
  induction d with
  | zero =>
    intro i k hd hk
    obtain ⟨k, rfl⟩ : ∃ q, k = q + 1 := ⟨k - 1, by omega⟩
    have hi : i = l.length := by simpa using hd
    subst hi
    rw [List.take_length]
    exact ref_l2_end hu h0 hl k (by omega)
  | succ d ih =>
    intro i k hd hk
    obtain ⟨k, rfl⟩ : ∃ q, k = q + 1 := ⟨k - 1, by omega⟩
    rw [ref_l2_step hu h0 hl i k (by omega) (by omega)]
    exact ih (i + 1) k (by omega) (by omega)
theorem shift_pos {x : Int} (h0 : 0 ≤ x) (w : Nat) : x / 2 ^ w > 0 ↔ w < wd x := by
  have hp : (0 : Int) < 2 ^ w := Int.pow_pos (by decide)
  obtain ⟨k1, k2⟩ := wd_facts h0
  constructor
  · intro h
    rcases Nat.lt_or_ge w (wd x) with h' | h'
    · exact h'
    · have : (2 : Int) ^ wd x ≤ 2 ^ w := by exact_mod_cast Nat.pow_le_pow_right (by decide) h'
      rw [Int.ediv_eq_zero_of_lt h0 (by omega)] at h
      omega
  · intro h
    have hx : x ≠ 0 := by rintro rfl; simp [wd] at h
    have := k2 hx
    have : (2 : Int) ^ w ≤ 2 ^ (wd x - 1) := by exact_mod_cast Nat.pow_le_pow_right (by decide) (show w ≤ wd x - 1 by omega)
    have := Int.le_ediv_of_mul_le hp (show 1 * 2 ^ w ≤ x by omega)
    omega
theorem ref_l1 {l : List Int} (hu : Us l) (h0 : 0 < l.length) (hl : l.length ≤ 200) (d : Nat) : ∀ (w k : Nat), w + d = pack_Put.width l → 21000 + d < k →
    rickref06_Put.l1 k l (minL l) (maxL l) (w : Int) = some (packB (pack_Put.bits l)) := by
  have hlo := lo_hi hu h0
  have hw := width_le hu h0
  have hj : ∀ k, 20500 < k → rickref06_Put.j2 k l (minL l) (pack_Put.width l : Int) = some (packB (pack_Put.bits l)) := by
    intro k hk
    obtain ⟨k, rfl⟩ : ∃ q, k = q + 1 := ⟨k - 1, by omega⟩
    simp only [rickref06_Put.j2]
    have := ref_l2 hu h0 hl l.length 0 k (by omega) (by omega)
    simpa using this
  induction d with
  | zero =>
    intro w k hd hk
    obtain ⟨k, rfl⟩ : ∃ q, k = q + 1 := ⟨k - 1, by omega⟩
    obtain rfl : w = pack_Put.width l := by omega
    simp only [rickref06_Put.l1]
    by_cases h64 : ((pack_Put.width l : Nat) : Int) < 64
    · have hn : ¬ (maxL l - minL l) / 2 ^ pack_Put.width l > 0 := by rw [shift_pos (by omega)]; unfold pack_Put.width; omega
      rw [if_pos h64, if_pos (by omega), wrap_u64_id (n := maxL l - minL l) (by omega) (by omega), shr_nat .u64 _ (by simp [IntKind.bits]; omega), if_neg hn]
      exact hj k (by omega)
    · rw [if_neg h64]
      exact hj k (by omega)
  | succ d ih =>
    intro w k hd hk
    obtain ⟨k, rfl⟩ : ∃ q, k = q + 1 := ⟨k - 1, by omega⟩
    have hn : (maxL l - minL l) / 2 ^ w > 0 := by rw [shift_pos (by omega)]; unfold pack_Put.width at hd; omega
    simp only [rickref06_Put.l1]
    rw [if_pos (by omega), if_pos (by omega), wrap_u64_id (n := maxL l - minL l) (by omega) (by omega), shr_nat .u64 _ (by simp [IntKind.bits]; omega), if_pos hn, Q06.succ64 (by omega)]
    exact ih (w + 1) k (by omega) (by omega)
theorem ref_l0 {l : List Int} (hu : Us l) (h0 : 0 < l.length) (hl : l.length ≤ 200) (d : Nat) : ∀ (i k : Nat) (a b : Int), i + d = l.length → 22000 + d < k → (l.drop i).foldl mn a = minL l → (l.drop i).foldl mx b = maxL l →
    rickref06_Put.l0 k l a b (i : Int) = some (packB (pack_Put.bits l)) := by
  induction d with
  | zero =>
    intro i k a b hd hk ha hb
    obtain ⟨k, rfl⟩ : ∃ q, k = q + 1 := ⟨k - 1, by omega⟩
    rw [List.drop_eq_nil_of_le (by omega)] at ha hb
    simp only [rickref06_Put.l0]
    rw [if_neg (by omega), show a = minL l from ha, show b = maxL l from hb]
    exact ref_l1 hu h0 hl (pack_Put.width l) 0 k (by omega) (by have := width_le hu h0; omega)
  | succ d ih =>
    intro i k a b hd hk ha hb
    obtain ⟨k, rfl⟩ : ∃ q, k = q + 1 := ⟨k - 1, by omega⟩
    have hlt : i < l.length := by omega
    rw [List.drop_eq_getElem_cons hlt, List.foldl_cons] at ha hb
    simp only [rickref06_Put.l0]
    rw [if_pos (by omega), if_pos (by omega), rd_get hlt, Q06.succ64 (by omega)]
    exact ih (i + 1) k _ _ (by omega) (by omega) ha hb
/-- The bytes of numbers, by the reference. -/
theorem ref6_spec {k : Nat} {l : List Int} (hu : Us l) (hl : l.length ≤ 200) (hk : 23000 < k) : rickref06_Put.f k l = some (if l.length = 0 then [] else packB (pack_Put.bits l)) := by
  unfold rickref06_Put.f
  by_cases h0 : l.length = 0
  · rw [if_pos (by omega), if_pos h0]
  · rw [if_neg (by omega), if_pos (by omega), if_neg h0]
    have hd : l.drop 0 = l := rfl
    obtain ⟨a, t, rfl⟩ : ∃ a t, l = a :: t := by cases l with | nil => simp at h0 | cons a t => exact ⟨a, t, rfl⟩
    have hr : rd (a :: t) 0 = a := rfl
    refine ref_l0 hu (by simp) hl (a :: t).length 0 k _ _ (by omega) (by omega) ?_ ?_
    · rw [List.drop_zero, List.foldl_cons, hr]; unfold minL; rw [show mn a a = a by unfold mn; simp, hr]; rfl
    · rw [List.drop_zero, List.foldl_cons, hr]; unfold maxL; rw [show mx a a = a by unfold mx; simp, hr]; rfl
theorem put6_spec {l : List Int} (hu : Us l) (hl : l.length ≤ 200) : pack_Put.f l = some (if l.length = 0 then [] else packB (pack_Put.bits l), 0) := by
  unfold pack_Put.f
  rw [if_neg (by omega)]
  by_cases h0 : l.length = 0
  · rw [if_pos h0, if_pos h0]
  · rw [if_neg h0, if_neg h0, if_pos (us_ok hu)]

/-! ### packed, and told back -/
theorem drop_len_add (a b : List Int) (n : Nat) : (a ++ b).drop (a.length + n) = b.drop n := by rw [← List.drop_drop, List.drop_left]
theorem body_at {l : List Int} (w : Nat) (lo : Int) {j : Nat} (h : j < l.length) : (((l.map (fun n => bitsN w (n - lo))).flatten).drop (j * w)).take w = bitsN w (l[j] - lo) := by
  induction l generalizing j with
  | nil => simp at h
  | cons a l ih =>
    rw [List.map_cons, List.flatten_cons]
    cases j with
    | zero => simp [bitsN_len]
    | succ j =>
      rw [show (j + 1) * w = (bitsN w (a - lo)).length + j * w by rw [bitsN_len, Nat.succ_mul]; omega, drop_len_add, ih (by simpa using h)]
      simp
theorem outs_packed {l more : List Int} (hu : Us l) (h0 : 0 < l.length) : pack_Get.outs (packB (pack_Put.bits l) ++ more) (minL l) (pack_Put.width l) l.length = l := by
  have hlo := lo_hi hu h0
  apply List.ext_getElem
  · rw [pack_Get.outs_len]
  · intro j h1 h2
    have hel := hu _ (List.getElem_mem h2)
    have hge := (min_facts h0).2 _ (List.getElem_mem h2)
    have hle := (max_facts h0).2 _ (List.getElem_mem h2)
    have hlen := bits_len l
    have hj : (j + 1) * pack_Put.width l ≤ l.length * pack_Put.width l := Nat.mul_le_mul_right _ h2
    rw [Nat.succ_mul] at hj
    simp only [pack_Get.outs, List.getElem_map, List.getElem_range]
    rw [gv_packB (bits_bits l) (by omega)]
    have e : ((pack_Put.bits l).drop (72 + j * pack_Put.width l)).take (pack_Put.width l) = bitsN (pack_Put.width l) (l[j] - minL l) := by
      unfold pack_Put.bits
      rw [show 72 + j * pack_Put.width l = (bitsN 64 (minL l) ++ bitsN 8 (pack_Put.width l : Int)).length + j * pack_Put.width l by rw [List.length_append, bitsN_len, bitsN_len], drop_len_add, body_eq]
      exact body_at _ _ h2
    have hw := (wd_facts (x := maxL l - minL l) (by omega)).1
    rw [e, valB_bitsN _ (by omega), Int.emod_eq_of_lt (by omega) (by unfold pack_Put.width; omega), wrap_u64_id (by omega) (by omega)]
    omega
theorem get6_spec {l more : List Int} (hu : Us l) (hl : l.length ≤ 200) (hm : Bs more) (hml : more.length ≤ 1000) :
    pack_Get.f ((if l.length = 0 then [] else packB (pack_Put.bits l)) ++ more) (l.length : Int) = some (l, ((if l.length = 0 then [] else packB (pack_Put.bits l)).length : Int), 0) := by
  unfold pack_Get.f
  rw [if_neg (by omega)]
  by_cases h0 : l.length = 0
  · have : l = [] := List.length_eq_zero_iff.1 h0
    subst this
    simp
  have h0' : 0 < l.length := by omega
  have hlo := lo_hi hu h0'
  have hw := width_le hu h0'
  have hlen := bits_len l
  have hpl := packB_len (pack_Put.bits l)
  have hmul : l.length * pack_Put.width l ≤ 200 * 64 := Nat.mul_le_mul hl hw
  rw [if_neg h0, if_neg (by omega), if_neg (by rw [List.length_append]; omega)]
  have hbs : Bs (packB (pack_Put.bits l) ++ more) := (packB_bs (bits_bits l)).append hm
  have hrd : rd (packB (pack_Put.bits l) ++ more) 8 = (pack_Put.width l : Int) := by
    have h8 : 8 < (packB (pack_Put.bits l) ++ more).length := by rw [List.length_append]; omega
    have := rd_get (l := packB (pack_Put.bits l) ++ more) (i := 8) h8
    rw [show ((8 : Nat) : Int) = 8 from rfl] at this
    rw [this]
    have e : packB (pack_Put.bits l) ++ more = raw8 (minL l) ++ ((pack_Put.width l : Int) :: (packB (pack_Put.body l) ++ more)) := by rw [bits_packB hu h0']; simp
    simp only [e]
    rw [List.getElem_append_right (by rw [raw8_len]; omega)]
    simp [raw8_len]
  have hlo64 : gv (packB (pack_Put.bits l) ++ more) 0 64 = minL l := by
    rw [gv_packB (bits_bits l) (by omega), List.drop_zero]
    have : (pack_Put.bits l).take 64 = bitsN 64 (minL l) := by
      unfold pack_Put.bits
      rw [List.append_assoc, List.take_append_of_le_length (by rw [bitsN_len]; omega), List.take_of_length_le (by rw [bitsN_len]; omega)]
    rw [this, valB_bitsN _ hlo.1, Int.emod_eq_of_lt hlo.1 (by omega)]
  rw [hrd, if_neg (by omega), if_pos (bs_okB hbs (by rw [List.length_append]; omega)), Int.toNat_natCast, Int.toNat_natCast, if_neg (by rw [List.length_append]; omega), hlo64, outs_packed hu h0', put6_spec hu hl, if_neg h0]
  simp only [Option.bind_some]
  rw [prefix_yes]
  simp
end Go.Proofs.Ytmlbppfcpejlpaa.Q06

/- Numbers that are the same, and the layer's own example. No conditions. -/
namespace Go.Proofs.Ytmlbppfcpejlpaa.Q06
open Go Go.RowKit Go.Proofs.YtmlbppfcpejlpaaW.PrintWords Go.Proofs.YtmlbppfcpejlpaaW.PrintMore Go.Proofs.Ytmlbppfcpejlpaa.S Go.Proofs.Ytmlbppfcpejlpaa.B Go.Proofs.Ytmlbppfcpejlpaa.X Go.Proofs.Ytmlbppfcpejlpaa.Q04
set_option linter.unusedVariables false
set_option linter.unusedSimpArgs false

theorem same_l0 {l : List Int} (hl : l.length < 1000000000000) (d : Nat) : ∀ (i k : Nat), i + d = l.length → d < k → rickref06_Same.l0 k l l (i : Int) = some true := by
  induction d with
  | zero =>
    intro i k hd hk
    obtain ⟨k, rfl⟩ : ∃ q, k = q + 1 := ⟨k - 1, by omega⟩
    simp only [rickref06_Same.l0]
    rw [if_neg (by omega)]
  | succ d ih =>
    intro i k hd hk
    obtain ⟨k, rfl⟩ : ∃ q, k = q + 1 := ⟨k - 1, by omega⟩
    simp only [rickref06_Same.l0, if_true]
    rw [if_pos (by omega), if_pos (by omega), if_pos (by omega), Q06.succ64 (by omega)]
    exact ih (i + 1) k (by omega) (by omega)
theorem same_spec {k : Nat} {l : List Int} (hl : l.length < 1000000000000) (hk : l.length < k) : rickref06_Same.f k l l = some true := by
  unfold rickref06_Same.f
  rw [if_pos rfl]
  exact same_l0 hl l.length 0 k (by omega) hk
theorem puts6_spec : ricklaw06_puts.f = some true := by
  have hu : Us [7, 7] := by intro x hx; simp at hx; omega
  have e1 := put6_spec (l := [7, 7]) hu (by simp)
  have e2 := get6_spec (l := [7, 7]) (more := []) hu (by simp) (by intro x hx; simp at hx) (by simp)
  have e3 : packB (pack_Put.bits [7, 7]) = [0, 0, 0, 0, 0, 0, 0, 7, 0] := by decide +kernel
  rw [if_neg (by decide), e3] at e1
  rw [if_neg (by decide), List.append_nil, e3] at e2
  unfold ricklaw06_puts.f
  rw [e1, Option.bind_some]
  simp only []
  rw [show pack_Get.f [0, 0, 0, 0, 0, 0, 0, 7, 0] 2 = some ([7, 7], 9, 0) from e2, Option.bind_some]
  decide +kernel
end Go.Proofs.Ytmlbppfcpejlpaa.Q06

/- PackGets: of all bytes and counts the numbers are told, or the error. No conditions. -/
namespace Go.Proofs.Ytmlbppfcpejlpaa.Pure
open Go Go.RowKit Go.Proofs.YtmlbppfcpejlpaaW.PrintWords Go.Proofs.YtmlbppfcpejlpaaW.PrintMore Go.Proofs.Ytmlbppfcpejlpaa.S Go.Proofs.Ytmlbppfcpejlpaa.B Go.Proofs.Ytmlbppfcpejlpaa.X Go.Proofs.Ytmlbppfcpejlpaa.Q04 Go.Proofs.Ytmlbppfcpejlpaa.Q06
set_option linter.unusedVariables false
set_option linter.unusedSimpArgs false

theorem valB_append (a b : List Int) : valB (a ++ b) = valB a * 2 ^ b.length + valB b := by
  have h : ∀ (b : List Int) (v : Int), b.foldl (fun v x => v * 2 + x) v = v * 2 ^ b.length + valB b := by
    intro b
    induction b with
    | nil => intro v; simp [valB]
    | cons x b ih =>
      intro v
      have h1 := ih (v * 2 + x)
      have h2 := ih x
      rw [List.foldl_cons, h1, List.length_cons, Int.pow_succ]
      have : valB (x :: b) = x * 2 ^ b.length + valB b := by
        unfold valB at h2 ⊢
        rw [List.foldl_cons, Int.zero_mul, Int.zero_add]
        exact h2
      rw [this, Int.add_mul, Int.mul_assoc, Int.mul_comm 2]
      omega
  unfold valB
  rw [List.foldl_append]
  exact h b _
theorem gv_step (b : List Int) (i : Nat) (hb : Bs b) (h : i < b.length) : gv b 0 (8 * (i + 1)) = gv b 0 (8 * i) * 256 + b[i] := by
  have e : ((bitsOf b).drop 0).take (8 * (i + 1)) = ((bitsOf b).drop 0).take (8 * i) ++ ((bitsOf b).drop (8 * i)).take 8 := by
    rw [List.drop_zero, show 8 * (i + 1) = 8 * i + 8 by omega, List.take_add]
  have hl : (((bitsOf b).drop (8 * i)).take 8).length = 8 := by rw [List.length_take, List.length_drop, bitsOf_len]; omega
  have hg := gv_byte hb h
  unfold gv at hg ⊢
  rw [e, valB_append, hl, hg]
  rfl
theorem bitsOf_drop (b : List Int) (q : Nat) (h : q ≤ b.length) : bitsOf (b.drop q) = (bitsOf b).drop (8 * q) := by
  have e : b = b.take q ++ b.drop q := (List.take_append_drop q b).symm
  have h1 := bitsOf_append (b.take q) (b.drop q)
  rw [← e] at h1
  have hl : (bitsOf (b.take q)).length = 8 * q := by rw [bitsOf_len, List.length_take]; omega
  rw [h1, ← hl, List.drop_left]
/-- What is told in the end: the numbers, if their bytes stand there. -/
def told (b out : List Int) : List Int × Int × Int := if b.take (packB (pack_Put.bits out)).length = packB (pack_Put.bits out) then (out, ((packB (pack_Put.bits out)).length : Int), 0) else ([], 0, 3)
theorem ref_end {b out : List Int} (hb : Bs b) (hu : Us out) (h0 : 0 < out.length) (hl : out.length ≤ 200) (hbl : b.length ≤ 200) (n w : Nat) (lo : Int) (bits : List Int) (k : Nat) (hk : 24000 < k) (hn : out.length = n) :
    rickref06_Get.l1 (k + 1) b (n : Int) (w : Int) lo bits out (n : Int) = some (told b out) := by
  have hp := ref6_spec (k := k) hu hl (by omega)
  rw [if_neg (by omega)] at hp
  have hwb : Bs (packB (pack_Put.bits out)) := packB_bs (bits_bits out)
  unfold told
  generalize packB (pack_Put.bits out) = W at *
  have hm : mn (W.length : Int) (b.length : Int) = ((min W.length b.length : Nat) : Int) := by unfold mn; split <;> omega
  rw [rickref06_Get.l1]
  rw [if_neg (by omega), hp, Option.bind_some, hm, if_pos (by omega), if_pos (by omega), Int.toNat_natCast]
  by_cases hle : W.length ≤ b.length
  · rw [show min W.length b.length = W.length by omega]
    by_cases he : b.take W.length = W
    · rw [if_pos (by rw [he]), if_neg (by omega), if_pos he]
    · rw [if_neg (fun h => he (strOf_inj hwb (hb.take _) h).symm), if_neg he]
  · have he : ¬ b.take W.length = W := fun h => by have := congrArg List.length h; rw [List.length_take] at this; omega
    rw [if_neg he]
    have h2 : ¬ (strOfNums W).toList = (strOfNums (b.take (min W.length b.length))).toList := fun h => by
      have := congrArg List.length (strOf_inj hwb (hb.take _) h)
      rw [List.length_take] at this; omega
    rw [if_neg h2]
theorem ref_l1' {b : List Int} (hb : Bs b) (hbl : b.length ≤ 200) (n w : Nat) (h0 : 0 < n) (hn : n ≤ 200) (hw : w ≤ 64) (lo : Int) (hlen : 72 + n * w ≤ 8 * b.length) (d : Nat) : ∀ (i k : Nat), i + d = n → 24001 + d < k →
    rickref06_Get.l1 k b (n : Int) (w : Int) lo ((bitsOf b).drop (72 + i * w)) (pack_Get.outs b lo w i) (i : Int) = some (told b (pack_Get.outs b lo w n)) := by
  have hus : ∀ i, Us (pack_Get.outs b lo w i) := fun i => pack_Put.ok_us (pack_Get.outs_ok b lo w i)
  induction d with
  | zero =>
    intro i k hd hk
    obtain ⟨k, rfl⟩ : ∃ q, k = q + 1 := ⟨k - 1, by omega⟩
    have hi : i = n := by omega
    subst hi
    exact ref_end hb (hus i) (by rw [pack_Get.outs_len]; omega) (by rw [pack_Get.outs_len]; omega) hbl i w lo _ k (by omega) (pack_Get.outs_len _ _ _ _)
  | succ d ih =>
    intro i k hd hk
    obtain ⟨k, rfl⟩ : ∃ q, k = q + 1 := ⟨k - 1, by omega⟩
    have hcl : cl (w : Int) = w := by rw [Q06.cl_id (by omega) (by omega)]; omega
    have hmul : (i + 1) * w ≤ n * w := Nat.mul_le_mul_right _ (by omega)
    rw [Nat.succ_mul] at hmul
    have hln : ((bitsOf b).drop (72 + i * w)).length = 8 * b.length - (72 + i * w) := by rw [List.length_drop, bitsOf_len]
    have ht := reftake_spec (k := k) (l := (bitsOf b).drop (72 + i * w)) (m := (w : Int)) (fun x hx => bitsOf_bits b x (List.mem_of_mem_drop hx)) (by omega) (by omega)
    rw [hcl, if_pos (by omega), List.drop_drop] at ht
    have hih := ih (i + 1) k (by omega) (by omega)
    rw [pack_Get.outs_succ, show 72 + (i + 1) * w = 72 + i * w + w by rw [Nat.succ_mul]; omega] at hih
    have hol := pack_Get.outs_len b lo w i
    rw [show valB (((bitsOf b).drop (72 + i * w)).take w) = gv b (72 + i * w) w from rfl] at ht
    generalize pack_Get.outs b lo w i = out at *
    generalize told b (pack_Get.outs b lo w n) = T at *
    generalize gv b (72 + i * w) w = tv at *
    generalize (bitsOf b).drop (72 + i * w + w) = rest at *
    generalize (bitsOf b).drop (72 + i * w) = cur at *
    have hs : wrap64 ((i : Int) + 1) = ((i + 1 : Nat) : Int) := Q06.succ64 (by omega)
    have c1 : (i : Int) < (n : Int) := by clear hcl hmul hln hlen hih ht hus; omega
    have c2 : out.length < 17592186044416 := by clear hcl hmul hln hlen hih ht hus; omega
    rw [rickref06_Get.l1]
    rw [if_pos c1, ht, Option.bind_some, if_pos c2, hs]
    exact hih
theorem ref_l0' {b : List Int} (hb : Bs b) (hbl : b.length ≤ 200) (h9 : 9 ≤ b.length) (n w : Nat) (h0 : 0 < n) (hn : n ≤ 200) (hw : w ≤ 64) (hlen : 72 + n * w ≤ 8 * b.length) (d : Nat) : ∀ (i k : Nat), i + d = 8 → 24300 + d < k →
    rickref06_Get.l0 k b (n : Int) (w : Int) (gv b 0 (8 * i)) (i : Int) = some (told b (pack_Get.outs b (gv b 0 64) w n)) := by
  induction d with
  | zero =>
    intro i k hd hk
    obtain ⟨k, rfl⟩ : ∃ q, k = q + 1 := ⟨k - 1, by omega⟩
    have hi : i = 8 := by omega
    subst hi
    have hbits := refbits_spec (k := k) (hb.drop 9) (by rw [List.length_drop]; omega) (by rw [List.length_drop]; omega)
    rw [bitsOf_drop b 9 h9] at hbits
    have := ref_l1' hb hbl n w h0 hn hw (gv b 0 64) hlen n 0 k (by omega) (by omega)
    rw [show 72 + 0 * w = 8 * 9 by omega, show pack_Get.outs b (gv b 0 64) w 0 = [] from rfl] at this
    generalize told b (pack_Get.outs b (gv b 0 64) w n) = T at *
    rw [show 8 * 8 = 64 from rfl]
    generalize gv b 0 64 = lo at *
    generalize (bitsOf b).drop (8 * 9) = bb at *
    rw [rickref06_Get.l0]
    rw [if_neg (by omega), if_pos (by omega), hbits, Option.bind_some]
    exact this
  | succ d ih =>
    intro i k hd hk
    obtain ⟨k, rfl⟩ : ∃ q, k = q + 1 := ⟨k - 1, by omega⟩
    have hlt : i < b.length := by omega
    have hst := gv_step b i hb hlt
    have hr := gv_range64 b 0 (n := 8 * (i + 1)) (by omega)
    have hr0 := gv_range64 b 0 (n := 8 * i) (by omega)
    have hel := hb _ (List.getElem_mem hlt)
    have hih := ih (i + 1) k (by omega) (by omega)
    rw [hst] at hr hih
    have hrd := rd_get hlt
    clear hst
    generalize told b (pack_Get.outs b (gv b 0 64) w n) = T at *
    generalize gv b 0 (8 * i) = v at *
    generalize b[i] = x at *
    have e1 : IntKind.u64.wrap (v * 256) = v * 256 := wrap_u64_id (by omega) (by omega)
    have e2 : IntKind.u64.wrap x = x := wrap_u64_id (by omega) (by omega)
    have e3 : IntKind.u64.wrap (v * 256 + x) = v * 256 + x := wrap_u64_id (by omega) (by omega)
    have hs : wrap64 ((i : Int) + 1) = ((i + 1 : Nat) : Int) := Q06.succ64 (by omega)
    have c1 : (i : Int) < 8 := by clear hlen hrd e1 e2 e3 hih; omega
    have c2 : (0 : Int) ≤ (i : Int) := Int.natCast_nonneg i
    have c3 : (i : Int) < (b.length : Int) := by clear hlen hrd e1 e2 e3 hih; omega
    rw [rickref06_Get.l0]
    rw [if_pos c1, if_pos c2, if_pos c3, hrd, e1, e2, e3, hs]
    exact hih
theorem bytes_sum {p : Nat} (hp : p ≤ 200 * 64) : wrap64 (9 + wrap64 (Int.tdiv (wrap64 (wrap64 (p : Int) + 7)) 8)) = ((9 + (p + 7) / 8 : Nat) : Int) := by
  have e1 : wrap64 (p : Int) = (p : Int) := wrap64_id (by omega) (by omega)
  have e2 : wrap64 ((p : Int) + 7) = (p : Int) + 7 := wrap64_id (by clear e1; omega) (by clear e1; omega)
  have e3 : wrap64 (((p : Int) + 7) / 8) = ((p : Int) + 7) / 8 := wrap64_id (by clear e1 e2; omega) (by clear e1 e2; omega)
  have e4 : wrap64 (9 + ((p : Int) + 7) / 8) = 9 + ((p : Int) + 7) / 8 := wrap64_id (by clear e1 e2 e3; omega) (by clear e1 e2 e3; omega)
  have e5 : Int.tdiv ((p : Int) + 7) 8 = ((p : Int) + 7) / 8 := Int.tdiv_eq_ediv_of_nonneg (by clear e1 e2 e3 e4; omega)
  rw [e1, e2, e5, e3, e4]
  clear e1 e2 e3 e4 e5
  omega
/-- Both sides tell the same. -/
theorem get_same {b : List Int} (hb : Bs b) (hbl : b.length ≤ 200) (n : Nat) (hn : n ≤ 200) (k : Nat) (hk : 25000 < k) :
    ∃ o c e, pack_Get.f b (n : Int) = some (o, c, e) ∧ rickref06_Get.f k b (n : Int) = some (o, c, e) ∧ o.length ≤ 200 := by
  have hpf : pack_Get.f b (n : Int) = _ := rfl
  by_cases h0 : n = 0
  · subst h0
    exact ⟨[], 0, 0, by unfold pack_Get.f; rw [if_neg (by omega), if_pos (by omega)], by unfold rickref06_Get.f; rw [if_pos (by omega)], by simp⟩
  by_cases h9 : b.length < 9
  · exact ⟨[], 0, 4, by unfold pack_Get.f; rw [if_neg (by omega), if_neg (by omega), if_pos h9], by unfold rickref06_Get.f; rw [if_neg (by omega), if_pos (by omega)], by simp⟩
  have h8 : 8 < b.length := by omega
  have hrd := rd_get (l := b) (i := 8) h8
  rw [show ((8 : Nat) : Int) = 8 from rfl] at hrd
  obtain ⟨q0, q1⟩ := hb _ (List.getElem_mem h8)
  rw [← hrd] at q0 q1
  obtain ⟨w, hw⟩ := Int.eq_ofNat_of_zero_le q0
  rw [hw] at q1
  have hww : wrap64 (w : Int) = (w : Int) := wrap64_id (by omega) (by omega)
  clear hrd q0 hpf
  have c0 : ¬ ((n : Int) < 0 ∨ 200 < (n : Int)) := by omega
  have c1 : ¬ (n : Int) = 0 := by omega
  have c2 : ¬ (b.length : Int) < 9 := by omega
  have c3 : 8 < (b.length : Int) := by omega
  by_cases h64 : 64 < (w : Int)
  · exact ⟨[], 0, 3, by unfold pack_Get.f; rw [if_neg c0, if_neg c1, if_neg h9, hw, if_pos h64], by unfold rickref06_Get.f; rw [if_neg c1, if_neg c2, if_pos c3, hw, hww, if_pos h64], by simp⟩
  have hwr : wrap64 (9 + wrap64 (Int.tdiv (wrap64 (wrap64 ((n : Int) * (w : Int)) + 7)) 8)) = ((9 + (n * w + 7) / 8 : Nat) : Int) := by
    have e0 : (n : Int) * (w : Int) = ((n * w : Nat) : Int) := by simp
    have hw65 : w ≤ 64 := by clear hww hw; omega
    rw [e0]
    exact bytes_sum (Nat.mul_le_mul hn hw65)
  have hok : okB b = true := bs_okB hb (by omega)
  by_cases hs : 8 * b.length < 72 + n * w
  · have c4 : (b.length : Int) < ((9 + (n * w + 7) / 8 : Nat) : Int) := by clear hwr hww hw hok; omega
    exact ⟨[], 0, 4, by unfold pack_Get.f; rw [if_neg c0, if_neg c1, if_neg h9, hw, if_neg h64, if_pos hok, Int.toNat_natCast, Int.toNat_natCast, if_pos hs], by unfold rickref06_Get.f; rw [if_neg c1, if_neg c2, if_pos c3, hw, hww, if_neg h64, hwr, if_pos c4], by simp⟩
  have c4 : ¬ (b.length : Int) < ((9 + (n * w + 7) / 8 : Nat) : Int) := by clear hwr hww hw hok; omega
  have hw64 : w ≤ 64 := by omega
  have href := ref_l0' hb hbl (by omega) n w (by omega) hn hw64 (by omega) 8 0 k (by omega) (by omega)
  rw [show gv b 0 (8 * 0) = 0 by simp [gv, valB], show ((0 : Nat) : Int) = 0 from rfl] at href
  have hou : Us (pack_Get.outs b (gv b 0 64) w n) := pack_Put.ok_us (pack_Get.outs_ok _ _ _ _)
  have hol := pack_Get.outs_len b (gv b 0 64) w n
  have hp0 : pack_Get.f b (n : Int) = (pack_Put.f (pack_Get.outs b (gv b 0 64) w n)).bind fun p => (bytes_HasPrefix.f b p.1).bind fun t => if t = true then some (pack_Get.outs b (gv b 0 64) w n, (p.1.length : Int), 0) else some ([], 0, 3) := by
    unfold pack_Get.f; rw [if_neg c0, if_neg c1, if_neg h9, hw, if_neg h64, if_pos hok, Int.toNat_natCast, Int.toNat_natCast, if_neg hs]
  have hr0 : rickref06_Get.f k b (n : Int) = rickref06_Get.l0 k b (n : Int) (w : Int) 0 0 := by
    unfold rickref06_Get.f; rw [if_neg c1, if_neg c2, if_pos c3, hw, hww, if_neg h64, hwr, if_neg c4]
  rw [href] at hr0
  clear href hwr hww hw hok
  generalize pack_Get.outs b (gv b 0 64) w n = out at *
  have hput := put6_spec hou (by omega)
  rw [if_neg (by omega)] at hput
  have hpre := prefix_spec hb (packB_bs (bits_bits out))
  rw [hput, Option.bind_some] at hp0
  unfold told at hr0
  generalize packB (pack_Put.bits out) = W at *
  simp only [] at hp0
  rw [hpre, Option.bind_some] at hp0
  by_cases he : b.take W.length = W
  · rw [if_pos (by rw [decide_eq_true he])] at hp0
    rw [if_pos he] at hr0
    exact ⟨_, _, _, hp0, hr0, by omega⟩
  · rw [if_neg (by rw [decide_eq_false he]; decide)] at hp0
    rw [if_neg he] at hr0
    exact ⟨_, _, _, hp0, hr0, by simp⟩
theorem PackGets : ricklaw06_PackGets.Pure := by
  intro l0 a1 hl1 hl2 hl3 ha
  have hb0 : Bs l0 := fun x hx => wf_u8 (hl3 x hx)
  obtain ⟨b, hb⟩ : ∃ b, b = l0.take (min l0.length 200) := ⟨_, rfl⟩
  have hbl : b.length ≤ 200 := by rw [hb, List.length_take]; omega
  have hbs : Bs b := by rw [hb]; exact hb0.take _
  have h200 : mn (l0.length : Int) 200 = ((min l0.length 200 : Nat) : Int) := by unfold mn; split <;> omega
  refine ⟨30001, ?_⟩
  unfold ricklaw06_PackGets.f
  rw [h200, if_pos (by omega), if_pos (by omega), Int.toNat_natCast, ← hb]
  have hbad : (a1 < 0 ∨ 200 < a1) → pack_Get.f b a1 = some ([], 0, 1) := fun h => by unfold pack_Get.f; rw [if_pos h]
  have hj : ricklaw06_PackGets.j0 30001 b a1 [] 0 1 true = some true := by
    rw [ricklaw06_PackGets.j0]
    rw [if_pos rfl, puts6_spec, Option.bind_some, if_pos rfl, if_pos rfl]
    rfl
  by_cases h1 : a1 < 0
  · rw [hbad (.inl h1), Option.bind_some, if_pos h1]
    exact hj
  by_cases h2 : 200 < a1
  · rw [hbad (.inr h2), Option.bind_some, if_neg h1, decide_eq_true (show a1 > 200 from h2)]
    exact hj
  obtain ⟨n, rfl⟩ := Int.eq_ofNat_of_zero_le (show 0 ≤ a1 by omega)
  obtain ⟨o, c, e, hg, hr, hol⟩ := get_same hbs hbl n (by omega) 30000 (by omega)
  have hs := same_spec (k := 30000) (l := o) (by omega) (by omega)
  rw [hg, Option.bind_some, if_neg h1, decide_eq_false (show ¬ (n : Int) > 200 from h2)]
  rw [ricklaw06_PackGets.j0]
  rw [if_neg (by decide), hr, Option.bind_some, puts6_spec, Option.bind_some, if_pos rfl, if_pos rfl, if_pos rfl, hs, Option.bind_some]
end Go.Proofs.Ytmlbppfcpejlpaa.Pure
