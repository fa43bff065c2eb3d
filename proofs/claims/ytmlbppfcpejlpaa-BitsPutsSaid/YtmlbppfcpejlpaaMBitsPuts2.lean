/- Texts of this claim, laid together (wip/merge.py): XRicklaw04Bitsputs, PureBitsPuts. No conditions. -/
import Derived.Test.YtmlbppfcpejlpaaMBitsPuts1
import Derived.Deep.RegionWith
import Derived.Deep.DrawnRows
import Derived.ChangeArms
-- Printed by this session's own program (wip/xprint.py) over the translation; its external functions are hand-written. Lean checks it.
namespace Go.Proofs.Ytmlbppfcpejlpaa.X
open Go.RowKit Go.Proofs.YtmlbppfcpejlpaaW.PrintWords Go.Proofs.YtmlbppfcpejlpaaW.PrintLast Go.Proofs.YtmlbppfcpejlpaaW.PrintMore
attribute [local go_sem] max2_int min2_int max_two min_two max_three min_three max_four min_four   -- for this text's walks alone
set_option linter.unusedVariables false
set_option linter.unusedSimpArgs false

/-! ### ricklaw04_BitsPuts: function 7 -/
-- ALONE
open Go.Proofs.Ytmlbppfcpejlpaa.S Go.Proofs.Ytmlbppfcpejlpaa.B Go.Proofs.Ytmlbppfcpejlpaa.W04 Go.Proofs.Ytmlbppfcpejlpaa.Q04 Go.Proofs.Ytmlbppfcpejlpaa.Q06
attribute [local go_sem ↓] Go.wp_at_zero Go.wp_at_succ
/-- The bits of the first i puts. -/
def ricklaw04_BitsPuts.acc (f : Nat → Int × Int) : Nat → List Int
  | 0 => []
  | i + 1 => ricklaw04_BitsPuts.acc f i ++ bitsN (cl (f i).2) (f i).1
theorem ricklaw04_BitsPuts.acc_bits (f : Nat → Int × Int) (i : Nat) : Bits (ricklaw04_BitsPuts.acc f i) := by
  induction i with
  | zero => exact Bits.nil
  | succ i ih => exact ih.append (bitsN_bits _ _)
theorem ricklaw04_BitsPuts.acc_len (f : Nat → Int × Int) (i : Nat) : (ricklaw04_BitsPuts.acc f i).length ≤ 64 * i := by
  induction i with
  | zero => exact Nat.le_refl _
  | succ i ih => rw [ricklaw04_BitsPuts.acc, List.length_append, bitsN_len]; have := cl_le (f i).2; omega
def ricklaw04_BitsPuts.Rel1 (w : World) (g : Nat) (f : Nat → Int × Int) (i : Nat) (u : Value) (wr : World) : Prop :=
  ∃ v', WAt w wr g v' (ricklaw04_BitsPuts.acc f i) ∧ Beside w wr g v' u (ricklaw04_BitsPuts.acc f i) ∧ Below w.heap.size w wr
theorem ricklaw04_BitsPuts.add_block (ad : Addr) (k : Nat) : (ad.add k).block = ad.block := by unfold Addr.add; split <;> rfl
theorem ricklaw04_BitsPuts.cell {w W : World} {ad : Addr} {n i : Nat} {f : Nat → Int × Int} (hp : Pairs w (some ad) n f) (hi : i < n) (hb : Below w.heap.size w W) {ii : Int} (hii : ii = (i : Int)) :
    W.cell? (ad.add (ii.toNat * 2)) = some (.int .u64 (f i).1) ∧ W.cell? ⟨(ad.add (ii.toNat * 2)).block, (ad.add (ii.toNat * 2)).off + 1, none⟩ = some (.int .i64 (f i).2) := by
  obtain ⟨ad', e, h0, h1, hlt, _⟩ := hp.2 i hi
  cases e
  subst hii
  rw [Int.toNat_natCast]
  refine ⟨(hb.cell (p := ad.add (i * 2)) (by rw [ricklaw04_BitsPuts.add_block]; exact hlt)).trans h0, ?_⟩
  rw [← add_field _ _ 1 (by omega)]
  exact (hb.cell (p := ad.add (i * 2 + 1)) (by rw [ricklaw04_BitsPuts.add_block]; exact hlt)).trans h1
theorem ricklaw04_BitsPuts.split (f : Nat → Int × Int) (d : Nat) : ∀ i, ∃ Q, ricklaw04_BitsPuts.acc f (i + d) = ricklaw04_BitsPuts.acc f i ++ Q := by
  induction d with
  | zero => exact fun i => ⟨[], by simp⟩
  | succ d ih =>
    intro i
    obtain ⟨Q, hQ⟩ := ih i
    exact ⟨Q ++ bitsN (cl (f (i + d)).2) (f (i + d)).1, by rw [← Nat.add_assoc, ricklaw04_BitsPuts.acc, hQ, List.append_assoc]⟩
/-- What is taken at the place of put j. -/
theorem ricklaw04_BitsPuts.take (f : Nat → Int × Int) {i j : Nat} (hi : i ≤ 60) (hj : j < i) (h0 : 0 ≤ (f j).1) :
    bits_Reader_Take.f 65 (packB (ricklaw04_BitsPuts.acc f i)) ((ricklaw04_BitsPuts.acc f j).length : Int) false (f j).2 = some ((f j).1 % 2 ^ cl (f j).2, ((ricklaw04_BitsPuts.acc f (j + 1)).length : Int), false) := by
  have hs := Starts.of (ricklaw04_BitsPuts.acc_bits f i) []
  rw [List.append_nil] at hs
  obtain ⟨Q, hQ⟩ := ricklaw04_BitsPuts.split f (i - (j + 1)) (j + 1)
  rw [show j + 1 + (i - (j + 1)) = i by omega, ricklaw04_BitsPuts.acc, List.append_assoc] at hQ
  have hb := packB_bs (ricklaw04_BitsPuts.acc_bits f i)
  have hl : (packB (ricklaw04_BitsPuts.acc f i)).length < 1000000000 := by rw [packB_len]; have := ricklaw04_BitsPuts.acc_len f i; omega
  generalize packB (ricklaw04_BitsPuts.acc f i) = p at *
  rw [hQ] at hs
  have h1 := hs.next
  rw [Nat.zero_add] at h1
  have hle := h1.left.le
  rw [bitsN_len] at hle
  rw [take_ok hb (by omega) hle (by decide), ricklaw04_BitsPuts.acc, List.length_append, bitsN_len]
  obtain ⟨_, R, hR⟩ := h1
  rw [hR, List.append_assoc, List.take_append_of_le_length (by rw [bitsN_len]; exact Nat.le_refl _), List.take_of_length_le (by rw [bitsN_len]; exact Nat.le_refl _), valB_bitsN _ h0]
theorem ricklaw04_BitsPuts.mask (xv : Int) (h0 : 0 ≤ xv) (h1 : xv < 18446744073709551616) (c : Nat) (hc : c < 64) :
    ∃ sh ms : Int, IntKind.u64.wrap (2 ^ c) = sh ∧ IntKind.u64.wrap (sh - 1) = ms ∧ Go.bits .and .u64 xv ms = xv % 2 ^ c ∧ 0 ≤ ms := by
  have hp : (2 : Int) ^ c < 2 ^ 64 := by exact_mod_cast Nat.pow_lt_pow_right (by decide) hc
  have hp0 : (0 : Int) < 2 ^ c := Int.pow_pos (by decide)
  have hm := bits_mask .u64 64 (by decide) wraps_u64 c (by omega) xv h0 (by omega)
  generalize (2 : Int) ^ c = P at *
  refine ⟨P, P - 1, wrap_u64_id (by omega) (by omega), wrap_u64_id (by omega) (by omega), hm, by omega⟩
def ricklaw04_BitsPuts.Rel2 (w3 : World) (q : Nat) (f : Nat → Int × Int) (i j : Nat) (wr : World) : Prop :=
  IsS81 w3 wr q (packB (ricklaw04_BitsPuts.acc f i)) ((ricklaw04_BitsPuts.acc f j).length : Int) false ∧ Below w3.heap.size w3 wr
set_option maxHeartbeats 8000000 in
set_option maxRecDepth 100000 in
theorem ricklaw04_BitsPuts.calls (A0 : Option Addr) (c0 n : Nat) (f : Nat → Int × Int) (w : World) (hp : Pairs w A0 n f) (hc0 : n ≤ c0) :
    Calls Try.prog 7 #[.slice A0 n c0] w fun e w' => e = .returned (.bool true) ∧ Below w.heap.size w w' := by
  have hn := hp.1
  have HP := Aside0.mk hp
  have HN := Aside0.mk hn
  clear hp
  go_enter Try.func7, Try.ntmps7
  go_wp2_with (first
    | (go_at_call 24; (with_reducible refine (none_calls _).mono ?_); rintro e w1 ⟨rfl, rfl⟩)
    | (go_at_call 25; (with_reducible refine (put_nil 1 1 _).mono ?_); rintro e w1 ⟨rfl, rfl⟩)
    | (go_at_call 26; (with_reducible refine (ricklaw04_puts.calls true _ rfl).mono ?_); rintro e w1 ⟨rfl, hb⟩; have HB1 := Aside0.mk hb; clear hb)
    | (go_at_call 27; (with_reducible refine (bytes_nil _).mono ?_); rintro e w2 ⟨rfl, rfl⟩)
    | (go_at_call 28; (with_reducible refine (take_nil 1 _).mono ?_); rintro e w2 ⟨rfl, rfl⟩)
    | (go_at_call 29; (with_reducible refine (bad_nil _).mono ?_); rintro e w2 ⟨rfl, rfl⟩)
    | (go_at_call 30; (with_reducible refine (left_nil _).mono ?_); rintro e w2 ⟨rfl, rfl⟩))
  obtain ⟨g, hg⟩ : ∃ g, w1.heap.size = g := ⟨_, rfl⟩
  have hrel0 : ricklaw04_BitsPuts.Rel1 w g f 0 (.slice none 0 0) (w1.alloc (Obj.cells #[Value.slice none 0 0, Value.int IntKind.i64 0] 48)) := by
    rw [← hg]
    exact ⟨_, wat_new w w1 HB1.out, Kd.R_nil _ _ _ _ _, HB1.out.alloc HB1.out.size _⟩
  have HR := Aside0.mk hrel0
  rw [hg]
  clear hrel0 HB1 hg
  go_loopw [6, 7] (fun v6 v7 wr => ∃ (i : Nat) (ii : Int), v7 = .int .i64 ii ∧ Aside0 (ii = (i : Int)) ∧ Aside0 (i ≤ n) ∧ Aside0 (i ≤ 60) ∧ Aside0 (ricklaw04_BitsPuts.Rel1 w g f i v6 wr)) (fun _ v7 _ => ((n : Int) - intOf v7).toNat)
  case atStart => exact ⟨0, _, rfl, ⟨rfl⟩, ⟨Nat.zero_le _⟩, ⟨Nat.zero_le _⟩, HR⟩
  case round =>
    clear HR
    obtain ⟨i, ii, rfl, HI, HIN, HI6, HR⟩ := hrel
    obtain ⟨v1, hW, hS, hB⟩ := HR.out
    have HW := Aside0.mk hW
    have HS := Aside0.mk hS
    have HB := Aside0.mk hB
    clear HR hW hS hB
    have hi0 : 0 ≤ ii := by have := HI.out; omega
    have hi1 : ii ≤ 60 := by have := HI.out; have := HI6.out; omega
    by_cases hlt : i < n ∧ i < 60
    · have hi2 : decide (ii < (n : Int)) = true := by have := HI.out; simp; omega
      have hi3 : decide (ii < 60) = true := by have := HI.out; simp; omega
      have hi4 : (ii < (n : Int)) = True := eq_true (by have := HI.out; omega)
      have hi5 : (0 ≤ ii) = True := eq_true hi0
      obtain ⟨ad, hA, _, _, _, hx0, hx1⟩ := HP.out.2 i hlt.1
      cases hA
      obtain ⟨c1, c2⟩ := ricklaw04_BitsPuts.cell HP.out hlt.1 HB.out HI.out
      obtain ⟨xv, hxv⟩ : ∃ x, (f i).1 = x := ⟨_, rfl⟩
      obtain ⟨mv, hmv⟩ : ∃ x, (f i).2 = x := ⟨_, rfl⟩
      rw [hxv] at c1 hx0 hx1
      rw [hmv] at c2
      have HXV := Aside0.mk hxv
      have HMV := Aside0.mk hmv
      clear hxv hmv
      have HL : Aside0 ((ricklaw04_BitsPuts.acc f i).length < 1000000000) := ⟨by have := ricklaw04_BitsPuts.acc_len f i; omega⟩
      go_wp2
      refine region_tail 10 (by kernel_rfl) (by kernel_rfl) (fun w7 hw7 => ?_)
      have HW7 : Aside0 (WAt w w7 g v1 (ricklaw04_BitsPuts.acc f i)) := ⟨by rw [hw7]; exact ⟨HW.out.1, HW.out.2.1, Kd.R_drew HW.out.2.2.1, HW.out.2.2.2⟩⟩
      have HS7 : Aside0 (Beside w w7 g v1 u6 (ricklaw04_BitsPuts.acc f i)) := ⟨by rw [hw7]; exact Kd.R_drew HS.out⟩
      have HB7 : Aside0 (Below w.heap.size w w7) := ⟨by rw [hw7]; exact below_drew1 HB.out⟩
      have c17 : w7.cell? (ad.add (ii.toNat * 2)) = some (.int .u64 xv) := by rw [hw7]; exact c1
      have c27 : w7.cell? ⟨(ad.add (ii.toNat * 2)).block, (ad.add (ii.toNat * 2)).off + 1, none⟩ = some (.int .i64 mv) := by rw [hw7]; exact c2
      clear hw7 HW HS HB c1 c2
      simp only [List.take_succ_cons, List.take_zero, List.drop_succ_cons, List.drop_zero]
      repeat still_step
      refine wpStill_nil ?_
      go_wp2_with (go_at_call 25; (with_reducible refine (put_calls g v1 _ xv mv w _ HW7.out HB7.out hx0 hx1 HL.out).mono ?_); rintro e w8 ⟨rfl, v8, hW, hB, hK, hV⟩; have HS8 := Aside0.mk (HS7.out.put hK hV); have HW8 := Aside0.mk hW; have HB8 := Aside0.mk hB; clear hW hB hK hV HW7 HB7 HS7 c17 c27)
      obtain ⟨c1, c2⟩ := ricklaw04_BitsPuts.cell HP.out hlt.1 HB8.out HI.out
      rw [HXV.out] at c1
      rw [HMV.out] at c2
      refine region_tail 11 (by kernel_rfl) (by kernel_rfl) (fun w9 hw9 => ?_)
      have HW9 : Aside0 (WAt w w9 g v8 (ricklaw04_BitsPuts.acc f i ++ bitsN (cl mv) xv)) := ⟨by rw [hw9]; exact ⟨HW8.out.1, HW8.out.2.1, Kd.R_drew HW8.out.2.2.1, HW8.out.2.2.2⟩⟩
      have HS9 : Aside0 (Beside w w9 g v8 u6 (ricklaw04_BitsPuts.acc f i)) := ⟨by rw [hw9]; exact Kd.R_drew HS8.out⟩
      have HB9 : Aside0 (Below w.heap.size w w9) := ⟨by rw [hw9]; exact below_drew1 HB8.out⟩
      have c19 : w9.cell? (ad.add (ii.toNat * 2)) = some (.int .u64 xv) := by rw [hw9]; exact c1
      have c29 : w9.cell? ⟨(ad.add (ii.toNat * 2)).block, (ad.add (ii.toNat * 2)).off + 1, none⟩ = some (.int .i64 mv) := by rw [hw9]; exact c2
      have HRP : Aside0 (rickref04_Put.f 65 (ricklaw04_BitsPuts.acc f i) xv mv = some (ricklaw04_BitsPuts.acc f i ++ bitsN (cl mv) xv)) := ⟨refput_spec hx0 hx1 (by decide) (by have := HL.out; omega)⟩
      have hacc : ricklaw04_BitsPuts.acc f i ++ bitsN (cl mv) xv = ricklaw04_BitsPuts.acc f (i + 1) := by rw [ricklaw04_BitsPuts.acc, HXV.out, HMV.out]
      rw [hacc] at HRP HW9
      have HLN : Aside0 ((ricklaw04_BitsPuts.acc f (i + 1)).length < 1000000000000) := ⟨by have := ricklaw04_BitsPuts.acc_len f (i + 1); omega⟩
      clear hw9 HW8 HS8 HB8 c1 c2 hacc
      simp only [List.take_succ_cons, List.take_zero, List.drop_succ_cons, List.drop_zero]
      repeat still_step
      refine wpStill_nil ?_
      go_wp2_with (go_at_call 31; (with_reducible refine (rickref04_Put.calls 65 (fun k => k ≠ g ∧ some k ≠ v8.ownBlock) u6 _ xv mv _ w _ HB9.out HS9.out.R HRP.out).mono ?_); rintro e w10 ⟨v10, rfl, hR, hB, hK⟩; have hb10 := Beside.ofPut HW9.out hR; obtain ⟨A10, c10, e10⟩ := Kd.R_slice hb10.R; subst e10; have HS10 := Aside0.mk hb10; have HW10 := Aside0.mk (HW9.out.aside hK); have HB10 := Aside0.mk hB; clear hb10 hR hB hK HW9 HB9 HS9 c19 c29)
      have HW10d : Aside0 (WAt w w10.drew g v8 (ricklaw04_BitsPuts.acc f (i + 1))) := ⟨⟨HW10.out.1, HW10.out.2.1, Kd.R_drew HW10.out.2.2.1, HW10.out.2.2.2⟩⟩
      have HS10d : Aside0 (Beside w w10.drew g v8 (.slice A10 (ricklaw04_BitsPuts.acc f (i + 1)).length c10) (ricklaw04_BitsPuts.acc f (i + 1))) := ⟨Kd.R_drew HS10.out⟩
      have HB10d : Aside0 (Below w.heap.size w w10.drew) := ⟨below_drew1 HB10.out⟩
      have HRB : Aside0 (rickref04_Bytes.f 4000 (ricklaw04_BitsPuts.acc f (i + 1)) = some (packB (ricklaw04_BitsPuts.acc f (i + 1)))) := ⟨refbytes_spec (ricklaw04_BitsPuts.acc_bits f (i + 1)) HLN.out (by have := ricklaw04_BitsPuts.acc_len f (i + 1); omega)⟩
      clear HW10 HS10 HB10
      go_region_with
        (first
          | (go_at_call 27; (with_reducible refine (bytes_calls g v8 _ w _ HW10d.out HLN.out).mono ?_); rintro e w11 ⟨v11, rfl, hR, hB⟩; have hcv := own_string (P := Try.prog) Try.underlying22 Try.underlying5 Try.underlying9 (Kd.own_of_R hR); have HW11 := Aside0.mk (HW10d.out.below hB); have HS11 := Aside0.mk (HS10d.out.below hB); have HR11 := Aside0.mk hR; have HB11 := Aside0.mk (below_step HB10d.out hB); clear hR hB HW10d HS10d HB10d)
          | (go_at_call 32; (with_reducible refine (rickref04_Bytes.calls 4000 _ _ _ _ _ (Kd.R_reads' HS11.out.R).2.2 (Kd.R_reads' HS11.out.R).2.1 HRB.out).mono ?_); rintro e w12 ⟨v12, rfl, hR, hB⟩; have hcv2 := own_string (P := Try.prog) Try.underlying22 Try.underlying5 Try.underlying9 (Kd.own_of_R hR); have hcv1 := own_string (P := Try.prog) Try.underlying22 Try.underlying5 Try.underlying9 (Kd.own_of_R (Kd.R_below HR11.out hB)); have HW12 := Aside0.mk (HW11.out.below hB); have HS12 := Aside0.mk (HS11.out.below hB); have HB12 := Aside0.mk (below_step HB11.out hB); clear hR hB HW11 HS11 HB11 HR11 hcv))
      all_goals
        clear hcv1 hcv2
        go_wp2
        go_roundw
        case rel => exact ⟨i + 1, _, rfl, ⟨by have := HI.out; omega⟩, ⟨by omega⟩, ⟨by omega⟩, ⟨v8, HW12.out, HS12.out, HB12.out⟩⟩
        case measure => simp [intOf]; have := HI.out; omega
    · by_cases hq : i < n
      have hi2 : decide (ii < (n : Int)) = true := by have := HI.out; simp; omega
      have hi3 : decide (ii < 60) = false := by have := HI.out; simp; omega
      rotate_left
      have hi2 : decide (ii < (n : Int)) = false := by have := HI.out; simp; omega
      all_goals
        have HALL : Aside0 (i = min n 60) := ⟨by have := HIN.out; have := HI6.out; omega⟩
        have HLN : Aside0 ((ricklaw04_BitsPuts.acc f i).length < 1000000000000) := ⟨by have := ricklaw04_BitsPuts.acc_len f i; have := HI6.out; omega⟩
        have HLP : Aside0 ((packB (ricklaw04_BitsPuts.acc f i)).length < 140737488355328) := ⟨by rw [packB_len]; have := ricklaw04_BitsPuts.acc_len f i; have := HI6.out; omega⟩
        clear hlt hq
        go_wp2_with (first
          | (go_at_call 27; (with_reducible refine (bytes_calls g v1 _ w _ HW.out HLN.out).mono ?_); rintro e w2 ⟨v2, rfl, hR, hB⟩; obtain ⟨A2, c2, e2⟩ := Kd.R_slice hR; subst e2; have HR2 := Aside0.mk hR; have HB2 := Aside0.mk (below_step HB.out hB); clear hR hB)
          | (go_at_call 33; (with_reducible refine (new_calls A2 c2 _ _ (Kd.R_reads' HR2.out).2.2 (Kd.R_reads' HR2.out).2.1 HLP.out).mono ?_); rintro e w4 ⟨q, w3, rfl, hb1, hs1, hb2⟩; have HS4 := Aside0.mk hs1; have HB3 := Aside0.mk (below_step HB2.out hb1); have HB4 := Aside0.mk hb2; clear hb1 hs1 hb2 HB2 HR2))
        have HR2 : Aside0 (ricklaw04_BitsPuts.Rel2 w3 q f i 0 w4) := ⟨⟨HS4.out, HB4.out⟩⟩
        clear HS4 HB4 HW HS HB
        go_loopw [9] (fun v9 wr => ∃ (j : Nat) (jj : Int), v9 = .int .i64 jj ∧ Aside0 (jj = (j : Int)) ∧ Aside0 (j ≤ i) ∧ Aside0 (ricklaw04_BitsPuts.Rel2 w3 q f i j wr)) (fun v9 _ => ((n : Int) - intOf v9).toNat)
        case atStart => exact ⟨0, _, rfl, ⟨rfl⟩, ⟨Nat.zero_le _⟩, HR2⟩
        case round =>
          clear HR2
          obtain ⟨j, jj, rfl, HJ, HJI, HR2⟩ := hrel
          obtain ⟨hs, hb⟩ := HR2.out
          have HS := Aside0.mk hs
          have HB := Aside0.mk hb
          have HBW := Aside0.mk (below_step HB3.out hb)
          clear HR2 hs hb hi2
          have hj0 : 0 ≤ jj := by have := HJ.out; omega
          have hj1 : jj ≤ 60 := by have := HJ.out; have := HJI.out; have := HI6.out; omega
          by_cases hlt : j < i
          · have hjn : j < n := by have := HALL.out; omega
            have hj60 : j < 60 := by have := HALL.out; omega
            have hj2 : decide (jj < (n : Int)) = true := by have := HJ.out; simp; omega
            have hj3 : decide (jj < 60) = true := by have := HJ.out; simp; omega
            have hj4 : (jj < (n : Int)) = True := eq_true (by have := HJ.out; omega)
            have hj5 : (0 ≤ jj) = True := eq_true hj0
            obtain ⟨ad, hA, _, _, _, hx0, hx1⟩ := HP.out.2 j hjn
            cases hA
            obtain ⟨c1, c2⟩ := ricklaw04_BitsPuts.cell HP.out hjn HBW.out HJ.out
            have htk := ricklaw04_BitsPuts.take f HI6.out hlt hx0
            obtain ⟨xv, hxv⟩ : ∃ x, (f j).1 = x := ⟨_, rfl⟩
            obtain ⟨mv, hmv⟩ : ∃ x, (f j).2 = x := ⟨_, rfl⟩
            rw [hxv] at c1 hx0 hx1 htk
            rw [hmv] at c2 htk
            obtain ⟨m1, hm1⟩ : ∃ x : Int, (if mv < 0 then 0 else mv) = x := ⟨_, rfl⟩
            obtain ⟨cn, hcn⟩ : ∃ x : Int, (if 64 < m1 then 64 else m1) = x := ⟨_, rfl⟩
            have hc : cn = (cl mv : Int) := by rw [← cl_eq, ← hcn, ← hm1]; rfl
            have hcle := cl_le mv
            have hcn0 : 0 ≤ cn := by omega
            have hcn1 : cn ≤ 64 := by omega
            have hct : cl mv = cn.toNat := by omega
            rw [hct] at htk
            have hm0 : 0 ≤ m1 := by rw [← hm1]; split <;> omega
            clear hxv hmv hc hcle hct hlt
            by_cases h64 : m1 < 64
            · obtain rfl : m1 = cn := by rw [← hcn, if_neg (by omega)]
              have hd : decide (m1 < 64) = true := decide_eq_true h64
              obtain ⟨sh, ms, e1, e2, e3, hms⟩ := ricklaw04_BitsPuts.mask xv hx0 hx1 m1.toNat (by omega)
              obtain ⟨wv, hwv⟩ : ∃ x, xv % 2 ^ m1.toNat = x := ⟨_, rfl⟩
              rw [hwv] at e3 htk
              have HT := Aside0.mk htk
              clear hwv htk
              go_wp2_with (first
                | (go_at_call 28; (with_reducible refine (bits_Reader_Take.calls 65 q _ _ false mv wv _ false w3 _ HS.out HB.out HT.out).mono ?_); rintro e w7 ⟨rfl, hs, hb2, hk⟩; have HS7 := Aside0.mk hs; have HB7 := Aside0.mk hb2; clear hs hb2 hk HS HB)
                | (go_at_call 29; (with_reducible refine (bits_Reader_Bad.calls q _ _ false false _ false w3 _ HS7.out HB7.out rfl).mono ?_); rintro e w8 ⟨rfl, hs, hb2, hk⟩; have HS8 := Aside0.mk hs; have HB8 := Aside0.mk hb2; clear hs hb2 hk HS7 HB7))
              go_roundw
              case rel => exact ⟨j + 1, _, rfl, ⟨by have := HJ.out; omega⟩, ⟨by have := HALL.out; omega⟩, ⟨HS8.out, HB8.out⟩⟩
              case measure => simp [intOf]; have := HJ.out; omega
            · obtain rfl : (64 : Int) = cn := by
                rw [← hcn]
                by_cases e : 64 < m1
                · rw [if_pos e]
                · rw [if_neg e]; omega
              have hw : xv % 2 ^ (64 : Int).toNat = xv := by rw [show (64 : Int).toNat = 64 from rfl]; omega
              rw [hw] at htk
              have HT := Aside0.mk htk
              clear hw htk
              go_wp2_with (first
                | (go_at_call 28; (with_reducible refine (bits_Reader_Take.calls 65 q _ _ false mv xv _ false w3 _ HS.out HB.out HT.out).mono ?_); rintro e w7 ⟨rfl, hs, hb2, hk⟩; have HS7 := Aside0.mk hs; have HB7 := Aside0.mk hb2; clear hs hb2 hk HS HB)
                | (go_at_call 29; (with_reducible refine (bits_Reader_Bad.calls q _ _ false false _ false w3 _ HS7.out HB7.out rfl).mono ?_); rintro e w8 ⟨rfl, hs, hb2, hk⟩; have HS8 := Aside0.mk hs; have HB8 := Aside0.mk hb2; clear hs hb2 hk HS7 HB7))
              go_roundw
              case rel => exact ⟨j + 1, _, rfl, ⟨by have := HJ.out; omega⟩, ⟨by have := HALL.out; omega⟩, ⟨HS8.out, HB8.out⟩⟩
              case measure => simp [intOf]; have := HJ.out; omega
          · obtain rfl : j = i := by have := HJI.out; omega
            obtain ⟨lv, hlv⟩ : ∃ x : Int, (((8 * (packB (ricklaw04_BitsPuts.acc f j)).length - (ricklaw04_BitsPuts.acc f j).length : Nat)) : Int) = x := ⟨_, rfl⟩
            have hleft := left_spec (b := packB (ricklaw04_BitsPuts.acc f j)) (at0 := (ricklaw04_BitsPuts.acc f j).length) (by have := HLN.out; rw [packB_len]; omega) (by rw [packB_len]; omega)
            rw [hlv] at hleft
            have hd8 : decide (lv < 8) = true := decide_eq_true (by rw [← hlv, packB_len]; omega)
            have HLF := Aside0.mk hleft
            clear hlv hleft hlt
            by_cases hq : j < n
            have hi2 : decide (jj < (n : Int)) = true := by have := HJ.out; simp; omega
            have hi3 : decide (jj < 60) = false := by have := HJ.out; have := HALL.out; simp; omega
            rotate_left
            have hi2 : decide (jj < (n : Int)) = false := by have := HJ.out; simp; omega
            all_goals
              clear hq
              go_wp2_with (go_at_call 30; (with_reducible refine (bits_Reader_Left.calls q _ _ false lv _ false w3 _ HS.out HB.out HLF.out).mono ?_); rintro e w7 ⟨rfl, hs, hb2, hk⟩; have HB7 := Aside0.mk hb2; clear hs hb2 hk HS HB)
              go_ret
              exact ⟨rfl, below_step HB3.out HB7.out⟩

end Go.Proofs.Ytmlbppfcpejlpaa.X

/- BitsPuts: in every row of numbers the bytes are told; they are taken again. No conditions. -/
namespace Go.Proofs.Ytmlbppfcpejlpaa.Pure
open Go Go.RowKit Go.Deep Go.ChangeShapes Go.WideShapes Go.Proofs.Ytmlbppfcpejlpaa.W04
set_option linter.unusedVariables false
set_option linter.unusedSimpArgs false

/-- What an argument that is a slice of pairs holds. -/
theorem pairs_open {H : Type} {enc : TypeId × Value → H} {W : World} {base : Nat} {spare : Nat → Bool} {held : Bool} {a0 : Option Addr} {len0 cap0 : Nat} {d : DataW H} {ps : List MemPlace}
    (h : DataW.Trod enc Try.prog W base spare held 38 (.slice a0 len0 cap0) d ps) : ∃ f, Pairs W a0 len0 f ∧ len0 ≤ cap0 := by
  obtain ⟨fuel, hf⟩ := h
  rcases open_slice_pairs Try.underlying38 Try.underlying50 (by kernel_rfl) rfl rfl (by kernel_rfl) (by kernel_rfl) hf with ⟨hcs, _⟩ | ⟨a, len, cap, m, n, V0, V1, D0, D1, P0, P1, hcs, hb, hl, hm, hmm, hx, hall⟩
  · simp [Value.cells] at hcs
    obtain ⟨rfl, rfl, rfl⟩ := hcs
    exact ⟨fun _ => (0, 0), ⟨by omega, fun i hi => absurd hi (by omega)⟩, Nat.le_refl _⟩
  · simp [Value.cells] at hcs
    obtain ⟨rfl, rfl, rfl⟩ := hcs
    have hml : maxLen ≤ 9223372036854775807 := by unfold maxLen; decide
    refine ⟨fun i => (intOf (V0 i), intOf (V1 i)), ⟨by omega, fun i hi => ?_⟩, hl⟩
    obtain ⟨c0, c1, t0, t1⟩ := hall i (by rw [hmm]; split <;> omega)
    obtain ⟨n0, e0, _, wf0⟩ := DataW.trod_int Try.underlying23 t0
    obtain ⟨n1, e1, _, wf1⟩ := DataW.trod_int Try.underlying3 t1
    injection e0 with e0
    injection e1 with e1
    rw [e0] at c0
    rw [e1] at c1
    have hr := S.wf_u64 wf0
    have hlt := World.block_lt_of_cell? W _ c0
    rw [X.ricklaw04_BitsPuts.add_block] at hlt
    refine ⟨a, rfl, ?_, ?_, hlt, ?_, ?_⟩
    · simpa [e0, intOf] using c0
    · simpa [e1, intOf] using c1
    · simpa [e0, intOf] using hr.1
    · simpa [e0, intOf] using hr.2
end Go.Proofs.Ytmlbppfcpejlpaa.Pure
