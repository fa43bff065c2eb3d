/- Texts of this claim, laid together (wip/merge.py): XRickref04Take, Q04b, Q06b, XPackGet, XTimesNumber, XTimesGetpacked, XTimesGetraw, XTimesClasses, XTimesDifference, XTimesGettwice, XTimesGot, XTimesOffsets, XTimesRaw, XTimesPacked, XTimesFits, XTimesSecond, XTimesTwice, XVarintPut, XVarintZig. No conditions. -/
import Derived.Test.YtmlbppfcpejlpaaMTimesClasses1
-- Printed by this session's own program (wip/xprint.py) over the translation; its external functions are hand-written. Lean checks it.
namespace Go.Proofs.Ytmlbppfcpejlpaa.X
open Go.RowKit Go.Proofs.YtmlbppfcpejlpaaW.PrintWords Go.Proofs.YtmlbppfcpejlpaaW.PrintLast Go.Proofs.YtmlbppfcpejlpaaW.PrintMore
attribute [local go_sem] max2_int min2_int max_two min_two max_three min_three max_four min_four   -- for this text's walks alone
set_option linter.unusedVariables false
set_option linter.unusedSimpArgs false

/-! ### rickref04_Take: function 35 -/
def rickref04_Take.l0 : Nat → List Int → Int → Int → Int → Option (Int × List Int × Bool)
  | 0, _, _, _, _ => none
  | k + 1, x0, x1, x7, x8 => if x8 < x1 then (if 0 ≤ x8 then (if x8 < (x0.length : Int) then (rickref04_Take.l0 k x0 x1 (IntKind.u64.wrap ((IntKind.u64.wrap (x7 * 2)) + (IntKind.u64.wrap (rd x0 x8)))) (wrap64 (x8 + 1))) else (none)) else (none)) else (if 0 ≤ x1 then (if x1 ≤ (x0.length : Int) then (some (x7, (x0.drop (x1 : Int).toNat), true)) else (none)) else (none))
def rickref04_Take.f (k : Nat) (l0 : List Int) (a1 : Int) : Option (Int × List Int × Bool) := if (mn (mx a1 0) 64) > (l0.length : Int) then (some (0, l0, false)) else (rickref04_Take.l0 k l0 (mn (mx a1 0) 64) 0 0)
theorem rickref04_Take.mono_l : ∀ k, (∀ y0 y1 y2 y3, LeO (rickref04_Take.l0 k y0 y1 y2 y3) (rickref04_Take.l0 (k + 1) y0 y1 y2 y3))
  | 0 => fun _ _ _ _ r h => by simp [rickref04_Take.l0] at h
  | k + 1 => by
    have ih0 := rickref04_Take.mono_l k
    · intro y0 y1 y2 y3
      unfold rickref04_Take.l0
      repeat' first
      | (with_reducible exact ih0 _ _ _ _)
      | (with_reducible exact LeO.refl _)
      | (with_reducible exact LeO.none _)
      | (with_reducible refine LeO.ite ?_ ?_)
      | (with_reducible refine LeO.bind ?_ (fun _ => ?_))
      | exact ih0 _ _ _ _
      | exact LeO.none _
      | refine LeO.ite ?_ ?_
      | refine LeO.bind ?_ (fun _ => ?_)
theorem rickref04_Take.mono : ∀ a0 a1 k, LeO (rickref04_Take.f k a0 a1) (rickref04_Take.f (k + 1) a0 a1) := by
  intro a0 a1 k
  have ih0 := rickref04_Take.mono_l k
  unfold rickref04_Take.f
  repeat' first
      | (with_reducible exact ih0 _ _ _ _)
      | (with_reducible exact LeO.refl _)
      | (with_reducible exact LeO.none _)
      | (with_reducible refine LeO.ite ?_ ?_)
      | (with_reducible refine LeO.bind ?_ (fun _ => ?_))
      | exact ih0 _ _ _ _
      | exact LeO.none _
      | refine LeO.ite ?_ ?_
      | refine LeO.bind ?_ (fun _ => ?_)
set_option maxHeartbeats 8000000 in
set_option maxRecDepth 100000 in
theorem rickref04_Take.calls (k : Nat) (P0_ : Nat → Prop) (A0 : Option Addr) (c0 : Nat) (l0 : List Int) (a1 : Int) (r1 : Int) (r2 : List Int) (r3 : Bool) (w : World) (hs0 : Kd.V (Kd.int .u8) 5 w w.heap.size (fun k_ => P0_ k_) (.slice A0 l0.length c0) l0) (h : rickref04_Take.f k l0 a1 = some (r1, r2, r3)) :
    Calls Try.prog 35 #[.slice A0 l0.length c0, .int .i64 a1] w fun e w' => ∃ v1_ : Value, e = .returned (.tuple #[.int .u64 r1, v1_, .bool r3]) ∧ Kd.V (Kd.int .u8) 5 w' w.heap.size (fun k_ => (P0_ k_ ∨ w.heap.size ≤ k_)) v1_ r2 ∧ Below w.heap.size w w' := by
  have HO0 := Aside0.mk (show Kd.V (Kd.int .u8) 5 w w.heap.size (fun k_ => (P0_ k_ ∨ w.heap.size ≤ k_)) (.slice A0 l0.length c0) l0 from Kd.V_mono hs0 (fun k_ hk => .inl hk))
  have HB := Aside0.mk (Below.refl w.heap.size w)
  have H : (if (mn (mx a1 0) 64) > (l0.length : Int) then (some (0, l0, false)) else (rickref04_Take.l0 k l0 (mn (mx a1 0) 64) 0 0)) = some (r1, r2, r3) := h
  clear h
  obtain ⟨ji3, hji3⟩ : ∃ j_ : Int, (mx a1 0) = j_ := ⟨_, rfl⟩
  replace H : (if (mn (ji3) 64) > (l0.length : Int) then (some (0, l0, false)) else (rickref04_Take.l0 k l0 (mn (ji3) 64) 0 0)) = some (r1, r2, r3) := by first | (rw [hji3] at H; exact H) | (simp only [hji3] at H ⊢; exact H)
  (try (have hji3l : 0 ≤ ji3 := by (rw [← hji3]; unfold mx; (repeat' split) <;> omega)))
  (try (have hji3m : 0 ≤ ji3 := by omega))
  have hji3_ : (if a1 < 0 then 0 else a1) = ji3 := hji3
  obtain ⟨ji4, hji4⟩ : ∃ j_ : Int, (mn (ji3) 64) = j_ := ⟨_, rfl⟩
  replace H : (if (ji4) > (l0.length : Int) then (some (0, l0, false)) else (rickref04_Take.l0 k l0 ji4 0 0)) = some (r1, r2, r3) := by first | (rw [hji4] at H; exact H) | (simp only [hji4] at H ⊢; exact H)
  have hji4_ : (if 64 < (ji3) then 64 else (ji3)) = ji4 := hji4
  by_cases c5 : (ji4) > (l0.length : Int)
  · rw [if_pos c5] at H
    have c5b0 : decide ((l0.length : Int) < (ji4)) = true := decide_eq_true c5
    clear c5
    simp only [Option.some.injEq, Prod.mk.injEq] at H
    obtain ⟨rfl, rfl, rfl⟩ := H
    go_enter Try.func35, Try.ntmps35
    go_wp2
    repeat (go_quiet (fail); try go_wp2)
    go_ret3
    exact ⟨_, by first | rfl | (simp [errW_none, errW_some] <;> rfl) | (simp only [← hji3, ← hji4]; first | rfl | (simp [errW_none, errW_some] <;> rfl)) | (simp [*, errW_none, errW_some] <;> rfl), by (with_reducible repeat (first | apply Kd.V_alloc | apply Kd.V_drewN | apply Kd.V_drew)); exact HO0.out, by repeat (first | (with_reducible first | exact HB.out | apply below_alloc | apply pw_below_drewN | apply below_drew1) | exact HB.out)⟩
  · rw [if_neg c5] at H
    have c5b0 : decide ((l0.length : Int) < (ji4)) = false := decide_eq_false c5
    clear c5
    have H' := Aside0.mk H
    clear H
    go_enter Try.func35, Try.ntmps35
    go_wp2
    repeat (go_quiet (fail); try go_wp2)
    go_loopg [7, 8] k (fun kq v7 v8 w' => ∃ (x7_1 : Int) (x8_1 : Int), v7 = .int .u64 x7_1 ∧ v8 = .int .i64 x8_1 ∧ Aside0 (rickref04_Take.l0 kq l0 ji4 x7_1 x8_1 = some (r1, r2, r3)) ∧ Aside0 (kq ≤ k) ∧ Aside0 (Kd.V (Kd.int .u8) 5 w' w.heap.size (fun k_ => (P0_ k_ ∨ w.heap.size ≤ k_)) (.slice A0 l0.length c0) l0) ∧ Aside0 (Below w.heap.size w w'))
    case atStart => exact ⟨(0), (0), (by first | rfl | (simp; done) | (simp [*]; done)), (by first | rfl | (simp; done) | (simp [*]; done)), H', ⟨Nat.le_refl _⟩, ⟨by (with_reducible repeat (first | apply Kd.V_alloc | apply Kd.V_drewN | apply Kd.V_drew)); exact HO0.out⟩, ⟨by repeat (first | (with_reducible first | exact HB.out | apply below_alloc | apply pw_below_drewN | apply below_drew1) | exact HB.out)⟩⟩
    case round =>
      clear H'
      try clear p2
      try clear c3
      try clear c5
      try clear c5b0
      obtain ⟨x7_1, x8_1, rfl, rfl, HA, HK1, HO_0, HB⟩ := hrel
      cases gk with
      | zero => exact absurd HA.out (by simp [rickref04_Take.l0])
      | succ k1 =>
        have H := HA.out
        clear HA
        simp only [rickref04_Take.l0] at H
        by_cases c6 : x8_1 < ji4
        · rw [if_pos c6] at H
          have c6b0 : decide (x8_1 < ji4) = true := decide_eq_true c6
          clear c6
          by_cases c7 : 0 ≤ x8_1
          · rw [if_pos c7] at H
            have c7b0 : decide (0 ≤ x8_1) = true := decide_eq_true c7
            clear c7
            by_cases c8 : x8_1 < (l0.length : Int)
            · rw [if_pos c8] at H
              have c8b0 : decide (x8_1 < (l0.length : Int)) = true := decide_eq_true c8
              clear c8
              have H' := Aside0.mk H
              clear H
              have p207 : 0 ≤ (x8_1 : Int) := of_decide_eq_true (by first | (with_reducible assumption) | assumption)
              have q207 : x8_1 < (l0.length : Int) := of_decide_eq_true (by first | (with_reducible assumption) | assumption)
              obtain ⟨ad207, e207, hx207_0⟩ := Kd.at_int (Kd.V_reads' HO_0.out).2.2 x8_1 p207 q207
              cases e207
              replace p207 := eq_true p207
              replace q207 := eq_true q207
              go_wp2
              repeat (go_quiet (fail); try go_wp2)
              go_roundg k1
              case measure => have := HK1.out; omega
              case rel => exact ⟨(IntKind.u64.wrap ((IntKind.u64.wrap (x7_1 * 2)) + (IntKind.u64.wrap (rd l0 x8_1)))), (wrap64 (x8_1 + 1)), (by first | rfl | (simp; done) | (simp [*]; done)), (by first | rfl | (simp; done) | (simp [*]; done)), H', ⟨by have := HK1.out; omega⟩, ⟨by (with_reducible repeat (first | apply Kd.V_alloc | apply Kd.V_drewN | apply Kd.V_drew)); exact HO_0.out⟩, ⟨by repeat (first | (with_reducible first | exact HB.out | apply below_alloc | apply pw_below_drewN | apply below_drew1) | exact HB.out)⟩⟩
            · rw [if_neg c8] at H
              exact absurd H (by simp)
          · rw [if_neg c7] at H
            exact absurd H (by simp)
        · rw [if_neg c6] at H
          have c6b0 : decide (x8_1 < ji4) = false := decide_eq_false c6
          clear c6
          by_cases c9 : 0 ≤ ji4
          · rw [if_pos c9] at H
            have c9b0 := eq_true c9
            have c9b1 : decide (0 ≤ ji4) = true := decide_eq_true c9
            clear c9
            by_cases c10 : ji4 ≤ (l0.length : Int)
            · rw [if_pos c10] at H
              have c10b0 := eq_true c10
              have c10b1 : decide (ji4 ≤ (l0.length : Int)) = true := decide_eq_true c10
              clear c10
              obtain ⟨y208, hy208⟩ : ∃ y_ : List Int, y_ = (l0.drop (ji4 : Int).toNat) := ⟨_, rfl⟩
              replace H : (some (x7_1, y208, true)) = some (r1, r2, r3) := by first | (rw [hy208]; with_reducible exact H) | (have H2_ := (Option.bind_some _ _).symm.trans H; rw [hy208]; with_reducible exact H2_) | (have H2_ := (Option.bind_some _ _).symm.trans H; with_reducible exact H2_) | with_reducible exact H | (rw [hy208]; exact H) | exact H
              have Ny208 := Aside0.mk hy208
              clear hy208
              simp only [Option.some.injEq, Prod.mk.injEq] at H
              obtain ⟨rfl, rfl, rfl⟩ := H
              have q11 : (ji4 : Int) ≤ ((l0.length : Int) : Int) := of_decide_eq_true (by first | (with_reducible assumption) | assumption)
              obtain ⟨i011, hi011, _, hsz11, _⟩ := info_parts info5
              have hroom11 : l0.length ≤ c0 := (Kd.V_reads' HO_0.out).2.1
              have hC11 : Kd.F (Kd.int .u8) _ _ A0 l0.length l0 := (Kd.V_at (base := w.heap.size) HO_0.out).2.2
              have q011 : (0 : Int) ≤ (ji4 : Int) := of_decide_eq_true (by first | (with_reducible assumption) | assumption)
              have hcut11 := cut_from (P := Try.prog) 22 5 .i64 Try.underlying22 hi011 1 hsz11 A0 l0.length c0 ji4 q011 q11
              have hr11 := Kd.F_cut (m := (ji4 : Int).toNat) (c := c0) hC11 (by omega) hroom11
              obtain ⟨A11, hA11⟩ : ∃ A1, A1 = (if c0 = (ji4 : Int).toNat then A0 else (A0 : Option Addr).map (·.add ((ji4 : Int).toNat * 1))) := ⟨_, rfl⟩
              obtain ⟨c11, hc11⟩ : ∃ c1, c1 = c0 - (ji4 : Int).toNat := ⟨_, rfl⟩
              have hy11 : y208.length = l0.length - (ji4 : Int).toNat := (by rw [Ny208.out, List.length_drop] <;> omega)
              rw [show (l0).drop (ji4 : Int).toNat = y208 from Ny208.out.symm] at hr11
              replace hr11 : Kd.F (Kd.int .u8) _ _ A11 y208.length y208 := (by rw [hA11]; exact hr11)
              rw [← hy11, ← hA11, ← hc11] at hcut11
              have HO212 := Aside0.mk (show Kd.V (Kd.int .u8) 5 _ w.heap.size _ (.slice A11 y208.length c11) y208 from Kd.V_mk (by rw [hy11, hc11]; exact Nat.sub_le_sub_right hroom11 _) hr11)
              have HC212 := Aside0.mk (show y208.length ≤ c11 from by rw [hy11, hc11]; exact Nat.sub_le_sub_right hroom11 _)
              clear hr11 hC11 hroom11 hi011 hsz11 hc11
              have KY11 := Aside0.mk hy11
              have KA11 := Aside0.mk hA11
              clear hy11 hA11
              replace q11 := eq_true q11
              go_wp2
              repeat (go_quiet (fail); try go_wp2)
              go_ret3
              exact ⟨_, by first | rfl | (simp [errW_none, errW_some] <;> rfl) | (simp only [← hji3, ← hji4]; first | rfl | (simp [errW_none, errW_some] <;> rfl)) | (simp [*, errW_none, errW_some] <;> rfl), by (with_reducible repeat (first | apply Kd.V_alloc | apply Kd.V_drewN | apply Kd.V_drew)); exact HO212.out, by repeat (first | (with_reducible first | exact HB.out | apply below_alloc | apply pw_below_drewN | apply below_drew1) | exact HB.out)⟩
            · rw [if_neg c10] at H
              exact absurd H (by simp)
          · rw [if_neg c9] at H
            exact absurd H (by simp)

end Go.Proofs.Ytmlbppfcpejlpaa.X

/- What the printed functions of layer 4 (bits) tell of taking bits. No conditions. -/
namespace Go.Proofs.Ytmlbppfcpejlpaa.Q04
open Go Go.RowKit Go.Proofs.YtmlbppfcpejlpaaW.PrintWords Go.Proofs.YtmlbppfcpejlpaaW.PrintMore Go.Proofs.Ytmlbppfcpejlpaa.S Go.Proofs.Ytmlbppfcpejlpaa.B Go.Proofs.Ytmlbppfcpejlpaa.X
set_option linter.unusedVariables false
set_option linter.unusedSimpArgs false

theorem bit_u8 {b : List Int} (hb : Bs b) {i : Nat} (hi : i < 8 * b.length) :
    Go.bits .and .u8 (shr .u8 (rd b ((i / 8 : Nat) : Int)) ((7 - i % 8 : Nat) : Int)) 1 = bitAt b i := by
  have hlt : i / 8 < b.length := by omega
  obtain ⟨r0, r1⟩ := hb _ (List.getElem_mem hlt)
  have := ediv_pow_range r0 (7 - i % 8)
  rw [rd_get hlt, shr_nat .u8 _ (by simp [IntKind.bits]; omega), and_one_u8 this.1 (by omega)]
  unfold bitAt
  rw [List.getD_eq_getElem?_getD, List.getElem?_eq_getElem hlt]; rfl
theorem idx8 {i : Nat} (h : i < 10000000000000) : wrap64 (Int.tdiv (i : Int) 8) = ((i / 8 : Nat) : Int) ∧ wrap64 (7 - Int.tmod (i : Int) 8) = ((7 - i % 8 : Nat) : Int) := by
  constructor
  · rw [Int.tdiv_eq_ediv_of_nonneg (by omega), wrap64_id (by omega) (by omega)]; omega
  · rw [Int.tmod_eq_emod_of_nonneg (by omega), wrap64_id (by omega) (by omega)]; omega
theorem succ64 {i : Nat} (h : i < 10000000000000) : wrap64 ((i : Int) + 1) = ((i + 1 : Nat) : Int) := by rw [wrap64_id] <;> omega
theorem refbits_l0 {b : List Int} (hb : Bs b) (hl : b.length < 1000000000000) (d : Nat) : ∀ (i k : Nat), i + d = 8 * b.length → d < k →
    rickref04_Bits.l0 k b ((bitsOf b).take i) (i : Int) = some (bitsOf b) := by
  induction d with
  | zero =>
    intro i k hd hk
    obtain ⟨k, rfl⟩ : ∃ q, k = q + 1 := ⟨k - 1, by omega⟩
    simp only [rickref04_Bits.l0]
    rw [wrap64_id (n := 8 * (b.length : Int)) (by omega) (by omega), if_neg (by omega), List.take_of_length_le (by rw [bitsOf_len]; omega)]
  | succ d ih =>
    intro i k hd hk
    obtain ⟨k, rfl⟩ : ∃ q, k = q + 1 := ⟨k - 1, by omega⟩
    obtain ⟨e1, e2⟩ := idx8 (i := i) (by omega)
    have hlt : i < (bitsOf b).length := by rw [bitsOf_len]; omega
    simp only [rickref04_Bits.l0]
    rw [wrap64_id (n := 8 * (b.length : Int)) (by omega) (by omega), if_pos (by omega), e1, e2, if_pos (by omega), if_pos (by omega), if_pos (by omega), if_pos (by rw [List.length_take]; omega), bit_u8 hb (by omega), succ64 (by omega)]
    have := ih (i + 1) k (by omega) (by omega)
    rw [List.take_succ_eq_append_getElem hlt, bitsOf_get] at this
    exact this
theorem refbits_spec {k : Nat} {b : List Int} (hb : Bs b) (hl : b.length < 1000000000000) (hk : 8 * b.length < k) : rickref04_Bits.f k b = some (bitsOf b) := by
  unfold rickref04_Bits.f
  have := refbits_l0 hb hl (8 * b.length) 0 k (by omega) hk
  simpa using this

theorem pow_le64 {n : Nat} (h : n ≤ 64) : (2 : Int) ^ n ≤ 18446744073709551616 := by
  have : (2 : Int) ^ n ≤ 2 ^ 64 := by exact_mod_cast Nat.pow_le_pow_right (by decide) h
  simpa using this
theorem reftake_l0 {l : List Int} (hb : Bits l) (n : Nat) (hn : n ≤ 64) (hnl : n ≤ l.length) (hl : l.length < 1000000000000) (d : Nat) : ∀ (i k : Nat), i + d = n → d < k →
    rickref04_Take.l0 k l (n : Int) (valB (l.take i)) (i : Int) = some (valB (l.take n), l.drop n, true) := by
  induction d with
  | zero =>
    intro i k hd hk
    obtain ⟨k, rfl⟩ : ∃ q, k = q + 1 := ⟨k - 1, by omega⟩
    obtain rfl : i = n := by omega
    simp only [rickref04_Take.l0]
    rw [if_neg (by omega), if_pos (by omega), if_pos (by omega), Int.toNat_natCast]
  | succ d ih =>
    intro i k hd hk
    obtain ⟨k, rfl⟩ : ∃ q, k = q + 1 := ⟨k - 1, by omega⟩
    have hlt : i < l.length := by omega
    have hbi : Bits (l.take (i + 1)) := fun x hx => hb x (List.mem_of_mem_take hx)
    have hr := valB_range hbi
    have hr0 := valB_range (l := l.take i) (fun x hx => hb x (List.mem_of_mem_take hx))
    rw [List.length_take, show min (i + 1) l.length = i + 1 by omega] at hr
    have hp := pow_le64 (n := i + 1) (by omega)
    rw [List.take_succ_eq_append_getElem hlt, valB_snoc] at hr
    have hbit := hb _ (List.getElem_mem hlt)
    simp only [rickref04_Take.l0]
    rw [if_pos (by omega), if_pos (by omega), if_pos (by omega), rd_get hlt, wrap_u64_id (n := valB (l.take i) * 2) (by omega) (by omega), wrap_u64_id (n := l[i]) (by omega) (by omega), wrap_u64_id (by omega) (by omega), ← valB_snoc, ← List.take_succ_eq_append_getElem hlt, succ64 (by omega)]
    exact ih (i + 1) k (by omega) (by omega)
theorem reftake_spec {k : Nat} {l : List Int} {m : Int} (hb : Bits l) (hl : l.length < 1000000000000) (hk : 64 < k) :
    rickref04_Take.f k l m = some (if cl m ≤ l.length then (valB (l.take (cl m)), l.drop (cl m), true) else (0, l, false)) := by
  unfold rickref04_Take.f
  rw [cl_eq]
  have := cl_le m
  by_cases h : cl m ≤ l.length
  · rw [if_neg (by omega), if_pos h]
    have := reftake_l0 hb (cl m) (by omega) h hl (cl m) 0 k (by omega) (by omega)
    simpa [valB] using this
  · rw [if_pos (by omega), if_neg h]

theorem or_one {x b : Int} (h0 : 0 ≤ x) (h1 : x % 2 = 0) (h2 : x < 18446744073709551616) (hb : b = 0 ∨ b = 1) : Go.bits .or .u64 x b = x + b :=
  or_join 1 h0 (by simpa using h1) h2 (by omega) (by simp; omega) (by omega)
theorem take_l0 {b : List Int} (hb : Bs b) (hl : b.length < 1000000000000) (n at0 : Nat) (hn : n ≤ 64) (hnl : at0 + n ≤ 8 * b.length) (d : Nat) : ∀ (i k : Nat), i + d = n → d < k →
    bits_Reader_Take.l0 k (valB (((bitsOf b).drop at0).take i)) (n : Int) (i : Int) b ((at0 + i : Nat) : Int) false = some (valB (((bitsOf b).drop at0).take n), ((at0 + n : Nat) : Int), false) := by
  induction d with
  | zero =>
    intro i k hd hk
    obtain ⟨k, rfl⟩ : ∃ q, k = q + 1 := ⟨k - 1, by omega⟩
    obtain rfl : i = n := by omega
    simp only [bits_Reader_Take.l0]
    rw [if_neg (by omega)]
  | succ d ih =>
    intro i k hd hk
    obtain ⟨k, rfl⟩ : ∃ q, k = q + 1 := ⟨k - 1, by omega⟩
    obtain ⟨e1, e2⟩ := idx8 (i := at0 + i) (by omega)
    have hlen : ((bitsOf b).drop at0).length = 8 * b.length - at0 := by rw [List.length_drop, bitsOf_len]
    have hlt : i < ((bitsOf b).drop at0).length := by omega
    have hB := bitsOf_bits b
    have hbd : Bits ((bitsOf b).drop at0) := fun x hx => hB x (List.mem_of_mem_drop hx)
    have hr := valB_range (l := ((bitsOf b).drop at0).take (i + 1)) (fun x hx => hbd x (List.mem_of_mem_take hx))
    have hr0 := valB_range (l := ((bitsOf b).drop at0).take i) (fun x hx => hbd x (List.mem_of_mem_take hx))
    rw [List.length_take, show min (i + 1) ((bitsOf b).drop at0).length = i + 1 by omega] at hr
    have hp := pow_le64 (n := i + 1) (by omega)
    rw [List.take_succ_eq_append_getElem hlt, valB_snoc] at hr
    have hbit := hbd _ (List.getElem_mem hlt)
    have hget : ((bitsOf b).drop at0)[i] = bitAt b (at0 + i) := by rw [List.getElem_drop, bitsOf_get]
    simp only [bits_Reader_Take.l0]
    rw [if_pos (by omega), e1, e2, if_pos (by omega), if_pos (by omega), if_pos (by omega), bit_u8 hb (by omega), ← hget, wrap_u64_id (n := valB _ * 2) (by omega) (by omega), wrap_u64_id (n := ((bitsOf b).drop at0)[i]) (by omega) (by omega), or_one (by omega) (by omega) (by omega) hbit, ← valB_snoc, ← List.take_succ_eq_append_getElem hlt, succ64 (by omega), succ64 (by omega)]
    exact ih (i + 1) k (by omega) (by omega)
theorem left_spec {b : List Int} {at0 : Nat} (hl : b.length < 1000000000000) (ha : at0 ≤ 8 * b.length) : bits_Reader_Left.f b (at0 : Int) false = some (((8 * b.length - at0 : Nat) : Int), (at0 : Int), false) := by
  unfold bits_Reader_Left.f
  have e : wrap64 (wrap64 (8 * (b.length : Int)) - (at0 : Int)) = ((8 * b.length - at0 : Nat) : Int) := by
    rw [wrap64_id (n := 8 * (b.length : Int)) (by omega) (by omega), wrap64_id (by omega) (by omega)]; omega
  rw [e]
theorem held_spec (m : Int) : bits_held.f m = some (cl m : Int) := by unfold bits_held.f; rw [cl_eq]
theorem take_bad {k : Nat} {b : List Int} {m at0 : Int} : bits_Reader_Take.f k b at0 true m = some (0, at0, true) := by
  unfold bits_Reader_Take.f
  exact if_pos rfl
theorem take_short {k : Nat} {b : List Int} {m : Int} {at0 : Nat} (hl : b.length < 1000000000000) (ha : at0 ≤ 8 * b.length) (h : ¬ at0 + cl m ≤ 8 * b.length) : bits_Reader_Take.f k b (at0 : Int) false m = some (0, (at0 : Int), true) := by
  unfold bits_Reader_Take.f
  rw [if_neg (by decide), held_spec, Option.bind_some, left_spec hl ha, Option.bind_some]
  exact if_pos (by omega)
theorem take_ok {k : Nat} {b : List Int} {m : Int} {at0 : Nat} (hb : Bs b) (hl : b.length < 1000000000000) (h : at0 + cl m ≤ 8 * b.length) (hk : 64 < k) : bits_Reader_Take.f k b (at0 : Int) false m = some (valB (((bitsOf b).drop at0).take (cl m)), ((at0 + cl m : Nat) : Int), false) := by
  have hc := cl_le m
  unfold bits_Reader_Take.f
  rw [if_neg (by decide), held_spec, Option.bind_some, left_spec hl (by omega), Option.bind_some]
  refine (if_neg (by omega)).trans ?_
  exact take_l0 hb hl (cl m) at0 (by omega) h (cl m) 0 k (by omega) (by omega)
end Go.Proofs.Ytmlbppfcpejlpaa.Q04

/- Whole numbers told by bits at a place. No conditions. -/
namespace Go.Proofs.Ytmlbppfcpejlpaa.Q06
open Go Go.RowKit Go.Proofs.YtmlbppfcpejlpaaW.PrintWords Go.Proofs.YtmlbppfcpejlpaaW.PrintMore Go.Proofs.Ytmlbppfcpejlpaa.S Go.Proofs.Ytmlbppfcpejlpaa.B Go.Proofs.Ytmlbppfcpejlpaa.X Go.Proofs.Ytmlbppfcpejlpaa.Q04
set_option linter.unusedVariables false
set_option linter.unusedSimpArgs false

/-- The number of the n bits at a place. -/
def gv (b : List Int) (at0 n : Nat) : Int := valB (((bitsOf b).drop at0).take n)
theorem gv_range (b : List Int) (at0 n : Nat) : 0 ≤ gv b at0 n ∧ gv b at0 n < 2 ^ n := by
  have hb : Bits (((bitsOf b).drop at0).take n) := fun x hx => bitsOf_bits b x (List.mem_of_mem_drop (List.mem_of_mem_take hx))
  have h := valB_range hb
  refine ⟨h.1, Int.lt_of_lt_of_le h.2 ?_⟩
  exact_mod_cast Nat.pow_le_pow_right (by decide) (List.length_take_le _ _)
theorem gv_range64 (b : List Int) (at0 : Nat) {n : Nat} (hn : n ≤ 64) : 0 ≤ gv b at0 n ∧ gv b at0 n < 18446744073709551616 := by
  have h := gv_range b at0 n
  have := pow_le64 hn
  omega
theorem cl_id {m : Int} (h0 : 0 ≤ m) (h1 : m ≤ 64) : cl m = m.toNat := by unfold cl mn mx; split <;> split <;> omega
theorem take_good {b : List Int} {m : Int} {at0 : Nat} (hb : Bs b) (hl : b.length < 1000000000000) (h0 : 0 ≤ m) (h1 : m ≤ 64) (h : at0 + m.toNat ≤ 8 * b.length) :
    bits_Reader_Take.f 65 b (at0 : Int) false m = some (gv b at0 m.toNat, ((at0 + m.toNat : Nat) : Int), false) := by
  have := take_ok (k := 65) (m := m) hb hl (by rw [cl_id h0 h1]; exact h) (by omega)
  rw [cl_id h0 h1] at this
  exact this
theorem take_any {b : List Int} {m : Int} {at0 : Nat} {bad : Bool} (hb : Bs b) (hl : b.length < 1000000000000) (ha : at0 ≤ 8 * b.length) (h0 : 0 ≤ m) (h1 : m ≤ 64) :
    ∃ (tv : Int) (a1 : Nat) (bad1 : Bool), bits_Reader_Take.f 65 b (at0 : Int) bad m = some (tv, (a1 : Int), bad1) ∧ 0 ≤ tv ∧ tv < 18446744073709551616 ∧ a1 ≤ 8 * b.length ∧
      ((bad = true ∧ bad1 = true ∧ tv = 0 ∧ a1 = at0) ∨ (bad = false ∧ bad1 = false ∧ at0 + m.toNat ≤ 8 * b.length ∧ a1 = at0 + m.toNat ∧ tv = gv b at0 m.toNat) ∨ (bad = false ∧ bad1 = true ∧ 8 * b.length < at0 + m.toNat ∧ tv = 0 ∧ a1 = at0)) := by
  cases bad with
  | true => exact ⟨0, at0, true, take_bad, by omega, by omega, ha, .inl ⟨rfl, rfl, rfl, rfl⟩⟩
  | false =>
    by_cases h : at0 + m.toNat ≤ 8 * b.length
    · have := gv_range64 b at0 (n := m.toNat) (by omega)
      exact ⟨_, _, false, take_good hb hl h0 h1 h, this.1, this.2, h, .inr (.inl ⟨rfl, rfl, h, rfl, rfl⟩)⟩
    · exact ⟨0, at0, true, take_short hl ha (by rw [cl_id h0 h1]; exact h), by omega, by omega, ha, .inr (.inr ⟨rfl, rfl, by omega, rfl, rfl⟩)⟩
theorem gv_byte {b : List Int} (hb : Bs b) {q : Nat} (hq : q < b.length) : gv b (8 * q) 8 = b[q] := by
  have e : ((bitsOf b).drop (8 * q)).take 8 = (List.range 8).map (fun j => bitAt b (8 * q + j)) := by
    apply List.ext_getElem
    · rw [List.length_take, List.length_drop, bitsOf_len, List.length_map, List.length_range]; omega
    · intro i h1 h2
      rw [List.getElem_take, List.getElem_drop, bitsOf_get, List.getElem_map, List.getElem_range]
  obtain ⟨r0, r1⟩ := hb _ (List.getElem_mem hq)
  have hbit : ∀ j, j < 8 → bitAt b (8 * q + j) = b[q] / 2 ^ (7 - j) % 2 := fun j hj => by
    unfold bitAt
    rw [show (8 * q + j) / 8 = q by omega, show (8 * q + j) % 8 = j by omega, List.getD_eq_getElem?_getD, List.getElem?_eq_getElem hq]; rfl
  unfold gv
  rw [e, show List.range 8 = [0, 1, 2, 3, 4, 5, 6, 7] by rfl]
  simp only [List.map_cons, List.map_nil, valB, List.foldl_cons, List.foldl_nil]
  rw [hbit 0 (by omega), hbit 1 (by omega), hbit 2 (by omega), hbit 3 (by omega), hbit 4 (by omega), hbit 5 (by omega), hbit 6 (by omega), hbit 7 (by omega)]
  generalize b[q] = y at *
  simp only [Nat.reduceSub, show (2 : Int) ^ 7 = 128 by decide, show (2 : Int) ^ 6 = 64 by decide, show (2 : Int) ^ 5 = 32 by decide, show (2 : Int) ^ 4 = 16 by decide, show (2 : Int) ^ 3 = 8 by decide, show (2 : Int) ^ 2 = 4 by decide, show (2 : Int) ^ 1 = 2 by decide, show (2 : Int) ^ 0 = 1 by decide]
  omega
def okB (l : List Int) : Bool := l.all (fun x => decide (0 ≤ x ∧ x < 256)) && decide (l.length < 1000000000)
theorem okB_bs {l : List Int} (h : okB l = true) : Bs l ∧ l.length < 1000000000 := by
  unfold okB at h
  rw [Bool.and_eq_true] at h
  exact ⟨fun x hx => by simpa using List.all_eq_true.1 h.1 x hx, by simpa using h.2⟩
theorem bs_okB {l : List Int} (h : Bs l) (hl : l.length < 1000000000) : okB l = true := by
  unfold okB
  rw [Bool.and_eq_true]
  exact ⟨List.all_eq_true.2 (fun x hx => by simpa using h x hx), by simpa using hl⟩
end Go.Proofs.Ytmlbppfcpejlpaa.Q06

-- Printed by this session's own program (wip/xprint.py) over the translation; its external functions are hand-written. Lean checks it.
namespace Go.Proofs.Ytmlbppfcpejlpaa.X
open Go.RowKit Go.Proofs.YtmlbppfcpejlpaaW.PrintWords Go.Proofs.YtmlbppfcpejlpaaW.PrintLast Go.Proofs.YtmlbppfcpejlpaaW.PrintMore
attribute [local go_sem] max2_int min2_int max_two min_two max_three min_three max_four min_four   -- for this text's walks alone
set_option linter.unusedVariables false
set_option linter.unusedSimpArgs false

/-! ### pack_Get: function 44 -/
open Go.Proofs.Ytmlbppfcpejlpaa.S Go.Proofs.Ytmlbppfcpejlpaa.B Go.Proofs.Ytmlbppfcpejlpaa.W04 Go.Proofs.Ytmlbppfcpejlpaa.Q06
/-- The numbers that bits tell from place 72 on, w bits each, above lo. -/
def pack_Get.outs (b : List Int) (lo : Int) (w i : Nat) : List Int := (List.range i).map (fun j => IntKind.u64.wrap (lo + gv b (72 + j * w) w))
def pack_Get.f (l0 : List Int) (a1 : Int) : Option (List Int × Int × Int) :=
  if a1 < 0 ∨ 200 < a1 then some ([], 0, 1) else if a1 = 0 then some ([], 0, 0) else if l0.length < 9 then some ([], 0, 4) else if 64 < rd l0 8 then some ([], 0, 3)
  else if okB l0 = true then (if 8 * l0.length < 72 + a1.toNat * (rd l0 8).toNat then some ([], 0, 4)
    else (pack_Put.f (pack_Get.outs l0 (gv l0 0 64) (rd l0 8).toNat a1.toNat)).bind fun p => (bytes_HasPrefix.f l0 p.1).bind fun t => if t = true then some (pack_Get.outs l0 (gv l0 0 64) (rd l0 8).toNat a1.toNat, (p.1.length : Int), 0) else some ([], 0, 3))
  else none
def pack_Get.Three (B : Nat) (xs : List Int) (n m : Int) (w : World) (e : Ending) (w' : World) : Prop :=
  ∃ v0_ : Value, e = .returned (.tuple #[v0_, .int .i64 n, .int .i64 m]) ∧ Kd.R (Kd.int .u64) 23 w' B (fun _ => True) v0_ xs ∧ Below w.heap.size w w'
theorem pack_Get.calls_early (A0 : Option Addr) (c0 : Nat) (l0 : List Int) (a1 m : Int) (w : World) (hr0 : Kd.C (Kd.int .u8) w A0 l0.length l0)
    (hn : ((a1 < 0 ∨ 200 < a1) ∧ m = 1) ∨ (a1 = 0 ∧ m = 0) ∨ (0 < a1 ∧ a1 ≤ 200 ∧ l0.length < 9 ∧ m = 4) ∨ (0 < a1 ∧ a1 ≤ 200 ∧ 9 ≤ l0.length ∧ 64 < rd l0 8 ∧ m = 3)) :
    Calls Try.prog 44 #[.slice A0 l0.length c0, .int .i64 a1] w (pack_Get.Three w.heap.size [] 0 m w) := by
  have HR0 := Aside0.mk hr0
  clear hr0
  rcases hn with ⟨hn, rfl⟩ | ⟨rfl, rfl⟩ | ⟨h1, h2, h3, rfl⟩ | ⟨h1, h2, h3, h4, rfl⟩
  · rcases hn with hn | hn
    · have t1 : decide (a1 < 0) = true := by simpa using hn
      go_enter Try.func44, Try.ntmps44
      go_wp2
      go_ret3
      exact ⟨_, rfl, Kd.R_nil _ _ _ _ _, Below.refl _ _⟩
    · have t1 : decide (a1 < 0) = false := by simp; omega
      have t2 : decide (200 < a1) = true := by simpa using hn
      go_enter Try.func44, Try.ntmps44
      go_wp2
      go_ret3
      exact ⟨_, rfl, Kd.R_nil _ _ _ _ _, Below.refl _ _⟩
  · go_enter Try.func44, Try.ntmps44
    go_wp2
    go_ret3
    exact ⟨_, rfl, Kd.R_nil _ _ _ _ _, Below.refl _ _⟩
  · have t1 : decide (a1 < 0) = false := by simp; omega
    have t2 : decide (200 < a1) = false := by simp; omega
    have t3 : (a1 == 0) = false := by rw [beq_eq_false_iff_ne]; omega
    have t4 : decide ((l0.length : Int) < 9) = true := by simp; omega
    have t5 : decide (l0.length < 9) = true := by simpa using h3
    go_enter Try.func44, Try.ntmps44
    go_wp2
    go_ret3
    exact ⟨_, rfl, Kd.R_nil _ _ _ _ _, Below.refl _ _⟩
  · have t1 : decide (a1 < 0) = false := by simp; omega
    have t2 : decide (200 < a1) = false := by simp; omega
    have t3 : (a1 == 0) = false := by rw [beq_eq_false_iff_ne]; omega
    have t4 : decide ((l0.length : Int) < 9) = false := by simp; omega
    have t5 : decide (l0.length < 9) = false := by simp; omega
    have t6 : decide (64 < rd l0 8) = true := by simpa using h4
    have t7 : ((8 : Int) < (l0.length : Int)) = True := eq_true (by omega)
    have t8 : (8 < l0.length) = True := eq_true (by omega)
    have t9 : decide (8 < l0.length) = true := by simp; omega
    obtain ⟨ad, e, hx⟩ := Kd.at_int HR0.out 8 (by omega) (by omega)
    cases e
    have hx' : w.cell? ⟨ad.block, ad.off + 8, none⟩ = some (.int .u8 (rd l0 8)) := by simpa [Addr.add] using hx
    go_enter Try.func44, Try.ntmps44
    go_wp2
    go_ret3
    exact ⟨_, rfl, Kd.R_nil _ _ _ _ _, Below.refl _ _⟩
theorem pack_Get.outs_len (b : List Int) (lo : Int) (w i : Nat) : (pack_Get.outs b lo w i).length = i := by simp [pack_Get.outs]
theorem pack_Get.outs_succ (b : List Int) (lo : Int) (w i : Nat) : pack_Get.outs b lo w (i + 1) = pack_Get.outs b lo w i ++ [IntKind.u64.wrap (lo + gv b (72 + i * w) w)] := by
  simp [pack_Get.outs, List.range_succ]
theorem pack_Get.outs_ok (b : List Int) (lo : Int) (w i : Nat) : pack_Put.ok (pack_Get.outs b lo w i) = true := by
  refine List.all_eq_true.2 (fun x hx => ?_)
  obtain ⟨j, _, rfl⟩ := List.mem_map.1 hx
  rw [wrap_u64]
  simp; omega
/-- A round's head: i numbers are taken; the reader is right, or it is bad, and then there were too few bits. -/
def pack_Get.Rel (w1 : World) (g : Nat) (b : List Int) (lo : Int) (wn n : Nat) (i : Nat) (vo : Value) (wr : World) : Prop :=
  ∃ (a : Nat) (bad : Bool) (out : List Int), IsS81 w1 wr g b (a : Int) bad ∧ Below w1.heap.size w1 wr ∧ Kd.R (Kd.int .u64) 23 wr w1.heap.size (fun _ => True) vo out ∧ out.length = i ∧ a ≤ 8 * b.length ∧
    ((bad = false ∧ a = 72 + i * wn ∧ out = pack_Get.outs b lo wn i) ∨ (bad = true ∧ 8 * b.length < 72 + n * wn))
set_option maxHeartbeats 8000000 in
set_option maxRecDepth 100000 in
theorem pack_Get.calls_main (A0 : Option Addr) (c0 : Nat) (l0 : List Int) (n : Nat) (r1 : List Int) (r2 r3 : Int) (w : World) (hr0 : Kd.C (Kd.int .u8) w A0 l0.length l0) (hc0 : l0.length ≤ c0) (h1 : 0 < n) (h2 : n ≤ 200) (h9 : 9 ≤ l0.length) (h64 : rd l0 8 ≤ 64) (hb : Bs l0) (hl : l0.length < 1000000000)
    (h : (if 8 * l0.length < 72 + n * (rd l0 8).toNat then some ([], 0, 4) else (pack_Put.f (pack_Get.outs l0 (gv l0 0 64) (rd l0 8).toNat n)).bind fun p => (bytes_HasPrefix.f l0 p.1).bind fun t => if t = true then some (pack_Get.outs l0 (gv l0 0 64) (rd l0 8).toNat n, (p.1.length : Int), 0) else some ([], 0, 3)) = some (r1, r2, r3)) :
    Calls Try.prog 44 #[.slice A0 l0.length c0, .int .i64 (n : Int)] w (pack_Get.Three w.heap.size r1 r2 r3 w) := by
  have hrd : rd l0 8 = l0[8] := rd_get (i := 8) (by omega)
  obtain ⟨q0, q1⟩ := hb _ (List.getElem_mem (show 8 < l0.length by omega))
  have hwv : gv l0 64 8 = rd l0 8 := by rw [hrd]; exact gv_byte hb (q := 8) (by omega)
  rw [← hrd] at q0 q1
  have hlo := gv_range64 l0 0 (n := 64) (by omega)
  have T1 := Aside0.mk (take_good (m := 64) (at0 := 0) hb (by omega) (by omega) (by omega) (by simp; omega))
  have T2 := Aside0.mk (take_good (m := 8) (at0 := 64) hb (by omega) (by omega) (by omega) (by simp; omega))
  obtain ⟨lo, hlo1⟩ : ∃ lo, lo = gv l0 0 64 := ⟨_, rfl⟩
  obtain ⟨wv, hwv1⟩ : ∃ wv, wv = rd l0 8 := ⟨_, rfl⟩
  obtain ⟨nn, hnn⟩ : ∃ nn : Int, nn = (n : Int) := ⟨_, rfl⟩
  simp only [show (64 : Int).toNat = 64 from rfl, show (8 : Int).toNat = 8 from rfl, Nat.zero_add, Nat.reduceAdd] at T1 T2
  rw [← hlo1] at T1 h hlo
  rw [hwv] at T2
  rw [← hwv1] at T2 h q0 q1 h64
  replace T1 : Aside0 (bits_Reader_Take.f 65 l0 0 false 64 = some (lo, 64, false)) := ⟨T1.out⟩
  replace T2 : Aside0 (bits_Reader_Take.f 65 l0 64 false 8 = some (wv, 72, false)) := ⟨T2.out⟩
  have H := Aside0.mk h
  have HR0 := Aside0.mk hr0
  have HC0 := Aside0.mk hc0
  have HBS := Aside0.mk hb
  have t1 : decide (nn < 0) = false := by simp; omega
  have t2 : decide (200 < nn) = false := by simp; omega
  have t3 : (nn == 0) = false := by rw [beq_eq_false_iff_ne]; omega
  have t4 : decide ((l0.length : Int) < 9) = false := by simp; omega
  have t5 : decide (l0.length < 9) = false := by simp; omega
  have t6 : decide (64 < wv) = false := by simp; omega
  have t7 : ((8 : Int) < (l0.length : Int)) = True := eq_true (by omega)
  have t8 : (8 < l0.length) = True := eq_true (by omega)
  have t9 : decide (8 < l0.length) = true := by simp; omega
  have hwv2 : IntKind.i64.wrap wv = wv := by rw [IntKind.wrap_i64]; omega
  obtain ⟨ad, e, hx⟩ := Kd.at_int hr0 8 (by omega) (by omega)
  rw [← hwv1] at hx
  cases e
  have hx' : w.cell? ⟨ad.block, ad.off + 8, none⟩ = some (.int .u8 wv) := by simpa [Addr.add] using hx
  rw [← hnn]
  have HNN := Aside0.mk hnn
  clear hr0 hc0 hx hlo1 hwv1 hnn h hrd hwv hb
  go_enter Try.func44, Try.ntmps44
  go_wp2_with (first
    | (go_at_call 33; (with_reducible refine (new_calls _ _ l0 _ HR0.out HC0.out (by omega)).mono ?_); rintro e w2 ⟨g, w1, rfl, hb1, hs, hb2⟩; have HS0 := Aside0.mk hs; have HB1 := Aside0.mk hb1; have HB2 := Aside0.mk hb2; clear hb1 hs hb2)
    | (go_at_call 28; (with_reducible refine (bits_Reader_Take.calls 65 g l0 0 false 64 lo 64 false w1 w2 HS0.out HB2.out T1.out).mono ?_); rintro e w3 ⟨rfl, hs, hb2, hk⟩; have HS1 := Aside0.mk hs; have HB3 := Aside0.mk hb2; clear hs hb2 hk HS0 HB2)
    | (go_at_call 28; (with_reducible refine (bits_Reader_Take.calls 65 g l0 64 false 8 wv 72 false w1 w3 HS1.out HB3.out T2.out).mono ?_); rintro e w4 ⟨rfl, hs, hb2, hk⟩; have HS2 := Aside0.mk hs; have HB4 := Aside0.mk hb2; clear hs hb2 hk HS1 HB3))
  have HW : Aside0 (wv.toNat ≤ 64) := ⟨by omega⟩
  have HR : Aside0 (pack_Get.Rel w1 g l0 lo wv.toNat n 0 (.slice none 0 0) w4) := ⟨⟨72, false, [], HS2.out, HB4.out, Kd.R_nil _ _ _ _ _, rfl, by omega, .inl ⟨rfl, by omega, rfl⟩⟩⟩
  clear HS2 HB4 T1 T2 hx'
  go_loopw [10, 40] (fun v10 v40 wr => ∃ (i : Nat) (ii : Int), v40 = .int .i64 ii ∧ Aside0 (ii = (i : Int)) ∧ Aside0 (i ≤ n) ∧ Aside0 (pack_Get.Rel w1 g l0 lo wv.toNat n i v10 wr)) (fun _ v40 _ => (nn - intOf v40).toNat)
  case atStart => exact ⟨0, _, rfl, ⟨rfl⟩, ⟨Nat.zero_le _⟩, HR⟩
  case round =>
    clear HR t1 t2 t3 t4 t5 t6 t7 t8 t9 hwv2
    obtain ⟨i, ii, rfl, HI, HIL, HR⟩ := hrel
    obtain ⟨a, bad, out, hs, hbl, ho, hlen, ha, hst⟩ := HR.out
    have HS := Aside0.mk hs
    have HB := Aside0.mk hbl
    have HO := Aside0.mk ho
    have HST := Aside0.mk hst
    have HLEN := Aside0.mk hlen
    clear HR hs hbl ho hst hlen
    have hin := HI.out
    by_cases hlt : i < n
    · have hi0 : 0 ≤ ii := by omega
      have hi1 : ii ≤ 200 := by omega
      have hi2 : decide (ii < nn) = true := by have := HNN.out; simp; omega
      obtain ⟨tv, a1, bad1, hT, tv0, tv1, ha1, hst1⟩ := take_any (at0 := a) (bad := bad) (m := wv) HBS.out (by omega) ha q0 h64
      obtain ⟨ai, hai⟩ : ∃ ai : Int, ai = (a : Int) := ⟨_, rfl⟩
      obtain ⟨ai1, hai1⟩ : ∃ ai1 : Int, ai1 = (a1 : Int) := ⟨_, rfl⟩
      obtain ⟨sv, hsv⟩ : ∃ sv : Int, sv = IntKind.u64.wrap (lo + tv) := ⟨_, rfl⟩
      have hsv1 : IntKind.u64.wrap (lo + tv) = sv := hsv.symm
      rw [← hai] at hT HS
      rw [← hai1] at hT
      have HT := Aside0.mk hT
      have HA := Aside0.mk hai
      have HA1 := Aside0.mk hai1
      have HSV := Aside0.mk hsv
      have HST1 := Aside0.mk hst1
      clear hT hai hai1 hsv hst1 hin
      go_wp2_with (first
        | (go_at_call 28; (with_reducible refine (bits_Reader_Take.calls 65 g l0 ai bad wv tv ai1 bad1 w1 wr HS.out HB.out HT.out).mono ?_); rintro e w5 ⟨rfl, hs, hb2, hk⟩; have HS5 := Aside0.mk hs; have HB5 := Aside0.mk hb2; have HO5 := Aside0.mk (Kd.R_mono (ok' := fun _ => True) (Kd.R_keep (HS.out.apart HO.out (by decide)) hk (fun _ h => h.2)) (fun _ _ => trivial)); clear hs hb2 hk HS HB HO)
        | ((with_reducible refine gate_builtin (b := .append) (xs := #[.tmp 42, .tmp 48]) rfl ?_); at_builtin; refine Kd.R_append (Kd.int .u64) (w0 := w1) w1.heap.size rfl (.tmp 42) (.tmp 48) 34 23 (.int .u64 0) 8 rfl Try.underlying34 info23 rfl (by decide) (by omega) u10 out sv [.int .u64 sv] (fun _ => True) (fun _ => False) rfl rfl ?aP (fun _ hk => hk.elim) ?aF ?aO ?aB ?aS ?aL ?_; (case aP => exact rfl); (case aB => exact HB5.out); (case aF => exact (fun _ _ => trivial)); (case aO => exact HO5.out); (case aS => exact (below_size HB5.out)); (case aL => have := HLEN.out; omega); intro v6 w6 ho hb hg hat; have HO6 := Aside0.mk ho; have HB6 := Aside0.mk hb; have HS6 := Aside0.mk (HS5.out.grown hg (HS5.out.own_ne HO5.out (by decide))); clear ho hb hg hat HS5 HB5 HO5))
      go_roundw
      case rel => exact ⟨i + 1, _, rfl, ⟨by have := HI.out; omega⟩, ⟨hlt⟩, ⟨a1, bad1, out ++ [sv], by have := HS6.out; rw [HA1.out] at this; exact this, HB6.out, HO6.out, by have := HLEN.out; simp; omega, ha1, by
          have hw := HW.out
          rcases HST1.out with ⟨b1, b2, b3, b4⟩ | ⟨b1, b2, b3, b4, b5⟩ | ⟨b1, b2, b3, b4, b5⟩
          · rcases HST.out with ⟨s1, s2, s3⟩ | ⟨s1, s2⟩
            · rw [s1] at b1; cases b1
            · exact .inr ⟨b2, s2⟩
          · rcases HST.out with ⟨s1, s2, s3⟩ | ⟨s1, s2⟩
            · refine .inl ⟨b2, ?_, ?_⟩
              · rw [b4, s2, Nat.succ_mul]; omega
              · rw [pack_Get.outs_succ, HSV.out, b5, s3, s2]
            · rw [s1] at b1; cases b1
          · rcases HST.out with ⟨s1, s2, s3⟩ | ⟨s1, s2⟩
            · refine .inr ⟨b2, ?_⟩
              have : (i + 1) * wv.toNat ≤ n * wv.toNat := Nat.mul_le_mul_right _ hlt
              rw [Nat.succ_mul] at this
              omega
            · rw [s1] at b1; cases b1⟩⟩
      case measure => simp [intOf]; have := HI.out; have := HNN.out; omega
    · have hi2 : decide (ii < nn) = false := by have := HNN.out; simp; omega
      have hil : i = n := by have := HIL.out; omega
      subst hil
      obtain ⟨ai, hai⟩ : ∃ ai : Int, ai = (a : Int) := ⟨_, rfl⟩
      rw [← hai] at HS
      clear hai hin
      cases bad with
      | true =>
        have hsh : 8 * l0.length < 72 + i * wv.toNat := by
          rcases HST.out with ⟨s1, _⟩ | ⟨_, s2⟩
          · cases s1
          · exact s2
        have hH := H.out
        rw [if_pos hsh] at hH
        injection hH with hH; injection hH with e1 e2; injection e2 with e2 e3; subst e1; subst e2; subst e3
        clear hsh H
        have HBD : Aside0 (bits_Reader_Bad.f l0 ai true = some (true, ai, true)) := ⟨rfl⟩
        go_wp2_with (go_at_call 29; (with_reducible refine (bits_Reader_Bad.calls g l0 ai true true ai true w1 wr HS.out HB.out HBD.out).mono ?_); rintro e w5 ⟨rfl, hs, hb2, hk⟩; have HB5 := Aside0.mk hb2; clear hs hb2 hk)
        go_ret3
        exact ⟨_, rfl, Kd.R_nil _ _ _ _ _, below_step HB1.out HB5.out⟩
      | false =>
        have hst := HST.out
        obtain ⟨s2, s3⟩ : a = 72 + i * wv.toNat ∧ out = pack_Get.outs l0 lo wv.toNat i := by
          rcases hst with ⟨_, s2, s3⟩ | ⟨s1, _⟩
          · exact ⟨s2, s3⟩
          · cases s1
        have hH := H.out
        rw [if_neg (by omega), ← s3] at hH
        have hlen := HLEN.out
        have hok : pack_Put.ok out = true := by rw [s3]; exact pack_Get.outs_ok _ _ _ _
        obtain ⟨ag, hag⟩ : ∃ ag, ag = packB (pack_Put.bits out) := ⟨_, rfl⟩
        have hput : pack_Put.f out = some (ag, 0) := by
          unfold pack_Put.f
          rw [if_neg (by omega), if_neg (by omega), if_pos hok, hag]
        rw [hput, Option.bind_some] at hH
        obtain ⟨t, hp, hH⟩ := Option.bind_eq_some_iff.1 hH
        replace hp : bytes_HasPrefix.f l0 ag = some t := hp
        replace hH : (if t = true then some (out, (ag.length : Int), (0 : Int)) else some ([], 0, 3)) = some (r1, r2, r3) := hH
        obtain ⟨A, c, rfl, hc, hr⟩ := Kd.R_reads HO.out
        have HRO := Aside0.mk hr
        have HCO := Aside0.mk hc
        have HPUT := Aside0.mk hput
        have HHP := Aside0.mk hp
        have HH := Aside0.mk hH
        have HBD : Aside0 (bits_Reader_Bad.f l0 ai false = some (false, ai, false)) := ⟨rfl⟩
        clear hst s2 s3 hH hlen hok hag hput hp hc hr HST HLEN H ha
        cases t <;> (
        go_wp2_with (first
          | (go_at_call 29; (with_reducible refine (bits_Reader_Bad.calls g l0 ai false false ai false w1 wr HS.out HB.out HBD.out).mono ?_); rintro e w5 ⟨rfl, hs, hb2, hk⟩; have HB5 := Aside0.mk hb2; have HO5 := Aside0.mk (Kd.R_mono (ok' := fun _ => True) (Kd.R_keep (HS.out.apart HO.out (by decide)) hk (fun _ h => h.2)) (fun _ _ => trivial)); clear hs hb2 hk HS HB HO HRO)
          | (go_at_call 41; (with_reducible refine (pack_Put.calls _ _ out ag 0 _ (Kd.R_reads' HO5.out).2.2 HCO.out HPUT.out).mono ?_); rintro e w6 ⟨v6, rfl, hR, hB⟩; obtain ⟨A2, c2, rfl, hc2, hr2⟩ := Kd.R_reads hR; have HC6 := Aside0.mk hc2; have HR6 := Aside0.mk hr2; have HO6 := Aside0.mk (Kd.R_below HO5.out hB); have HB6 := Aside0.mk (below_step HB1.out (below_step HB5.out hB)); clear hR hB hc2 hr2 HO5 HB5)
          | (go_at_call 60; (with_reducible refine (bytes_HasPrefix.calls _ _ l0 _ _ ag _ _ (Kd.C_below HR0.out HB6.out) HC0.out HR6.out HC6.out HHP.out).mono ?_); rintro e w7 ⟨rfl, hdr⟩; have HO7 := Aside0.mk (Kd.R_below HO6.out (Drawn0.below hdr)); have HB7 := Aside0.mk (below_step HB6.out (Drawn0.below hdr)); clear hdr HO6 HB6))
        go_ret3)
        · have e := HH.out
          simp only [Bool.false_eq_true, if_false] at e
          injection e with e; injection e with e1 e2; injection e2 with e2 e3; subst e1; subst e2; subst e3
          exact ⟨_, rfl, Kd.R_nil _ _ _ _ _, HB7.out⟩
        · have e := HH.out
          simp only [if_true] at e
          injection e with e; injection e with e1 e2; injection e2 with e2 e3; subst e2; subst e3
          rw [← e1]
          exact ⟨_, rfl, Kd.R_lower HO7.out HB1.out.size, HB7.out⟩
theorem pack_Get.calls (A0 : Option Addr) (c0 : Nat) (l0 : List Int) (a1 : Int) (r1 : List Int) (r2 : Int) (r3 : Int) (w : World) (hr0 : Kd.C (Kd.int .u8) w A0 l0.length l0) (hc0 : l0.length ≤ c0) (h : pack_Get.f l0 a1 = some (r1, r2, r3)) :
    Calls Try.prog 44 #[.slice A0 l0.length c0, .int .i64 a1] w fun e w' => ∃ v0_ : Value, e = .returned (.tuple #[v0_, .int .i64 r2, .int .i64 r3]) ∧ Kd.R (Kd.int .u64) 23 w' w.heap.size (fun _ => True) v0_ r1 ∧ Below w.heap.size w w' := by
  unfold pack_Get.f at h
  by_cases h1 : a1 < 0 ∨ 200 < a1
  · rw [if_pos h1] at h; injection h with h; injection h with e1 e2; injection e2 with e2 e3; subst e1; subst e2; subst e3
    exact pack_Get.calls_early A0 c0 l0 a1 1 w hr0 (.inl ⟨h1, rfl⟩)
  rw [if_neg h1] at h
  by_cases h2 : a1 = 0
  · rw [if_pos h2] at h; injection h with h; injection h with e1 e2; injection e2 with e2 e3; subst e1; subst e2; subst e3
    exact pack_Get.calls_early A0 c0 l0 a1 0 w hr0 (.inr (.inl ⟨h2, rfl⟩))
  rw [if_neg h2] at h
  by_cases h3 : l0.length < 9
  · rw [if_pos h3] at h; injection h with h; injection h with e1 e2; injection e2 with e2 e3; subst e1; subst e2; subst e3
    exact pack_Get.calls_early A0 c0 l0 a1 4 w hr0 (.inr (.inr (.inl ⟨by omega, by omega, h3, rfl⟩)))
  rw [if_neg h3] at h
  by_cases h4 : 64 < rd l0 8
  · rw [if_pos h4] at h; injection h with h; injection h with e1 e2; injection e2 with e2 e3; subst e1; subst e2; subst e3
    exact pack_Get.calls_early A0 c0 l0 a1 3 w hr0 (.inr (.inr (.inr ⟨by omega, by omega, by omega, h4, rfl⟩)))
  rw [if_neg h4] at h
  by_cases h5 : okB l0 = true
  · rw [if_pos h5] at h
    obtain ⟨k1, k2⟩ := okB_bs h5
    obtain ⟨n, rfl⟩ := Int.eq_ofNat_of_zero_le (show 0 ≤ a1 by omega)
    rw [Int.toNat_natCast] at h
    exact pack_Get.calls_main A0 c0 l0 n r1 r2 r3 w hr0 hc0 (by omega) (by omega) (by omega) (by omega) k1 k2 h
  · rw [if_neg h5] at h; cases h

end Go.Proofs.Ytmlbppfcpejlpaa.X

-- Printed by this session's own program (wip/xprint.py) over the translation; its external functions are hand-written. Lean checks it.
namespace Go.Proofs.Ytmlbppfcpejlpaa.X
open Go.RowKit Go.Proofs.YtmlbppfcpejlpaaW.PrintWords Go.Proofs.YtmlbppfcpejlpaaW.PrintLast Go.Proofs.YtmlbppfcpejlpaaW.PrintMore
attribute [local go_sem] max2_int min2_int max_two min_two max_three min_three max_four min_four   -- for this text's walks alone
set_option linter.unusedVariables false
set_option linter.unusedSimpArgs false

/-! ### times_number: function 77 -/
def times_number.l0 : Nat → Int → List Int → Int → Int → Option (Int)
  | 0, _, _, _, _ => none
  | k + 1, x3, x7, x8, x9 => if x9 < x8 then (if 0 ≤ x9 then (if x9 < (x7.length : Int) then (times_number.l0 k (Go.bits .or .u64 (IntKind.u64.wrap (x3 * 256)) (IntKind.u64.wrap (rd x7 x9))) x7 x8 (wrap64 (x9 + 1))) else (none)) else (none)) else (some x3)
def times_number.f (k : Nat) (l0 : List Int) : Option (Int) := if 8 ≤ (l0.length : Int) then (times_number.l0 k 0 (l0.take 8) ((l0.take 8).length : Int) 0) else (none)
theorem times_number.mono_l : ∀ k, (∀ y0 y1 y2 y3, LeO (times_number.l0 k y0 y1 y2 y3) (times_number.l0 (k + 1) y0 y1 y2 y3))
  | 0 => fun _ _ _ _ r h => by simp [times_number.l0] at h
  | k + 1 => by
    have ih0 := times_number.mono_l k
    · intro y0 y1 y2 y3
      unfold times_number.l0
      repeat' first
      | (with_reducible exact ih0 _ _ _ _)
      | (with_reducible exact LeO.refl _)
      | (with_reducible exact LeO.none _)
      | (with_reducible refine LeO.ite ?_ ?_)
      | (with_reducible refine LeO.bind ?_ (fun _ => ?_))
      | exact ih0 _ _ _ _
      | exact LeO.none _
      | refine LeO.ite ?_ ?_
      | refine LeO.bind ?_ (fun _ => ?_)
theorem times_number.mono : ∀ a0 k, LeO (times_number.f k a0) (times_number.f (k + 1) a0) := by
  intro a0 k
  have ih0 := times_number.mono_l k
  unfold times_number.f
  repeat' first
      | (with_reducible exact ih0 _ _ _ _)
      | (with_reducible exact LeO.refl _)
      | (with_reducible exact LeO.none _)
      | (with_reducible refine LeO.ite ?_ ?_)
      | (with_reducible refine LeO.bind ?_ (fun _ => ?_))
      | exact ih0 _ _ _ _
      | exact LeO.none _
      | refine LeO.ite ?_ ?_
      | refine LeO.bind ?_ (fun _ => ?_)
set_option maxHeartbeats 8000000 in
set_option maxRecDepth 100000 in
theorem times_number.calls (k : Nat) (A0 : Option Addr) (c0 : Nat) (l0 : List Int) (r : Int) (w : World) (hr0 : Kd.C (Kd.int .u8) w A0 l0.length l0) (hc0 : l0.length ≤ c0) (h : times_number.f k l0 = some r) :
    Calls Try.prog 77 #[.slice A0 l0.length c0] w fun e w' => e = .returned (.int .u64 r) ∧ Drawn0 w w' := by
  have HR0 := Aside0.mk hr0
  have HC0 := Aside0.mk hc0
  clear hr0 hc0
  have H : (if 8 ≤ (l0.length : Int) then (times_number.l0 k 0 (l0.take 8) ((l0.take 8).length : Int) 0) else (none)) = some r := h
  clear h
  by_cases c2 : 8 ≤ (l0.length : Int)
  · rw [if_pos c2] at H
    have c2b0 := eq_true c2
    have c2b1 : decide (8 ≤ (l0.length : Int)) = true := decide_eq_true c2
    clear c2
    have H' := Aside0.mk H
    clear H
    obtain ⟨i03, hi03, _, hsz3, _⟩ := info_parts info5
    obtain ⟨hcut3, hA3, hC3⟩ := print_take_of (P := Try.prog) (Value.int .u8) 0 22 5 .i64 Try.underlying22 hi03 hsz3 A0 c0 l0 8 (by omega) (of_decide_eq_true (by first | (with_reducible assumption) | assumption)) HC0.out
    have HR469 := Aside0.mk (Kd.C_of_reads (h1 := fun _ => rfl) (hA3 _ (Kd.reads_of_C HR0.out)))
    have HC469 := Aside0.mk hC3
    clear hA3 hC3 hi03 hsz3
    obtain ⟨yq3, hyq3⟩ : ∃ y_ : List Int, y_ = l0.take (8 : Int).toNat := ⟨_, rfl⟩
    rw [← hyq3] at hcut3 HR469 HC469
    have eyq3 : (l0.take 8) = yq3 := hyq3.symm
    (try rw [eyq3] at H')
    (try rw [eyq3] at c2b1)
    (try rw [eyq3] at c2b0)
    (try rw [eyq3] at H)
    (try rw [eyq3] at HC0)
    have Nyq3 := Aside0.mk hyq3
    clear eyq3 hyq3
    go_enter Try.func77, Try.ntmps77
    go_wp2
    go_loopg [3, 9] k (fun kq v3 v9 w' => ∃ (x3_1 : Int) (x9_1 : Int), v3 = .int .u64 x3_1 ∧ v9 = .int .i64 x9_1 ∧ Aside0 (times_number.l0 kq x3_1 yq3 (yq3.length : Int) x9_1 = some r) ∧ Aside0 (kq ≤ k) ∧ Drawn0 w w')
    case atStart => exact ⟨(0), (0), (by first | rfl | (simp; done) | (simp [*]; done)), (by first | rfl | (simp; done) | (simp [*]; done)), H', ⟨Nat.le_refl _⟩, by repeat (first | exact Drawn0.refl _ | apply Drawn0.step)⟩
    case round =>
      clear H'
      try clear c2
      try clear c2b0
      try clear c2b1
      try clear p2
      obtain ⟨x3_1, x9_1, rfl, rfl, HA, HK1, ⟨m1, rfl⟩⟩ := hrel
      cases gk with
      | zero => exact absurd HA.out (by simp [times_number.l0])
      | succ k1 =>
        have H := HA.out
        clear HA
        simp only [times_number.l0] at H
        by_cases c4 : x9_1 < (yq3.length : Int)
        · rw [if_pos c4] at H
          have c4b0 : decide (x9_1 < (yq3.length : Int)) = true := decide_eq_true c4
          clear c4
          by_cases c5 : 0 ≤ x9_1
          · rw [if_pos c5] at H
            have c5b0 : decide (0 ≤ x9_1) = true := decide_eq_true c5
            clear c5
            by_cases c6 : x9_1 < (yq3.length : Int)
            · rw [if_pos c6] at H
              have c6b0 : decide (x9_1 < (yq3.length : Int)) = true := decide_eq_true c6
              clear c6
              have H' := Aside0.mk H
              clear H
              have p470 : 0 ≤ (x9_1 : Int) := of_decide_eq_true (by first | (with_reducible assumption) | assumption)
              have q470 : x9_1 < (yq3.length : Int) := of_decide_eq_true (by first | (with_reducible assumption) | assumption)
              obtain ⟨ad470, e470, hx470_0⟩ := Kd.at_int HR469.out x9_1 p470 q470
              cases e470
              replace p470 := eq_true p470
              replace q470 := eq_true q470
              go_wp2
              go_roundg k1
              case measure => have := HK1.out; omega
              case rel => exact ⟨(Go.bits .or .u64 (IntKind.u64.wrap (x3_1 * 256)) (IntKind.u64.wrap (rd yq3 x9_1))), (wrap64 (x9_1 + 1)), (by first | rfl | (simp; done) | (simp [*]; done)), (by first | rfl | (simp; done) | (simp [*]; done)), H', ⟨by have := HK1.out; omega⟩, by repeat (first | exact Drawn0.refl _ | apply Drawn0.step)⟩
            · rw [if_neg c6] at H
              exact absurd H (by simp)
          · rw [if_neg c5] at H
            exact absurd H (by simp)
        · rw [if_neg c4] at H
          have c4b0 : decide (x9_1 < (yq3.length : Int)) = false := decide_eq_false c4
          clear c4
          obtain rfl := Option.some.inj H
          go_wp2
          go_ret
          exact ⟨by first | rfl | (simp; done) | (simp [*]; done), by repeat (first | exact Drawn0.refl _ | apply Drawn0.step)⟩
  · rw [if_neg c2] at H
    exact absurd H (by simp)

end Go.Proofs.Ytmlbppfcpejlpaa.X

-- Printed by this session's own program (wip/xprint.py) over the translation; its external functions are hand-written. Lean checks it.
namespace Go.Proofs.Ytmlbppfcpejlpaa.X
open Go.RowKit Go.Proofs.YtmlbppfcpejlpaaW.PrintWords Go.Proofs.YtmlbppfcpejlpaaW.PrintLast Go.Proofs.YtmlbppfcpejlpaaW.PrintMore
attribute [local go_sem] max2_int min2_int max_two min_two max_three min_three max_four min_four   -- for this text's walks alone
set_option linter.unusedVariables false
set_option linter.unusedSimpArgs false

/-! ### times_getPacked: function 72 -/
def times_getPacked.l0 : Nat → List Int → List Int → List Int → Int → Int → Option (List Int × Int)
  | 0, _, _, _, _, _ => none
  | k + 1, x0, x9, x26, x27, x28 => if x28 < x27 then (if 0 ≤ x28 then (if x28 < (x26.length : Int) then ((times_number.f k x0).bind fun t519 => (if x9.length < 17592186044416 then (times_getPacked.l0 k x0 (x9 ++ [wrap64 (IntKind.u64.wrap (t519 + (rd x26 x28)))]) x26 x27 (wrap64 (x28 + 1))) else (none))) else (none)) else (none)) else (some (x9, 0))
def times_getPacked.f (k : Nat) (l0 : List Int) (a1 : Int) : Option (List Int × Int) := if (l0.length : Int) < 8 then (some (([] : List Int), 4)) else (if 8 ≤ (l0.length : Int) then ((pack_Get.f (l0.drop 8) a1).bind fun bt513 => (if bt513.2.2 = 0 then (times_getPacked.l0 k l0 ([] : List Int) bt513.1 (bt513.1.length : Int) 0) else (some (([] : List Int), bt513.2.2)))) else (none))
theorem times_getPacked.mono_l : ∀ k, (∀ y0 y1 y2 y3 y4, LeO (times_getPacked.l0 k y0 y1 y2 y3 y4) (times_getPacked.l0 (k + 1) y0 y1 y2 y3 y4))
  | 0 => fun _ _ _ _ _ r h => by simp [times_getPacked.l0] at h
  | k + 1 => by
    have ih0 := times_getPacked.mono_l k
    · intro y0 y1 y2 y3 y4
      unfold times_getPacked.l0
      repeat' first
      | (with_reducible exact ih0 _ _ _ _ _)
      | (with_reducible exact times_number.mono _ _)
      | (with_reducible exact LeO.refl _)
      | (with_reducible exact LeO.none _)
      | (with_reducible refine LeO.ite ?_ ?_)
      | (with_reducible refine LeO.bind ?_ (fun _ => ?_))
      | exact ih0 _ _ _ _ _
      | exact times_number.mono _ _
      | exact LeO.none _
      | refine LeO.ite ?_ ?_
      | refine LeO.bind ?_ (fun _ => ?_)
theorem times_getPacked.mono : ∀ a0 a1 k, LeO (times_getPacked.f k a0 a1) (times_getPacked.f (k + 1) a0 a1) := by
  intro a0 a1 k
  have ih0 := times_getPacked.mono_l k
  unfold times_getPacked.f
  repeat' first
      | (with_reducible exact ih0 _ _ _ _ _)
      | (with_reducible exact times_number.mono _ _)
      | (with_reducible exact LeO.refl _)
      | (with_reducible exact LeO.none _)
      | (with_reducible refine LeO.ite ?_ ?_)
      | (with_reducible refine LeO.bind ?_ (fun _ => ?_))
      | exact ih0 _ _ _ _ _
      | exact times_number.mono _ _
      | exact LeO.none _
      | refine LeO.ite ?_ ?_
      | refine LeO.bind ?_ (fun _ => ?_)
set_option maxHeartbeats 8000000 in
set_option maxRecDepth 100000 in
theorem times_getPacked.calls (k : Nat) (A0 : Option Addr) (c0 : Nat) (l0 : List Int) (a1 : Int) (r1 : List Int) (r2 : Int) (w : World) (hr0 : Kd.C (Kd.int .u8) w A0 l0.length l0) (hc0 : l0.length ≤ c0) (h : times_getPacked.f k l0 a1 = some (r1, r2)) :
    Calls Try.prog 72 #[.slice A0 l0.length c0, .int .i64 a1] w fun e w' => ∃ v0_ : Value, e = .returned (.tuple #[v0_, .int .i64 r2]) ∧ Kd.R (Kd.int .i64) 2 w' w.heap.size (fun _ => True) v0_ r1 ∧ Below w.heap.size w w' := by
  have HR0 := Aside0.mk hr0
  have HC0 := Aside0.mk hc0
  clear hr0 hc0
  have HB := Aside0.mk (Below.refl w.heap.size w)
  have H : (if (l0.length : Int) < 8 then (some (([] : List Int), 4)) else (if 8 ≤ (l0.length : Int) then ((pack_Get.f (l0.drop 8) a1).bind fun bt513 => (if bt513.2.2 = 0 then (times_getPacked.l0 k l0 ([] : List Int) bt513.1 (bt513.1.length : Int) 0) else (some (([] : List Int), bt513.2.2)))) else (none))) = some (r1, r2) := h
  clear h
  by_cases c3 : (l0.length : Int) < 8
  · rw [if_pos c3] at H
    have c3b0 : decide ((l0.length : Int) < 8) = true := decide_eq_true c3
    have c3b1 : decide (l0.length < 8) = true := decide_eq_true (by omega)
    clear c3
    simp only [Option.some.injEq, Prod.mk.injEq] at H
    obtain ⟨rfl, rfl⟩ := H
    go_enter Try.func72, Try.ntmps72
    go_wp2
    go_ret2
    exact ⟨_, by first | rfl | (simp [errW_none, errW_some] <;> rfl) | (simp [*, errW_none, errW_some] <;> rfl), by first | exact Kd.R_nil _ _ _ _ _ | exact Kd.N_nil _ _ _ _ _ | exact Kd.V_nil _ _ _ _ _ | exact Kd.Q_nil _ _ _ _ _ | exact Kd.S_nil _ _ _ _ _, by repeat (first | (with_reducible first | exact HB.out | apply below_alloc | apply pw_below_drewN | apply below_drew1) | exact HB.out)⟩
  · rw [if_neg c3] at H
    have c3b0 : decide ((l0.length : Int) < 8) = false := decide_eq_false c3
    have c3b1 : decide (l0.length < 8) = false := decide_eq_false (by omega)
    clear c3
    by_cases c4 : 8 ≤ (l0.length : Int)
    · rw [if_pos c4] at H
      have c4b0 := eq_true c4
      have c4b1 : decide (8 ≤ (l0.length : Int)) = true := decide_eq_true c4
      clear c4
      replace H := Option.bind_eq_some_iff.mp H
      obtain ⟨⟨t513, t514, t515⟩, A50, H⟩ := H
      replace H : (if t515 = 0 then (times_getPacked.l0 k l0 ([] : List Int) t513 (t513.length : Int) 0) else (some (([] : List Int), t515))) = some (r1, r2) := H
      have A5 := Aside0.mk A50
      clear A50
      by_cases c6 : t515 = 0
      · rw [if_pos c6] at H
        have c6b0 : (t515 == 0) = true := beq_iff_eq.mpr c6
        have c6b1 : (t515 != 0) = false := bne_eq_false_iff_eq.mpr c6
        clear c6
        have H' := Aside0.mk H
        clear H
        obtain ⟨i07, hi07, _, hsz7, _⟩ := info_parts info5
        obtain ⟨A7, hcut7, hA7, hC7⟩ := print_drop_of (P := Try.prog) (Value.int .u8) 0 22 5 .i64 Try.underlying22 hi07 hsz7 A0 c0 l0 8 (by omega) (of_decide_eq_true (by first | (with_reducible assumption) | assumption)) HC0.out
        have HR512 := Aside0.mk (Kd.C_of_reads (h1 := fun _ => rfl) (hA7 _ (Kd.reads_of_C HR0.out)))
        have HC512 := Aside0.mk hC7
        clear hA7 hC7 hi07 hsz7
        obtain ⟨yq7, hyq7⟩ : ∃ y_ : List Int, y_ = l0.drop (8 : Int).toNat := ⟨_, rfl⟩
        rw [← hyq7] at hcut7 HR512 HC512
        have eyq7 : (l0.drop 8) = yq7 := hyq7.symm
        (try rw [eyq7] at H')
        (try rw [eyq7] at c6b1)
        (try rw [eyq7] at c6b0)
        (try rw [eyq7] at A5)
        (try rw [eyq7] at H)
        (try rw [eyq7] at c4b1)
        (try rw [eyq7] at c4b0)
        (try rw [eyq7] at c3b1)
        (try rw [eyq7] at c3b0)
        (try rw [eyq7] at HC0)
        have Nyq7 := Aside0.mk hyq7
        clear eyq7 hyq7
        go_enter Try.func72, Try.ntmps72
        go_wp2_with (first | ((with_reducible refine gate_callee (f := 44) rfl ?_); refine goesL_ (some 19) rfl rfl Try.func44 (by kernel_rfl) rfl #[.slice A7 yq7.length (c0 - 8), .int .i64 a1] rfl (by (try simp only [List.map_toArray, List.map_cons, List.map_nil]); first | done | (rw [show yq7.length = (l0.length - 8) from List.length_drop] <;> rfl) | rfl | (simp only [List.length_drop, List.length_take]; rfl)) ?_; (with_reducible refine (pack_Get.calls _ _ yq7 a1 t513 t514 t515 _ ?side1 ?side2 A5.out).mono ?_); (case side1 => repeat (first | exact HR512.out | (with_reducible refine Kd.C_alloc ?_ _) | (with_reducible refine Kd.C_drewN ?_ _) | (with_reducible refine Kd.C_drew ?_))); (case side2 => exact HC512.out); rintro e w8 ⟨v516, rfl, ho0, hb⟩; refine ⟨_, rfl, ?_⟩; have n0_ := Aside0.mk (Kd.R_lower ho0 (below_size (by repeat (first | (with_reducible first | exact HB.out | apply below_alloc | apply pw_below_drewN | apply below_drew1) | exact HB.out)))); have n1_ := Aside0.mk (below_step (by repeat (first | (with_reducible first | exact HB.out | apply below_alloc | apply pw_below_drewN | apply below_drew1) | exact HB.out)) hb); clear HB; have HO517 := n0_; have HB := n1_; clear n0_ n1_; (try clear hb); (try clear hb2); (try clear hk); (try clear hi); (try clear ho0); obtain ⟨Ao9, co9, eo9⟩ := Kd.R_slice HO517.out; subst eo9))
        go_loopg [9, 28] k (fun kq v9 v28 w' => ∃ (x9_1 : List Int) (x28_1 : Int), v28 = .int .i64 x28_1 ∧ Aside0 (times_getPacked.l0 kq l0 x9_1 t513 (t513.length : Int) x28_1 = some (r1, r2)) ∧ Aside0 (kq ≤ k) ∧ Aside0 (Kd.R (Kd.int .i64) 2 w' w.heap.size (fun _ => True) v9 x9_1) ∧ Aside0 (Kd.R (Kd.int .u64) 23 w' w.heap.size (fun _ => True) (.slice Ao9 t513.length co9) t513) ∧ Aside0 (Below w.heap.size w w'))
        case atStart => exact ⟨(([] : List Int)), (0), (by first | rfl | (simp; done) | (simp [*]; done)), H', ⟨Nat.le_refl _⟩, ⟨by first | exact Kd.R_nil _ _ _ _ _ | exact Kd.N_nil _ _ _ _ _ | exact Kd.V_nil _ _ _ _ _ | exact Kd.Q_nil _ _ _ _ _ | exact Kd.S_nil _ _ _ _ _⟩, ⟨by (with_reducible repeat (first | apply Kd.R_alloc | apply Kd.R_drewN | apply Kd.R_drew)); exact HO517.out⟩, ⟨by repeat (first | (with_reducible first | exact HB.out | apply below_alloc | apply pw_below_drewN | apply below_drew1) | exact HB.out)⟩⟩
        case round =>
          clear H'
          try clear p2
          try clear c3
          try clear c3b0
          try clear c3b1
          try clear c4
          try clear c4b0
          try clear c4b1
          try clear c6
          try clear c6b0
          try clear c6b1
          try clear c7
          obtain ⟨x9_1, x28_1, rfl, HA, HK1, HO_9, HO_26, HB⟩ := hrel
          cases gk with
          | zero => exact absurd HA.out (by simp [times_getPacked.l0])
          | succ k1 =>
            have H := HA.out
            clear HA
            simp only [times_getPacked.l0] at H
            by_cases c10 : x28_1 < (t513.length : Int)
            · rw [if_pos c10] at H
              have c10b0 : decide (x28_1 < (t513.length : Int)) = true := decide_eq_true c10
              clear c10
              by_cases c11 : 0 ≤ x28_1
              · rw [if_pos c11] at H
                have c11b0 : decide (0 ≤ x28_1) = true := decide_eq_true c11
                clear c11
                by_cases c12 : x28_1 < (t513.length : Int)
                · rw [if_pos c12] at H
                  have c12b0 : decide (x28_1 < (t513.length : Int)) = true := decide_eq_true c12
                  clear c12
                  replace H := Option.bind_eq_some_iff.mp H
                  obtain ⟨t519, A130, H⟩ := H
                  replace H : (if x9_1.length < 17592186044416 then (times_getPacked.l0 k1 l0 (x9_1 ++ [wrap64 (IntKind.u64.wrap (t519 + (rd t513 x28_1)))]) t513 (t513.length : Int) (wrap64 (x28_1 + 1))) else (none)) = some (r1, r2) := H
                  have A13 := Aside0.mk A130
                  clear A130
                  by_cases c14 : x9_1.length < 17592186044416
                  · rw [if_pos c14] at H
                    have LMc14 := Aside0.mk c14
                    clear c14
                    obtain ⟨y520, hy520⟩ : ∃ y_ : List Int, y_ = (x9_1 ++ [wrap64 (IntKind.u64.wrap (t519 + (rd t513 x28_1)))]) := ⟨_, rfl⟩
                    replace H : (times_getPacked.l0 k1 l0 y520 t513 (t513.length : Int) (wrap64 (x28_1 + 1))) = some (r1, r2) := by first | (rw [hy520]; with_reducible exact H) | (have H2_ := (Option.bind_some _ _).symm.trans H; rw [hy520]; with_reducible exact H2_) | (have H2_ := (Option.bind_some _ _).symm.trans H; with_reducible exact H2_) | with_reducible exact H | (rw [hy520]; exact H) | exact H
                    have Ny520 := Aside0.mk hy520
                    clear hy520
                    have H' := Aside0.mk H
                    clear H
                    have p518 : 0 ≤ (x28_1 : Int) := of_decide_eq_true (by first | (with_reducible assumption) | assumption)
                    have q518 : x28_1 < (t513.length : Int) := of_decide_eq_true (by first | (with_reducible assumption) | assumption)
                    obtain ⟨ad518, e518, hx518_0⟩ := Kd.at_int (Kd.R_reads' HO_26.out).2.2 x28_1 p518 q518
                    cases e518
                    replace p518 := eq_true p518
                    replace q518 := eq_true q518
                    go_wp2_with (first | ((with_reducible refine gate_callee (f := 77) rfl ?_); refine goesL_ (some 34) rfl rfl Try.func77 (by kernel_rfl) rfl #[.slice A0 l0.length c0] rfl (by (try simp only [List.map_toArray, List.map_cons, List.map_nil]); first | done | rfl | (simp only [List.length_drop, List.length_take]; rfl)) ?_; (with_reducible refine (times_number.calls k1 _ _ l0 t519 _ ?side1 ?side2 A13.out).mono ?_); (case side1 => repeat (first | exact (Kd.C_below HR0.out HB.out) | (with_reducible refine Kd.C_alloc ?_ _) | (with_reducible refine Kd.C_drewN ?_ _) | (with_reducible refine Kd.C_drew ?_))); (case side2 => exact HC0.out); rintro e w' ⟨rfl, ⟨nd, rfl⟩⟩; refine ⟨_, rfl, ?_⟩) | ((with_reducible refine gate_builtin (b := .append) (xs := #[.tmp 32, .tmp 38]) rfl ?_); at_builtin; refine Kd.R_append (Kd.int .i64) (w0 := w) w.heap.size rfl (.tmp 32) (.tmp 38) 72 2 (.int .i64 0) 8 rfl Try.underlying72 info2 rfl (by decide) (by omega) u9 x9_1 (wrap64 (IntKind.u64.wrap (t519 + (rd t513 x28_1)))) [.int .i64 (wrap64 (IntKind.u64.wrap (t519 + (rd t513 x28_1))))] (fun _ => True) (fun _ => False) rfl rfl ?aP (fun _ hk => hk.elim) ?aF ?aO ?aB ?aS ?aL ?_; (case aP => exact rfl); (case aB => exact (by repeat (first | (with_reducible first | exact HB.out | apply below_alloc | apply pw_below_drewN | apply below_drew1) | exact HB.out))); (case aF => exact (fun _ _ => trivial)); (case aO => exact (by (with_reducible repeat (first | apply Kd.R_alloc | apply Kd.R_drewN | apply Kd.R_drew)); exact HO_9.out)); (case aS => exact (below_size (by repeat (first | (with_reducible first | exact HB.out | apply below_alloc | apply pw_below_drewN | apply below_drew1) | exact HB.out)))); (case aL => have := LMc14.out; omega); intro v521 w15 ho hb hg hat; rw [← Ny520.out] at ho; have n0_ := Aside0.mk (Kd.R_over' (by (with_reducible repeat (first | apply Kd.R_alloc | apply Kd.R_drewN | apply Kd.R_drew)); exact HO_26.out) (Kd.R_typed (by (with_reducible repeat (first | apply Kd.R_alloc | apply Kd.R_drewN | apply Kd.R_drew)); exact HO_9.out)) (by decide) hg); have n1_ := Aside0.mk (hb); have n2_ := Aside0.mk (ho); clear HO_26; clear HB; clear HO_9; have HO_26 := n0_; have HB := n1_; have HO522 := n2_; clear n0_ n1_ n2_; clear ho hb hg hat))
                    go_roundg k1
                    case measure => have := HK1.out; omega
                    case rel => exact ⟨(y520), (wrap64 (x28_1 + 1)), (by first | rfl | (simp; done) | (simp [*]; done)), H', ⟨by have := HK1.out; omega⟩, ⟨by (with_reducible repeat (first | apply Kd.R_alloc | apply Kd.R_drewN | apply Kd.R_drew)); exact HO522.out⟩, ⟨by (with_reducible repeat (first | apply Kd.R_alloc | apply Kd.R_drewN | apply Kd.R_drew)); exact HO_26.out⟩, ⟨by repeat (first | (with_reducible first | exact HB.out | apply below_alloc | apply pw_below_drewN | apply below_drew1) | exact HB.out)⟩⟩
                  · rw [if_neg c14] at H
                    exact absurd H (by simp)
                · rw [if_neg c12] at H
                  exact absurd H (by simp)
              · rw [if_neg c11] at H
                exact absurd H (by simp)
            · rw [if_neg c10] at H
              have c10b0 : decide (x28_1 < (t513.length : Int)) = false := decide_eq_false c10
              clear c10
              simp only [Option.some.injEq, Prod.mk.injEq] at H
              obtain ⟨rfl, rfl⟩ := H
              go_wp2
              go_ret2
              exact ⟨_, by first | rfl | (simp [errW_none, errW_some] <;> rfl) | (simp [*, errW_none, errW_some] <;> rfl), by (with_reducible repeat (first | apply Kd.R_alloc | apply Kd.R_drewN | apply Kd.R_drew)); exact HO_9.out, by repeat (first | (with_reducible first | exact HB.out | apply below_alloc | apply pw_below_drewN | apply below_drew1) | exact HB.out)⟩
      · rw [if_neg c6] at H
        have c6b0 : (t515 == 0) = false := beq_eq_false_iff_ne.mpr c6
        have c6b1 : (t515 != 0) = true := bne_iff_ne.mpr c6
        simp only [Option.some.injEq, Prod.mk.injEq] at H
        obtain ⟨rfl, rfl⟩ := H
        obtain ⟨i016, hi016, _, hsz16, _⟩ := info_parts info5
        obtain ⟨A16, hcut16, hA16, hC16⟩ := print_drop_of (P := Try.prog) (Value.int .u8) 0 22 5 .i64 Try.underlying22 hi016 hsz16 A0 c0 l0 8 (by omega) (of_decide_eq_true (by first | (with_reducible assumption) | assumption)) HC0.out
        have HR512 := Aside0.mk (Kd.C_of_reads (h1 := fun _ => rfl) (hA16 _ (Kd.reads_of_C HR0.out)))
        have HC512 := Aside0.mk hC16
        clear hA16 hC16 hi016 hsz16
        obtain ⟨yq16, hyq16⟩ : ∃ y_ : List Int, y_ = l0.drop (8 : Int).toNat := ⟨_, rfl⟩
        rw [← hyq16] at hcut16 HR512 HC512
        have eyq16 : (l0.drop 8) = yq16 := hyq16.symm
        (try rw [eyq16] at c6b1)
        (try rw [eyq16] at c6b0)
        (try rw [eyq16] at HC512)
        (try rw [eyq16] at H')
        (try rw [eyq16] at A5)
        (try rw [eyq16] at H)
        (try rw [eyq16] at c4b1)
        (try rw [eyq16] at c4b0)
        (try rw [eyq16] at c3b1)
        (try rw [eyq16] at c3b0)
        (try rw [eyq16] at HC0)
        have Nyq16 := Aside0.mk hyq16
        clear eyq16 hyq16
        go_enter Try.func72, Try.ntmps72
        go_wp2_with (first | ((with_reducible refine gate_callee (f := 44) rfl ?_); refine goesL_ (some 19) rfl rfl Try.func44 (by kernel_rfl) rfl #[.slice A16 yq16.length (c0 - 8), .int .i64 a1] rfl (by (try simp only [List.map_toArray, List.map_cons, List.map_nil]); first | done | (rw [show yq16.length = (l0.length - 8) from List.length_drop] <;> rfl) | rfl | (simp only [List.length_drop, List.length_take]; rfl)) ?_; (with_reducible refine (pack_Get.calls _ _ yq16 a1 t513 t514 t515 _ ?side1 ?side2 A5.out).mono ?_); (case side1 => repeat (first | exact HR512.out | (with_reducible refine Kd.C_alloc ?_ _) | (with_reducible refine Kd.C_drewN ?_ _) | (with_reducible refine Kd.C_drew ?_))); (case side2 => exact HC512.out); rintro e w17 ⟨v516, rfl, ho0, hb⟩; refine ⟨_, rfl, ?_⟩; have n0_ := Aside0.mk (Kd.R_lower ho0 (below_size (by repeat (first | (with_reducible first | exact HB.out | apply below_alloc | apply pw_below_drewN | apply below_drew1) | exact HB.out)))); have n1_ := Aside0.mk (below_step (by repeat (first | (with_reducible first | exact HB.out | apply below_alloc | apply pw_below_drewN | apply below_drew1) | exact HB.out)) hb); clear HB; have HO517 := n0_; have HB := n1_; clear n0_ n1_; (try clear hb); (try clear hb2); (try clear hk); (try clear hi); (try clear ho0)))
        go_ret2
        exact ⟨_, by first | rfl | (simp [errW_none, errW_some] <;> rfl) | (simp [*, errW_none, errW_some] <;> rfl), by first | exact Kd.R_nil _ _ _ _ _ | exact Kd.N_nil _ _ _ _ _ | exact Kd.V_nil _ _ _ _ _ | exact Kd.Q_nil _ _ _ _ _ | exact Kd.S_nil _ _ _ _ _, by repeat (first | (with_reducible first | exact HB.out | apply below_alloc | apply pw_below_drewN | apply below_drew1) | exact HB.out)⟩
    · rw [if_neg c4] at H
      exact absurd H (by simp)

end Go.Proofs.Ytmlbppfcpejlpaa.X

-- Printed by this session's own program (wip/xprint.py) over the translation; its external functions are hand-written. Lean checks it.
namespace Go.Proofs.Ytmlbppfcpejlpaa.X
open Go.RowKit Go.Proofs.YtmlbppfcpejlpaaW.PrintWords Go.Proofs.YtmlbppfcpejlpaaW.PrintLast Go.Proofs.YtmlbppfcpejlpaaW.PrintMore
attribute [local go_sem] max2_int min2_int max_two min_two max_three min_three max_four min_four   -- for this text's walks alone
set_option linter.unusedVariables false
set_option linter.unusedSimpArgs false

/-! ### times_getRaw: function 69 -/
def times_getRaw.l0 : Nat → List Int → List Int → Int → Int → Option (List Int × Int)
  | 0, _, _, _, _ => none
  | k + 1, x0, x6, x13, x14 => if x14 < x13 then (if 0 ≤ (wrap64 (8 * x14)) then (if (wrap64 (8 * x14)) ≤ (x0.length : Int) then ((times_number.f k (x0.drop ((wrap64 (8 * x14)) : Int).toNat)).bind fun t472 => (if x6.length < 17592186044416 then (times_getRaw.l0 k x0 (x6 ++ [wrap64 (t472)]) x13 (wrap64 (x14 + 1))) else (none))) else (none)) else (none)) else (some (x6, 0))
def times_getRaw.f (k : Nat) (l0 : List Int) (a1 : Int) : Option (List Int × Int) := if (l0.length : Int) < (wrap64 (8 * a1)) then (some (([] : List Int), 4)) else (times_getRaw.l0 k l0 ([] : List Int) a1 0)
theorem times_getRaw.mono_l : ∀ k, (∀ y0 y1 y2 y3, LeO (times_getRaw.l0 k y0 y1 y2 y3) (times_getRaw.l0 (k + 1) y0 y1 y2 y3))
  | 0 => fun _ _ _ _ r h => by simp [times_getRaw.l0] at h
  | k + 1 => by
    have ih0 := times_getRaw.mono_l k
    · intro y0 y1 y2 y3
      unfold times_getRaw.l0
      repeat' first
      | (with_reducible exact ih0 _ _ _ _)
      | (with_reducible exact times_number.mono _ _)
      | (with_reducible exact LeO.refl _)
      | (with_reducible exact LeO.none _)
      | (with_reducible refine LeO.ite ?_ ?_)
      | (with_reducible refine LeO.bind ?_ (fun _ => ?_))
      | exact ih0 _ _ _ _
      | exact times_number.mono _ _
      | exact LeO.none _
      | refine LeO.ite ?_ ?_
      | refine LeO.bind ?_ (fun _ => ?_)
theorem times_getRaw.mono : ∀ a0 a1 k, LeO (times_getRaw.f k a0 a1) (times_getRaw.f (k + 1) a0 a1) := by
  intro a0 a1 k
  have ih0 := times_getRaw.mono_l k
  unfold times_getRaw.f
  repeat' first
      | (with_reducible exact ih0 _ _ _ _)
      | (with_reducible exact times_number.mono _ _)
      | (with_reducible exact LeO.refl _)
      | (with_reducible exact LeO.none _)
      | (with_reducible refine LeO.ite ?_ ?_)
      | (with_reducible refine LeO.bind ?_ (fun _ => ?_))
      | exact ih0 _ _ _ _
      | exact times_number.mono _ _
      | exact LeO.none _
      | refine LeO.ite ?_ ?_
      | refine LeO.bind ?_ (fun _ => ?_)
set_option maxHeartbeats 8000000 in
set_option maxRecDepth 100000 in
theorem times_getRaw.calls (k : Nat) (A0 : Option Addr) (c0 : Nat) (l0 : List Int) (a1 : Int) (r1 : List Int) (r2 : Int) (w : World) (hr0 : Kd.C (Kd.int .u8) w A0 l0.length l0) (hc0 : l0.length ≤ c0) (h : times_getRaw.f k l0 a1 = some (r1, r2)) :
    Calls Try.prog 69 #[.slice A0 l0.length c0, .int .i64 a1] w fun e w' => ∃ v0_ : Value, e = .returned (.tuple #[v0_, .int .i64 r2]) ∧ Kd.R (Kd.int .i64) 2 w' w.heap.size (fun _ => True) v0_ r1 ∧ Below w.heap.size w w' := by
  have HR0 := Aside0.mk hr0
  have HC0 := Aside0.mk hc0
  clear hr0 hc0
  have HB := Aside0.mk (Below.refl w.heap.size w)
  have H : (if (l0.length : Int) < (wrap64 (8 * a1)) then (some (([] : List Int), 4)) else (times_getRaw.l0 k l0 ([] : List Int) a1 0)) = some (r1, r2) := h
  clear h
  by_cases c3 : (l0.length : Int) < (wrap64 (8 * a1))
  · rw [if_pos c3] at H
    have c3b0 : decide ((l0.length : Int) < (wrap64 (8 * a1))) = true := decide_eq_true c3
    clear c3
    simp only [Option.some.injEq, Prod.mk.injEq] at H
    obtain ⟨rfl, rfl⟩ := H
    go_enter Try.func69, Try.ntmps69
    go_wp2
    go_ret2
    exact ⟨_, by first | rfl | (simp [errW_none, errW_some] <;> rfl) | (simp [*, errW_none, errW_some] <;> rfl), by first | exact Kd.R_nil _ _ _ _ _ | exact Kd.N_nil _ _ _ _ _ | exact Kd.V_nil _ _ _ _ _ | exact Kd.Q_nil _ _ _ _ _ | exact Kd.S_nil _ _ _ _ _, by repeat (first | (with_reducible first | exact HB.out | apply below_alloc | apply pw_below_drewN | apply below_drew1) | exact HB.out)⟩
  · rw [if_neg c3] at H
    have c3b0 : decide ((l0.length : Int) < (wrap64 (8 * a1))) = false := decide_eq_false c3
    clear c3
    have H' := Aside0.mk H
    clear H
    go_enter Try.func69, Try.ntmps69
    go_wp2
    go_loopg [6, 14] k (fun kq v6 v14 w' => ∃ (x6_1 : List Int) (x14_1 : Int), v14 = .int .i64 x14_1 ∧ Aside0 (times_getRaw.l0 kq l0 x6_1 a1 x14_1 = some (r1, r2)) ∧ Aside0 (kq ≤ k) ∧ Aside0 (Kd.R (Kd.int .i64) 2 w' w.heap.size (fun _ => True) v6 x6_1) ∧ Aside0 (Below w.heap.size w w'))
    case atStart => exact ⟨(([] : List Int)), (0), (by first | rfl | (simp; done) | (simp [*]; done)), H', ⟨Nat.le_refl _⟩, ⟨by first | exact Kd.R_nil _ _ _ _ _ | exact Kd.N_nil _ _ _ _ _ | exact Kd.V_nil _ _ _ _ _ | exact Kd.Q_nil _ _ _ _ _ | exact Kd.S_nil _ _ _ _ _⟩, ⟨by repeat (first | (with_reducible first | exact HB.out | apply below_alloc | apply pw_below_drewN | apply below_drew1) | exact HB.out)⟩⟩
    case round =>
      clear H'
      try clear p2
      try clear c3
      try clear c3b0
      obtain ⟨x6_1, x14_1, rfl, HA, HK1, HO_6, HB⟩ := hrel
      cases gk with
      | zero => exact absurd HA.out (by simp [times_getRaw.l0])
      | succ k1 =>
        have H := HA.out
        clear HA
        simp only [times_getRaw.l0] at H
        by_cases c4 : x14_1 < a1
        · rw [if_pos c4] at H
          have c4b0 : decide (x14_1 < a1) = true := decide_eq_true c4
          clear c4
          obtain ⟨ji5, hji5⟩ : ∃ j_ : Int, (wrap64 (8 * x14_1)) = j_ := ⟨_, rfl⟩
          replace H : (if 0 ≤ (ji5) then (if (ji5) ≤ (l0.length : Int) then ((times_number.f k1 (l0.drop ((ji5) : Int).toNat)).bind fun t472 => (if x6_1.length < 17592186044416 then (times_getRaw.l0 k1 l0 (x6_1 ++ [wrap64 (t472)]) a1 (wrap64 (x14_1 + 1))) else (none))) else (none)) else (none)) = some (r1, r2) := by first | (rw [hji5] at H; exact H) | (simp only [hji5] at H ⊢; exact H)
          have hji5w : (IntKind.i64.wrap (8 * x14_1)) = ji5 := (i64_w _).trans hji5
          by_cases c6 : 0 ≤ (ji5)
          · rw [if_pos c6] at H
            have c6b0 := eq_true c6
            have c6b1 : decide (0 ≤ (ji5)) = true := decide_eq_true c6
            clear c6
            by_cases c7 : (ji5) ≤ (l0.length : Int)
            · rw [if_pos c7] at H
              have c7b0 := eq_true c7
              have c7b1 : decide ((ji5) ≤ (l0.length : Int)) = true := decide_eq_true c7
              clear c7
              replace H := Option.bind_eq_some_iff.mp H
              obtain ⟨t472, A80, H⟩ := H
              replace H : (if x6_1.length < 17592186044416 then (times_getRaw.l0 k1 l0 (x6_1 ++ [wrap64 (t472)]) a1 (wrap64 (x14_1 + 1))) else (none)) = some (r1, r2) := H
              have A8 := Aside0.mk A80
              clear A80
              by_cases c9 : x6_1.length < 17592186044416
              · rw [if_pos c9] at H
                have LMc9 := Aside0.mk c9
                clear c9
                obtain ⟨y473, hy473⟩ : ∃ y_ : List Int, y_ = (x6_1 ++ [wrap64 (t472)]) := ⟨_, rfl⟩
                replace H : (times_getRaw.l0 k1 l0 y473 a1 (wrap64 (x14_1 + 1))) = some (r1, r2) := by first | (rw [hy473]; with_reducible exact H) | (have H2_ := (Option.bind_some _ _).symm.trans H; rw [hy473]; with_reducible exact H2_) | (have H2_ := (Option.bind_some _ _).symm.trans H; with_reducible exact H2_) | with_reducible exact H | (rw [hy473]; exact H) | exact H
                have Ny473 := Aside0.mk hy473
                clear hy473
                have H' := Aside0.mk H
                clear H
                obtain ⟨i010, hi010, _, hsz10, _⟩ := info_parts info5
                obtain ⟨A10, hcut10, hA10, hC10⟩ := print_drop_of (P := Try.prog) (Value.int .u8) 0 22 5 .i64 Try.underlying22 hi010 hsz10 A0 c0 l0 (ji5) (of_decide_eq_true (by first | (with_reducible assumption) | assumption)) (of_decide_eq_true (by first | (with_reducible assumption) | assumption)) HC0.out
                have HR471 := Aside0.mk (Kd.C_of_reads (h1 := fun _ => rfl) (hA10 _ (Kd.reads_of_C HR0.out)))
                have HC471 := Aside0.mk hC10
                clear hA10 hC10 hi010 hsz10
                go_wp2_with (first | ((with_reducible refine gate_callee (f := 77) rfl ?_); refine goesL_ (some 22) rfl rfl Try.func77 (by kernel_rfl) rfl #[.slice A10 (l0.drop ((ji5) : Int).toNat).length (c0 - (ji5).toNat)] rfl (by (try simp only [List.map_toArray, List.map_cons, List.map_nil]); first | done | (rw [show (l0.drop ((ji5) : Int).toNat).length = (l0.length - (ji5).toNat) from List.length_drop] <;> rfl) | (simp only [hji5]; rfl) | rfl | (simp only [List.length_drop, List.length_take]; rfl)) ?_; (with_reducible refine (times_number.calls k1 _ _ (l0.drop ((ji5) : Int).toNat) t472 _ ?side1 ?side2 A8.out).mono ?_); (case side1 => repeat (first | exact (Kd.C_below HR471.out HB.out) | (with_reducible refine Kd.C_alloc ?_ _) | (with_reducible refine Kd.C_drewN ?_ _) | (with_reducible refine Kd.C_drew ?_))); (case side2 => exact HC471.out); rintro e w' ⟨rfl, ⟨nd, rfl⟩⟩; refine ⟨_, rfl, ?_⟩) | ((with_reducible refine gate_builtin (b := .append) (xs := #[.tmp 17, .tmp 24]) rfl ?_); at_builtin; refine Kd.R_append (Kd.int .i64) (w0 := w) w.heap.size rfl (.tmp 17) (.tmp 24) 72 2 (.int .i64 0) 8 rfl Try.underlying72 info2 rfl (by decide) (by omega) u6 x6_1 (wrap64 (t472)) [.int .i64 (wrap64 (t472))] (fun _ => True) (fun _ => False) rfl rfl ?aP (fun _ hk => hk.elim) ?aF ?aO ?aB ?aS ?aL ?_; (case aP => exact rfl); (case aB => exact (by repeat (first | (with_reducible first | exact HB.out | apply below_alloc | apply pw_below_drewN | apply below_drew1) | exact HB.out))); (case aF => exact (fun _ _ => trivial)); (case aO => exact (by (with_reducible repeat (first | apply Kd.R_alloc | apply Kd.R_drewN | apply Kd.R_drew)); exact HO_6.out)); (case aS => exact (below_size (by repeat (first | (with_reducible first | exact HB.out | apply below_alloc | apply pw_below_drewN | apply below_drew1) | exact HB.out)))); (case aL => have := LMc9.out; omega); intro v474 w11 ho hb hg hat; rw [← Ny473.out] at ho; have n0_ := Aside0.mk (hb); have n1_ := Aside0.mk (ho); clear HB; clear HO_6; have HB := n0_; have HO475 := n1_; clear n0_ n1_; clear ho hb hg hat))
                go_roundg k1
                case measure => have := HK1.out; omega
                case rel => exact ⟨(y473), (wrap64 (x14_1 + 1)), (by first | rfl | (simp; done) | (simp [*]; done)), H', ⟨by have := HK1.out; omega⟩, ⟨by (with_reducible repeat (first | apply Kd.R_alloc | apply Kd.R_drewN | apply Kd.R_drew)); exact HO475.out⟩, ⟨by repeat (first | (with_reducible first | exact HB.out | apply below_alloc | apply pw_below_drewN | apply below_drew1) | exact HB.out)⟩⟩
              · rw [if_neg c9] at H
                exact absurd H (by simp)
            · rw [if_neg c7] at H
              exact absurd H (by simp)
          · rw [if_neg c6] at H
            exact absurd H (by simp)
        · rw [if_neg c4] at H
          have c4b0 : decide (x14_1 < a1) = false := decide_eq_false c4
          clear c4
          simp only [Option.some.injEq, Prod.mk.injEq] at H
          obtain ⟨rfl, rfl⟩ := H
          go_wp2
          go_ret2
          exact ⟨_, by first | rfl | (simp [errW_none, errW_some] <;> rfl) | (simp [*, errW_none, errW_some] <;> rfl), by (with_reducible repeat (first | apply Kd.R_alloc | apply Kd.R_drewN | apply Kd.R_drew)); exact HO_6.out, by repeat (first | (with_reducible first | exact HB.out | apply below_alloc | apply pw_below_drewN | apply below_drew1) | exact HB.out)⟩

end Go.Proofs.Ytmlbppfcpejlpaa.X

-- Printed by this session's own program (wip/xprint.py) over the translation; its external functions are hand-written. Lean checks it.
namespace Go.Proofs.Ytmlbppfcpejlpaa.X
open Go.RowKit Go.Proofs.YtmlbppfcpejlpaaW.PrintWords Go.Proofs.YtmlbppfcpejlpaaW.PrintLast Go.Proofs.YtmlbppfcpejlpaaW.PrintMore
attribute [local go_sem] max2_int min2_int max_two min_two max_three min_three max_four min_four   -- for this text's walks alone
set_option linter.unusedVariables false
set_option linter.unusedSimpArgs false

/-! ### times_classes: function 75 -/
def times_classes.f  : Option ((List (S105))) := some (([(⟨2, 2, 7⟩ : S105), (⟨6, 3, 9⟩ : S105), (⟨14, 4, 12⟩ : S105), (⟨15, 4, 64⟩ : S105)] : List (S105)))
set_option maxHeartbeats 8000000 in
set_option maxRecDepth 100000 in
theorem times_classes.calls  (r : List (S105)) (w : World) (h : times_classes.f  = some r) :
    Calls Try.prog 75 #[] w fun e w' => ∃ v0_ : Value, e = .returned (v0_) ∧ Kd.R k105 105 w' w.heap.size (fun _ => True) v0_ r ∧ Below w.heap.size w w' := by
  have hu105 := Try.underlying105
  have HB := Aside0.mk (Below.refl w.heap.size w)
  have H : (some (([(⟨2, 2, 7⟩ : S105), (⟨6, 3, 9⟩ : S105), (⟨14, 4, 12⟩ : S105), (⟨15, 4, 64⟩ : S105)] : List (S105)))) = some r := h
  clear h
  obtain ⟨y424, hy424⟩ : ∃ y_ : List (S105), y_ = (([(⟨2, 2, 7⟩ : S105), (⟨6, 3, 9⟩ : S105), (⟨14, 4, 12⟩ : S105), (⟨15, 4, 64⟩ : S105)] : List (S105))) := ⟨_, rfl⟩
  replace H : (some y424) = some r := by first | (rw [hy424]; with_reducible exact H) | (have H2_ := (Option.bind_some _ _).symm.trans H; rw [hy424]; with_reducible exact H2_) | (have H2_ := (Option.bind_some _ _).symm.trans H; with_reducible exact H2_) | with_reducible exact H | (rw [hy424]; exact H) | exact H
  have Ny424 := Aside0.mk hy424
  clear hy424
  obtain rfl := Option.some.inj H
  go_enter Try.func75, Try.ntmps75
  go_wp2_with (first | ((with_reducible refine gate_dst (N := 5) rfl ?_); refine Kd.R_lit k105 _ 105 ?hg (N := 5) ?hd (xs := ([(⟨2, 2, 7⟩ : S105), (⟨6, 3, 9⟩ : S105), (⟨14, 4, 12⟩ : S105), (⟨15, 4, 64⟩ : S105)] : List (S105))) (inner := [.int .u64 2, .int .i64 2, .int .i64 7, .int .u64 6, .int .i64 3, .int .i64 9, .int .u64 14, .int .i64 4, .int .i64 12, .int .u64 15, .int .i64 4, .int .i64 64]) (ok := fun _ => True) (okp := fun _ => True) ?hr ?hp (fun _ hk => hk) trivial (Below.refl _ _) (Nat.le_refl _) (by simp) ?_; (case hd => rfl); (case hg => rfl); (case hr => first | (go_simp; done) | (go_simp; rfl)); (case hp => exact (Reps.c3 (show Kd.M k105 _ _ _ (⟨2, 2, 7⟩ : S105) [.int .u64 2, .int .i64 2, .int .i64 7] from (k105_mkM _ _ _ (⟨2, 2, 7⟩ : S105) )) (Reps.c3 (show Kd.M k105 _ _ _ (⟨6, 3, 9⟩ : S105) [.int .u64 6, .int .i64 3, .int .i64 9] from (k105_mkM _ _ _ (⟨6, 3, 9⟩ : S105) )) (Reps.c3 (show Kd.M k105 _ _ _ (⟨14, 4, 12⟩ : S105) [.int .u64 14, .int .i64 4, .int .i64 12] from (k105_mkM _ _ _ (⟨14, 4, 12⟩ : S105) )) (Reps.c3 (show Kd.M k105 _ _ _ (⟨15, 4, 64⟩ : S105) [.int .u64 15, .int .i64 4, .int .i64 64] from (k105_mkM _ _ _ (⟨15, 4, 64⟩ : S105) )) (Reps.none _ _)))))); intro v425 w1 ho2 hb hg_ hnew_; clear hg_ hnew_; (first | rw [← Ny424.out] at ho2 | (simp only [Int.reduceToNat] at ho2; rw [← Ny424.out] at ho2)); have n0_ := Aside0.mk (Kd.R_lower ho2 (below_size (by repeat (first | (with_reducible first | exact HB.out | apply below_alloc | apply pw_below_drewN | apply below_drew1) | exact HB.out)))); have n1_ := Aside0.mk (below_step (by repeat (first | (with_reducible first | exact HB.out | apply below_alloc | apply pw_below_drewN | apply below_drew1) | exact HB.out)) hb); clear HB; have HO426 := n0_; have HB := n1_; clear n0_ n1_; clear hb ho2))
  go_ret
  exact ⟨_, by first | rfl | (simp [errW_none, errW_some] <;> rfl) | (simp [*, errW_none, errW_some] <;> rfl), by (with_reducible repeat (first | apply Kd.R_alloc | apply Kd.R_drewN | apply Kd.R_drew)); exact HO426.out, by repeat (first | (with_reducible first | exact HB.out | apply below_alloc | apply pw_below_drewN | apply below_drew1) | exact HB.out)⟩

end Go.Proofs.Ytmlbppfcpejlpaa.X

-- Printed by this session's own program (wip/xprint.py) over the translation; its external functions are hand-written. Lean checks it.
namespace Go.Proofs.Ytmlbppfcpejlpaa.X
open Go.RowKit Go.Proofs.YtmlbppfcpejlpaaW.PrintWords Go.Proofs.YtmlbppfcpejlpaaW.PrintLast Go.Proofs.YtmlbppfcpejlpaaW.PrintMore
attribute [local go_sem] max2_int min2_int max_two min_two max_three min_three max_four min_four   -- for this text's walks alone
set_option linter.unusedVariables false
set_option linter.unusedSimpArgs false

/-! ### times_difference: function 78 -/
def times_difference.l0 : Nat → Int → List (S105) → Int → Int → List Int → Int → Bool → Option (Int × Int × Bool)
  | 0, _, _, _, _, _, _, _ => none
  | k + 1, x3, x10, x11, x12, x1000, x1001, x1002 => if x12 < x11 then (if 0 ≤ x12 then (if x12 < (x10.length : Int) then (if ((rd_T105 x10 x12).f2) = 64 then ((bits_Reader_Take.f k x1000 x1001 x1002 ((rd_T105 x10 x12).f2)).bind fun bt500 => (if 0 ≤ (wrap64 (64 - ((rd_T105 x10 x12).f2))) then (some (shr .i64 (wrap64 (shl .u64 bt500.1 (wrap64 (64 - ((rd_T105 x10 x12).f2))))) (wrap64 (64 - ((rd_T105 x10 x12).f2))), bt500.2.1, bt500.2.2)) else (none))) else ((bits_Reader_Take.f k x1000 x1001 x1002 1).bind fun bt503 => (if bt503.1 = 0 then ((bits_Reader_Take.f k x1000 bt503.2.1 bt503.2.2 ((rd_T105 x10 x12).f2)).bind fun bt506 => (if 0 ≤ (wrap64 (64 - ((rd_T105 x10 x12).f2))) then (some (shr .i64 (wrap64 (shl .u64 bt506.1 (wrap64 (64 - ((rd_T105 x10 x12).f2))))) (wrap64 (64 - ((rd_T105 x10 x12).f2))), bt506.2.1, bt506.2.2)) else (none))) else (times_difference.l0 k x3 x10 x11 (wrap64 (x12 + 1)) x1000 bt503.2.1 bt503.2.2)))) else (none)) else (none)) else ((bits_Reader_Take.f k x1000 x1001 x1002 x3).bind fun bt509 => (if 0 ≤ (wrap64 (64 - x3)) then (some (shr .i64 (wrap64 (shl .u64 bt509.1 (wrap64 (64 - x3)))) (wrap64 (64 - x3)), bt509.2.1, bt509.2.2)) else (none)))
def times_difference.f (k : Nat) (s0_0 : List Int) (s0_1 : Int) (s0_2 : Bool) : Option (Int × Int × Bool) := (bits_Reader_Take.f k s0_0 s0_1 s0_2 1).bind fun bt492 => (if bt492.1 = 0 then (some (0, bt492.2.1, bt492.2.2)) else ((times_classes.f).bind fun t495 => (times_difference.l0 k 64 t495 (t495.length : Int) 0 s0_0 bt492.2.1 bt492.2.2)))
theorem times_difference.mono_l : ∀ k, (∀ y0 y1 y2 y3 y4 y5 y6, LeO (times_difference.l0 k y0 y1 y2 y3 y4 y5 y6) (times_difference.l0 (k + 1) y0 y1 y2 y3 y4 y5 y6))
  | 0 => fun _ _ _ _ _ _ _ r h => by simp [times_difference.l0] at h
  | k + 1 => by
    have ih0 := times_difference.mono_l k
    · intro y0 y1 y2 y3 y4 y5 y6
      unfold times_difference.l0
      repeat' first
      | (with_reducible exact ih0 _ _ _ _ _ _ _)
      | (with_reducible exact bits_Reader_Take.mono _ _ _ _ _)
      | (with_reducible exact LeO.refl _)
      | (with_reducible exact LeO.none _)
      | (with_reducible refine LeO.ite ?_ ?_)
      | (with_reducible refine LeO.bind ?_ (fun _ => ?_))
      | exact ih0 _ _ _ _ _ _ _
      | exact bits_Reader_Take.mono _ _ _ _ _
      | exact LeO.none _
      | refine LeO.ite ?_ ?_
      | refine LeO.bind ?_ (fun _ => ?_)
theorem times_difference.mono : ∀ a0 a1 a2 k, LeO (times_difference.f k a0 a1 a2) (times_difference.f (k + 1) a0 a1 a2) := by
  intro a0 a1 a2 k
  have ih0 := times_difference.mono_l k
  unfold times_difference.f
  repeat' first
      | (with_reducible exact ih0 _ _ _ _ _ _ _)
      | (with_reducible exact bits_Reader_Take.mono _ _ _ _ _)
      | (with_reducible exact LeO.refl _)
      | (with_reducible exact LeO.none _)
      | (with_reducible refine LeO.ite ?_ ?_)
      | (with_reducible refine LeO.bind ?_ (fun _ => ?_))
      | exact ih0 _ _ _ _ _ _ _
      | exact bits_Reader_Take.mono _ _ _ _ _
      | exact LeO.none _
      | refine LeO.ite ?_ ?_
      | refine LeO.bind ?_ (fun _ => ?_)
set_option maxHeartbeats 8000000 in
set_option maxRecDepth 100000 in
theorem times_difference.calls (k : Nat) (g : Nat) (s0_0 : List Int) (s0_1 : Int) (s0_2 : Bool) (r1 : Int) (r2 : Int) (r3 : Bool) (w0 w : World) (hI : IsS81 w0 w g s0_0 s0_1 s0_2) (hB : Below w0.heap.size w0 w) (h : times_difference.f k s0_0 s0_1 s0_2 = some (r1, r2, r3)) :
    Calls Try.prog 78 #[.pointer (some ⟨g, 0, none⟩)] w fun e w' => e = .returned (.int .i64 r1) ∧ IsS81 w0 w' g s0_0 r2 r3 ∧ Below w0.heap.size w0 w' ∧ KeepBut w w' g none := by
  have hu105 := Try.underlying105
  have HI0 := Aside0.mk hI
  have HK := Aside0.mk (KeepBut.refl w g none)
  have HL := Aside0.mk hB.size
  clear hI
  have HW0 := Aside0.mk hB.size
  have HB := Aside0.mk hB
  clear hB
  have H : ((bits_Reader_Take.f k s0_0 s0_1 s0_2 1).bind fun bt492 => (if bt492.1 = 0 then (some (0, bt492.2.1, bt492.2.2)) else ((times_classes.f).bind fun t495 => (times_difference.l0 k 64 t495 (t495.length : Int) 0 s0_0 bt492.2.1 bt492.2.2)))) = some (r1, r2, r3) := h
  clear h
  replace H := Option.bind_eq_some_iff.mp H
  obtain ⟨⟨t492, t493, t494⟩, A20, H⟩ := H
  replace H : (if t492 = 0 then (some (0, t493, t494)) else ((times_classes.f).bind fun t495 => (times_difference.l0 k 64 t495 (t495.length : Int) 0 s0_0 t493 t494))) = some (r1, r2, r3) := H
  have A2 := Aside0.mk A20
  clear A20
  by_cases c3 : t492 = 0
  · rw [if_pos c3] at H
    have c3b0 : (t492 == 0) = true := beq_iff_eq.mpr c3
    have c3b1 : (t492 != 0) = false := bne_eq_false_iff_eq.mpr c3
    clear c3
    simp only [Option.some.injEq, Prod.mk.injEq] at H
    obtain ⟨rfl, rfl, rfl⟩ := H
    go_enter Try.func78, Try.ntmps78
    go_wp2_with (first | ((with_reducible refine gate_callee (f := 28) rfl ?_); refine goesL_ (some 8) rfl rfl Try.func28 (by kernel_rfl) rfl #[.pointer (some ⟨g, 0, none⟩), .int .i64 1] rfl (by (try simp only [List.map_toArray, List.map_cons, List.map_nil]); first | done | rfl | (simp only [List.length_drop, List.length_take]; rfl)) ?_; (with_reducible refine (bits_Reader_Take.calls k g s0_0 s0_1 s0_2 1 t492 t493 t494 w0 _ ?side1 ?side2 A2.out).mono ?_); (case side1 => repeat (first | (with_reducible first | exact HI0.out | apply IsS81.alloc | apply IsS81.drewN | apply IsS81.drew | apply IsS81.set_1 | apply IsS81.set_2) | exact HI0.out)); (case side2 => repeat (first | (with_reducible first | exact HB.out | apply below_alloc | apply pw_below_drewN | apply below_drew1 | refine below_set ?_ (IsS81.ge HI0.out)) | exact HB.out)); rintro e w4 ⟨rfl, hi, hb, hk⟩; refine ⟨_, rfl, ?_⟩; have n0_ := Aside0.mk (KeepBut.trans (by repeat (first | (with_reducible first | exact HK.out | apply KeepBut.set_ | apply keep_drewN | apply keep_drew | apply keep_alloc) | exact HK.out)) hk (.inl rfl)); have n1_ := Aside0.mk (hb); have n2_ := Aside0.mk (hi); clear HK; clear HB; clear HI0; have HK := n0_; have HB := n1_; have HI0 := n2_; clear n0_ n1_ n2_; (try clear hb); (try clear hb2); (try clear hk); (try clear hi)))
    go_ret
    exact ⟨by first | rfl | (simp [errW_none, errW_some] <;> rfl) | (simp [*, errW_none, errW_some] <;> rfl), by repeat (first | (with_reducible first | exact HI0.out | apply IsS81.alloc | apply IsS81.drewN | apply IsS81.drew | apply IsS81.set_1 | apply IsS81.set_2) | exact HI0.out), by repeat (first | (with_reducible first | exact HB.out | apply below_alloc | apply pw_below_drewN | apply below_drew1 | refine below_set ?_ (IsS81.ge HI0.out)) | exact HB.out), by repeat (first | (with_reducible first | exact HK.out | apply KeepBut.set_ | apply keep_drewN | apply keep_drew | apply keep_alloc) | exact HK.out)⟩
  · rw [if_neg c3] at H
    have c3b0 : (t492 == 0) = false := beq_eq_false_iff_ne.mpr c3
    have c3b1 : (t492 != 0) = true := bne_iff_ne.mpr c3
    replace H := Option.bind_eq_some_iff.mp H
    obtain ⟨t495, A50, H⟩ := H
    replace H : (times_difference.l0 k 64 t495 (t495.length : Int) 0 s0_0 t493 t494) = some (r1, r2, r3) := H
    have A5 := Aside0.mk A50
    clear A50
    have H' := Aside0.mk H
    clear H
    go_enter Try.func78, Try.ntmps78
    go_wp2_with (first | ((with_reducible refine gate_callee (f := 28) rfl ?_); refine goesL_ (some 8) rfl rfl Try.func28 (by kernel_rfl) rfl #[.pointer (some ⟨g, 0, none⟩), .int .i64 1] rfl (by (try simp only [List.map_toArray, List.map_cons, List.map_nil]); first | done | rfl | (simp only [List.length_drop, List.length_take]; rfl)) ?_; (with_reducible refine (bits_Reader_Take.calls k g s0_0 s0_1 s0_2 1 t492 t493 t494 w0 _ ?side1 ?side2 A2.out).mono ?_); (case side1 => repeat (first | (with_reducible first | exact HI0.out | apply IsS81.alloc | apply IsS81.drewN | apply IsS81.drew | apply IsS81.set_1 | apply IsS81.set_2) | exact HI0.out)); (case side2 => repeat (first | (with_reducible first | exact HB.out | apply below_alloc | apply pw_below_drewN | apply below_drew1 | refine below_set ?_ (IsS81.ge HI0.out)) | exact HB.out)); rintro e w6 ⟨rfl, hi, hb, hk⟩; refine ⟨_, rfl, ?_⟩; have n0_ := Aside0.mk (KeepBut.trans (by repeat (first | (with_reducible first | exact HK.out | apply KeepBut.set_ | apply keep_drewN | apply keep_drew | apply keep_alloc) | exact HK.out)) hk (.inl rfl)); have n1_ := Aside0.mk (hb); have n2_ := Aside0.mk (hi); clear HK; clear HB; clear HI0; have HK := n0_; have HB := n1_; have HI0 := n2_; clear n0_ n1_ n2_; (try clear hb); (try clear hb2); (try clear hk); (try clear hi)) | ((with_reducible refine gate_callee (f := 75) rfl ?_); refine goesL_ (some 10) rfl rfl Try.func75 (by kernel_rfl) rfl #[] rfl (by (try simp only [List.map_toArray, List.map_cons, List.map_nil]); first | done | rfl | (simp only [List.length_drop, List.length_take]; rfl)) ?_; (with_reducible refine (times_classes.calls  t495 _ A5.out).mono ?_); rintro e w7 ⟨v496, rfl, ho0, hb⟩; refine ⟨_, rfl, ?_⟩; have n0_ := Aside0.mk (Kd.R_lower ho0 (keep_size (w := w) (g := g) (row := none) (by repeat (first | (with_reducible first | exact HK.out | apply KeepBut.set_ | apply keep_drewN | apply keep_drew | apply keep_alloc) | exact HK.out)))); have n1_ := Aside0.mk (IsS81.below (by repeat (first | (with_reducible first | exact HI0.out | apply IsS81.alloc | apply IsS81.drewN | apply IsS81.drew | apply IsS81.set_1 | apply IsS81.set_2) | exact HI0.out)) hb); have n2_ := Aside0.mk (KeepBut.trans (by repeat (first | (with_reducible first | exact HK.out | apply KeepBut.set_ | apply keep_drewN | apply keep_drew | apply keep_alloc) | exact HK.out)) (KeepBut.of_below hb g none) (.inl rfl)); have n3_ := Aside0.mk (below_step (by repeat (first | (with_reducible first | exact HB.out | apply below_alloc | apply pw_below_drewN | apply below_drew1 | refine below_set ?_ (IsS81.ge HI0.out)) | exact HB.out)) hb); clear HI0; clear HK; clear HB; have HO497 := n0_; have HI0 := n1_; have HK := n2_; have HB := n3_; clear n0_ n1_ n2_ n3_; (try clear hb); (try clear hb2); (try clear hk); (try clear hi); (try clear ho0); obtain ⟨Ao8, co8, eo8⟩ := Kd.R_slice HO497.out; subst eo8))
    go_loopg [3, 12] k (fun kq v3 v12 w' => ∃ (x3_1 : Int) (x12_1 : Int) (x1001_1 : Int) (x1002_1 : Bool), v3 = .int .i64 x3_1 ∧ v12 = .int .i64 x12_1 ∧ Aside0 (times_difference.l0 kq x3_1 t495 (t495.length : Int) x12_1 s0_0 x1001_1 x1002_1 = some (r1, r2, r3)) ∧ Aside0 (kq ≤ k) ∧ Aside0 (Kd.R k105 105 w' w.heap.size (fun _ => True) (.slice Ao8 t495.length co8) t495) ∧ Aside0 (IsS81 w0 w' g s0_0 x1001_1 x1002_1) ∧ Aside0 (KeepBut w w' g none) ∧ Aside0 (Below w0.heap.size w0 w'))
    case atStart => exact ⟨(64), (0), (t493), (t494), (by first | rfl | (simp; done) | (simp [*]; done)), (by first | rfl | (simp; done) | (simp [*]; done)), H', ⟨Nat.le_refl _⟩, ⟨by (with_reducible repeat (first | apply Kd.R_alloc | apply Kd.R_drewN | apply Kd.R_drew)); exact HO497.out⟩, ⟨by repeat (first | (with_reducible first | exact HI0.out | apply IsS81.alloc | apply IsS81.drewN | apply IsS81.drew | apply IsS81.set_1 | apply IsS81.set_2) | exact HI0.out)⟩, ⟨by repeat (first | (with_reducible first | exact HK.out | apply KeepBut.set_ | apply keep_drewN | apply keep_drew | apply keep_alloc) | exact HK.out)⟩, ⟨by repeat (first | (with_reducible first | exact HB.out | apply below_alloc | apply pw_below_drewN | apply below_drew1 | refine below_set ?_ (IsS81.ge HI0.out)) | exact HB.out)⟩⟩
    case round =>
      clear H'
      try clear c2
      try clear p2
      try clear c3
      try clear c3b0
      try clear c3b1
      try clear c7
      obtain ⟨x3_1, x12_1, x1001_1, x1002_1, rfl, rfl, HA, HK1, HO_10, HI0, HK, HB⟩ := hrel
      cases gk with
      | zero => exact absurd HA.out (by simp [times_difference.l0])
      | succ k1 =>
        have H := HA.out
        clear HA
        simp only [times_difference.l0] at H
        by_cases c9 : x12_1 < (t495.length : Int)
        · rw [if_pos c9] at H
          have c9b0 : decide (x12_1 < (t495.length : Int)) = true := decide_eq_true c9
          clear c9
          by_cases c10 : 0 ≤ x12_1
          · rw [if_pos c10] at H
            have c10b0 : decide (0 ≤ x12_1) = true := decide_eq_true c10
            clear c10
            by_cases c11 : x12_1 < (t495.length : Int)
            · rw [if_pos c11] at H
              have c11b0 : decide (x12_1 < (t495.length : Int)) = true := decide_eq_true c11
              clear c11
              by_cases c12 : ((rd_T105 t495 x12_1).f2) = 64
              · rw [if_pos c12] at H
                have c12b0 : (((rd_T105 t495 x12_1).f2) == 64) = true := beq_iff_eq.mpr c12
                have c12b1 : (((rd_T105 t495 x12_1).f2) != 64) = false := bne_eq_false_iff_eq.mpr c12
                clear c12
                replace H := Option.bind_eq_some_iff.mp H
                obtain ⟨⟨t500, t501, t502⟩, A130, H⟩ := H
                replace H : (if 0 ≤ (wrap64 (64 - ((rd_T105 t495 x12_1).f2))) then (some (shr .i64 (wrap64 (shl .u64 t500 (wrap64 (64 - ((rd_T105 t495 x12_1).f2))))) (wrap64 (64 - ((rd_T105 t495 x12_1).f2))), t501, t502)) else (none)) = some (r1, r2, r3) := H
                have A13 := Aside0.mk A130
                clear A130
                obtain ⟨ji14, hji14⟩ : ∃ j_ : Int, (wrap64 (64 - ((rd_T105 t495 x12_1).f2))) = j_ := ⟨_, rfl⟩
                replace H : (if 0 ≤ (ji14) then (some (shr .i64 (wrap64 (shl .u64 t500 (ji14))) (ji14), t501, t502)) else (none)) = some (r1, r2, r3) := by first | (rw [hji14] at H; exact H) | (simp only [hji14] at H ⊢; exact H)
                (try rw [hji14] at A13)
                have hji14w : (IntKind.i64.wrap (64 - ((rd_T105 t495 x12_1).f2))) = ji14 := (i64_w _).trans hji14
                by_cases c15 : 0 ≤ (ji14)
                · rw [if_pos c15] at H
                  have c15b0 := eq_true c15
                  have c15b1 : decide (0 ≤ (ji14)) = true := decide_eq_true c15
                  clear c15
                  obtain ⟨ji16, hji16⟩ : ∃ j_ : Int, (shl .u64 t500 (ji14)) = j_ := ⟨_, rfl⟩
                  replace H : (some (shr .i64 (wrap64 (ji16)) (ji14), t501, t502)) = some (r1, r2, r3) := by first | (rw [hji16] at H; exact H) | (simp only [hji16] at H ⊢; exact H)
                  (try rw [hji16] at A13)
                  have hji16_ : (IntKind.u64.wrap (t500 * 2 ^ min (ji14).toNat 64)) = ji16 := hji16
                  have hji16z : (ji14) ≤ 64 → (IntKind.u64.wrap (t500 * 2 ^ (ji14).toNat)) = ji16 := shl_small hji16
                  have c17b0 := eq_true (of_decide_eq_true (by first | (with_reducible assumption) | assumption) : 0 ≤ (ji14))
                  obtain ⟨ji18, hji18⟩ : ∃ j_ : Int, (shr .i64 (wrap64 (ji16)) (ji14)) = j_ := ⟨_, rfl⟩
                  replace H : (some (ji18, t501, t502)) = some (r1, r2, r3) := by first | (rw [hji18] at H; exact H) | (simp only [hji18] at H ⊢; exact H)
                  (try rw [hji18] at A13)
                  have hji18_ : ((wrap64 (ji16)) / 2 ^ min (ji14).toNat 64) = ji18 := hji18
                  have hji18z : (ji14) ≤ 64 → ((wrap64 (ji16)) / 2 ^ (ji14).toNat) = ji18 := shr_small hji18
                  simp only [Option.some.injEq, Prod.mk.injEq] at H
                  obtain ⟨rfl, rfl, rfl⟩ := H
                  have p498 : 0 ≤ (x12_1 : Int) := of_decide_eq_true (by first | (with_reducible assumption) | assumption)
                  have q498 : x12_1 < (t495.length : Int) := of_decide_eq_true (by first | (with_reducible assumption) | assumption)
                  obtain ⟨ad498, e498, hx498_0, hx498_1, hx498_2⟩ := at_T105 (Kd.R_reads' HO_10.out).2.2 x12_1 p498 q498
                  cases e498
                  replace p498 := eq_true p498
                  replace q498 := eq_true q498
                  go_wp2_with (first | ((with_reducible refine gate_dst (N := 5) rfl ?_); refine box_event ?hg (N := 5) ?hd (cs := #[.int .u64 0, .int .i64 0, .int .i64 0]) (t := 105) ?hr ?_; (case hd => rfl); (case hg => rfl); (case hr => first | (go_simp; done) | (go_simp; rfl)); intro gb499 hg w19 hbox hb; have n0_ := Aside0.mk (Kd.R_below (Kd.R_elderB (by (with_reducible repeat (first | apply Kd.R_alloc | apply Kd.R_drewN | apply Kd.R_drew)); exact HO_10.out) gb499 (Nat.le_of_eq hg.symm)) hb); have n1_ := Aside0.mk (IsS81.below (by repeat (first | (with_reducible first | exact HI0.out | apply IsS81.alloc | apply IsS81.drewN | apply IsS81.drew | apply IsS81.set_1 | apply IsS81.set_2) | exact HI0.out)) hb); have n2_ := Aside0.mk (KeepBut.trans (by repeat (first | (with_reducible first | exact HK.out | apply KeepBut.set_ | apply keep_drewN | apply keep_drew | apply keep_alloc) | exact HK.out)) (KeepBut.of_below hb g none) (.inl rfl)); have n3_ := Aside0.mk (below_step (by repeat (first | (with_reducible first | exact HB.out | apply below_alloc | apply pw_below_drewN | apply below_drew1 | refine below_set ?_ (IsS81.ge HI0.out)) | exact HB.out)) hb); have n4_ := Aside0.mk (hbox); have n5_ := Aside0.mk ((by rw [hg]; exact (keep_size (w := w) (g := g) (row := none) (by repeat (first | (with_reducible first | exact HK.out | apply KeepBut.set_ | apply keep_drewN | apply keep_drew | apply keep_alloc) | exact HK.out))) : w.heap.size ≤ gb499)); have n6_ := Aside0.mk ((Nat.le_trans HW0.out (by rw [hg]; exact (keep_size (w := w) (g := g) (row := none) (by repeat (first | (with_reducible first | exact HK.out | apply KeepBut.set_ | apply keep_drewN | apply keep_drew | apply keep_alloc) | exact HK.out))) : w.heap.size ≤ gb499) : w0.heap.size ≤ gb499)); have n7_ := Aside0.mk ((by rw [hg]; exact Nat.ne_of_lt (IsS81.lt (show IsS81 w0 _ g s0_0 x1001_1 x1002_1 from by repeat (first | (with_reducible first | exact HI0.out | apply IsS81.alloc | apply IsS81.drewN | apply IsS81.drew | apply IsS81.set_1 | apply IsS81.set_2) | exact HI0.out))) : g ≠ gb499)); have n8_ := Aside0.mk ((by rw [hg]; exact Nat.ne_of_gt (IsS81.lt (show IsS81 w0 _ g s0_0 x1001_1 x1002_1 from by repeat (first | (with_reducible first | exact HI0.out | apply IsS81.alloc | apply IsS81.drewN | apply IsS81.drew | apply IsS81.set_1 | apply IsS81.set_2) | exact HI0.out))) : gb499 ≠ g)); clear HO_10; clear HI0; clear HK; clear HB; have HO_10 := n0_; have HI0 := n1_; have HK := n2_; have HB := n3_; have BK499 := n4_; have GW499 := n5_; have GE499 := n6_; have NB0_499 := n7_; have NB499_0 := n8_; clear n0_ n1_ n2_ n3_ n4_ n5_ n6_ n7_ n8_; clear hb hbox hg; have hnb20 := NB499_0.out; have hnc20 := NB0_499.out; have hcz21_0 : w19.cell? ⟨gb499, 0, none⟩ = some (.int .u64 0) := (blk_cell BK499.out 0).trans rfl; have hcz21_1 : w19.cell? ⟨gb499, 1, none⟩ = some (.int .i64 0) := (blk_cell BK499.out 1).trans rfl; have hcz21_2 : w19.cell? ⟨gb499, 2, none⟩ = some (.int .i64 0) := (blk_cell BK499.out 2).trans rfl; have hfz21_0 := blk_frozen BK499.out 0; have hfz21_1 := blk_frozen BK499.out 1; have hfz21_2 := blk_frozen BK499.out 2) | ((with_reducible refine gate_callee (f := 28) rfl ?_); refine goesL_ (some 29) rfl rfl Try.func28 (by kernel_rfl) rfl #[.pointer (some ⟨g, 0, none⟩), .int .i64 ((rd_T105 t495 x12_1).f2)] rfl (by (try simp only [List.map_toArray, List.map_cons, List.map_nil]); first | done | rfl | (simp only [List.length_drop, List.length_take]; rfl)) ?_; (with_reducible refine (bits_Reader_Take.calls k1 g s0_0 x1001_1 x1002_1 ((rd_T105 t495 x12_1).f2) t500 t501 t502 w0 _ ?side1 ?side2 A13.out).mono ?_); (case side1 => repeat (first | (with_reducible first | exact HI0.out | apply IsS81.alloc | apply IsS81.drewN | apply IsS81.drew | apply IsS81.set_1 | apply IsS81.set_2 | refine IsS81.far ?_ NB0_499.out _) | exact HI0.out)); (case side2 => repeat (first | (with_reducible first | exact HB.out | apply below_alloc | apply pw_below_drewN | apply below_drew1 | refine below_set ?_ (IsS81.ge HI0.out) | refine below_set ?_ GE499.out) | exact HB.out)); rintro e w22 ⟨rfl, hi, hb, hk⟩; refine ⟨_, rfl, ?_⟩; have n0_ := Aside0.mk (Kd.R_mono (Kd.R_keep (IsS81.apart (show IsS81 w0 _ g s0_0 x1001_1 x1002_1 from by repeat (first | (with_reducible first | exact HI0.out | apply IsS81.alloc | apply IsS81.drewN | apply IsS81.drew | apply IsS81.set_1 | apply IsS81.set_2 | refine IsS81.far ?_ NB0_499.out _) | exact HI0.out)) (by (with_reducible repeat (first | apply Kd.R_alloc | apply Kd.R_drewN | apply Kd.R_drew)); exact (Kd.R_mono (Kd.R_far (p := ⟨gb499, 2, none⟩) (Kd.R_far (p := ⟨gb499, 1, none⟩) (Kd.R_far (p := ⟨gb499, 0, none⟩) (Kd.R_mono HO_10.out (fun k_ hk => (⟨hk, hk.2⟩ : _ ∧ k_ ≠ gb499))) (fun _ hk => hk.2) (.int .u64 ((rd_T105 t495 x12_1).f0))) (fun _ hk => hk.2) (.int .i64 ((rd_T105 t495 x12_1).f1))) (fun _ hk => hk.2) (.int .i64 ((rd_T105 t495 x12_1).f2))) (fun _ h_ => h_.1))) (by decide)) hk (fun _ h => h.2)) (fun _ h => h.1)); have n1_ := Aside0.mk (KeepBut.blk hk (g' := gb499) (o := .cells #[.int .u64 ((rd_T105 t495 x12_1).f0), .int .i64 ((rd_T105 t495 x12_1).f1), .int .i64 ((rd_T105 t495 x12_1).f2)] 105 (0, 0)) (by (with_reducible repeat (first | refine blk_drewN ?_ _ | refine blk_drew ?_ | refine blk_alloc ?_ _)); refine blk_put (cs := #[.int .u64 ((rd_T105 t495 x12_1).f0), .int .i64 ((rd_T105 t495 x12_1).f1), .int .i64 0]) ?_ 2 _ rfl; (with_reducible repeat (first | refine blk_drewN ?_ _ | refine blk_drew ?_ | refine blk_alloc ?_ _)); refine blk_put (cs := #[.int .u64 ((rd_T105 t495 x12_1).f0), .int .i64 0, .int .i64 0]) ?_ 1 _ rfl; (with_reducible repeat (first | refine blk_drewN ?_ _ | refine blk_drew ?_ | refine blk_alloc ?_ _)); refine blk_put (cs := #[.int .u64 0, .int .i64 0, .int .i64 0]) ?_ 0 _ rfl; (with_reducible repeat (first | refine blk_drewN ?_ _ | refine blk_drew ?_ | refine blk_alloc ?_ _)); exact BK499.out) NB499_0.out (by simp)); have n2_ := Aside0.mk (KeepBut.trans (by repeat (first | (with_reducible first | exact HK.out | apply KeepBut.set_ | apply keep_drewN | apply keep_drew | apply keep_alloc | refine keep_far ?_ GW499.out _) | exact HK.out)) hk (.inl rfl)); have n3_ := Aside0.mk (hb); have n4_ := Aside0.mk (hi); clear HO_10; clear BK499; clear HK; clear HB; clear HI0; have HO_10 := n0_; have BK499 := n1_; have HK := n2_; have HB := n3_; have HI0 := n4_; clear n0_ n1_ n2_ n3_ n4_; (try clear hb); (try clear hb2); (try clear hk); (try clear hi)))
                  go_ret
                  exact ⟨by first | rfl | (simp [errW_none, errW_some] <;> rfl) | (simp only [← hji14, ← hji16, ← hji18]; first | rfl | (simp [errW_none, errW_some] <;> rfl)) | (simp [*, errW_none, errW_some] <;> rfl), by repeat (first | (with_reducible first | exact HI0.out | apply IsS81.alloc | apply IsS81.drewN | apply IsS81.drew | apply IsS81.set_1 | apply IsS81.set_2 | refine IsS81.far ?_ NB0_499.out _) | exact HI0.out), by repeat (first | (with_reducible first | exact HB.out | apply below_alloc | apply pw_below_drewN | apply below_drew1 | refine below_set ?_ (IsS81.ge HI0.out) | refine below_set ?_ GE499.out) | exact HB.out), by repeat (first | (with_reducible first | exact HK.out | apply KeepBut.set_ | apply keep_drewN | apply keep_drew | apply keep_alloc | refine keep_far ?_ GW499.out _) | exact HK.out)⟩
                · rw [if_neg c15] at H
                  exact absurd H (by simp)
              · rw [if_neg c12] at H
                have c12b0 : (((rd_T105 t495 x12_1).f2) == 64) = false := beq_eq_false_iff_ne.mpr c12
                have c12b1 : (((rd_T105 t495 x12_1).f2) != 64) = true := bne_iff_ne.mpr c12
                replace H := Option.bind_eq_some_iff.mp H
                obtain ⟨⟨t503, t504, t505⟩, A230, H⟩ := H
                replace H : (if t503 = 0 then ((bits_Reader_Take.f k1 s0_0 t504 t505 ((rd_T105 t495 x12_1).f2)).bind fun bt506 => (if 0 ≤ (wrap64 (64 - ((rd_T105 t495 x12_1).f2))) then (some (shr .i64 (wrap64 (shl .u64 bt506.1 (wrap64 (64 - ((rd_T105 t495 x12_1).f2))))) (wrap64 (64 - ((rd_T105 t495 x12_1).f2))), bt506.2.1, bt506.2.2)) else (none))) else (times_difference.l0 k1 x3_1 t495 (t495.length : Int) (wrap64 (x12_1 + 1)) s0_0 t504 t505)) = some (r1, r2, r3) := H
                have A23 := Aside0.mk A230
                clear A230
                by_cases c24 : t503 = 0
                · rw [if_pos c24] at H
                  have c24b0 : (t503 == 0) = true := beq_iff_eq.mpr c24
                  have c24b1 : (t503 != 0) = false := bne_eq_false_iff_eq.mpr c24
                  clear c24
                  replace H := Option.bind_eq_some_iff.mp H
                  obtain ⟨⟨t506, t507, t508⟩, A250, H⟩ := H
                  replace H : (if 0 ≤ (wrap64 (64 - ((rd_T105 t495 x12_1).f2))) then (some (shr .i64 (wrap64 (shl .u64 t506 (wrap64 (64 - ((rd_T105 t495 x12_1).f2))))) (wrap64 (64 - ((rd_T105 t495 x12_1).f2))), t507, t508)) else (none)) = some (r1, r2, r3) := H
                  have A25 := Aside0.mk A250
                  clear A250
                  obtain ⟨ji26, hji26⟩ : ∃ j_ : Int, (wrap64 (64 - ((rd_T105 t495 x12_1).f2))) = j_ := ⟨_, rfl⟩
                  replace H : (if 0 ≤ (ji26) then (some (shr .i64 (wrap64 (shl .u64 t506 (ji26))) (ji26), t507, t508)) else (none)) = some (r1, r2, r3) := by first | (rw [hji26] at H; exact H) | (simp only [hji26] at H ⊢; exact H)
                  (try rw [hji26] at A23)
                  (try rw [hji26] at A25)
                  have hji26w : (IntKind.i64.wrap (64 - ((rd_T105 t495 x12_1).f2))) = ji26 := (i64_w _).trans hji26
                  by_cases c27 : 0 ≤ (ji26)
                  · rw [if_pos c27] at H
                    have c27b0 := eq_true c27
                    have c27b1 : decide (0 ≤ (ji26)) = true := decide_eq_true c27
                    clear c27
                    obtain ⟨ji28, hji28⟩ : ∃ j_ : Int, (shl .u64 t506 (ji26)) = j_ := ⟨_, rfl⟩
                    replace H : (some (shr .i64 (wrap64 (ji28)) (ji26), t507, t508)) = some (r1, r2, r3) := by first | (rw [hji28] at H; exact H) | (simp only [hji28] at H ⊢; exact H)
                    (try rw [hji28] at A23)
                    (try rw [hji28] at A25)
                    have hji28_ : (IntKind.u64.wrap (t506 * 2 ^ min (ji26).toNat 64)) = ji28 := hji28
                    have hji28z : (ji26) ≤ 64 → (IntKind.u64.wrap (t506 * 2 ^ (ji26).toNat)) = ji28 := shl_small hji28
                    have c29b0 := eq_true (of_decide_eq_true (by first | (with_reducible assumption) | assumption) : 0 ≤ (ji26))
                    obtain ⟨ji30, hji30⟩ : ∃ j_ : Int, (shr .i64 (wrap64 (ji28)) (ji26)) = j_ := ⟨_, rfl⟩
                    replace H : (some (ji30, t507, t508)) = some (r1, r2, r3) := by first | (rw [hji30] at H; exact H) | (simp only [hji30] at H ⊢; exact H)
                    (try rw [hji30] at A23)
                    (try rw [hji30] at A25)
                    have hji30_ : ((wrap64 (ji28)) / 2 ^ min (ji26).toNat 64) = ji30 := hji30
                    have hji30z : (ji26) ≤ 64 → ((wrap64 (ji28)) / 2 ^ (ji26).toNat) = ji30 := shr_small hji30
                    simp only [Option.some.injEq, Prod.mk.injEq] at H
                    obtain ⟨rfl, rfl, rfl⟩ := H
                    have p498 : 0 ≤ (x12_1 : Int) := of_decide_eq_true (by first | (with_reducible assumption) | assumption)
                    have q498 : x12_1 < (t495.length : Int) := of_decide_eq_true (by first | (with_reducible assumption) | assumption)
                    obtain ⟨ad498, e498, hx498_0, hx498_1, hx498_2⟩ := at_T105 (Kd.R_reads' HO_10.out).2.2 x12_1 p498 q498
                    cases e498
                    replace p498 := eq_true p498
                    replace q498 := eq_true q498
                    go_wp2_with (first | ((with_reducible refine gate_dst (N := 5) rfl ?_); refine box_event ?hg (N := 5) ?hd (cs := #[.int .u64 0, .int .i64 0, .int .i64 0]) (t := 105) ?hr ?_; (case hd => rfl); (case hg => rfl); (case hr => first | (go_simp; done) | (go_simp; rfl)); intro gb499 hg w31 hbox hb; have n0_ := Aside0.mk (Kd.R_below (Kd.R_elderB (by (with_reducible repeat (first | apply Kd.R_alloc | apply Kd.R_drewN | apply Kd.R_drew)); exact HO_10.out) gb499 (Nat.le_of_eq hg.symm)) hb); have n1_ := Aside0.mk (IsS81.below (by repeat (first | (with_reducible first | exact HI0.out | apply IsS81.alloc | apply IsS81.drewN | apply IsS81.drew | apply IsS81.set_1 | apply IsS81.set_2) | exact HI0.out)) hb); have n2_ := Aside0.mk (KeepBut.trans (by repeat (first | (with_reducible first | exact HK.out | apply KeepBut.set_ | apply keep_drewN | apply keep_drew | apply keep_alloc) | exact HK.out)) (KeepBut.of_below hb g none) (.inl rfl)); have n3_ := Aside0.mk (below_step (by repeat (first | (with_reducible first | exact HB.out | apply below_alloc | apply pw_below_drewN | apply below_drew1 | refine below_set ?_ (IsS81.ge HI0.out)) | exact HB.out)) hb); have n4_ := Aside0.mk (hbox); have n5_ := Aside0.mk ((by rw [hg]; exact (keep_size (w := w) (g := g) (row := none) (by repeat (first | (with_reducible first | exact HK.out | apply KeepBut.set_ | apply keep_drewN | apply keep_drew | apply keep_alloc) | exact HK.out))) : w.heap.size ≤ gb499)); have n6_ := Aside0.mk ((Nat.le_trans HW0.out (by rw [hg]; exact (keep_size (w := w) (g := g) (row := none) (by repeat (first | (with_reducible first | exact HK.out | apply KeepBut.set_ | apply keep_drewN | apply keep_drew | apply keep_alloc) | exact HK.out))) : w.heap.size ≤ gb499) : w0.heap.size ≤ gb499)); have n7_ := Aside0.mk ((by rw [hg]; exact Nat.ne_of_lt (IsS81.lt (show IsS81 w0 _ g s0_0 x1001_1 x1002_1 from by repeat (first | (with_reducible first | exact HI0.out | apply IsS81.alloc | apply IsS81.drewN | apply IsS81.drew | apply IsS81.set_1 | apply IsS81.set_2) | exact HI0.out))) : g ≠ gb499)); have n8_ := Aside0.mk ((by rw [hg]; exact Nat.ne_of_gt (IsS81.lt (show IsS81 w0 _ g s0_0 x1001_1 x1002_1 from by repeat (first | (with_reducible first | exact HI0.out | apply IsS81.alloc | apply IsS81.drewN | apply IsS81.drew | apply IsS81.set_1 | apply IsS81.set_2) | exact HI0.out))) : gb499 ≠ g)); clear HO_10; clear HI0; clear HK; clear HB; have HO_10 := n0_; have HI0 := n1_; have HK := n2_; have HB := n3_; have BK499 := n4_; have GW499 := n5_; have GE499 := n6_; have NB0_499 := n7_; have NB499_0 := n8_; clear n0_ n1_ n2_ n3_ n4_ n5_ n6_ n7_ n8_; clear hb hbox hg; have hnb32 := NB499_0.out; have hnc32 := NB0_499.out; have hcz33_0 : w31.cell? ⟨gb499, 0, none⟩ = some (.int .u64 0) := (blk_cell BK499.out 0).trans rfl; have hcz33_1 : w31.cell? ⟨gb499, 1, none⟩ = some (.int .i64 0) := (blk_cell BK499.out 1).trans rfl; have hcz33_2 : w31.cell? ⟨gb499, 2, none⟩ = some (.int .i64 0) := (blk_cell BK499.out 2).trans rfl; have hfz33_0 := blk_frozen BK499.out 0; have hfz33_1 := blk_frozen BK499.out 1; have hfz33_2 := blk_frozen BK499.out 2) | (go_at_call 28; (with_reducible refine (bits_Reader_Take.calls k1 g s0_0 x1001_1 x1002_1 1 t503 t504 t505 w0 _ ?side1 ?side2 A23.out).mono ?_); (case side1 => repeat (first | (with_reducible first | exact HI0.out | apply IsS81.alloc | apply IsS81.drewN | apply IsS81.drew | apply IsS81.set_1 | apply IsS81.set_2 | refine IsS81.far ?_ NB0_499.out _) | exact HI0.out)); (case side2 => repeat (first | (with_reducible first | exact HB.out | apply below_alloc | apply pw_below_drewN | apply below_drew1 | refine below_set ?_ (IsS81.ge HI0.out) | refine below_set ?_ GE499.out) | exact HB.out)); rintro e w34 ⟨rfl, hi, hb, hk⟩; have n0_ := Aside0.mk (Kd.R_mono (Kd.R_keep (IsS81.apart (show IsS81 w0 _ g s0_0 x1001_1 x1002_1 from by repeat (first | (with_reducible first | exact HI0.out | apply IsS81.alloc | apply IsS81.drewN | apply IsS81.drew | apply IsS81.set_1 | apply IsS81.set_2 | refine IsS81.far ?_ NB0_499.out _) | exact HI0.out)) (by (with_reducible repeat (first | apply Kd.R_alloc | apply Kd.R_drewN | apply Kd.R_drew)); exact (Kd.R_mono (Kd.R_far (p := ⟨gb499, 2, none⟩) (Kd.R_far (p := ⟨gb499, 1, none⟩) (Kd.R_far (p := ⟨gb499, 0, none⟩) (Kd.R_mono HO_10.out (fun k_ hk => (⟨hk, hk.2⟩ : _ ∧ k_ ≠ gb499))) (fun _ hk => hk.2) (.int .u64 ((rd_T105 t495 x12_1).f0))) (fun _ hk => hk.2) (.int .i64 ((rd_T105 t495 x12_1).f1))) (fun _ hk => hk.2) (.int .i64 ((rd_T105 t495 x12_1).f2))) (fun _ h_ => h_.1))) (by decide)) hk (fun _ h => h.2)) (fun _ h => h.1)); have n1_ := Aside0.mk (KeepBut.blk hk (g' := gb499) (o := .cells #[.int .u64 ((rd_T105 t495 x12_1).f0), .int .i64 ((rd_T105 t495 x12_1).f1), .int .i64 ((rd_T105 t495 x12_1).f2)] 105 (0, 0)) (by (with_reducible repeat (first | refine blk_drewN ?_ _ | refine blk_drew ?_ | refine blk_alloc ?_ _)); refine blk_put (cs := #[.int .u64 ((rd_T105 t495 x12_1).f0), .int .i64 ((rd_T105 t495 x12_1).f1), .int .i64 0]) ?_ 2 _ rfl; (with_reducible repeat (first | refine blk_drewN ?_ _ | refine blk_drew ?_ | refine blk_alloc ?_ _)); refine blk_put (cs := #[.int .u64 ((rd_T105 t495 x12_1).f0), .int .i64 0, .int .i64 0]) ?_ 1 _ rfl; (with_reducible repeat (first | refine blk_drewN ?_ _ | refine blk_drew ?_ | refine blk_alloc ?_ _)); refine blk_put (cs := #[.int .u64 0, .int .i64 0, .int .i64 0]) ?_ 0 _ rfl; (with_reducible repeat (first | refine blk_drewN ?_ _ | refine blk_drew ?_ | refine blk_alloc ?_ _)); exact BK499.out) NB499_0.out (by simp)); have n2_ := Aside0.mk (KeepBut.trans (by repeat (first | (with_reducible first | exact HK.out | apply KeepBut.set_ | apply keep_drewN | apply keep_drew | apply keep_alloc | refine keep_far ?_ GW499.out _) | exact HK.out)) hk (.inl rfl)); have n3_ := Aside0.mk (hb); have n4_ := Aside0.mk (hi); clear HO_10; clear BK499; clear HK; clear HB; clear HI0; have HO_10 := n0_; have BK499 := n1_; have HK := n2_; have HB := n3_; have HI0 := n4_; clear n0_ n1_ n2_ n3_ n4_; (try clear hb); (try clear hb2); (try clear hk); (try clear hi); have hcz35_0 : w34.cell? ⟨gb499, 0, none⟩ = some (.int .u64 ((rd_T105 t495 x12_1).f0)) := (blk_cell BK499.out 0).trans rfl; have hcz35_1 : w34.cell? ⟨gb499, 1, none⟩ = some (.int .i64 ((rd_T105 t495 x12_1).f1)) := (blk_cell BK499.out 1).trans rfl; have hcz35_2 : w34.cell? ⟨gb499, 2, none⟩ = some (.int .i64 ((rd_T105 t495 x12_1).f2)) := (blk_cell BK499.out 2).trans rfl; have hfz35_0 := blk_frozen BK499.out 0; have hfz35_1 := blk_frozen BK499.out 1; have hfz35_2 := blk_frozen BK499.out 2) | ((with_reducible refine gate_callee (f := 28) rfl ?_); refine goesL_ (some 29) rfl rfl Try.func28 (by kernel_rfl) rfl #[.pointer (some ⟨g, 0, none⟩), .int .i64 ((rd_T105 t495 x12_1).f2)] rfl (by (try simp only [List.map_toArray, List.map_cons, List.map_nil]); first | done | rfl | (simp only [List.length_drop, List.length_take]; rfl)) ?_; (with_reducible refine (bits_Reader_Take.calls k1 g s0_0 t504 t505 ((rd_T105 t495 x12_1).f2) t506 t507 t508 w0 _ ?side1 ?side2 A25.out).mono ?_); (case side1 => repeat (first | (with_reducible first | exact HI0.out | apply IsS81.alloc | apply IsS81.drewN | apply IsS81.drew | apply IsS81.set_1 | apply IsS81.set_2 | refine IsS81.far ?_ NB0_499.out _) | exact HI0.out)); (case side2 => repeat (first | (with_reducible first | exact HB.out | apply below_alloc | apply pw_below_drewN | apply below_drew1 | refine below_set ?_ (IsS81.ge HI0.out) | refine below_set ?_ GE499.out) | exact HB.out)); rintro e w36 ⟨rfl, hi, hb, hk⟩; refine ⟨_, rfl, ?_⟩; have n0_ := Aside0.mk (Kd.R_mono (Kd.R_keep (IsS81.apart (show IsS81 w0 _ g s0_0 t504 t505 from by repeat (first | (with_reducible first | exact HI0.out | apply IsS81.alloc | apply IsS81.drewN | apply IsS81.drew | apply IsS81.set_1 | apply IsS81.set_2 | refine IsS81.far ?_ NB0_499.out _) | exact HI0.out)) (by (with_reducible repeat (first | apply Kd.R_alloc | apply Kd.R_drewN | apply Kd.R_drew)); exact HO_10.out) (by decide)) hk (fun _ h => h.2)) (fun _ h => h.1)); have n1_ := Aside0.mk (KeepBut.blk hk (g' := gb499) (o := .cells #[.int .u64 ((rd_T105 t495 x12_1).f0), .int .i64 ((rd_T105 t495 x12_1).f1), .int .i64 ((rd_T105 t495 x12_1).f2)] 105 (0, 0)) (by (with_reducible repeat (first | refine blk_drewN ?_ _ | refine blk_drew ?_ | refine blk_alloc ?_ _)); exact BK499.out) NB499_0.out (by simp)); have n2_ := Aside0.mk (KeepBut.trans (by repeat (first | (with_reducible first | exact HK.out | apply KeepBut.set_ | apply keep_drewN | apply keep_drew | apply keep_alloc | refine keep_far ?_ GW499.out _) | exact HK.out)) hk (.inl rfl)); have n3_ := Aside0.mk (hb); have n4_ := Aside0.mk (hi); clear HO_10; clear BK499; clear HK; clear HB; clear HI0; have HO_10 := n0_; have BK499 := n1_; have HK := n2_; have HB := n3_; have HI0 := n4_; clear n0_ n1_ n2_ n3_ n4_; (try clear hb); (try clear hb2); (try clear hk); (try clear hi)))
                    go_ret
                    exact ⟨by first | rfl | (simp [errW_none, errW_some] <;> rfl) | (simp only [← hji26, ← hji28, ← hji30]; first | rfl | (simp [errW_none, errW_some] <;> rfl)) | (simp [*, errW_none, errW_some] <;> rfl), by repeat (first | (with_reducible first | exact HI0.out | apply IsS81.alloc | apply IsS81.drewN | apply IsS81.drew | apply IsS81.set_1 | apply IsS81.set_2 | refine IsS81.far ?_ NB0_499.out _) | exact HI0.out), by repeat (first | (with_reducible first | exact HB.out | apply below_alloc | apply pw_below_drewN | apply below_drew1 | refine below_set ?_ (IsS81.ge HI0.out) | refine below_set ?_ GE499.out) | exact HB.out), by repeat (first | (with_reducible first | exact HK.out | apply KeepBut.set_ | apply keep_drewN | apply keep_drew | apply keep_alloc | refine keep_far ?_ GW499.out _) | exact HK.out)⟩
                  · rw [if_neg c27] at H
                    exact absurd H (by simp)
                · rw [if_neg c24] at H
                  have c24b0 : (t503 == 0) = false := beq_eq_false_iff_ne.mpr c24
                  have c24b1 : (t503 != 0) = true := bne_iff_ne.mpr c24
                  have H' := Aside0.mk H
                  clear H
                  have p498 : 0 ≤ (x12_1 : Int) := of_decide_eq_true (by first | (with_reducible assumption) | assumption)
                  have q498 : x12_1 < (t495.length : Int) := of_decide_eq_true (by first | (with_reducible assumption) | assumption)
                  obtain ⟨ad498, e498, hx498_0, hx498_1, hx498_2⟩ := at_T105 (Kd.R_reads' HO_10.out).2.2 x12_1 p498 q498
                  cases e498
                  replace p498 := eq_true p498
                  replace q498 := eq_true q498
                  go_wp2_with (first | ((with_reducible refine gate_dst (N := 5) rfl ?_); refine box_event ?hg (N := 5) ?hd (cs := #[.int .u64 0, .int .i64 0, .int .i64 0]) (t := 105) ?hr ?_; (case hd => rfl); (case hg => rfl); (case hr => first | (go_simp; done) | (go_simp; rfl)); intro gb499 hg w37 hbox hb; have n0_ := Aside0.mk (Kd.R_below (Kd.R_elderB (by (with_reducible repeat (first | apply Kd.R_alloc | apply Kd.R_drewN | apply Kd.R_drew)); exact HO_10.out) gb499 (Nat.le_of_eq hg.symm)) hb); have n1_ := Aside0.mk (IsS81.below (by repeat (first | (with_reducible first | exact HI0.out | apply IsS81.alloc | apply IsS81.drewN | apply IsS81.drew | apply IsS81.set_1 | apply IsS81.set_2) | exact HI0.out)) hb); have n2_ := Aside0.mk (KeepBut.trans (by repeat (first | (with_reducible first | exact HK.out | apply KeepBut.set_ | apply keep_drewN | apply keep_drew | apply keep_alloc) | exact HK.out)) (KeepBut.of_below hb g none) (.inl rfl)); have n3_ := Aside0.mk (below_step (by repeat (first | (with_reducible first | exact HB.out | apply below_alloc | apply pw_below_drewN | apply below_drew1 | refine below_set ?_ (IsS81.ge HI0.out)) | exact HB.out)) hb); have n4_ := Aside0.mk (hbox); have n5_ := Aside0.mk ((by rw [hg]; exact (keep_size (w := w) (g := g) (row := none) (by repeat (first | (with_reducible first | exact HK.out | apply KeepBut.set_ | apply keep_drewN | apply keep_drew | apply keep_alloc) | exact HK.out))) : w.heap.size ≤ gb499)); have n6_ := Aside0.mk ((Nat.le_trans HW0.out (by rw [hg]; exact (keep_size (w := w) (g := g) (row := none) (by repeat (first | (with_reducible first | exact HK.out | apply KeepBut.set_ | apply keep_drewN | apply keep_drew | apply keep_alloc) | exact HK.out))) : w.heap.size ≤ gb499) : w0.heap.size ≤ gb499)); have n7_ := Aside0.mk ((by rw [hg]; exact Nat.ne_of_lt (IsS81.lt (show IsS81 w0 _ g s0_0 x1001_1 x1002_1 from by repeat (first | (with_reducible first | exact HI0.out | apply IsS81.alloc | apply IsS81.drewN | apply IsS81.drew | apply IsS81.set_1 | apply IsS81.set_2) | exact HI0.out))) : g ≠ gb499)); have n8_ := Aside0.mk ((by rw [hg]; exact Nat.ne_of_gt (IsS81.lt (show IsS81 w0 _ g s0_0 x1001_1 x1002_1 from by repeat (first | (with_reducible first | exact HI0.out | apply IsS81.alloc | apply IsS81.drewN | apply IsS81.drew | apply IsS81.set_1 | apply IsS81.set_2) | exact HI0.out))) : gb499 ≠ g)); clear HO_10; clear HI0; clear HK; clear HB; have HO_10 := n0_; have HI0 := n1_; have HK := n2_; have HB := n3_; have BK499 := n4_; have GW499 := n5_; have GE499 := n6_; have NB0_499 := n7_; have NB499_0 := n8_; clear n0_ n1_ n2_ n3_ n4_ n5_ n6_ n7_ n8_; clear hb hbox hg; have hnb38 := NB499_0.out; have hnc38 := NB0_499.out; have hcz39_0 : w37.cell? ⟨gb499, 0, none⟩ = some (.int .u64 0) := (blk_cell BK499.out 0).trans rfl; have hcz39_1 : w37.cell? ⟨gb499, 1, none⟩ = some (.int .i64 0) := (blk_cell BK499.out 1).trans rfl; have hcz39_2 : w37.cell? ⟨gb499, 2, none⟩ = some (.int .i64 0) := (blk_cell BK499.out 2).trans rfl; have hfz39_0 := blk_frozen BK499.out 0; have hfz39_1 := blk_frozen BK499.out 1; have hfz39_2 := blk_frozen BK499.out 2) | (go_at_call 28; (with_reducible refine (bits_Reader_Take.calls k1 g s0_0 x1001_1 x1002_1 1 t503 t504 t505 w0 _ ?side1 ?side2 A23.out).mono ?_); (case side1 => repeat (first | (with_reducible first | exact HI0.out | apply IsS81.alloc | apply IsS81.drewN | apply IsS81.drew | apply IsS81.set_1 | apply IsS81.set_2 | refine IsS81.far ?_ NB0_499.out _) | exact HI0.out)); (case side2 => repeat (first | (with_reducible first | exact HB.out | apply below_alloc | apply pw_below_drewN | apply below_drew1 | refine below_set ?_ (IsS81.ge HI0.out) | refine below_set ?_ GE499.out) | exact HB.out)); rintro e w40 ⟨rfl, hi, hb, hk⟩; have n0_ := Aside0.mk (Kd.R_mono (Kd.R_keep (IsS81.apart (show IsS81 w0 _ g s0_0 x1001_1 x1002_1 from by repeat (first | (with_reducible first | exact HI0.out | apply IsS81.alloc | apply IsS81.drewN | apply IsS81.drew | apply IsS81.set_1 | apply IsS81.set_2 | refine IsS81.far ?_ NB0_499.out _) | exact HI0.out)) (by (with_reducible repeat (first | apply Kd.R_alloc | apply Kd.R_drewN | apply Kd.R_drew)); exact (Kd.R_mono (Kd.R_far (p := ⟨gb499, 2, none⟩) (Kd.R_far (p := ⟨gb499, 1, none⟩) (Kd.R_far (p := ⟨gb499, 0, none⟩) (Kd.R_mono HO_10.out (fun k_ hk => (⟨hk, hk.2⟩ : _ ∧ k_ ≠ gb499))) (fun _ hk => hk.2) (.int .u64 ((rd_T105 t495 x12_1).f0))) (fun _ hk => hk.2) (.int .i64 ((rd_T105 t495 x12_1).f1))) (fun _ hk => hk.2) (.int .i64 ((rd_T105 t495 x12_1).f2))) (fun _ h_ => h_.1))) (by decide)) hk (fun _ h => h.2)) (fun _ h => h.1)); have n1_ := Aside0.mk (KeepBut.blk hk (g' := gb499) (o := .cells #[.int .u64 ((rd_T105 t495 x12_1).f0), .int .i64 ((rd_T105 t495 x12_1).f1), .int .i64 ((rd_T105 t495 x12_1).f2)] 105 (0, 0)) (by (with_reducible repeat (first | refine blk_drewN ?_ _ | refine blk_drew ?_ | refine blk_alloc ?_ _)); refine blk_put (cs := #[.int .u64 ((rd_T105 t495 x12_1).f0), .int .i64 ((rd_T105 t495 x12_1).f1), .int .i64 0]) ?_ 2 _ rfl; (with_reducible repeat (first | refine blk_drewN ?_ _ | refine blk_drew ?_ | refine blk_alloc ?_ _)); refine blk_put (cs := #[.int .u64 ((rd_T105 t495 x12_1).f0), .int .i64 0, .int .i64 0]) ?_ 1 _ rfl; (with_reducible repeat (first | refine blk_drewN ?_ _ | refine blk_drew ?_ | refine blk_alloc ?_ _)); refine blk_put (cs := #[.int .u64 0, .int .i64 0, .int .i64 0]) ?_ 0 _ rfl; (with_reducible repeat (first | refine blk_drewN ?_ _ | refine blk_drew ?_ | refine blk_alloc ?_ _)); exact BK499.out) NB499_0.out (by simp)); have n2_ := Aside0.mk (KeepBut.trans (by repeat (first | (with_reducible first | exact HK.out | apply KeepBut.set_ | apply keep_drewN | apply keep_drew | apply keep_alloc | refine keep_far ?_ GW499.out _) | exact HK.out)) hk (.inl rfl)); have n3_ := Aside0.mk (hb); have n4_ := Aside0.mk (hi); clear HO_10; clear BK499; clear HK; clear HB; clear HI0; have HO_10 := n0_; have BK499 := n1_; have HK := n2_; have HB := n3_; have HI0 := n4_; clear n0_ n1_ n2_ n3_ n4_; (try clear hb); (try clear hb2); (try clear hk); (try clear hi)))
                  go_roundg k1
                  case measure => have := HK1.out; omega
                  case rel => exact ⟨(x3_1), (wrap64 (x12_1 + 1)), (t504), (t505), (by first | rfl | (simp; done) | (simp [*]; done)), (by first | rfl | (simp; done) | (simp [*]; done)), H', ⟨by have := HK1.out; omega⟩, ⟨by (with_reducible repeat (first | apply Kd.R_alloc | apply Kd.R_drewN | apply Kd.R_drew)); exact Kd.R_mono HO_10.out (fun _ hk => trivial)⟩, ⟨by repeat (first | (with_reducible first | exact HI0.out | apply IsS81.alloc | apply IsS81.drewN | apply IsS81.drew | apply IsS81.set_1 | apply IsS81.set_2 | refine IsS81.far ?_ NB0_499.out _) | exact HI0.out)⟩, ⟨by repeat (first | (with_reducible first | exact HK.out | apply KeepBut.set_ | apply keep_drewN | apply keep_drew | apply keep_alloc | refine keep_far ?_ GW499.out _) | exact HK.out)⟩, ⟨by repeat (first | (with_reducible first | exact HB.out | apply below_alloc | apply pw_below_drewN | apply below_drew1 | refine below_set ?_ (IsS81.ge HI0.out) | refine below_set ?_ GE499.out) | exact HB.out)⟩⟩
            · rw [if_neg c11] at H
              exact absurd H (by simp)
          · rw [if_neg c10] at H
            exact absurd H (by simp)
        · rw [if_neg c9] at H
          have c9b0 : decide (x12_1 < (t495.length : Int)) = false := decide_eq_false c9
          clear c9
          replace H := Option.bind_eq_some_iff.mp H
          obtain ⟨⟨t509, t510, t511⟩, A410, H⟩ := H
          replace H : (if 0 ≤ (wrap64 (64 - x3_1)) then (some (shr .i64 (wrap64 (shl .u64 t509 (wrap64 (64 - x3_1)))) (wrap64 (64 - x3_1)), t510, t511)) else (none)) = some (r1, r2, r3) := H
          have A41 := Aside0.mk A410
          clear A410
          obtain ⟨ji42, hji42⟩ : ∃ j_ : Int, (wrap64 (64 - x3_1)) = j_ := ⟨_, rfl⟩
          replace H : (if 0 ≤ (ji42) then (some (shr .i64 (wrap64 (shl .u64 t509 (ji42))) (ji42), t510, t511)) else (none)) = some (r1, r2, r3) := by first | (rw [hji42] at H; exact H) | (simp only [hji42] at H ⊢; exact H)
          (try rw [hji42] at A41)
          have hji42w : (IntKind.i64.wrap (64 - x3_1)) = ji42 := (i64_w _).trans hji42
          by_cases c43 : 0 ≤ (ji42)
          · rw [if_pos c43] at H
            have c43b0 := eq_true c43
            have c43b1 : decide (0 ≤ (ji42)) = true := decide_eq_true c43
            clear c43
            obtain ⟨ji44, hji44⟩ : ∃ j_ : Int, (shl .u64 t509 (ji42)) = j_ := ⟨_, rfl⟩
            replace H : (some (shr .i64 (wrap64 (ji44)) (ji42), t510, t511)) = some (r1, r2, r3) := by first | (rw [hji44] at H; exact H) | (simp only [hji44] at H ⊢; exact H)
            (try rw [hji44] at A41)
            have hji44_ : (IntKind.u64.wrap (t509 * 2 ^ min (ji42).toNat 64)) = ji44 := hji44
            have hji44z : (ji42) ≤ 64 → (IntKind.u64.wrap (t509 * 2 ^ (ji42).toNat)) = ji44 := shl_small hji44
            have c45b0 := eq_true (of_decide_eq_true (by first | (with_reducible assumption) | assumption) : 0 ≤ (ji42))
            obtain ⟨ji46, hji46⟩ : ∃ j_ : Int, (shr .i64 (wrap64 (ji44)) (ji42)) = j_ := ⟨_, rfl⟩
            replace H : (some (ji46, t510, t511)) = some (r1, r2, r3) := by first | (rw [hji46] at H; exact H) | (simp only [hji46] at H ⊢; exact H)
            (try rw [hji46] at A41)
            have hji46_ : ((wrap64 (ji44)) / 2 ^ min (ji42).toNat 64) = ji46 := hji46
            have hji46z : (ji42) ≤ 64 → ((wrap64 (ji44)) / 2 ^ (ji42).toNat) = ji46 := shr_small hji46
            simp only [Option.some.injEq, Prod.mk.injEq] at H
            obtain ⟨rfl, rfl, rfl⟩ := H
            go_wp2_with (first | ((with_reducible refine gate_callee (f := 28) rfl ?_); refine goesL_ (some 29) rfl rfl Try.func28 (by kernel_rfl) rfl #[.pointer (some ⟨g, 0, none⟩), .int .i64 x3_1] rfl (by (try simp only [List.map_toArray, List.map_cons, List.map_nil]); first | done | rfl | (simp only [List.length_drop, List.length_take]; rfl)) ?_; (with_reducible refine (bits_Reader_Take.calls k1 g s0_0 x1001_1 x1002_1 x3_1 t509 t510 t511 w0 _ ?side1 ?side2 A41.out).mono ?_); (case side1 => repeat (first | (with_reducible first | exact HI0.out | apply IsS81.alloc | apply IsS81.drewN | apply IsS81.drew | apply IsS81.set_1 | apply IsS81.set_2) | exact HI0.out)); (case side2 => repeat (first | (with_reducible first | exact HB.out | apply below_alloc | apply pw_below_drewN | apply below_drew1 | refine below_set ?_ (IsS81.ge HI0.out)) | exact HB.out)); rintro e w47 ⟨rfl, hi, hb, hk⟩; refine ⟨_, rfl, ?_⟩; have n0_ := Aside0.mk (Kd.R_mono (Kd.R_keep (IsS81.apart (show IsS81 w0 _ g s0_0 x1001_1 x1002_1 from by repeat (first | (with_reducible first | exact HI0.out | apply IsS81.alloc | apply IsS81.drewN | apply IsS81.drew | apply IsS81.set_1 | apply IsS81.set_2) | exact HI0.out)) (by (with_reducible repeat (first | apply Kd.R_alloc | apply Kd.R_drewN | apply Kd.R_drew)); exact HO_10.out) (by decide)) hk (fun _ h => h.2)) (fun _ h => h.1)); have n1_ := Aside0.mk (KeepBut.trans (by repeat (first | (with_reducible first | exact HK.out | apply KeepBut.set_ | apply keep_drewN | apply keep_drew | apply keep_alloc) | exact HK.out)) hk (.inl rfl)); have n2_ := Aside0.mk (hb); have n3_ := Aside0.mk (hi); clear HO_10; clear HK; clear HB; clear HI0; have HO_10 := n0_; have HK := n1_; have HB := n2_; have HI0 := n3_; clear n0_ n1_ n2_ n3_; (try clear hb); (try clear hb2); (try clear hk); (try clear hi)))
            go_ret
            exact ⟨by first | rfl | (simp [errW_none, errW_some] <;> rfl) | (simp only [← hji42, ← hji44, ← hji46]; first | rfl | (simp [errW_none, errW_some] <;> rfl)) | (simp [*, errW_none, errW_some] <;> rfl), by repeat (first | (with_reducible first | exact HI0.out | apply IsS81.alloc | apply IsS81.drewN | apply IsS81.drew | apply IsS81.set_1 | apply IsS81.set_2) | exact HI0.out), by repeat (first | (with_reducible first | exact HB.out | apply below_alloc | apply pw_below_drewN | apply below_drew1 | refine below_set ?_ (IsS81.ge HI0.out)) | exact HB.out), by repeat (first | (with_reducible first | exact HK.out | apply KeepBut.set_ | apply keep_drewN | apply keep_drew | apply keep_alloc) | exact HK.out)⟩
          · rw [if_neg c43] at H
            exact absurd H (by simp)

end Go.Proofs.Ytmlbppfcpejlpaa.X

-- Printed by this session's own program (wip/xprint.py) over the translation; its external functions are hand-written. Lean checks it.
namespace Go.Proofs.Ytmlbppfcpejlpaa.X
open Go.RowKit Go.Proofs.YtmlbppfcpejlpaaW.PrintWords Go.Proofs.YtmlbppfcpejlpaaW.PrintLast Go.Proofs.YtmlbppfcpejlpaaW.PrintMore
attribute [local go_sem] max2_int min2_int max_two min_two max_three min_three max_four min_four   -- for this text's walks alone
set_option linter.unusedVariables false
set_option linter.unusedSimpArgs false

/-! ### times_getTwice: function 71 -/
open Go.Proofs.Ytmlbppfcpejlpaa.S Go.Proofs.Ytmlbppfcpejlpaa.B Go.Proofs.Ytmlbppfcpejlpaa.W04
/-- What i rounds give: the numbers, the last step, the reader's place, and whether it is bad. -/
def times_getTwice.run (l : List Int) : Nat → Option (List Int × Int × Int × Bool)
  | 0 => some ([], 0, 0, false)
  | i + 1 => (times_getTwice.run l i).bind fun p =>
    if i = 0 then (bits_Reader_Take.f 200 l p.2.2.1 p.2.2.2 64).bind fun t => some (p.1 ++ [IntKind.i64.wrap t.1], p.2.1, t.2.1, t.2.2)
    else if i = 1 then (bits_Reader_Take.f 200 l p.2.2.1 p.2.2.2 64).bind fun t => some (p.1 ++ [IntKind.i64.wrap (rd p.1 ((i : Int) - 1) + IntKind.i64.wrap t.1)], IntKind.i64.wrap t.1, t.2.1, t.2.2)
    else (times_difference.f 200 l p.2.2.1 p.2.2.2).bind fun t => some (p.1 ++ [IntKind.i64.wrap (rd p.1 ((i : Int) - 1) + IntKind.i64.wrap (p.2.1 + t.1))], IntKind.i64.wrap (p.2.1 + t.1), t.2.1, t.2.2)
def times_getTwice.f (l0 : List Int) (a1 : Int) : Option (List Int × Int) :=
  if a1 ≤ 200 ∧ l0.length < 1000000000 then (times_getTwice.run l0 a1.toNat).bind fun p => if p.2.2.2 = true then some ([], 4) else some (p.1, 0) else none
theorem times_getTwice.run_le (l : List Int) (n i : Nat) (h : i ≤ n) (x : List Int × Int × Int × Bool) (hx : times_getTwice.run l n = some x) : ∃ y, times_getTwice.run l i = some y := by
  induction n generalizing x with
  | zero => have : i = 0 := by omega
            subst this; exact ⟨x, hx⟩
  | succ n ih =>
    by_cases e : i = n + 1
    · subst e; exact ⟨x, hx⟩
    · rw [times_getTwice.run] at hx
      obtain ⟨y, hy, _⟩ := Option.bind_eq_some_iff.1 hx
      exact ih (by omega) y hy
def times_getTwice.Two (B : Nat) (xs : List Int) (m : Int) (w : World) (e : Ending) (w' : World) : Prop :=
  ∃ v0_ : Value, e = .returned (.tuple #[v0_, .int .i64 m]) ∧ Kd.R (Kd.int .i64) 2 w' B (fun _ => True) v0_ xs ∧ Below w.heap.size w w'
def times_getTwice.ot : Bool → List Int → List Int | true, _ => [] | false, l => l
def times_getTwice.er : Bool → Int | true => 4 | false => 0
def times_getTwice.Rel (w1 : World) (g : Nat) (l : List Int) (i : Nat) (vo : Value) (st : Int) (wr : World) : Prop :=
  ∃ (a : Int) (bad : Bool) (out : List Int), times_getTwice.run l i = some (out, st, a, bad) ∧ IsS81 w1 wr g l a bad ∧ Below w1.heap.size w1 wr ∧ Kd.R (Kd.int .i64) 2 wr w1.heap.size (fun _ => True) vo out ∧ out.length = i
set_option maxHeartbeats 8000000 in
set_option maxRecDepth 100000 in
theorem times_getTwice.calls_main (A0 : Option Addr) (c0 : Nat) (l0 : List Int) (nn : Int) (n : Nat) (out0 : List Int) (st0 at0 : Int) (bad0 : Bool) (w : World) (hr0 : Kd.C (Kd.int .u8) w A0 l0.length l0) (hc0 : l0.length ≤ c0) (hn : n = nn.toNat) (hn2 : n ≤ 200) (hl : l0.length < 1000000000) (hrun : times_getTwice.run l0 n = some (out0, st0, at0, bad0)) :
    Calls Try.prog 71 #[.slice A0 l0.length c0, .int .i64 nn] w (times_getTwice.Two w.heap.size (times_getTwice.ot bad0 out0) (times_getTwice.er bad0) w) := by
  have HR0 := Aside0.mk hr0
  have HC0 := Aside0.mk hc0
  have HN := Aside0.mk hn
  have HRN := Aside0.mk hrun
  clear hr0 hc0 hrun hn
  go_enter Try.func71, Try.ntmps71
  go_wp2_with (go_at_call 33; (with_reducible refine (new_calls _ _ l0 _ HR0.out HC0.out (by omega)).mono ?_); rintro e w2 ⟨g, w1, rfl, hb1, hs, hb2⟩; have HS0 := Aside0.mk hs; have HB1 := Aside0.mk hb1; have HB2 := Aside0.mk hb2; clear hb1 hs hb2)
  have HR : Aside0 (times_getTwice.Rel w1 g l0 0 (.slice none 0 0) 0 w2) := ⟨⟨0, false, [], rfl, HS0.out, HB2.out, Kd.R_nil _ _ _ _ _, rfl⟩⟩
  clear HS0 HB2
  go_loopw [7, 8, 13] (fun v7 v8 v13 wr => ∃ (i : Nat) (ii st : Int), v8 = .int .i64 st ∧ v13 = .int .i64 ii ∧ Aside0 (ii = (i : Int)) ∧ Aside0 (i ≤ n) ∧ Aside0 (times_getTwice.Rel w1 g l0 i v7 st wr)) (fun _ _ v13 _ => (nn - intOf v13).toNat)
  case atStart => exact ⟨0, _, _, rfl, rfl, ⟨rfl⟩, ⟨Nat.zero_le _⟩, HR⟩
  case round =>
    clear HR
    obtain ⟨i, ii, st, rfl, rfl, HI, HIL, HR⟩ := hrel
    obtain ⟨a, bad, out, hrun, hs, hbl, ho, hlen⟩ := HR.out
    have HS := Aside0.mk hs
    have HB := Aside0.mk hbl
    have HLEN := Aside0.mk hlen
    have HRUN0 := Aside0.mk hrun
    clear HR hs hbl
    have hin := HI.out
    by_cases hlt : i < n
    · have hi0 : 0 ≤ ii := by omega
      have hi1 : ii ≤ 200 := by omega
      have HNN := Aside0.mk (show ii < nn by have := HN.out; omega)
      have hi2 : decide (ii < nn) = true := decide_eq_true HNN.out
      obtain ⟨⟨out1, st1, a1, bad1⟩, hnext⟩ := times_getTwice.run_le l0 n (i + 1) hlt _ HRN.out
      have HNX := Aside0.mk hnext
      rw [times_getTwice.run, hrun, Option.bind_some] at hnext
      by_cases q0 : i = 0
      · have e0 : (ii == 0) = true := by rw [beq_iff_eq]; omega
        rw [if_pos q0] at hnext
        obtain ⟨⟨tv, a2, bad2⟩, ht, hnext⟩ := Option.bind_eq_some_iff.1 hnext
        have HO := Aside0.mk ho
        injection hnext with hnext; injection hnext with g1 hnext; injection hnext with g2 hnext; injection hnext with g3 g4
        have g1' : out ++ [IntKind.i64.wrap tv] = out1 := g1
        have g2' : st = st1 := g2
        have g3' : a2 = a1 := g3
        have g4' : bad2 = bad1 := g4
        subst g3'; subst g4'; subst g2'
        obtain ⟨sv, hsv⟩ : ∃ sv, IntKind.i64.wrap tv = sv := ⟨_, rfl⟩
        rw [hsv] at g1'
        subst g1'
        have HRUN := HNX
        have HT : Aside0 (bits_Reader_Take.f 200 l0 a bad 64 = some (tv, a2, bad2)) := ⟨ht⟩
        have hsv' : wrap64 tv = sv := (i64_w _).symm.trans hsv
        clear g1 g2 g3 g4 ht HNX HRUN0 hrun ho hlen hin q0
        go_wp2_with (first
          | (go_at_call 28; (with_reducible refine (bits_Reader_Take.calls 200 g l0 a bad 64 tv a2 bad2 w1 wr HS.out HB.out HT.out).mono ?_); rintro e w5 ⟨rfl, hs, hb2, hk⟩; have HS5 := Aside0.mk hs; have HB5 := Aside0.mk hb2; have HO5 := Aside0.mk (Kd.R_mono (ok' := fun _ => True) (Kd.R_keep (HS.out.apart HO.out (by decide)) hk (fun _ h => h.2)) (fun _ _ => trivial)); clear hs hb2 hk HS HB HO)
          | ((with_reducible refine gate_builtin (b := .append) (xs := #[.tmp 23, .tmp 27]) rfl ?_); at_builtin; refine Kd.R_append (Kd.int .i64) (w0 := w1) w1.heap.size rfl (.tmp 23) (.tmp 27) 72 2 (.int .i64 0) 8 rfl Try.underlying72 info2 rfl (by decide) (by omega) u7 out sv [.int .i64 sv] (fun _ => True) (fun _ => False) rfl rfl ?aP (fun _ hk => hk.elim) ?aF ?aO ?aB ?aS ?aL ?_; (case aP => exact rfl); (case aB => exact HB5.out); (case aF => exact (fun _ _ => trivial)); (case aO => exact HO5.out); (case aS => exact (below_size HB5.out)); (case aL => have := HLEN.out; omega); intro v6 w6 ho hb hg hat; have HO6 := Aside0.mk ho; have HB6 := Aside0.mk hb; have HS6 := Aside0.mk (HS5.out.grown hg (HS5.out.own_ne HO5.out (by decide))); clear ho hb hg hat HS5 HB5 HO5))
        go_roundw
        case rel => exact ⟨i + 1, _, _, rfl, rfl, ⟨by have := HI.out; omega⟩, ⟨hlt⟩, ⟨a2, bad2, out ++ [sv], HRUN.out, HS6.out, HB6.out, HO6.out, by have := HLEN.out; simp; omega⟩⟩
        case measure => simp [intOf]; have := HI.out; have := HNN.out; omega
      have e0 : (ii == 0) = false := by rw [beq_eq_false_iff_ne]; omega
      obtain ⟨jj, hjj⟩ : ∃ jj, jj = ii - 1 := ⟨_, rfl⟩
      have hj0 : 0 ≤ jj := by omega
      have hj1 : IntKind.i64.wrap (ii - 1) = jj := by rw [IntKind.wrap_i64]; omega
      have hj2 : wrap64 (ii - 1) = jj := (i64_w _).symm.trans hj1
      have hj3 : ii - 1 = jj := hjj.symm
      obtain ⟨ln, hln⟩ : ∃ ln, ln = out.length := ⟨_, rfl⟩
      have hj4 : (jj < (ln : Int)) = True := eq_true (by omega)
      have hj5 : (0 ≤ jj) = True := eq_true hj0
      have HJ := Aside0.mk (show jj = (i : Int) - 1 by omega)
      obtain ⟨A7, c7, rfl⟩ := Kd.R_slice ho
      obtain ⟨ad, e, hx⟩ := Kd.at_int (Kd.R_reads' ho).2.2 jj hj0 (by omega)
      cases e
      obtain ⟨xv, hxv⟩ : ∃ xv, rd out jj = xv := ⟨_, rfl⟩
      have HRD := Aside0.mk hxv
      rw [← HJ.out, hxv] at hnext
      have HO := Aside0.mk ho
      rw [← hln] at HO ⊢
      have HLN := Aside0.mk hln
      clear ho hx hxv hln hjj
      by_cases q1 : i = 1
      · have e1 : (ii == 1) = true := by rw [beq_iff_eq]; omega
        rw [if_neg q0, if_pos q1] at hnext
        obtain ⟨⟨tv, a2, bad2⟩, ht, hnext⟩ := Option.bind_eq_some_iff.1 hnext
        injection hnext with hnext; injection hnext with g1 hnext; injection hnext with g2 hnext; injection hnext with g3 g4
        have g1' : out ++ [IntKind.i64.wrap (xv + IntKind.i64.wrap tv)] = out1 := g1
        have g2' : IntKind.i64.wrap tv = st1 := g2
        have g3' : a2 = a1 := g3
        have g4' : bad2 = bad1 := g4
        rw [g2'] at g1'
        subst g3'; subst g4'
        obtain ⟨sv, hsv⟩ : ∃ sv, IntKind.i64.wrap (xv + st1) = sv := ⟨_, rfl⟩
        rw [hsv] at g1'
        subst g1'
        have HRUN := HNX
        have HT : Aside0 (bits_Reader_Take.f 200 l0 a bad 64 = some (tv, a2, bad2)) := ⟨ht⟩
        have hsv' : wrap64 (xv + st1) = sv := (i64_w _).symm.trans hsv
        have hst' : wrap64 tv = st1 := (i64_w _).symm.trans g2'
        clear g1 g2 g3 g4 ht HNX HRUN0 hrun hlen hin q0 q1
        go_wp2_with (first
          | (go_at_call 28; (with_reducible refine (bits_Reader_Take.calls 200 g l0 a bad 64 tv a2 bad2 w1 wr HS.out HB.out HT.out).mono ?_); rintro e w5 ⟨rfl, hs, hb2, hk⟩; have HS5 := Aside0.mk hs; have HB5 := Aside0.mk hb2; have HO5 := Aside0.mk (Kd.R_mono (ok' := fun _ => True) (Kd.R_keep (HS.out.apart HO.out (by decide)) hk (fun _ h => h.2)) (fun _ _ => trivial)); obtain ⟨ad5, e5, hx5⟩ := Kd.at_int (Kd.R_reads' HO5.out).2.2 jj hj0 (by rw [HLEN.out]; have := HJ.out; omega); cases e5; rw [HRD.out] at hx5; clear hs hb2 hk HS HB HO)
          | ((with_reducible refine gate_builtin (b := .append) (xs := #[.tmp 34, .tmp 42]) rfl ?_); at_builtin; refine Kd.R_append (Kd.int .i64) (w0 := w1) w1.heap.size rfl (.tmp 34) (.tmp 42) 72 2 (.int .i64 0) 8 rfl Try.underlying72 info2 rfl (by decide) (by omega) (.slice (some ad) ln c7) out sv [.int .i64 sv] (fun _ => True) (fun _ => False) rfl rfl ?aP (fun _ hk => hk.elim) ?aF ?aO ?aB ?aS ?aL ?_; (case aP => exact rfl); (case aB => exact HB5.out); (case aF => exact (fun _ _ => trivial)); (case aO => exact HO5.out); (case aS => exact (below_size HB5.out)); (case aL => have := HLEN.out; omega); intro v6 w6 ho hb hg hat; have HO6 := Aside0.mk ho; have HB6 := Aside0.mk hb; have HS6 := Aside0.mk (HS5.out.grown hg (HS5.out.own_ne HO5.out (by decide))); clear ho hb hg hat HS5 HB5 HO5))
        go_roundw
        case rel => exact ⟨i + 1, _, _, rfl, rfl, ⟨by have := HI.out; omega⟩, ⟨hlt⟩, ⟨a2, bad2, out ++ [sv], HRUN.out, HS6.out, HB6.out, HO6.out, by have := HLEN.out; simp; omega⟩⟩
        case measure => simp [intOf]; have := HI.out; have := HNN.out; omega
      · have e1 : (ii == 1) = false := by rw [beq_eq_false_iff_ne]; omega
        rw [if_neg q0, if_neg q1] at hnext
        obtain ⟨⟨tv, a2, bad2⟩, ht, hnext⟩ := Option.bind_eq_some_iff.1 hnext
        injection hnext with hnext; injection hnext with g1 hnext; injection hnext with g2 hnext; injection hnext with g3 g4
        have g1' : out ++ [IntKind.i64.wrap (xv + IntKind.i64.wrap (st + tv))] = out1 := g1
        have g2' : IntKind.i64.wrap (st + tv) = st1 := g2
        have g3' : a2 = a1 := g3
        have g4' : bad2 = bad1 := g4
        rw [g2'] at g1'
        subst g3'; subst g4'
        obtain ⟨sv, hsv⟩ : ∃ sv, IntKind.i64.wrap (xv + st1) = sv := ⟨_, rfl⟩
        rw [hsv] at g1'
        subst g1'
        have HRUN := HNX
        have HT : Aside0 (times_difference.f 200 l0 a bad = some (tv, a2, bad2)) := ⟨ht⟩
        have hsv' : wrap64 (xv + st1) = sv := (i64_w _).symm.trans hsv
        have hst' : wrap64 (st + tv) = st1 := (i64_w _).symm.trans g2'
        clear g1 g2 g3 g4 ht HNX HRUN0 hrun hlen hin q0 q1
        go_wp2_with (first
          | (go_at_call 78; (with_reducible refine (times_difference.calls 200 g l0 a bad tv a2 bad2 w1 wr HS.out HB.out HT.out).mono ?_); rintro e w5 ⟨rfl, hs, hb2, hk⟩; have HS5 := Aside0.mk hs; have HB5 := Aside0.mk hb2; have HO5 := Aside0.mk (Kd.R_mono (ok' := fun _ => True) (Kd.R_keep (HS.out.apart HO.out (by decide)) hk (fun _ h => h.2)) (fun _ _ => trivial)); obtain ⟨ad5, e5, hx5⟩ := Kd.at_int (Kd.R_reads' HO5.out).2.2 jj hj0 (by rw [HLEN.out]; have := HJ.out; omega); cases e5; rw [HRD.out] at hx5; clear hs hb2 hk HS HB HO)
          | ((with_reducible refine gate_builtin (b := .append) (xs := #[.tmp 34, .tmp 42]) rfl ?_); at_builtin; refine Kd.R_append (Kd.int .i64) (w0 := w1) w1.heap.size rfl (.tmp 34) (.tmp 42) 72 2 (.int .i64 0) 8 rfl Try.underlying72 info2 rfl (by decide) (by omega) (.slice (some ad) ln c7) out sv [.int .i64 sv] (fun _ => True) (fun _ => False) rfl rfl ?aP (fun _ hk => hk.elim) ?aF ?aO ?aB ?aS ?aL ?_; (case aP => exact rfl); (case aB => exact HB5.out); (case aF => exact (fun _ _ => trivial)); (case aO => exact HO5.out); (case aS => exact (below_size HB5.out)); (case aL => have := HLEN.out; omega); intro v6 w6 ho hb hg hat; have HO6 := Aside0.mk ho; have HB6 := Aside0.mk hb; have HS6 := Aside0.mk (HS5.out.grown hg (HS5.out.own_ne HO5.out (by decide))); clear ho hb hg hat HS5 HB5 HO5))
        go_roundw
        case rel => exact ⟨i + 1, _, _, rfl, rfl, ⟨by have := HI.out; omega⟩, ⟨hlt⟩, ⟨a2, bad2, out ++ [sv], HRUN.out, HS6.out, HB6.out, HO6.out, by have := HLEN.out; simp; omega⟩⟩
        case measure => simp [intOf]; have := HI.out; have := HNN.out; omega
    · have hi2 : decide (ii < nn) = false := by rw [decide_eq_false_iff_not]; have := HN.out; omega
      have hil : i = n := by have := HIL.out; omega
      subst hil
      have HO := Aside0.mk ho
      have hE : (out, st, a, bad) = (out0, st0, at0, bad0) := by
        have := HRN.out
        rw [hrun] at this; exact Option.some.inj this
      injection hE with g1 g2; injection g2 with g2 g3; injection g3 with g3 g4
      subst g1; subst g4
      clear g2 g3 hrun HRUN0 ho hin hlen
      cases bad with
      | true =>
        have HBD : Aside0 (bits_Reader_Bad.f l0 a true = some (true, a, true)) := ⟨rfl⟩
        go_wp2_with (go_at_call 29; (with_reducible refine (bits_Reader_Bad.calls g l0 a true true a true w1 wr HS.out HB.out HBD.out).mono ?_); rintro e w5 ⟨rfl, hs, hb2, hk⟩; have HB5 := Aside0.mk hb2; clear hs hb2 hk)
        go_ret2
        exact ⟨_, rfl, Kd.R_nil _ _ _ _ _, below_step HB1.out HB5.out⟩
      | false =>
        have HBD : Aside0 (bits_Reader_Bad.f l0 a false = some (false, a, false)) := ⟨rfl⟩
        go_wp2_with (go_at_call 29; (with_reducible refine (bits_Reader_Bad.calls g l0 a false false a false w1 wr HS.out HB.out HBD.out).mono ?_); rintro e w5 ⟨rfl, hs, hb2, hk⟩; have HB5 := Aside0.mk hb2; have HO5 := Aside0.mk (Kd.R_mono (ok' := fun _ => True) (Kd.R_keep (HS.out.apart HO.out (by decide)) hk (fun _ h => h.2)) (fun _ _ => trivial)); clear hs hb2 hk HS HB HO)
        go_ret2
        exact ⟨_, rfl, Kd.R_lower HO5.out HB1.out.size, below_step HB1.out HB5.out⟩
theorem times_getTwice.calls (A0 : Option Addr) (c0 : Nat) (l0 : List Int) (a1 : Int) (r1 : List Int) (r2 : Int) (w : World) (hr0 : Kd.C (Kd.int .u8) w A0 l0.length l0) (hc0 : l0.length ≤ c0) (h : times_getTwice.f l0 a1 = some (r1, r2)) :
    Calls Try.prog 71 #[.slice A0 l0.length c0, .int .i64 a1] w fun e w' => ∃ v0_ : Value, e = .returned (.tuple #[v0_, .int .i64 r2]) ∧ Kd.R (Kd.int .i64) 2 w' w.heap.size (fun _ => True) v0_ r1 ∧ Below w.heap.size w w' := by
  unfold times_getTwice.f at h
  by_cases h1 : a1 ≤ 200 ∧ l0.length < 1000000000
  · rw [if_pos h1] at h
    obtain ⟨⟨out0, st0, at0, bad0⟩, hr, h⟩ := Option.bind_eq_some_iff.1 h
    have := times_getTwice.calls_main A0 c0 l0 a1 a1.toNat out0 st0 at0 bad0 w hr0 hc0 rfl (by omega) h1.2 hr
    cases bad0 with
    | true => injection h with h; injection h with e1 e2; subst e1; subst e2; exact this
    | false => injection h with h; injection h with e1 e2; subst e1; subst e2; exact this
  · rw [if_neg h1] at h; cases h

end Go.Proofs.Ytmlbppfcpejlpaa.X

-- Printed by this session's own program (wip/xprint.py) over the translation; its external functions are hand-written. Lean checks it.
namespace Go.Proofs.Ytmlbppfcpejlpaa.X
open Go.RowKit Go.Proofs.YtmlbppfcpejlpaaW.PrintWords Go.Proofs.YtmlbppfcpejlpaaW.PrintLast Go.Proofs.YtmlbppfcpejlpaaW.PrintMore
attribute [local go_sem] max2_int min2_int max_two min_two max_three min_three max_four min_four   -- for this text's walks alone
set_option linter.unusedVariables false
set_option linter.unusedSimpArgs false

/-! ### times_got: function 64 -/
def times_got.f (k : Nat) (l0 : List Int) (a1 : Int) (a2 : Int) : Option (List Int × Int) := if a2 = 0 then ((times_getRaw.f k l0 a1).bind fun bt523 => (some (bt523.1, bt523.2))) else (if a2 = 1 then ((times_getDelta.f k l0 a1).bind fun bt527 => (some (bt527.1, bt527.2))) else (if a2 = 2 then ((times_getTwice.f l0 a1).bind fun bt531 => (some (bt531.1, bt531.2))) else ((times_getPacked.f k l0 a1).bind fun bt535 => (some (bt535.1, bt535.2)))))
theorem times_got.mono : ∀ a0 a1 a2 k, LeO (times_got.f k a0 a1 a2) (times_got.f (k + 1) a0 a1 a2) := by
  intro a0 a1 a2 k
  unfold times_got.f
  repeat' first
      | (with_reducible exact times_getDelta.mono _ _ _)
      | (with_reducible exact times_getPacked.mono _ _ _)
      | (with_reducible exact times_getRaw.mono _ _ _)
      | (with_reducible exact LeO.refl _)
      | (with_reducible exact LeO.none _)
      | (with_reducible refine LeO.ite ?_ ?_)
      | (with_reducible refine LeO.bind ?_ (fun _ => ?_))
      | exact times_getDelta.mono _ _ _
      | exact times_getPacked.mono _ _ _
      | exact times_getRaw.mono _ _ _
      | exact LeO.none _
      | refine LeO.ite ?_ ?_
      | refine LeO.bind ?_ (fun _ => ?_)
set_option maxHeartbeats 8000000 in
set_option maxRecDepth 100000 in
theorem times_got.calls (k : Nat) (A0 : Option Addr) (c0 : Nat) (l0 : List Int) (a1 : Int) (a2 : Int) (r1 : List Int) (r2 : Int) (w : World) (hr0 : Kd.C (Kd.int .u8) w A0 l0.length l0) (hc0 : l0.length ≤ c0) (h : times_got.f k l0 a1 a2 = some (r1, r2)) :
    Calls Try.prog 64 #[.slice A0 l0.length c0, .int .i64 a1, .int .i64 a2] w fun e w' => ∃ v0_ : Value, e = .returned (.tuple #[v0_, .int .i64 r2]) ∧ Kd.R (Kd.int .i64) 2 w' w.heap.size (fun _ => True) v0_ r1 ∧ Below w.heap.size w w' := by
  have HR0 := Aside0.mk hr0
  have HC0 := Aside0.mk hc0
  clear hr0 hc0
  have HB := Aside0.mk (Below.refl w.heap.size w)
  have H : (if a2 = 0 then ((times_getRaw.f k l0 a1).bind fun bt523 => (some (bt523.1, bt523.2))) else (if a2 = 1 then ((times_getDelta.f k l0 a1).bind fun bt527 => (some (bt527.1, bt527.2))) else (if a2 = 2 then ((times_getTwice.f l0 a1).bind fun bt531 => (some (bt531.1, bt531.2))) else ((times_getPacked.f k l0 a1).bind fun bt535 => (some (bt535.1, bt535.2)))))) = some (r1, r2) := h
  clear h
  by_cases c4 : a2 = 0
  · rw [if_pos c4] at H
    have c4b0 : (a2 == 0) = true := beq_iff_eq.mpr c4
    have c4b1 : (a2 != 0) = false := bne_eq_false_iff_eq.mpr c4
    clear c4
    replace H := Option.bind_eq_some_iff.mp H
    obtain ⟨⟨t523, t524⟩, A50, H⟩ := H
    replace H : (some (t523, t524)) = some (r1, r2) := H
    have A5 := Aside0.mk A50
    clear A50
    simp only [Option.some.injEq, Prod.mk.injEq] at H
    obtain ⟨rfl, rfl⟩ := H
    go_enter Try.func64, Try.ntmps64
    go_wp2_with (first | ((with_reducible refine gate_callee (f := 69) rfl ?_); refine goesL_ (some 13) rfl rfl Try.func69 (by kernel_rfl) rfl #[.slice A0 l0.length c0, .int .i64 a1] rfl (by (try simp only [List.map_toArray, List.map_cons, List.map_nil]); first | done | rfl | (simp only [List.length_drop, List.length_take]; rfl)) ?_; (with_reducible refine (times_getRaw.calls k _ _ l0 a1 t523 t524 _ ?side1 ?side2 A5.out).mono ?_); (case side1 => repeat (first | exact HR0.out | (with_reducible refine Kd.C_alloc ?_ _) | (with_reducible refine Kd.C_drewN ?_ _) | (with_reducible refine Kd.C_drew ?_))); (case side2 => exact HC0.out); rintro e w6 ⟨v525, rfl, ho0, hb⟩; refine ⟨_, rfl, ?_⟩; have n0_ := Aside0.mk (Kd.R_lower ho0 (below_size (by repeat (first | (with_reducible first | exact HB.out | apply below_alloc | apply pw_below_drewN | apply below_drew1) | exact HB.out)))); have n1_ := Aside0.mk (below_step (by repeat (first | (with_reducible first | exact HB.out | apply below_alloc | apply pw_below_drewN | apply below_drew1) | exact HB.out)) hb); clear HB; have HO526 := n0_; have HB := n1_; clear n0_ n1_; (try clear hb); (try clear hb2); (try clear hk); (try clear hi); (try clear ho0)))
    go_ret2
    exact ⟨_, by first | rfl | (simp [errW_none, errW_some] <;> rfl) | (simp [*, errW_none, errW_some] <;> rfl), by (with_reducible repeat (first | apply Kd.R_alloc | apply Kd.R_drewN | apply Kd.R_drew)); exact HO526.out, by repeat (first | (with_reducible first | exact HB.out | apply below_alloc | apply pw_below_drewN | apply below_drew1) | exact HB.out)⟩
  · rw [if_neg c4] at H
    have c4b0 : (a2 == 0) = false := beq_eq_false_iff_ne.mpr c4
    have c4b1 : (a2 != 0) = true := bne_iff_ne.mpr c4
    by_cases c7 : a2 = 1
    · rw [if_pos c7] at H
      have c7b0 : (a2 == 1) = true := beq_iff_eq.mpr c7
      have c7b1 : (a2 != 1) = false := bne_eq_false_iff_eq.mpr c7
      clear c7
      replace H := Option.bind_eq_some_iff.mp H
      obtain ⟨⟨t527, t530⟩, A80, H⟩ := H
      replace H : (some (t527, t530)) = some (r1, r2) := H
      have A8 := Aside0.mk A80
      clear A80
      simp only [Option.some.injEq, Prod.mk.injEq] at H
      obtain ⟨rfl, rfl⟩ := H
      go_enter Try.func64, Try.ntmps64
      go_wp2_with (first | ((with_reducible refine gate_callee (f := 70) rfl ?_); refine goesL_ (some 20) rfl rfl Try.func70 (by kernel_rfl) rfl #[.slice A0 l0.length c0, .int .i64 a1] rfl (by (try simp only [List.map_toArray, List.map_cons, List.map_nil]); first | done | rfl | (simp only [List.length_drop, List.length_take]; rfl)) ?_; (with_reducible refine (times_getDelta.calls k (fun k_ => k_ < w.heap.size) _ _ l0 a1 t527 t530 _ ?side1 A8.out).mono ?_); (case side1 => exact Kd.V_mk HC0.out (Kd.F_below (Kd.C_F (Kd.heap_int .u8) HR0.out) (by repeat (first | (with_reducible first | exact HB.out | apply below_alloc | apply pw_below_drewN | apply below_drew1) | exact HB.out)))); rintro e w9 ⟨v528, rfl, ho0, hb⟩; refine ⟨_, rfl, ?_⟩; have n0_ := Aside0.mk (Kd.R_lower (Kd.R_mono (ok' := fun k_ => True) ho0 (fun _ hk_ => trivial)) (below_size (by repeat (first | (with_reducible first | exact HB.out | apply below_alloc | apply pw_below_drewN | apply below_drew1) | exact HB.out)))); have n1_ := Aside0.mk (below_step (by repeat (first | (with_reducible first | exact HB.out | apply below_alloc | apply pw_below_drewN | apply below_drew1) | exact HB.out)) hb); clear HB; have HO529 := n0_; have HB := n1_; clear n0_ n1_; (try clear hb); (try clear hb2); (try clear hk); (try clear hi); (try clear ho0)))
      go_ret2
      exact ⟨_, by first | rfl | (simp [errW_none, errW_some] <;> rfl) | (simp [*, errW_none, errW_some] <;> rfl), by (with_reducible repeat (first | apply Kd.R_alloc | apply Kd.R_drewN | apply Kd.R_drew)); exact HO529.out, by repeat (first | (with_reducible first | exact HB.out | apply below_alloc | apply pw_below_drewN | apply below_drew1) | exact HB.out)⟩
    · rw [if_neg c7] at H
      have c7b0 : (a2 == 1) = false := beq_eq_false_iff_ne.mpr c7
      have c7b1 : (a2 != 1) = true := bne_iff_ne.mpr c7
      by_cases c10 : a2 = 2
      · rw [if_pos c10] at H
        have c10b0 : (a2 == 2) = true := beq_iff_eq.mpr c10
        have c10b1 : (a2 != 2) = false := bne_eq_false_iff_eq.mpr c10
        clear c10
        replace H := Option.bind_eq_some_iff.mp H
        obtain ⟨⟨t531, t532⟩, A110, H⟩ := H
        replace H : (some (t531, t532)) = some (r1, r2) := H
        have A11 := Aside0.mk A110
        clear A110
        simp only [Option.some.injEq, Prod.mk.injEq] at H
        obtain ⟨rfl, rfl⟩ := H
        go_enter Try.func64, Try.ntmps64
        go_wp2_with (first | ((with_reducible refine gate_callee (f := 71) rfl ?_); refine goesL_ (some 27) rfl rfl Try.func71 (by kernel_rfl) rfl #[.slice A0 l0.length c0, .int .i64 a1] rfl (by (try simp only [List.map_toArray, List.map_cons, List.map_nil]); first | done | rfl | (simp only [List.length_drop, List.length_take]; rfl)) ?_; (with_reducible refine (times_getTwice.calls _ _ l0 a1 t531 t532 _ ?side1 ?side2 A11.out).mono ?_); (case side1 => repeat (first | exact HR0.out | (with_reducible refine Kd.C_alloc ?_ _) | (with_reducible refine Kd.C_drewN ?_ _) | (with_reducible refine Kd.C_drew ?_))); (case side2 => exact HC0.out); rintro e w12 ⟨v533, rfl, ho0, hb⟩; refine ⟨_, rfl, ?_⟩; have n0_ := Aside0.mk (Kd.R_lower ho0 (below_size (by repeat (first | (with_reducible first | exact HB.out | apply below_alloc | apply pw_below_drewN | apply below_drew1) | exact HB.out)))); have n1_ := Aside0.mk (below_step (by repeat (first | (with_reducible first | exact HB.out | apply below_alloc | apply pw_below_drewN | apply below_drew1) | exact HB.out)) hb); clear HB; have HO534 := n0_; have HB := n1_; clear n0_ n1_; (try clear hb); (try clear hb2); (try clear hk); (try clear hi); (try clear ho0)))
        go_ret2
        exact ⟨_, by first | rfl | (simp [errW_none, errW_some] <;> rfl) | (simp [*, errW_none, errW_some] <;> rfl), by (with_reducible repeat (first | apply Kd.R_alloc | apply Kd.R_drewN | apply Kd.R_drew)); exact HO534.out, by repeat (first | (with_reducible first | exact HB.out | apply below_alloc | apply pw_below_drewN | apply below_drew1) | exact HB.out)⟩
      · rw [if_neg c10] at H
        have c10b0 : (a2 == 2) = false := beq_eq_false_iff_ne.mpr c10
        have c10b1 : (a2 != 2) = true := bne_iff_ne.mpr c10
        replace H := Option.bind_eq_some_iff.mp H
        obtain ⟨⟨t535, t536⟩, A130, H⟩ := H
        replace H : (some (t535, t536)) = some (r1, r2) := H
        have A13 := Aside0.mk A130
        clear A130
        simp only [Option.some.injEq, Prod.mk.injEq] at H
        obtain ⟨rfl, rfl⟩ := H
        go_enter Try.func64, Try.ntmps64
        go_wp2_with (first | ((with_reducible refine gate_callee (f := 72) rfl ?_); refine goesL_ (some 32) rfl rfl Try.func72 (by kernel_rfl) rfl #[.slice A0 l0.length c0, .int .i64 a1] rfl (by (try simp only [List.map_toArray, List.map_cons, List.map_nil]); first | done | rfl | (simp only [List.length_drop, List.length_take]; rfl)) ?_; (with_reducible refine (times_getPacked.calls k _ _ l0 a1 t535 t536 _ ?side1 ?side2 A13.out).mono ?_); (case side1 => repeat (first | exact HR0.out | (with_reducible refine Kd.C_alloc ?_ _) | (with_reducible refine Kd.C_drewN ?_ _) | (with_reducible refine Kd.C_drew ?_))); (case side2 => exact HC0.out); rintro e w14 ⟨v537, rfl, ho0, hb⟩; refine ⟨_, rfl, ?_⟩; have n0_ := Aside0.mk (Kd.R_lower ho0 (below_size (by repeat (first | (with_reducible first | exact HB.out | apply below_alloc | apply pw_below_drewN | apply below_drew1) | exact HB.out)))); have n1_ := Aside0.mk (below_step (by repeat (first | (with_reducible first | exact HB.out | apply below_alloc | apply pw_below_drewN | apply below_drew1) | exact HB.out)) hb); clear HB; have HO538 := n0_; have HB := n1_; clear n0_ n1_; (try clear hb); (try clear hb2); (try clear hk); (try clear hi); (try clear ho0)))
        go_ret2
        exact ⟨_, by first | rfl | (simp [errW_none, errW_some] <;> rfl) | (simp [*, errW_none, errW_some] <;> rfl), by (with_reducible repeat (first | apply Kd.R_alloc | apply Kd.R_drewN | apply Kd.R_drew)); exact HO538.out, by repeat (first | (with_reducible first | exact HB.out | apply below_alloc | apply pw_below_drewN | apply below_drew1) | exact HB.out)⟩

end Go.Proofs.Ytmlbppfcpejlpaa.X

-- Printed by this session's own program (wip/xprint.py) over the translation; its external functions are hand-written. Lean checks it.
namespace Go.Proofs.Ytmlbppfcpejlpaa.X
open Go.RowKit Go.Proofs.YtmlbppfcpejlpaaW.PrintWords Go.Proofs.YtmlbppfcpejlpaaW.PrintLast Go.Proofs.YtmlbppfcpejlpaaW.PrintMore
attribute [local go_sem] max2_int min2_int max_two min_two max_three min_three max_four min_four   -- for this text's walks alone
set_option linter.unusedVariables false
set_option linter.unusedSimpArgs false

/-! ### times_offsets: function 68 -/
def times_offsets.l0 : Nat → List Int → List Int → List Int → Int → Int → Option (List Int)
  | 0, _, _, _, _, _ => none
  | k + 1, x0, x3, x6, x7, x8 => if x8 < x7 then (if 0 ≤ x8 then (if x8 < (x6.length : Int) then (if 0 < (x0.length : Int) then (if x3.length < 17592186044416 then (times_offsets.l0 k x0 (x3 ++ [IntKind.u64.wrap ((IntKind.u64.wrap (rd x6 x8)) - (IntKind.u64.wrap (rd x0 0)))]) x6 x7 (wrap64 (x8 + 1))) else (none)) else (none)) else (none)) else (none)) else (some x3)
def times_offsets.f (k : Nat) (l0 : List Int) : Option (List Int) := times_offsets.l0 k l0 ([] : List Int) l0 (l0.length : Int) 0
theorem times_offsets.mono_l : ∀ k, (∀ y0 y1 y2 y3 y4, LeO (times_offsets.l0 k y0 y1 y2 y3 y4) (times_offsets.l0 (k + 1) y0 y1 y2 y3 y4))
  | 0 => fun _ _ _ _ _ r h => by simp [times_offsets.l0] at h
  | k + 1 => by
    have ih0 := times_offsets.mono_l k
    · intro y0 y1 y2 y3 y4
      unfold times_offsets.l0
      repeat' first
      | (with_reducible exact ih0 _ _ _ _ _)
      | (with_reducible exact LeO.refl _)
      | (with_reducible exact LeO.none _)
      | (with_reducible refine LeO.ite ?_ ?_)
      | (with_reducible refine LeO.bind ?_ (fun _ => ?_))
      | exact ih0 _ _ _ _ _
      | exact LeO.none _
      | refine LeO.ite ?_ ?_
      | refine LeO.bind ?_ (fun _ => ?_)
theorem times_offsets.mono : ∀ a0 k, LeO (times_offsets.f k a0) (times_offsets.f (k + 1) a0) := by
  intro a0 k
  have ih0 := times_offsets.mono_l k
  unfold times_offsets.f
  repeat' first
      | (with_reducible exact ih0 _ _ _ _ _)
      | (with_reducible exact LeO.refl _)
      | (with_reducible exact LeO.none _)
      | (with_reducible refine LeO.ite ?_ ?_)
      | (with_reducible refine LeO.bind ?_ (fun _ => ?_))
      | exact ih0 _ _ _ _ _
      | exact LeO.none _
      | refine LeO.ite ?_ ?_
      | refine LeO.bind ?_ (fun _ => ?_)
set_option maxHeartbeats 8000000 in
set_option maxRecDepth 100000 in
theorem times_offsets.calls (k : Nat) (A0 : Option Addr) (c0 : Nat) (l0 : List Int) (r : List Int) (w : World) (hr0 : Kd.C (Kd.int .i64) w A0 l0.length l0) (hc0 : l0.length ≤ c0) (h : times_offsets.f k l0 = some r) :
    Calls Try.prog 68 #[.slice A0 l0.length c0] w fun e w' => ∃ v0_ : Value, e = .returned (v0_) ∧ Kd.R (Kd.int .u64) 23 w' w.heap.size (fun _ => True) v0_ r ∧ Below w.heap.size w w' := by
  have HR0 := Aside0.mk hr0
  have HC0 := Aside0.mk hc0
  clear hr0 hc0
  have HB := Aside0.mk (Below.refl w.heap.size w)
  have H : (times_offsets.l0 k l0 ([] : List Int) l0 (l0.length : Int) 0) = some r := h
  clear h
  have H' := Aside0.mk H
  clear H
  go_enter Try.func68, Try.ntmps68
  go_wp2
  go_loopg [3, 8] k (fun kq v3 v8 w' => ∃ (x3_1 : List Int) (x8_1 : Int), v8 = .int .i64 x8_1 ∧ Aside0 (times_offsets.l0 kq l0 x3_1 l0 (l0.length : Int) x8_1 = some r) ∧ Aside0 (kq ≤ k) ∧ Aside0 (Kd.R (Kd.int .u64) 23 w' w.heap.size (fun _ => True) v3 x3_1) ∧ Aside0 (Below w.heap.size w w'))
  case atStart => exact ⟨(([] : List Int)), (0), (by first | rfl | (simp; done) | (simp [*]; done)), H', ⟨Nat.le_refl _⟩, ⟨by first | exact Kd.R_nil _ _ _ _ _ | exact Kd.N_nil _ _ _ _ _ | exact Kd.V_nil _ _ _ _ _ | exact Kd.Q_nil _ _ _ _ _ | exact Kd.S_nil _ _ _ _ _⟩, ⟨by repeat (first | (with_reducible first | exact HB.out | apply below_alloc | apply pw_below_drewN | apply below_drew1) | exact HB.out)⟩⟩
  case round =>
    clear H'
    obtain ⟨x3_1, x8_1, rfl, HA, HK1, HO_3, HB⟩ := hrel
    cases gk with
    | zero => exact absurd HA.out (by simp [times_offsets.l0])
    | succ k1 =>
      have H := HA.out
      clear HA
      simp only [times_offsets.l0] at H
      by_cases c2 : x8_1 < (l0.length : Int)
      · rw [if_pos c2] at H
        have c2b0 : decide (x8_1 < (l0.length : Int)) = true := decide_eq_true c2
        clear c2
        by_cases c3 : 0 ≤ x8_1
        · rw [if_pos c3] at H
          have c3b0 : decide (0 ≤ x8_1) = true := decide_eq_true c3
          clear c3
          by_cases c4 : x8_1 < (l0.length : Int)
          · rw [if_pos c4] at H
            have c4b0 : decide (x8_1 < (l0.length : Int)) = true := decide_eq_true c4
            clear c4
            by_cases c5 : 0 < (l0.length : Int)
            · rw [if_pos c5] at H
              have c5b0 : decide (0 < (l0.length : Int)) = true := decide_eq_true c5
              have c5b1 : decide (0 < l0.length) = true := decide_eq_true (by omega)
              clear c5
              by_cases c6 : x3_1.length < 17592186044416
              · rw [if_pos c6] at H
                have LMc6 := Aside0.mk c6
                clear c6
                obtain ⟨y432, hy432⟩ : ∃ y_ : List Int, y_ = (x3_1 ++ [IntKind.u64.wrap ((IntKind.u64.wrap (rd l0 x8_1)) - (IntKind.u64.wrap (rd l0 0)))]) := ⟨_, rfl⟩
                replace H : (times_offsets.l0 k1 l0 y432 l0 (l0.length : Int) (wrap64 (x8_1 + 1))) = some r := by first | (rw [hy432]; with_reducible exact H) | (have H2_ := (Option.bind_some _ _).symm.trans H; rw [hy432]; with_reducible exact H2_) | (have H2_ := (Option.bind_some _ _).symm.trans H; with_reducible exact H2_) | with_reducible exact H | (rw [hy432]; exact H) | exact H
                have Ny432 := Aside0.mk hy432
                clear hy432
                have H' := Aside0.mk H
                clear H
                have p430 : 0 ≤ (x8_1 : Int) := of_decide_eq_true (by first | (with_reducible assumption) | assumption)
                have q430 : x8_1 < (l0.length : Int) := of_decide_eq_true (by first | (with_reducible assumption) | assumption)
                obtain ⟨ad430, e430, hx430_0⟩ := Kd.at_int HR0.out x8_1 p430 q430
                cases e430
                replace hx430_0 := (HB.out.cell (World.block_lt_of_cell? w _ hx430_0)).trans hx430_0
                replace p430 := eq_true p430
                replace q430 := eq_true q430
                have p431 : 0 ≤ (0 : Int) := (by omega)
                have q431 : 0 < (l0.length : Int) := of_decide_eq_true (by first | (with_reducible assumption) | assumption)
                obtain ⟨ad431, e431, hx431_0⟩ := Kd.at_int HR0.out 0 p431 q431
                obtain rfl : ad430 = ad431 := (by injection e431)
                have qi431 : (0 < l0.length) = True := eq_true (by omega)
                (try rw [show ((0 : Int)).toNat = 0 from rfl] at hx431_0)
                (try rw [Addr.add_zero'] at hx431_0)
                replace hx431_0 := (HB.out.cell (World.block_lt_of_cell? w _ hx431_0)).trans hx431_0
                replace p431 := eq_true p431
                replace q431 := eq_true q431
                go_wp2_with (first | ((with_reducible refine gate_builtin (b := .append) (xs := #[.tmp 12, .tmp 20]) rfl ?_); at_builtin; refine Kd.R_append (Kd.int .u64) (w0 := w) w.heap.size rfl (.tmp 12) (.tmp 20) 34 23 (.int .u64 0) 8 rfl Try.underlying34 info23 rfl (by decide) (by omega) u3 x3_1 (IntKind.u64.wrap ((IntKind.u64.wrap (rd l0 x8_1)) - (IntKind.u64.wrap (rd l0 0)))) [.int .u64 (IntKind.u64.wrap ((IntKind.u64.wrap (rd l0 x8_1)) - (IntKind.u64.wrap (rd l0 0))))] (fun _ => True) (fun _ => False) rfl rfl ?aP (fun _ hk => hk.elim) ?aF ?aO ?aB ?aS ?aL ?_; (case aP => exact rfl); (case aB => exact (by repeat (first | (with_reducible first | exact HB.out | apply below_alloc | apply pw_below_drewN | apply below_drew1) | exact HB.out))); (case aF => exact (fun _ _ => trivial)); (case aO => exact (by (with_reducible repeat (first | apply Kd.R_alloc | apply Kd.R_drewN | apply Kd.R_drew)); exact HO_3.out)); (case aS => exact (below_size (by repeat (first | (with_reducible first | exact HB.out | apply below_alloc | apply pw_below_drewN | apply below_drew1) | exact HB.out)))); (case aL => have := LMc6.out; omega); intro v433 w7 ho hb hg hat; rw [← Ny432.out] at ho; have n0_ := Aside0.mk (hb); have n1_ := Aside0.mk (ho); clear HB; clear HO_3; have HB := n0_; have HO434 := n1_; clear n0_ n1_; clear ho hb hg hat))
                go_roundg k1
                case measure => have := HK1.out; omega
                case rel => exact ⟨(y432), (wrap64 (x8_1 + 1)), (by first | rfl | (simp; done) | (simp [*]; done)), H', ⟨by have := HK1.out; omega⟩, ⟨by (with_reducible repeat (first | apply Kd.R_alloc | apply Kd.R_drewN | apply Kd.R_drew)); exact HO434.out⟩, ⟨by repeat (first | (with_reducible first | exact HB.out | apply below_alloc | apply pw_below_drewN | apply below_drew1) | exact HB.out)⟩⟩
              · rw [if_neg c6] at H
                exact absurd H (by simp)
            · rw [if_neg c5] at H
              exact absurd H (by simp)
          · rw [if_neg c4] at H
            exact absurd H (by simp)
        · rw [if_neg c3] at H
          exact absurd H (by simp)
      · rw [if_neg c2] at H
        have c2b0 : decide (x8_1 < (l0.length : Int)) = false := decide_eq_false c2
        clear c2
        obtain rfl := Option.some.inj H
        go_wp2
        go_ret
        exact ⟨_, by first | rfl | (simp [errW_none, errW_some] <;> rfl) | (simp [*, errW_none, errW_some] <;> rfl), by (with_reducible repeat (first | apply Kd.R_alloc | apply Kd.R_drewN | apply Kd.R_drew)); exact HO_3.out, by repeat (first | (with_reducible first | exact HB.out | apply below_alloc | apply pw_below_drewN | apply below_drew1) | exact HB.out)⟩

end Go.Proofs.Ytmlbppfcpejlpaa.X

-- Printed by this session's own program (wip/xprint.py) over the translation; its external functions are hand-written. Lean checks it.
namespace Go.Proofs.Ytmlbppfcpejlpaa.X
open Go.RowKit Go.Proofs.YtmlbppfcpejlpaaW.PrintWords Go.Proofs.YtmlbppfcpejlpaaW.PrintLast Go.Proofs.YtmlbppfcpejlpaaW.PrintMore
attribute [local go_sem] max2_int min2_int max_two min_two max_three min_three max_four min_four   -- for this text's walks alone
set_option linter.unusedVariables false
set_option linter.unusedSimpArgs false

/-! ### times_raw: function 63 -/
def times_raw.l0 : Nat → List Int → Int → Int → Option (List Int)
  | 0, _, _, _ => none
  | k + 1, x0, x1, x5 => if x5 ≥ 0 then (if 0 ≤ (wrap64 (8 * x5)) then (if x0.length < 140737488355328 then (times_raw.l0 k (x0 ++ [(shr .u64 x1 (wrap64 (8 * x5))) % 256]) x1 (wrap64 (x5 - 1))) else (none)) else (none)) else (some x0)
def times_raw.f (k : Nat) (l0 : List Int) (a1 : Int) : Option (List Int) := times_raw.l0 k l0 a1 7
theorem times_raw.mono_l : ∀ k, (∀ y0 y1 y2, LeO (times_raw.l0 k y0 y1 y2) (times_raw.l0 (k + 1) y0 y1 y2))
  | 0 => fun _ _ _ r h => by simp [times_raw.l0] at h
  | k + 1 => by
    have ih0 := times_raw.mono_l k
    · intro y0 y1 y2
      unfold times_raw.l0
      repeat' first
      | (with_reducible exact ih0 _ _ _)
      | (with_reducible exact LeO.refl _)
      | (with_reducible exact LeO.none _)
      | (with_reducible refine LeO.ite ?_ ?_)
      | (with_reducible refine LeO.bind ?_ (fun _ => ?_))
      | exact ih0 _ _ _
      | exact LeO.none _
      | refine LeO.ite ?_ ?_
      | refine LeO.bind ?_ (fun _ => ?_)
theorem times_raw.mono : ∀ a0 a1 k, LeO (times_raw.f k a0 a1) (times_raw.f (k + 1) a0 a1) := by
  intro a0 a1 k
  have ih0 := times_raw.mono_l k
  unfold times_raw.f
  repeat' first
      | (with_reducible exact ih0 _ _ _)
      | (with_reducible exact LeO.refl _)
      | (with_reducible exact LeO.none _)
      | (with_reducible refine LeO.ite ?_ ?_)
      | (with_reducible refine LeO.bind ?_ (fun _ => ?_))
      | exact ih0 _ _ _
      | exact LeO.none _
      | refine LeO.ite ?_ ?_
      | refine LeO.bind ?_ (fun _ => ?_)
set_option maxHeartbeats 8000000 in
set_option maxRecDepth 100000 in
theorem times_raw.calls (k : Nat) (P0_ : Nat → Prop) (u9000_ : Value) (l0 : List Int) (a1 : Int) (r : List Int) (w0 w : World) (hB : Below w0.heap.size w0 w) (ho0 : Kd.R (Kd.int .u8) 5 w w0.heap.size P0_ u9000_ l0) (h : times_raw.f k l0 a1 = some r) :
    Calls Try.prog 63 #[u9000_, .int .u64 a1] w fun e w' => ∃ v0_ : Value, e = .returned (v0_) ∧ Kd.R (Kd.int .u8) 5 w' w0.heap.size (fun k_ => (P0_ k_ ∨ w.heap.size ≤ k_)) v0_ r ∧ Below w0.heap.size w0 w' ∧ Kept w w' (fun k_ => P0_ k_) := by
  have HO0 := Aside0.mk (show Kd.R (Kd.int .u8) 5 w w0.heap.size (fun k_ => (P0_ k_ ∨ w.heap.size ≤ k_)) u9000_ l0 from Kd.R_mono ho0 (fun k_ hk => (.inl hk)))
  have HK := Aside0.mk (Kept.refl w (fun k_ => P0_ k_))
  have HW0 := Aside0.mk hB.size
  have HB := Aside0.mk hB
  clear hB
  have H : (times_raw.l0 k l0 a1 7) = some r := h
  clear h
  have H' := Aside0.mk H
  clear H
  go_enter Try.func63, Try.ntmps63
  go_wp2
  go_loopg [0, 5] k (fun kq v0 v5 w' => ∃ (x0_1 : List Int) (x5_1 : Int), v5 = .int .i64 x5_1 ∧ Aside0 (times_raw.l0 kq x0_1 a1 x5_1 = some r) ∧ Aside0 (kq ≤ k) ∧ Aside0 (Kd.R (Kd.int .u8) 5 w' w0.heap.size (fun k_ => (P0_ k_ ∨ w.heap.size ≤ k_)) v0 x0_1) ∧ Aside0 (Kept w w' (fun k_ => P0_ k_)) ∧ Aside0 (Below w0.heap.size w0 w'))
  case atStart => exact ⟨(l0), (7), (by first | rfl | (simp; done) | (simp [*]; done)), H', ⟨Nat.le_refl _⟩, ⟨by (with_reducible repeat (first | apply Kd.R_alloc | apply Kd.R_drewN | apply Kd.R_drew)); exact HO0.out⟩, ⟨by repeat (first | (with_reducible first | exact HK.out | apply Kept.alloc | apply Kept.drewN | apply Kept.drew) | exact HK.out)⟩, ⟨by repeat (first | (with_reducible first | exact HB.out | apply below_alloc | apply pw_below_drewN | apply below_drew1) | exact HB.out)⟩⟩
  case round =>
    clear H'
    try clear p2
    obtain ⟨x0_1, x5_1, rfl, HA, HK1, HO_0, HK, HB⟩ := hrel
    cases gk with
    | zero => exact absurd HA.out (by simp [times_raw.l0])
    | succ k1 =>
      have H := HA.out
      clear HA
      simp only [times_raw.l0] at H
      by_cases c3 : x5_1 ≥ 0
      · rw [if_pos c3] at H
        have c3b0 : decide (0 ≤ x5_1) = true := decide_eq_true c3
        clear c3
        obtain ⟨ji4, hji4⟩ : ∃ j_ : Int, (wrap64 (8 * x5_1)) = j_ := ⟨_, rfl⟩
        replace H : (if 0 ≤ (ji4) then (if x0_1.length < 140737488355328 then (times_raw.l0 k1 (x0_1 ++ [(shr .u64 a1 (ji4)) % 256]) a1 (wrap64 (x5_1 - 1))) else (none)) else (none)) = some r := by first | (rw [hji4] at H; exact H) | (simp only [hji4] at H ⊢; exact H)
        have hji4w : (IntKind.i64.wrap (8 * x5_1)) = ji4 := (i64_w _).trans hji4
        by_cases c5 : 0 ≤ (ji4)
        · rw [if_pos c5] at H
          have c5b0 := eq_true c5
          have c5b1 : decide (0 ≤ (ji4)) = true := decide_eq_true c5
          clear c5
          obtain ⟨ji6, hji6⟩ : ∃ j_ : Int, (shr .u64 a1 (ji4)) = j_ := ⟨_, rfl⟩
          replace H : (if x0_1.length < 140737488355328 then (times_raw.l0 k1 (x0_1 ++ [(ji6) % 256]) a1 (wrap64 (x5_1 - 1))) else (none)) = some r := by first | (rw [hji6] at H; exact H) | (simp only [hji6] at H ⊢; exact H)
          have hji6_ : (a1 / 2 ^ min (ji4).toNat 64) = ji6 := hji6
          have hji6z : (ji4) ≤ 64 → (a1 / 2 ^ (ji4).toNat) = ji6 := shr_small hji6
          by_cases c7 : x0_1.length < 140737488355328
          · rw [if_pos c7] at H
            have LMc7 := Aside0.mk c7
            clear c7
            obtain ⟨y427, hy427⟩ : ∃ y_ : List Int, y_ = (x0_1 ++ [(ji6) % 256]) := ⟨_, rfl⟩
            replace H : (times_raw.l0 k1 y427 a1 (wrap64 (x5_1 - 1))) = some r := by first | (rw [hy427]; with_reducible exact H) | (have H2_ := (Option.bind_some _ _).symm.trans H; rw [hy427]; with_reducible exact H2_) | (have H2_ := (Option.bind_some _ _).symm.trans H; with_reducible exact H2_) | with_reducible exact H | (rw [hy427]; exact H) | exact H
            have Ny427 := Aside0.mk hy427
            clear hy427
            have H' := Aside0.mk H
            clear H
            go_wp2_with (first | ((with_reducible refine gate_builtin (b := .append) (xs := #[.tmp 10, .tmp 16]) rfl ?_); at_builtin; refine Kd.R_append (Kd.int .u8) (w0 := w0) w0.heap.size rfl (.tmp 10) (.tmp 16) 22 5 (.int .u8 0) 1 rfl Try.underlying22 info5 rfl (by decide) (by omega) u0 x0_1 ((ji6) % 256) [.int .u8 ((ji6) % 256)] (fun k_ => (P0_ k_ ∨ w.heap.size ≤ k_)) (fun _ => False) rfl rfl ?aP (fun _ hk => hk.elim) ?aF ?aO ?aB ?aS ?aL ?_; (case aP => exact rfl); (case aB => exact (by repeat (first | (with_reducible first | exact HB.out | apply below_alloc | apply pw_below_drewN | apply below_drew1) | exact HB.out))); (case aF => exact (fun k_ hk => (.inr (Nat.le_trans (by first | exact HK.out.1 | exact (show Kept w _ (fun k_ => P0_ k_) from by repeat (first | (with_reducible first | exact HK.out | apply Kept.alloc | apply Kept.drewN | apply Kept.drew) | exact HK.out)).1) hk)))); (case aO => exact (by (with_reducible repeat (first | apply Kd.R_alloc | apply Kd.R_drewN | apply Kd.R_drew)); exact HO_0.out)); (case aS => exact (below_size (by repeat (first | (with_reducible first | exact HB.out | apply below_alloc | apply pw_below_drewN | apply below_drew1) | exact HB.out)))); (case aL => have := LMc7.out; omega); intro v428 w8 ho hb hg hat; rw [← Ny427.out] at ho; have n0_ := Aside0.mk (hb); have n1_ := Aside0.mk (Kept.of_grown (S := (fun k_ => P0_ k_)) hg (by repeat (first | (with_reducible first | exact HK.out | apply Kept.alloc | apply Kept.drewN | apply Kept.drew) | exact HK.out)) (fun k_ e_ => (HO_0.out.1 k_ e_))); have n2_ := Aside0.mk (ho); clear HB; clear HK; clear HO_0; have HB := n0_; have HK := n1_; have HO429 := n2_; clear n0_ n1_ n2_; clear ho hb hg hat))
            go_roundg k1
            case measure => have := HK1.out; omega
            case rel => exact ⟨(y427), (wrap64 (x5_1 - 1)), (by first | rfl | (simp; done) | (simp [*]; done)), H', ⟨by have := HK1.out; omega⟩, ⟨by (with_reducible repeat (first | apply Kd.R_alloc | apply Kd.R_drewN | apply Kd.R_drew)); exact HO429.out⟩, ⟨by repeat (first | (with_reducible first | exact HK.out | apply Kept.alloc | apply Kept.drewN | apply Kept.drew) | exact HK.out)⟩, ⟨by repeat (first | (with_reducible first | exact HB.out | apply below_alloc | apply pw_below_drewN | apply below_drew1) | exact HB.out)⟩⟩
          · rw [if_neg c7] at H
            exact absurd H (by simp)
        · rw [if_neg c5] at H
          exact absurd H (by simp)
      · rw [if_neg c3] at H
        have c3b0 : decide (0 ≤ x5_1) = false := decide_eq_false c3
        clear c3
        obtain rfl := Option.some.inj H
        go_wp2
        go_ret
        exact ⟨_, by first | rfl | (simp [errW_none, errW_some] <;> rfl) | (simp [*, errW_none, errW_some] <;> rfl), by (with_reducible repeat (first | apply Kd.R_alloc | apply Kd.R_drewN | apply Kd.R_drew)); exact HO_0.out, by repeat (first | (with_reducible first | exact HB.out | apply below_alloc | apply pw_below_drewN | apply below_drew1) | exact HB.out), by repeat (first | (with_reducible first | exact HK.out | apply Kept.alloc | apply Kept.drewN | apply Kept.drew) | exact HK.out)⟩

end Go.Proofs.Ytmlbppfcpejlpaa.X

-- Printed by this session's own program (wip/xprint.py) over the translation; its external functions are hand-written. Lean checks it.
namespace Go.Proofs.Ytmlbppfcpejlpaa.X
open Go.RowKit Go.Proofs.YtmlbppfcpejlpaaW.PrintWords Go.Proofs.YtmlbppfcpejlpaaW.PrintLast Go.Proofs.YtmlbppfcpejlpaaW.PrintMore
attribute [local go_sem] max2_int min2_int max_two min_two max_three min_three max_four min_four   -- for this text's walks alone
set_option linter.unusedVariables false
set_option linter.unusedSimpArgs false

/-! ### times_packed: function 62 -/
def times_packed.f (k : Nat) (l0 : List Int) : Option (List Int) := (times_offsets.f k l0).bind fun t435 => ((pack_Put.f t435).bind fun bt438 => (if 0 < (l0.length : Int) then ((times_raw.f k ([] : List Int) (IntKind.u64.wrap (rd l0 0))).bind fun t443 => (if t443.length + bt438.1.length < 140737488355328 then (some (t443 ++ bt438.1)) else (none))) else (none)))
theorem times_packed.mono : ∀ a0 k, LeO (times_packed.f k a0) (times_packed.f (k + 1) a0) := by
  intro a0 k
  unfold times_packed.f
  repeat' first
      | (with_reducible exact times_offsets.mono _ _)
      | (with_reducible exact times_raw.mono _ _ _)
      | (with_reducible exact LeO.refl _)
      | (with_reducible exact LeO.none _)
      | (with_reducible refine LeO.ite ?_ ?_)
      | (with_reducible refine LeO.bind ?_ (fun _ => ?_))
      | exact times_offsets.mono _ _
      | exact times_raw.mono _ _ _
      | exact LeO.none _
      | refine LeO.ite ?_ ?_
      | refine LeO.bind ?_ (fun _ => ?_)
set_option maxHeartbeats 8000000 in
set_option maxRecDepth 100000 in
theorem times_packed.calls (k : Nat) (A0 : Option Addr) (c0 : Nat) (l0 : List Int) (r : List Int) (w : World) (hr0 : Kd.C (Kd.int .i64) w A0 l0.length l0) (hc0 : l0.length ≤ c0) (h : times_packed.f k l0 = some r) :
    Calls Try.prog 62 #[.slice A0 l0.length c0] w fun e w' => ∃ v0_ : Value, e = .returned (v0_) ∧ Kd.R (Kd.int .u8) 5 w' w.heap.size (fun _ => True) v0_ r ∧ Below w.heap.size w w' := by
  have HR0 := Aside0.mk hr0
  have HC0 := Aside0.mk hc0
  clear hr0 hc0
  have HB := Aside0.mk (Below.refl w.heap.size w)
  have H : ((times_offsets.f k l0).bind fun t435 => ((pack_Put.f t435).bind fun bt438 => (if 0 < (l0.length : Int) then ((times_raw.f k ([] : List Int) (IntKind.u64.wrap (rd l0 0))).bind fun t443 => (if t443.length + bt438.1.length < 140737488355328 then (some (t443 ++ bt438.1)) else (none))) else (none)))) = some r := h
  clear h
  replace H := Option.bind_eq_some_iff.mp H
  obtain ⟨t435, A20, H⟩ := H
  replace H : ((pack_Put.f t435).bind fun bt438 => (if 0 < (l0.length : Int) then ((times_raw.f k ([] : List Int) (IntKind.u64.wrap (rd l0 0))).bind fun t443 => (if t443.length + bt438.1.length < 140737488355328 then (some (t443 ++ bt438.1)) else (none))) else (none))) = some r := H
  have A2 := Aside0.mk A20
  clear A20
  replace H := Option.bind_eq_some_iff.mp H
  obtain ⟨⟨t438, t439⟩, A30, H⟩ := H
  replace H : (if 0 < (l0.length : Int) then ((times_raw.f k ([] : List Int) (IntKind.u64.wrap (rd l0 0))).bind fun t443 => (if t443.length + t438.length < 140737488355328 then (some (t443 ++ t438)) else (none))) else (none)) = some r := H
  have A3 := Aside0.mk A30
  clear A30
  by_cases c4 : 0 < (l0.length : Int)
  · rw [if_pos c4] at H
    have c4b0 : decide (0 < (l0.length : Int)) = true := decide_eq_true c4
    have c4b1 : decide (0 < l0.length) = true := decide_eq_true (by omega)
    clear c4
    replace H := Option.bind_eq_some_iff.mp H
    obtain ⟨t443, A50, H⟩ := H
    replace H : (if t443.length + t438.length < 140737488355328 then (some (t443 ++ t438)) else (none)) = some r := H
    have A5 := Aside0.mk A50
    clear A50
    by_cases c6 : t443.length + t438.length < 140737488355328
    · rw [if_pos c6] at H
      have LMc6 := Aside0.mk c6
      clear c6
      obtain ⟨y446, hy446⟩ : ∃ y_ : List Int, y_ = (t443 ++ t438) := ⟨_, rfl⟩
      replace H : (some y446) = some r := by first | (rw [hy446]; with_reducible exact H) | (have H2_ := (Option.bind_some _ _).symm.trans H; rw [hy446]; with_reducible exact H2_) | (have H2_ := (Option.bind_some _ _).symm.trans H; with_reducible exact H2_) | with_reducible exact H | (rw [hy446]; exact H) | exact H
      have Ny446 := Aside0.mk hy446
      clear hy446
      obtain rfl := Option.some.inj H
      go_enter Try.func62, Try.ntmps62
      go_wp2_with (first | ((with_reducible refine gate_callee (f := 68) rfl ?_); refine goesL_ (some 7) rfl rfl Try.func68 (by kernel_rfl) rfl #[.slice A0 l0.length c0] rfl (by (try simp only [List.map_toArray, List.map_cons, List.map_nil]); first | done | rfl | (simp only [List.length_drop, List.length_take]; rfl)) ?_; (with_reducible refine (times_offsets.calls k _ _ l0 t435 _ ?side1 ?side2 A2.out).mono ?_); (case side1 => repeat (first | exact HR0.out | (with_reducible refine Kd.C_alloc ?_ _) | (with_reducible refine Kd.C_drewN ?_ _) | (with_reducible refine Kd.C_drew ?_))); (case side2 => exact HC0.out); rintro e w7 ⟨v436, rfl, ho0, hb⟩; refine ⟨_, rfl, ?_⟩; have n0_ := Aside0.mk (Kd.R_lower ho0 (below_size (by repeat (first | (with_reducible first | exact HB.out | apply below_alloc | apply pw_below_drewN | apply below_drew1) | exact HB.out)))); have n1_ := Aside0.mk (below_step (by repeat (first | (with_reducible first | exact HB.out | apply below_alloc | apply pw_below_drewN | apply below_drew1) | exact HB.out)) hb); clear HB; have HO437 := n0_; have HB := n1_; clear n0_ n1_; (try clear hb); (try clear hb2); (try clear hk); (try clear hi); (try clear ho0); obtain ⟨Ao8, co8, eo8⟩ := Kd.R_slice HO437.out; subst eo8) | ((with_reducible refine gate_callee (f := 41) rfl ?_); refine goesL_ (some 8) rfl rfl Try.func41 (by kernel_rfl) rfl #[.slice Ao8 t435.length co8] rfl (by (try simp only [List.map_toArray, List.map_cons, List.map_nil]); first | done | rfl | (simp only [List.length_drop, List.length_take]; rfl)) ?_; (with_reducible refine (pack_Put.calls _ _ t435 t438 t439 _ ?side1 ?side2 A3.out).mono ?_); (case side1 => repeat (first | exact (Kd.R_reads' HO437.out).2.2 | (with_reducible refine Kd.C_alloc ?_ _) | (with_reducible refine Kd.C_drewN ?_ _) | (with_reducible refine Kd.C_drew ?_))); (case side2 => exact (Kd.R_reads' HO437.out).2.1); rintro e w9 ⟨v440, rfl, ho0, hb⟩; refine ⟨_, rfl, ?_⟩; have n0_ := Aside0.mk (Kd.R_below (by (with_reducible repeat (first | apply Kd.R_alloc | apply Kd.R_drewN | apply Kd.R_drew)); exact HO437.out) hb); have n1_ := Aside0.mk (Kd.R_lower ho0 (below_size (by repeat (first | (with_reducible first | exact HB.out | apply below_alloc | apply pw_below_drewN | apply below_drew1) | exact HB.out)))); have n2_ := Aside0.mk (below_step (by repeat (first | (with_reducible first | exact HB.out | apply below_alloc | apply pw_below_drewN | apply below_drew1) | exact HB.out)) hb); clear HO437; clear HB; have HO437 := n0_; have HO441 := n1_; have HB := n2_; clear n0_ n1_ n2_; (try clear hb); (try clear hb2); (try clear hk); (try clear hi); (try clear ho0); have p442 : 0 ≤ (0 : Int) := (by omega); have q442 : 0 < (l0.length : Int) := of_decide_eq_true (by first | (with_reducible assumption) | assumption); obtain ⟨ad442, e442, hx442_0⟩ := Kd.at_int HR0.out 0 p442 q442; cases e442; have qi442 : (0 < l0.length) = True := eq_true (by omega); (try rw [show ((0 : Int)).toNat = 0 from rfl] at hx442_0); (try rw [Addr.add_zero'] at hx442_0); replace hx442_0 := (HB.out.cell (World.block_lt_of_cell? w _ hx442_0)).trans hx442_0; replace p442 := eq_true p442; replace q442 := eq_true q442) | ((with_reducible refine gate_callee (f := 63) rfl ?_); refine goesL_ (some 15) rfl rfl Try.func63 (by kernel_rfl) rfl #[.slice none 0 0, .int .u64 (IntKind.u64.wrap (rd l0 0))] rfl (by (try simp only [List.map_toArray, List.map_cons, List.map_nil]); first | done | rfl | (simp only [List.length_drop, List.length_take]; rfl)) ?_; (refine (times_raw.calls k (fun k_ => some k_ = (.slice none 0 0 : Value).ownBlock) (.slice none 0 0) ([] : List Int) (IntKind.u64.wrap (rd l0 0)) t443 w _ ?side1 ?side2 A5.out).mono ?_); (case side1 => repeat (first | (with_reducible first | exact HB.out | apply below_alloc | apply pw_below_drewN | apply below_drew1) | exact HB.out)); (case side2 => exact Kd.R_nil _ _ _ _ _); rintro e w10 ⟨v444, rfl, ho0, hb, hkp⟩; refine ⟨_, rfl, ?_⟩; have n0_ := Aside0.mk (Kd.R_mono (ok' := fun k_ => True) (Kd.R_keptB (HO437.out) hkp (fun k_ hk_ hs_ => (fun e_ => by simp [Value.ownBlock] at e_) hs_)) (fun k_ hk_ => trivial)); have n1_ := Aside0.mk (Kd.R_mono (ok' := fun k_ => some k_ ≠ (v444 : Value).ownBlock) (Kd.R_keptB (HO441.out) hkp (fun k_ hk_ hs_ => (fun e_ => by simp [Value.ownBlock] at e_) hs_)) (fun k_ hk_ => fun e_ => Or.elim (ho0.1 k_ e_.symm) (fun hs_ => hk_.2.1 hs_) (fun hn_ => Nat.not_le.2 hk_.2.2 hn_))); have n2_ := Aside0.mk (Kd.R_mono (ok' := fun k_ => some k_ ≠ (v440 : Value).ownBlock) ho0 (fun k_ hk_ => Or.elim hk_ (fun hs_ => absurd hs_ (by simp [Value.ownBlock])) (fun hn_ => (Kd.fresh' (Kd.R_lt (by (with_reducible repeat (first | apply Kd.R_alloc | apply Kd.R_drewN | apply Kd.R_drew)); exact HO441.out)) k_ hn_)))); have n3_ := Aside0.mk (hb); clear HO437; clear HO441; clear HB; have HO437 := n0_; have HO441 := n1_; have HO445 := n2_; have HB := n3_; clear n0_ n1_ n2_ n3_; (try clear hb); (try clear hkp); (try clear ho0); obtain ⟨Ao12, co12, eo12⟩ := Kd.R_slice HO441.out; subst eo12) | ((with_reducible refine gate_builtin (b := .append) (xs := #[.tmp 15, .tmp 16]) rfl ?_); at_builtin; refine Kd.R_append_rows (Kd.int .u8) (w0 := w) w.heap.size rfl (.tmp 15) (.tmp 16) 22 5 (.int .u8 0) 1 rfl Try.underlying22 info5 rfl (by decide) (by omega) v444 t443 t438 _ _ _ (fun k_ => some k_ ≠ (.slice Ao12 t438.length co12 : Value).ownBlock) (fun _ => False) rfl rfl ?aO ?aR (fun _ _ h => h) (fun _ h => h.elim) ?aF ?aB ?aS ?aL ?_; (case aR => repeat (first | exact (Kd.R_reads' HO441.out).2.2 | (with_reducible refine Kd.C_alloc ?_ _) | (with_reducible refine Kd.C_drewN ?_ _) | (with_reducible refine Kd.C_drew ?_))); (case aB => exact (by repeat (first | (with_reducible first | exact HB.out | apply below_alloc | apply pw_below_drewN | apply below_drew1) | exact HB.out))); (case aF => exact (fun k_ hk => Kd.fresh' (Kd.R_lt (by (with_reducible repeat (first | apply Kd.R_alloc | apply Kd.R_drewN | apply Kd.R_drew)); exact HO441.out)) k_ hk)); (case aO => exact (by (with_reducible repeat (first | apply Kd.R_alloc | apply Kd.R_drewN | apply Kd.R_drew)); exact HO445.out)); (case aS => exact (below_size (by repeat (first | (with_reducible first | exact HB.out | apply below_alloc | apply pw_below_drewN | apply below_drew1) | exact HB.out)))); (case aL => have := LMc6.out; omega); intro v447 w11 ho hb hg hat; rw [← Ny446.out] at ho; have n0_ := Aside0.mk (Kd.R_over' (by (with_reducible repeat (first | apply Kd.R_alloc | apply Kd.R_drewN | apply Kd.R_drew)); exact HO437.out) (Kd.R_typed (by (with_reducible repeat (first | apply Kd.R_alloc | apply Kd.R_drewN | apply Kd.R_drew)); exact HO445.out)) (by decide) hg); have n1_ := Aside0.mk (Kd.R_after (ok := (fun _ => True)) (by (with_reducible repeat (first | apply Kd.R_alloc | apply Kd.R_drewN | apply Kd.R_drew)); exact Kd.R_mono HO441.out (fun _ hk => ⟨trivial, hk⟩)) hg hat); have n2_ := Aside0.mk (hb); have n3_ := Aside0.mk (ho); clear HO437; clear HO441; clear HB; clear HO445; have HO437 := n0_; have HO441 := n1_; have HB := n2_; have HO448 := n3_; clear n0_ n1_ n2_ n3_; clear ho hb hg hat))
      go_ret
      exact ⟨_, by first | rfl | (simp [errW_none, errW_some] <;> rfl) | (simp [*, errW_none, errW_some] <;> rfl), by (with_reducible repeat (first | apply Kd.R_alloc | apply Kd.R_drewN | apply Kd.R_drew)); exact Kd.R_mono HO448.out (fun _ hk => trivial), by repeat (first | (with_reducible first | exact HB.out | apply below_alloc | apply pw_below_drewN | apply below_drew1) | exact HB.out)⟩
    · rw [if_neg c6] at H
      exact absurd H (by simp)
  · rw [if_neg c4] at H
    exact absurd H (by simp)

end Go.Proofs.Ytmlbppfcpejlpaa.X

-- Printed by this session's own program (wip/xprint.py) over the translation; its external functions are hand-written. Lean checks it.
namespace Go.Proofs.Ytmlbppfcpejlpaa.X
open Go.RowKit Go.Proofs.YtmlbppfcpejlpaaW.PrintWords Go.Proofs.YtmlbppfcpejlpaaW.PrintLast Go.Proofs.YtmlbppfcpejlpaaW.PrintMore
attribute [local go_sem] max2_int min2_int max_two min_two max_three min_three max_four min_four   -- for this text's walks alone
set_option linter.unusedVariables false
set_option linter.unusedSimpArgs false

/-! ### times_fits: function 76 -/
def times_fits.f (a0 : Int) (a1 : Int) : Option (Bool) := if a1 = 64 then (some true) else (if 0 ≤ (wrap64 (a1 - 1)) then (if a0 ≥ (wrap64 (-(shl .i64 1 (wrap64 (a1 - 1))))) then (some (decide (a0 < (shl .i64 1 (wrap64 (a1 - 1)))))) else (some false)) else (none))
set_option maxHeartbeats 8000000 in
set_option maxRecDepth 100000 in
theorem times_fits.calls (a0 : Int) (a1 : Int) (r : Bool) (w : World) (h : times_fits.f a0 a1 = some r) :
    Calls Try.prog 76 #[.int .i64 a0, .int .i64 a1] w fun e w' => e = .returned (.bool r) ∧ Drawn0 w w' := by
  have H : (if a1 = 64 then (some true) else (if 0 ≤ (wrap64 (a1 - 1)) then (if a0 ≥ (wrap64 (-(shl .i64 1 (wrap64 (a1 - 1))))) then (some (decide (a0 < (shl .i64 1 (wrap64 (a1 - 1)))))) else (some false)) else (none))) = some r := h
  clear h
  by_cases c3 : a1 = 64
  · rw [if_pos c3] at H
    have c3b0 : (a1 == 64) = true := beq_iff_eq.mpr c3
    have c3b1 : (a1 != 64) = false := bne_eq_false_iff_eq.mpr c3
    clear c3
    obtain rfl := Option.some.inj H
    go_enter Try.func76, Try.ntmps76
    go_wp2
    go_ret
    exact ⟨by first | rfl | (simp; done) | (simp [*]; done), by repeat (first | exact Drawn0.refl _ | apply Drawn0.step)⟩
  · rw [if_neg c3] at H
    have c3b0 : (a1 == 64) = false := beq_eq_false_iff_ne.mpr c3
    have c3b1 : (a1 != 64) = true := bne_iff_ne.mpr c3
    obtain ⟨ji4, hji4⟩ : ∃ j_ : Int, (wrap64 (a1 - 1)) = j_ := ⟨_, rfl⟩
    replace H : (if 0 ≤ (ji4) then (if a0 ≥ (wrap64 (-(shl .i64 1 (ji4)))) then (some (decide (a0 < (shl .i64 1 (ji4))))) else (some false)) else (none)) = some r := by first | (rw [hji4] at H; exact H) | (simp only [hji4] at H ⊢; exact H)
    have hji4w : (IntKind.i64.wrap (a1 - 1)) = ji4 := (i64_w _).trans hji4
    by_cases c5 : 0 ≤ (ji4)
    · rw [if_pos c5] at H
      have c5b0 := eq_true c5
      have c5b1 : decide (0 ≤ (ji4)) = true := decide_eq_true c5
      clear c5
      obtain ⟨ji6, hji6⟩ : ∃ j_ : Int, (shl .i64 1 (ji4)) = j_ := ⟨_, rfl⟩
      replace H : (if a0 ≥ (wrap64 (-(ji6))) then (some (decide (a0 < (ji6)))) else (some false)) = some r := by first | (rw [hji6] at H; exact H) | (simp only [hji6] at H ⊢; exact H)
      have hji6_ : (IntKind.i64.wrap (1 * 2 ^ min (ji4).toNat 64)) = ji6 := hji6
      have hji6z : (ji4) ≤ 64 → (IntKind.i64.wrap (1 * 2 ^ (ji4).toNat)) = ji6 := shl_small hji6
      have hji6u : (IntKind.i64.wrap (2 ^ min (ji4).toNat 64)) = ji6 := by have h_ := hji6_; rw [Int.one_mul] at h_; exact h_
      have hji6v : (ji4) ≤ 64 → (IntKind.i64.wrap (2 ^ (ji4).toNat)) = ji6 := fun hle_ => by have h_ := hji6z hle_; rw [Int.one_mul] at h_; exact h_
      have hji6y : (wrap64 (1 * 2 ^ min (ji4).toNat 64)) = ji6 := (i64_w _).symm.trans hji6_
      have hji6x : (ji4) ≤ 64 → (wrap64 (1 * 2 ^ (ji4).toNat)) = ji6 := fun h_ => (i64_w _).symm.trans (hji6z h_)
      by_cases c7 : a0 ≥ (wrap64 (-(ji6)))
      · rw [if_pos c7] at H
        have c7b0 : decide ((wrap64 (-(ji6))) ≤ a0) = true := decide_eq_true c7
        clear c7
        have c8b0 := eq_true (of_decide_eq_true (by first | (with_reducible assumption) | assumption) : 0 ≤ (ji4))
        obtain rfl := Option.some.inj H
        go_enter Try.func76, Try.ntmps76
        go_wp2
        go_ret
        exact ⟨by first | rfl | (simp; done) | (simp only [← hji4, ← hji6] <;> (first | rfl | simp)) | (simp [*]; done), by repeat (first | exact Drawn0.refl _ | apply Drawn0.step)⟩
      · rw [if_neg c7] at H
        have c7b0 : decide ((wrap64 (-(ji6))) ≤ a0) = false := decide_eq_false c7
        clear c7
        obtain rfl := Option.some.inj H
        go_enter Try.func76, Try.ntmps76
        go_wp2
        go_ret
        exact ⟨by first | rfl | (simp; done) | (simp only [← hji4, ← hji6] <;> (first | rfl | simp)) | (simp [*]; done), by repeat (first | exact Drawn0.refl _ | apply Drawn0.step)⟩
    · rw [if_neg c5] at H
      exact absurd H (by simp)

end Go.Proofs.Ytmlbppfcpejlpaa.X

-- Printed by this session's own program (wip/xprint.py) over the translation; its external functions are hand-written. Lean checks it.
namespace Go.Proofs.Ytmlbppfcpejlpaa.X
open Go.RowKit Go.Proofs.YtmlbppfcpejlpaaW.PrintWords Go.Proofs.YtmlbppfcpejlpaaW.PrintLast Go.Proofs.YtmlbppfcpejlpaaW.PrintMore
attribute [local go_sem] max2_int min2_int max_two min_two max_three min_three max_four min_four   -- for this text's walks alone
set_option linter.unusedVariables false
set_option linter.unusedSimpArgs false

/-! ### times_second: function 67 -/
-- ALONE
open Go.Proofs.Ytmlbppfcpejlpaa.S Go.Proofs.Ytmlbppfcpejlpaa.B Go.Proofs.Ytmlbppfcpejlpaa.W04
/-- The bits of a difference of differences that is not nought. -/
def times_second.bits (d : Int) : List Int :=
  if -64 ≤ d ∧ d < 64 then bitsN 2 2 ++ bitsN 7 (IntKind.u64.wrap d) else if -256 ≤ d ∧ d < 256 then bitsN 3 6 ++ bitsN 9 (IntKind.u64.wrap d)
  else if -2048 ≤ d ∧ d < 2048 then bitsN 4 14 ++ bitsN 12 (IntKind.u64.wrap d) else bitsN 4 15 ++ bitsN 64 (IntKind.u64.wrap d)
def times_second.cls : List S105 := [⟨2, 2, 7⟩, ⟨6, 3, 9⟩, ⟨14, 4, 12⟩, ⟨15, 4, 64⟩]
def times_second.no (d : Int) (i : Nat) : Prop := (1 ≤ i → ¬ (-64 ≤ d ∧ d < 64)) ∧ (2 ≤ i → ¬ (-256 ≤ d ∧ d < 256)) ∧ (3 ≤ i → ¬ (-2048 ≤ d ∧ d < 2048))
theorem times_second.fit (d w q : Int) (h : w ≠ 64) (h0 : 0 ≤ wrap64 (w - 1)) (hq : shl .i64 1 (wrap64 (w - 1)) = q) (hn : wrap64 (-q) = -q) : times_fits.f d w = some (decide (-q ≤ d ∧ d < q)) := by
  unfold times_fits.f
  rw [if_neg h, if_pos h0, hq, hn]
  by_cases h1 : d ≥ -q
  · rw [if_pos h1]; simp [h1]
  · rw [if_neg h1]; simp; omega
theorem times_second.step (d : Int) (i : Nat) (hi : i ≤ 3) (hn : times_second.no d i) : ∃ (ld ls wd : Int) (t : Bool), rd_T105 times_second.cls (i : Int) = ⟨ld, ls, wd⟩ ∧ times_fits.f d wd = some t ∧ 0 ≤ ld ∧ ld < 18446744073709551616 ∧
    (t = true → bitsN (cl ls) ld ++ bitsN (cl wd) (IntKind.u64.wrap d) = times_second.bits d) ∧ (t = false → i < 3 ∧ times_second.no d (i + 1)) := by
  obtain ⟨n1, n2, n3⟩ := hn
  have hi : i = 0 ∨ i = 1 ∨ i = 2 ∨ i = 3 := by omega
  rcases hi with rfl | rfl | rfl | rfl
  · refine ⟨2, 2, 7, _, rfl, times_second.fit d 7 64 (by decide) (by decide +kernel) (by decide +kernel) (by decide +kernel), by decide, by decide, fun h => ?_, fun h => ⟨by decide, ?_⟩⟩
    · have h := of_decide_eq_true h
      unfold times_second.bits; rw [if_pos h]; rfl
    · have h := of_decide_eq_false h
      exact ⟨fun _ => h, fun h2 => absurd h2 (by decide), fun h2 => absurd h2 (by decide)⟩
  · have h1 := n1 (by decide)
    refine ⟨6, 3, 9, _, rfl, times_second.fit d 9 256 (by decide) (by decide +kernel) (by decide +kernel) (by decide +kernel), by decide, by decide, fun h => ?_, fun h => ⟨by decide, ?_⟩⟩
    · have h := of_decide_eq_true h
      unfold times_second.bits; rw [if_neg h1, if_pos h]; rfl
    · have h := of_decide_eq_false h
      exact ⟨fun _ => h1, fun _ => h, fun h2 => absurd h2 (by decide)⟩
  · have h1 := n1 (by decide)
    have h2 := n2 (by decide)
    refine ⟨14, 4, 12, _, rfl, times_second.fit d 12 2048 (by decide) (by decide +kernel) (by decide +kernel) (by decide +kernel), by decide, by decide, fun h => ?_, fun h => ⟨by decide, ?_⟩⟩
    · have h := of_decide_eq_true h
      unfold times_second.bits; rw [if_neg h1, if_neg h2, if_pos h]; rfl
    · have h := of_decide_eq_false h
      exact ⟨fun _ => h1, fun _ => h2, fun _ => h⟩
  · refine ⟨15, 4, 64, true, rfl, by simp [times_fits.f], by decide, by decide, fun _ => ?_, fun h => (by cases h)⟩
    unfold times_second.bits; rw [if_neg (n1 (by decide)), if_neg (n2 (by decide)), if_neg (n3 (by decide))]; rfl
/-- A writer apart from a block. -/
def times_second.Off (w0 W : World) (g : Nat) (v : Value) (l : List Int) (gb : Nat) : Prop :=
  W.heap[g]? = some (.cells #[v, .int .i64 (l.length : Int)] 48 (0, 0)) ∧ g ≠ gb ∧ w0.heap.size ≤ g ∧ Kd.R (Kd.int .u8) 5 W w0.heap.size (fun k => k ≠ gb) v (packB l) ∧ Bits l
theorem times_second.Off.mk' {w0 W W1 g v l gb} (h : WAt w0 W g v l) (hg : gb = W.heap.size) (hb : Below W.heap.size W W1) : times_second.Off w0 W1 g v l gb := by
  have hl : g < W.heap.size := by
    by_cases hc : g < W.heap.size
    · exact hc
    · have := h.1; rw [Array.getElem?_eq_none (by omega)] at this; cases this
  exact ⟨blk_below h.1 hb, by omega, h.2.1, Kd.R_mono (Kd.R_below (Kd.R_elderB h.2.2.1 gb (Nat.le_of_eq hg.symm)) hb) (fun _ hk => hk.2), h.2.2.2⟩
theorem times_second.Off.drew {w0 W g v l gb} (h : times_second.Off w0 W g v l gb) : times_second.Off w0 W.drew g v l gb := ⟨h.1, h.2.1, h.2.2.1, Kd.R_drew h.2.2.2.1, h.2.2.2.2⟩
theorem times_second.Off.set {w0 W g v l gb} (h : times_second.Off w0 W g v l gb) (i : Nat) (x : Value) : times_second.Off w0 (W.setCell ⟨gb, i, none⟩ x) g v l gb :=
  ⟨blk_far h.1 (p := ⟨gb, i, none⟩) h.2.1 x, h.2.1, h.2.2.1, Kd.R_far (p := ⟨gb, i, none⟩) h.2.2.2.1 (fun _ hk => hk) x, h.2.2.2.2⟩
theorem times_second.Off.drawn {w0 W W1 g v l gb} (h : times_second.Off w0 W g v l gb) (hb : Below W.heap.size W W1) : times_second.Off w0 W1 g v l gb := ⟨blk_below h.1 hb, h.2.1, h.2.2.1, Kd.R_below h.2.2.2.1 hb, h.2.2.2.2⟩
theorem times_second.Off.out {w0 W g v l gb} (h : times_second.Off w0 W g v l gb) : WAt w0 W g v l := ⟨h.1, h.2.2.1, Kd.R_mono h.2.2.2.1 (fun _ _ => trivial), h.2.2.2.2⟩
theorem times_second.boxed {W w5 : World} {gb : Nat} {a b c x y z : Value} {T : Nat} (h : W.heap[gb]? = some (.cells #[a, b, c] T (0, 0))) (hb : Below (((W.setCell ⟨gb, 0, none⟩ x).setCell ⟨gb, 1, none⟩ y).setCell ⟨gb, 2, none⟩ z).heap.size (((W.setCell ⟨gb, 0, none⟩ x).setCell ⟨gb, 1, none⟩ y).setCell ⟨gb, 2, none⟩ z) w5) : w5.heap[gb]? = some (.cells #[x, y, z] T (0, 0)) :=
  blk_below (blk_put (cs := #[x, y, c]) (blk_put (cs := #[x, b, c]) (blk_put (cs := #[a, b, c]) h 0 _ rfl) 1 _ rfl) 2 _ rfl) hb
theorem times_second.keep {w w' : World} {g gb : Nat} {v : Value} {o : Obj} (hk : Kept w w' (Mine g v)) (hb : w.heap[gb]? = some o) (h1 : g ≠ gb) (h2 : some gb ≠ v.ownBlock) : w'.heap[gb]? = some o := by
  have hl : gb < w.heap.size := by
    by_cases hc : gb < w.heap.size
    · exact hc
    · rw [Array.getElem?_eq_none (by omega)] at hb; cases hb
  rw [hk.2 gb hl (fun h => h.elim (fun e => h1 e.symm) h2)]; exact hb
theorem times_second.elder {W W1 : World} {B gb : Nat} {v : Value} {xs : List S105} (h : Kd.R k105 105 W B (fun _ => True) v xs) (hg : gb = W.heap.size) (hb : Below W.heap.size W W1) : Kd.R k105 105 W1 B (fun k => k ≠ gb) v xs :=
  Kd.R_mono (Kd.R_below (Kd.R_elderB h gb (Nat.le_of_eq hg.symm)) hb) (fun _ hk => hk.2)
theorem times_second.far {W : World} {B gb i : Nat} {v x : Value} {xs : List S105} (h : Kd.R k105 105 W B (fun k => k ≠ gb) v xs) : Kd.R k105 105 (W.setCell ⟨gb, i, none⟩ x) B (fun k => k ≠ gb) v xs :=
  Kd.R_far (p := ⟨gb, i, none⟩) h (fun _ hk => hk) x
def times_second.Put2 (w0 : World) (g : Nat) (l : List Int) (e : Ending) (w' : World) : Prop :=
  e = .returned (.tuple #[]) ∧ ∃ v', WAt w0 w' g v' l ∧ Below w0.heap.size w0 w'
def times_second.Rel (w0 w : World) (g : Nat) (v : Value) (l : List Int) (d : Int) (vc : Value) (i : Nat) (wr : World) : Prop :=
  i ≤ 3 ∧ times_second.no d i ∧ WAt w0 wr g v l ∧ Below w0.heap.size w0 wr ∧ Kd.R k105 105 wr w0.heap.size (fun _ => True) vc times_second.cls
set_option maxHeartbeats 8000000 in
set_option maxRecDepth 100000 in
theorem times_second.calls (g : Nat) (v : Value) (l : List Int) (d : Int) (w0 w : World) (hI : WAt w0 w g v l) (hB : Below w0.heap.size w0 w) (hl : l.length < 999000000) :
    Calls Try.prog 67 #[.pointer (some ⟨g, 0, none⟩), .int .i64 d] w (times_second.Put2 w0 g (l ++ times_second.bits d)) := by
  have hu := Try.underlying105
  have HI := Aside0.mk hI
  have HB := Aside0.mk hB
  clear hI hB
  go_enter Try.func67, Try.ntmps67
  go_wp2_with (go_at_call 75; (with_reducible refine (times_classes.calls times_second.cls _ rfl).mono ?_); rintro e w1 ⟨v6, rfl, ho, hb⟩; obtain ⟨Ao, co, rfl⟩ := Kd.R_slice ho; have HO := Aside0.mk (Kd.R_lower ho HB.out.size); have HI1 := Aside0.mk (HI.out.below hb); have HB1 := Aside0.mk (below_step HB.out hb); clear ho hb HI HB)
  obtain ⟨n4, hn4⟩ : ∃ n4, n4 = times_second.cls.length := ⟨_, rfl⟩
  have hn4' : n4 = 4 := hn4
  rw [← hn4] at HO ⊢
  have HR : Aside0 (times_second.Rel w0 w g v l d (.slice Ao n4 co) 0 w1) := ⟨⟨by omega, ⟨fun h => absurd h (by decide), fun h => absurd h (by decide), fun h => absurd h (by decide)⟩, HI1.out, HB1.out, HO.out⟩⟩
  have HN := Aside0.mk hn4
  have HN4 := Aside0.mk hn4'
  clear HI1 HB1 HO hn4 hn4'
  go_loopw [8] (fun v8 wr => ∃ (i : Nat) (ii : Int), v8 = .int .i64 ii ∧ Aside0 (ii = (i : Int)) ∧ Aside0 (times_second.Rel w0 w g v l d (.slice Ao n4 co) i wr)) (fun v8 _ => (4 - intOf v8).toNat)
  case atStart => exact ⟨0, _, rfl, ⟨rfl⟩, HR⟩
  case round =>
    clear HR
    obtain ⟨i, ii, rfl, HII, HR⟩ := hrel
    obtain ⟨hi3, hno, hW, hB, hO⟩ := HR.out
    have HW := Aside0.mk hW
    have HB := Aside0.mk hB
    have HO := Aside0.mk hO
    clear HR hW hB hO
    obtain ⟨ld, ls, wv, t, hrd, hfit, hld0, hld1, ht, hf⟩ := times_second.step d i hi3 hno
    have HFIT := Aside0.mk hfit
    have HT := Aside0.mk ht
    have HF := Aside0.mk hf
    have hii := HII.out
    have p0 : 0 ≤ ii := by omega
    have q0 : ii < (n4 : Int) := by have := HN4.out; omega
    have p0' : 0 ≤ ii := p0
    have q3 : ii ≤ 3 := by omega
    have q1 : decide (ii < (n4 : Int)) = true := decide_eq_true q0
    rw [← hii] at hrd
    obtain ⟨ad, e, hx0, hx1, hx2⟩ := at_T105 (Kd.R_reads' HO.out).2.2 ii p0 (by rw [← HN.out]; exact q0)
    rw [hrd] at hx0 hx1 hx2
    simp only at hx0 hx1 hx2
    cases e
    replace p0 := eq_true p0
    replace q0 := eq_true q0
    obtain ⟨dv, hdv⟩ : ∃ dv, IntKind.u64.wrap d = dv := ⟨_, rfl⟩
    have hd0 : 0 ≤ dv ∧ dv < 18446744073709551616 := by rw [← hdv, wrap_u64]; omega
    have HDV := Aside0.mk hdv
    clear hrd hfit ht hf hii
    cases t with
    | true =>
      go_wp2_with (first
        | ((with_reducible refine gate_dst (N := 5) rfl ?_); refine box_event ?hg (N := 5) ?hd (cs := #[.int .u64 0, .int .i64 0, .int .i64 0]) (t := 105) ?hr ?_; (case hd => rfl); (case hg => rfl); (case hr => first | (go_simp; done) | (go_simp; rfl)); intro gb hg w31 hbox hb; have HOFF := Aside0.mk (times_second.Off.mk' (by first | exact HW.out | exact ⟨HW.out.1, HW.out.2.1, Kd.R_drew HW.out.2.2.1, HW.out.2.2.2⟩) hg hb); have GE := Aside0.mk (show w0.heap.size ≤ gb by rw [hg]; exact HB.out.size); have HB31 := Aside0.mk (below_step HB.out hb); have BK := Aside0.mk hbox; have hnb := HOFF.out.2.1; have hnb' := Ne.symm hnb; have hcz0 : w31.cell? ⟨gb, 0, none⟩ = some (.int .u64 0) := (blk_cell hbox 0).trans rfl; have hcz1 : w31.cell? ⟨gb, 1, none⟩ = some (.int .i64 0) := (blk_cell hbox 1).trans rfl; have hcz2 : w31.cell? ⟨gb, 2, none⟩ = some (.int .i64 0) := (blk_cell hbox 2).trans rfl; have hfz0 := blk_frozen hbox 0; have hfz1 := blk_frozen hbox 1; have hfz2 := blk_frozen hbox 2; clear HW HO HB hb hbox hg)
        | (go_at_call 76; (with_reducible refine (times_fits.calls d wv true _ HFIT.out).mono ?_); rintro e w5 ⟨rfl, hdr⟩; have OFF5 := Aside0.mk (times_second.Off.drawn (by repeat (first | exact HOFF.out | apply times_second.Off.set | apply times_second.Off.drew)) (Drawn0.below hdr)); have HB5 := Aside0.mk (below_step (by repeat (first | exact HB31.out | apply below_alloc | apply pw_below_drewN | apply below_drew1 | refine below_set ?_ GE.out)) (Drawn0.below hdr)); have BK5 := Aside0.mk (times_second.boxed BK.out (Drawn0.below hdr)); have hc0 : w5.cell? ⟨gb, 0, none⟩ = some (.int .u64 ld) := (blk_cell BK5.out 0).trans rfl; have hc1 : w5.cell? ⟨gb, 1, none⟩ = some (.int .i64 ls) := (blk_cell BK5.out 1).trans rfl; have hf0 := blk_frozen BK5.out 0; have hf1 := blk_frozen BK5.out 1; clear HOFF HB31 BK hdr)
        | (go_at_call 25; (with_reducible refine (put_calls g v l ld ls w0 _ OFF5.out.out HB5.out hld0 hld1 (by omega)).mono ?_); rintro e w6 ⟨rfl, v6, hW, hB, hK, hV⟩; have HW6 := Aside0.mk hW; have HB6 := Aside0.mk hB; have BK6 := Aside0.mk (times_second.keep hK BK5.out OFF5.out.2.1 (Kd.R_ne OFF5.out.2.2.2.1 BK5.out (by decide))); have hc2 : w6.cell? ⟨gb, 2, none⟩ = some (.int .i64 wv) := (blk_cell BK6.out 2).trans rfl; have hf2 := blk_frozen BK6.out 2; clear hW hB hK hV OFF5 HB5 BK5)
        | (go_at_call 25; (with_reducible refine (put_calls g v6 _ dv wv w0 _ HW6.out HB6.out hd0.1 hd0.2 (by rw [List.length_append, bitsN_len]; have := cl_le ls; omega)).mono ?_); rintro e w7 ⟨rfl, v7, hW, hB, hK, hV⟩; have HW7 := Aside0.mk hW; have HB7 := Aside0.mk hB; clear hW hB hK hV))
      go_end0
      refine ⟨rfl, v7, ?_, HB7.out⟩
      have e := HT.out (by trivial)
      rw [HDV.out] at e
      rw [← e, ← List.append_assoc]
      exact HW7.out
    | false =>
      obtain ⟨hi2, hno2⟩ := HF.out rfl
      go_wp2_with (first
        | ((with_reducible refine gate_dst (N := 5) rfl ?_); refine box_event ?hg (N := 5) ?hd (cs := #[.int .u64 0, .int .i64 0, .int .i64 0]) (t := 105) ?hr ?_; (case hd => rfl); (case hg => rfl); (case hr => first | (go_simp; done) | (go_simp; rfl)); intro gb hg w31 hbox hb; have HOFF := Aside0.mk (times_second.Off.mk' (by first | exact HW.out | exact ⟨HW.out.1, HW.out.2.1, Kd.R_drew HW.out.2.2.1, HW.out.2.2.2⟩) hg hb); have HOO := Aside0.mk (times_second.elder (by first | exact HO.out | exact Kd.R_drew HO.out) hg hb); have GE := Aside0.mk (show w0.heap.size ≤ gb by rw [hg]; exact HB.out.size); have HB31 := Aside0.mk (below_step HB.out hb); have BK := Aside0.mk hbox; have hnb := HOFF.out.2.1; have hnb' := Ne.symm hnb; have hcz0 : w31.cell? ⟨gb, 0, none⟩ = some (.int .u64 0) := (blk_cell hbox 0).trans rfl; have hcz1 : w31.cell? ⟨gb, 1, none⟩ = some (.int .i64 0) := (blk_cell hbox 1).trans rfl; have hcz2 : w31.cell? ⟨gb, 2, none⟩ = some (.int .i64 0) := (blk_cell hbox 2).trans rfl; have hfz0 := blk_frozen hbox 0; have hfz1 := blk_frozen hbox 1; have hfz2 := blk_frozen hbox 2; clear HW HO HB hb hbox hg)
        | (go_at_call 76; (with_reducible refine (times_fits.calls d wv false _ HFIT.out).mono ?_); rintro e w5 ⟨rfl, hdr⟩; have OFF5 := Aside0.mk (times_second.Off.drawn (by repeat (first | exact HOFF.out | apply times_second.Off.set | apply times_second.Off.drew)) (Drawn0.below hdr)); have HB5 := Aside0.mk (below_step (by repeat (first | exact HB31.out | apply below_alloc | apply pw_below_drewN | apply below_drew1 | refine below_set ?_ GE.out)) (Drawn0.below hdr)); have HO5 := Aside0.mk (Kd.R_below (by repeat (first | exact HOO.out | apply times_second.far | apply Kd.R_drew)) (Drawn0.below hdr)); clear HOFF HB31 BK hdr HOO))
      go_roundw
      case rel => exact ⟨i + 1, _, rfl, ⟨by have := HII.out; omega⟩, ⟨by omega, hno2, OFF5.out.out, HB5.out, Kd.R_mono HO5.out (fun _ _ => trivial)⟩⟩
      case measure => simp [intOf]; have := HII.out; omega

end Go.Proofs.Ytmlbppfcpejlpaa.X

-- Printed by this session's own program (wip/xprint.py) over the translation; its external functions are hand-written. Lean checks it.
namespace Go.Proofs.Ytmlbppfcpejlpaa.X
open Go.RowKit Go.Proofs.YtmlbppfcpejlpaaW.PrintWords Go.Proofs.YtmlbppfcpejlpaaW.PrintLast Go.Proofs.YtmlbppfcpejlpaaW.PrintMore
attribute [local go_sem] max2_int min2_int max_two min_two max_three min_three max_four min_four   -- for this text's walks alone
set_option linter.unusedVariables false
set_option linter.unusedSimpArgs false

/-! ### times_twice: function 61 -/
open Go.Proofs.Ytmlbppfcpejlpaa.S Go.Proofs.Ytmlbppfcpejlpaa.B Go.Proofs.Ytmlbppfcpejlpaa.W04
/-- The difference of a number with the one ahead. -/
def times_twice.dif (l : List Int) (i : Nat) : Int := if i = 0 then 0 else IntKind.i64.wrap (rd l (i : Int) - rd l ((i - 1 : Nat) : Int))
/-- The bits of one number. -/
def times_twice.piece (l : List Int) (i : Nat) : List Int :=
  if i = 0 then bitsN 64 (IntKind.u64.wrap (rd l (i : Int))) else if i = 1 then bitsN 64 (IntKind.u64.wrap (times_twice.dif l i)) else if times_twice.dif l i = times_twice.dif l (i - 1) then bitsN 1 0
  else times_second.bits (IntKind.i64.wrap (times_twice.dif l i - times_twice.dif l (i - 1)))
def times_twice.part (l : List Int) : Nat → List Int
  | 0 => []
  | i + 1 => times_twice.part l i ++ times_twice.piece l i
def times_twice.last (l : List Int) (i : Nat) : Int := if i = 0 then 0 else rd l ((i - 1 : Nat) : Int)
def times_twice.step (l : List Int) (i : Nat) : Int := if i = 0 then 0 else times_twice.dif l (i - 1)
def times_twice.f (l0 : List Int) : Option (List Int) := if l0.length ≤ 200 then some (packB (times_twice.part l0 l0.length)) else none
theorem times_twice.sec_len (d : Int) : (times_second.bits d).length ≤ 68 := by
  unfold times_second.bits
  split
  · rw [List.length_append, bitsN_len, bitsN_len]; omega
  · split
    · rw [List.length_append, bitsN_len, bitsN_len]; omega
    · split <;> (rw [List.length_append, bitsN_len, bitsN_len]; omega)
theorem times_twice.piece_len (l : List Int) (i : Nat) : (times_twice.piece l i).length ≤ 68 := by
  unfold times_twice.piece
  split
  · rw [bitsN_len]; omega
  · split
    · rw [bitsN_len]; omega
    · split
      · rw [bitsN_len]; omega
      · exact times_twice.sec_len _
theorem times_twice.part_len (l : List Int) (i : Nat) : (times_twice.part l i).length ≤ 68 * i := by
  induction i with
  | zero => simp [times_twice.part]
  | succ i ih => rw [times_twice.part, List.length_append]; have := times_twice.piece_len l i; omega
def times_twice.Rel (w : World) (g : Nat) (l0 : List Int) (i : Nat) (la st : Int) (wr : World) : Prop :=
  ∃ v', WAt w wr g v' (times_twice.part l0 i) ∧ Below w.heap.size w wr ∧ la = times_twice.last l0 i ∧ st = times_twice.step l0 i
theorem times_twice.arm (l : List Int) (i : Nat) (x la st d : Int) (hx : rd l (i : Int) = x) (hla : la = times_twice.last l i) (hst : st = times_twice.step l i) (hd : IntKind.i64.wrap (x - la) = d) :
    x = times_twice.last l (i + 1) ∧ (i = 0 → times_twice.piece l i = bitsN 64 (IntKind.u64.wrap x) ∧ times_twice.step l (i + 1) = 0) ∧ (i = 1 → times_twice.piece l i = bitsN 64 (IntKind.u64.wrap d)) ∧ (0 < i → times_twice.step l (i + 1) = d) ∧
    (2 ≤ i → d = st → times_twice.piece l i = bitsN 1 0) ∧ (2 ≤ i → d ≠ st → times_twice.piece l i = times_second.bits (IntKind.i64.wrap (d - st))) := by
  have hdd : 0 < i → times_twice.dif l i = d := fun h => by
    unfold times_twice.dif times_twice.last at *
    rw [if_neg (by omega)] at hla ⊢
    rw [hx, ← hla]; exact hd
  refine ⟨?_, ?_, ?_, ?_, ?_, ?_⟩
  · unfold times_twice.last; rw [if_neg (by omega), Nat.add_sub_cancel]; exact hx.symm
  · rintro rfl
    exact ⟨by unfold times_twice.piece; rw [if_pos rfl, hx], by unfold times_twice.step times_twice.dif; rw [if_neg (by omega), if_pos rfl]⟩
  · rintro rfl
    unfold times_twice.piece; rw [if_neg (by omega), if_pos rfl, hdd (by omega)]
  · intro h
    unfold times_twice.step; rw [if_neg (by omega), Nat.add_sub_cancel]; exact hdd h
  · intro h e
    unfold times_twice.step at hst; rw [if_neg (by omega)] at hst
    unfold times_twice.piece; rw [if_neg (by omega), if_neg (by omega), if_pos (by rw [hdd (by omega), e, hst])]
  · intro h e
    unfold times_twice.step at hst; rw [if_neg (by omega)] at hst
    unfold times_twice.piece; rw [if_neg (by omega), if_neg (by omega), hdd (by omega), ← hst, if_neg e]
def times_twice.One (B : Nat) (xs : List Int) (w : World) (e : Ending) (w' : World) : Prop :=
  ∃ v0_ : Value, e = .returned v0_ ∧ Kd.R (Kd.int .u8) 5 w' B (fun _ => True) v0_ xs ∧ Below w.heap.size w w'
set_option maxHeartbeats 8000000 in
set_option maxRecDepth 100000 in
theorem times_twice.calls_main (A0 : Option Addr) (c0 : Nat) (l0 : List Int) (w : World) (hr0 : Kd.C (Kd.int .i64) w A0 l0.length l0) (hc0 : l0.length ≤ c0) (h1 : l0.length ≤ 200) :
    Calls Try.prog 61 #[.slice A0 l0.length c0] w (times_twice.One w.heap.size (packB (times_twice.part l0 l0.length)) w) := by
  have HR0 := Aside0.mk hr0
  have HC0 := Aside0.mk hc0
  clear hr0 hc0
  go_enter Try.func61, Try.ntmps61
  go_wp2
  have HR : Aside0 (times_twice.Rel w w.heap.size l0 0 0 0 (w.alloc (.cells #[.slice none 0 0, .int .i64 0] 48))) := ⟨⟨_, pack_Put.new w w (Below.refl _ _), (Below.refl _ _).alloc (Nat.le_refl _) _, rfl, rfl⟩⟩
  go_loopw [4, 5, 11] (fun v4 v5 v11 wr => ∃ (i : Nat) (ii la st : Int), v4 = .int .i64 la ∧ v5 = .int .i64 st ∧ v11 = .int .i64 ii ∧ Aside0 (ii = (i : Int)) ∧ Aside0 (i ≤ l0.length) ∧ Aside0 (times_twice.Rel w w.heap.size l0 i la st wr)) (fun _ _ v11 _ => ((l0.length : Int) - intOf v11).toNat)
  case atStart => exact ⟨0, _, _, _, rfl, rfl, rfl, ⟨rfl⟩, ⟨Nat.zero_le _⟩, HR⟩
  case round =>
    clear HR
    obtain ⟨i, ii, la, st, rfl, rfl, rfl, HI, HIL, HR⟩ := hrel
    obtain ⟨v6, hW, hB, hla, hst⟩ := HR.out
    have HW := Aside0.mk hW
    have HB := Aside0.mk hB
    have hlen := times_twice.part_len l0 i
    have hin := HI.out
    clear HR hW hB
    by_cases hlt : i < l0.length
    · have hi0 : 0 ≤ ii := by omega
      have hi1 : ii ≤ 200 := by omega
      have hi2 : decide (ii < (l0.length : Int)) = true := by simp; omega
      have hi3 : (ii < (l0.length : Int)) = True := eq_true (by omega)
      have hi4 : (0 ≤ ii) = True := eq_true hi0
      obtain ⟨ad, e, hx⟩ := Kd.at_int (Kd.C_below HR0.out HB.out) ii hi0 (by omega)
      cases e
      obtain ⟨x, hxe⟩ : ∃ x, rd l0 (i : Int) = x := ⟨_, rfl⟩
      rw [show rd l0 ii = x by rw [hin]; exact hxe] at hx
      obtain ⟨d, hd⟩ : ∃ d, IntKind.i64.wrap (x - la) = d := ⟨_, rfl⟩
      have hd' : wrap64 (x - la) = d := (i64_w _).symm.trans hd
      have HF := Aside0.mk (times_twice.arm l0 i x la st d hxe hla hst hd)
      obtain ⟨ux, hux⟩ : ∃ y, IntKind.u64.wrap x = y := ⟨_, rfl⟩
      obtain ⟨ud, hud⟩ : ∃ y, IntKind.u64.wrap d = y := ⟨_, rfl⟩
      obtain ⟨sd, hsd⟩ : ∃ y, IntKind.i64.wrap (d - st) = y := ⟨_, rfl⟩
      have hsd' : wrap64 (d - st) = sd := (i64_w _).symm.trans hsd
      have HUX := Aside0.mk (show 0 ≤ ux ∧ ux < 18446744073709551616 by rw [← hux, wrap_u64]; omega)
      have HUD := Aside0.mk (show 0 ≤ ud ∧ ud < 18446744073709551616 by rw [← hud, wrap_u64]; omega)
      rw [hux, hud, hsd] at HF
      clear hla hst hxe hin
      by_cases q0 : i = 0
      · have e0 : (ii == 0) = true := by rw [beq_iff_eq]; have := HI.out; omega
        have Q := Aside0.mk q0
        clear q0
        go_wp2_with (go_at_call 25; (with_reducible refine (put_calls w.heap.size v6 _ ux 64 w _ HW.out HB.out HUX.out.1 HUX.out.2 (by omega)).mono ?_); rintro e w7 ⟨rfl, v7, hW, hB, hK, hV⟩; have HW7 := Aside0.mk hW; have HB7 := Aside0.mk hB; clear hW hB hK hV HW HB)
        go_roundw
        case rel => exact ⟨i + 1, _, _, _, rfl, rfl, rfl, ⟨by have := HI.out; omega⟩, ⟨hlt⟩, ⟨v7, by
          have := HW7.out
          rw [times_twice.part, (HF.out.2.1 Q.out).1]
          exact this, HB7.out, HF.out.1, (HF.out.2.1 Q.out).2.symm⟩⟩
        case measure => simp [intOf]; have := HI.out; omega
      have e0 : (ii == 0) = false := by rw [beq_eq_false_iff_ne]; have := HI.out; omega
      by_cases q1 : i = 1
      · have e1 : (ii == 1) = true := by rw [beq_iff_eq]; have := HI.out; omega
        have Q := Aside0.mk q1
        have Q0 := Aside0.mk q0
        clear q1 q0
        go_wp2_with (go_at_call 25; (with_reducible refine (put_calls w.heap.size v6 _ ud 64 w _ HW.out HB.out HUD.out.1 HUD.out.2 (by omega)).mono ?_); rintro e w7 ⟨rfl, v7, hW, hB, hK, hV⟩; have HW7 := Aside0.mk hW; have HB7 := Aside0.mk hB; clear hW hB hK hV HW HB)
        go_roundw
        case rel => exact ⟨i + 1, _, _, _, rfl, rfl, rfl, ⟨by have := HI.out; omega⟩, ⟨hlt⟩, ⟨v7, by
          have := HW7.out
          rw [times_twice.part, HF.out.2.2.1 Q.out]
          exact this, HB7.out, HF.out.1, (HF.out.2.2.2.1 (by have := Q0.out; omega)).symm⟩⟩
        case measure => simp [intOf]; have := HI.out; omega
      have e1 : (ii == 1) = false := by rw [beq_eq_false_iff_ne]; have := HI.out; omega
      have Q := Aside0.mk (show 2 ≤ i by omega)
      clear q0 q1
      by_cases q2 : d = st
      · have e2 : (d == st) = true := by rw [beq_iff_eq]; exact q2
        have Q2 := Aside0.mk q2
        clear q2
        go_wp2_with (go_at_call 25; (with_reducible refine (put_calls w.heap.size v6 _ 0 1 w _ HW.out HB.out (by decide) (by decide) (by omega)).mono ?_); rintro e w7 ⟨rfl, v7, hW, hB, hK, hV⟩; have HW7 := Aside0.mk hW; have HB7 := Aside0.mk hB; clear hW hB hK hV HW HB)
        go_roundw
        case rel => exact ⟨i + 1, _, _, _, rfl, rfl, rfl, ⟨by have := HI.out; omega⟩, ⟨hlt⟩, ⟨v7, by
          have := HW7.out
          rw [times_twice.part, HF.out.2.2.2.2.1 Q.out Q2.out]
          exact this, HB7.out, HF.out.1, (HF.out.2.2.2.1 (by have := Q.out; omega)).symm⟩⟩
        case measure => simp [intOf]; have := HI.out; omega
      · have e2 : (d == st) = false := by rw [beq_eq_false_iff_ne]; exact q2
        have Q2 := Aside0.mk q2
        clear q2
        go_wp2_with (go_at_call 67; (with_reducible refine (times_second.calls w.heap.size v6 _ sd w _ HW.out HB.out (by omega)).mono ?_); rintro e w7 ⟨rfl, v7, hW, hB⟩; have HW7 := Aside0.mk hW; have HB7 := Aside0.mk hB; clear hW hB HW HB)
        go_roundw
        case rel => exact ⟨i + 1, _, _, _, rfl, rfl, rfl, ⟨by have := HI.out; omega⟩, ⟨hlt⟩, ⟨v7, by
          have := HW7.out
          rw [times_twice.part, HF.out.2.2.2.2.2 Q.out Q2.out]
          exact this, HB7.out, HF.out.1, (HF.out.2.2.2.1 (by have := Q.out; omega)).symm⟩⟩
        case measure => simp [intOf]; have := HI.out; omega
    · have hi2 : decide (ii < (l0.length : Int)) = false := by simp; omega
      have hil : i = l0.length := by have := HIL.out; omega
      have HIL2 := Aside0.mk hil
      have hlb2 : (times_twice.part l0 i).length < 1000000000000 := by omega
      clear hil hla hst hin
      go_wp2_with (go_at_call 27; (with_reducible refine (bytes_calls w.heap.size v6 _ w _ HW.out hlb2).mono ?_); rintro e w7 ⟨v0, rfl, hR, hB⟩; have HR7 := Aside0.mk hR; have HB7 := Aside0.mk hB; clear hR hB)
      go_ret
      refine ⟨v0, rfl, ?_, below_step HB.out HB7.out⟩
      rw [← HIL2.out]
      exact Kd.R_lower HR7.out HB.out.size
theorem times_twice.calls (A0 : Option Addr) (c0 : Nat) (l0 : List Int) (r : List Int) (w : World) (hr0 : Kd.C (Kd.int .i64) w A0 l0.length l0) (hc0 : l0.length ≤ c0) (h : times_twice.f l0 = some r) :
    Calls Try.prog 61 #[.slice A0 l0.length c0] w fun e w' => ∃ v0_ : Value, e = .returned v0_ ∧ Kd.R (Kd.int .u8) 5 w' w.heap.size (fun _ => True) v0_ r ∧ Below w.heap.size w w' := by
  unfold times_twice.f at h
  by_cases h1 : l0.length ≤ 200
  · rw [if_pos h1] at h; injection h with e1; subst e1
    exact times_twice.calls_main A0 c0 l0 w hr0 hc0 h1
  · rw [if_neg h1] at h; cases h

end Go.Proofs.Ytmlbppfcpejlpaa.X

-- Printed by this session's own program (wip/xprint.py) over the translation; its external functions are hand-written. Lean checks it.
namespace Go.Proofs.Ytmlbppfcpejlpaa.X
open Go.RowKit Go.Proofs.YtmlbppfcpejlpaaW.PrintWords Go.Proofs.YtmlbppfcpejlpaaW.PrintLast Go.Proofs.YtmlbppfcpejlpaaW.PrintMore
attribute [local go_sem] max2_int min2_int max_two min_two max_three min_three max_four min_four   -- for this text's walks alone
set_option linter.unusedVariables false
set_option linter.unusedSimpArgs false

/-! ### varint_Put: function 17 -/
def varint_Put.l0 : Nat → Int → List Int → Option (List Int)
  | 0, _, _ => none
  | k + 1, x1, x5 => if x1 ≥ 128 then (if x5.length < 140737488355328 then (varint_Put.l0 k (x1 / 128) (x5 ++ [Go.bits .or .u8 ((x1) % 256) 128])) else (none)) else (if x5.length < 140737488355328 then (some (x5 ++ [(x1) % 256])) else (none))
def varint_Put.f (k : Nat) (l0 : List Int) (a1 : Int) : Option (List Int) := (bytes_Clone.f l0).bind fun t101 => (varint_Put.l0 k a1 t101)
theorem varint_Put.mono_l : ∀ k, (∀ y0 y1, LeO (varint_Put.l0 k y0 y1) (varint_Put.l0 (k + 1) y0 y1))
  | 0 => fun _ _ r h => by simp [varint_Put.l0] at h
  | k + 1 => by
    have ih0 := varint_Put.mono_l k
    · intro y0 y1
      unfold varint_Put.l0
      repeat' first
      | (with_reducible exact ih0 _ _)
      | (with_reducible exact LeO.refl _)
      | (with_reducible exact LeO.none _)
      | (with_reducible refine LeO.ite ?_ ?_)
      | (with_reducible refine LeO.bind ?_ (fun _ => ?_))
      | exact ih0 _ _
      | exact LeO.none _
      | refine LeO.ite ?_ ?_
      | refine LeO.bind ?_ (fun _ => ?_)
theorem varint_Put.mono : ∀ a0 a1 k, LeO (varint_Put.f k a0 a1) (varint_Put.f (k + 1) a0 a1) := by
  intro a0 a1 k
  have ih0 := varint_Put.mono_l k
  unfold varint_Put.f
  repeat' first
      | (with_reducible exact ih0 _ _)
      | (with_reducible exact LeO.refl _)
      | (with_reducible exact LeO.none _)
      | (with_reducible refine LeO.ite ?_ ?_)
      | (with_reducible refine LeO.bind ?_ (fun _ => ?_))
      | exact ih0 _ _
      | exact LeO.none _
      | refine LeO.ite ?_ ?_
      | refine LeO.bind ?_ (fun _ => ?_)
set_option maxHeartbeats 8000000 in
set_option maxRecDepth 100000 in
theorem varint_Put.calls (k : Nat) (A0 : Option Addr) (c0 : Nat) (l0 : List Int) (a1 : Int) (r : List Int) (w : World) (hr0 : Kd.C (Kd.int .u8) w A0 l0.length l0) (hc0 : l0.length ≤ c0) (h : varint_Put.f k l0 a1 = some r) :
    Calls Try.prog 17 #[.slice A0 l0.length c0, .int .u64 a1] w fun e w' => ∃ v0_ : Value, e = .returned (v0_) ∧ Kd.R (Kd.int .u8) 5 w' w.heap.size (fun _ => True) v0_ r ∧ Below w.heap.size w w' := by
  have HR0 := Aside0.mk hr0
  have HC0 := Aside0.mk hc0
  clear hr0 hc0
  have HB := Aside0.mk (Below.refl w.heap.size w)
  have H : ((bytes_Clone.f l0).bind fun t101 => (varint_Put.l0 k a1 t101)) = some r := h
  clear h
  replace H := Option.bind_eq_some_iff.mp H
  obtain ⟨t101, A30, H⟩ := H
  replace H : (varint_Put.l0 k a1 t101) = some r := H
  have A3 := Aside0.mk A30
  clear A30
  have H' := Aside0.mk H
  clear H
  go_enter Try.func17, Try.ntmps17
  go_wp2_with (first | ((with_reducible refine gate_callee (f := 50) rfl ?_); refine goesL_ (some 7) rfl rfl Try.func50 (by kernel_rfl) rfl #[.slice A0 l0.length c0] rfl (by (try simp only [List.map_toArray, List.map_cons, List.map_nil]); first | done | rfl | (simp only [List.length_drop, List.length_take]; rfl)) ?_; (with_reducible refine (bytes_Clone.calls _ _ l0 t101 _ ?side1 ?side2 A3.out).mono ?_); (case side1 => repeat (first | exact HR0.out | (with_reducible refine Kd.C_alloc ?_ _) | (with_reducible refine Kd.C_drewN ?_ _) | (with_reducible refine Kd.C_drew ?_))); (case side2 => exact HC0.out); rintro e w4 ⟨v102, rfl, ho0, hb⟩; refine ⟨_, rfl, ?_⟩; have n0_ := Aside0.mk (Kd.R_lower ho0 (below_size (by repeat (first | (with_reducible first | exact HB.out | apply below_alloc | apply pw_below_drewN | apply below_drew1) | exact HB.out)))); have n1_ := Aside0.mk (below_step (by repeat (first | (with_reducible first | exact HB.out | apply below_alloc | apply pw_below_drewN | apply below_drew1) | exact HB.out)) hb); clear HB; have HO103 := n0_; have HB := n1_; clear n0_ n1_; (try clear hb); (try clear hb2); (try clear hk); (try clear hi); (try clear ho0)))
  go_loopg [1, 5] k (fun kq v1 v5 w' => ∃ (x1_1 : Int) (x5_1 : List Int), v1 = .int .u64 x1_1 ∧ Aside0 (varint_Put.l0 kq x1_1 x5_1 = some r) ∧ Aside0 (kq ≤ k) ∧ Aside0 (Kd.R (Kd.int .u8) 5 w' w.heap.size (fun _ => True) v5 x5_1) ∧ Aside0 (Below w.heap.size w w'))
  case atStart => exact ⟨(a1), (t101), (by first | rfl | (simp; done) | (simp [*]; done)), H', ⟨Nat.le_refl _⟩, ⟨by (with_reducible repeat (first | apply Kd.R_alloc | apply Kd.R_drewN | apply Kd.R_drew)); exact HO103.out⟩, ⟨by repeat (first | (with_reducible first | exact HB.out | apply below_alloc | apply pw_below_drewN | apply below_drew1) | exact HB.out)⟩⟩
  case round =>
    clear H'
    try clear c1
    try clear p2
    obtain ⟨x1_1, x5_1, rfl, HA, HK1, HO_5, HB⟩ := hrel
    cases gk with
    | zero => exact absurd HA.out (by simp [varint_Put.l0])
    | succ k1 =>
      have H := HA.out
      clear HA
      simp only [varint_Put.l0] at H
      by_cases c5 : x1_1 ≥ 128
      · rw [if_pos c5] at H
        have c5b0 : decide (128 ≤ x1_1) = true := decide_eq_true c5
        clear c5
        by_cases c6 : x5_1.length < 140737488355328
        · rw [if_pos c6] at H
          have LMc6 := Aside0.mk c6
          clear c6
          obtain ⟨y104, hy104⟩ : ∃ y_ : List Int, y_ = (x5_1 ++ [Go.bits .or .u8 ((x1_1) % 256) 128]) := ⟨_, rfl⟩
          replace H : (varint_Put.l0 k1 (x1_1 / 128) y104) = some r := by first | (rw [hy104]; with_reducible exact H) | (have H2_ := (Option.bind_some _ _).symm.trans H; rw [hy104]; with_reducible exact H2_) | (have H2_ := (Option.bind_some _ _).symm.trans H; with_reducible exact H2_) | with_reducible exact H | (rw [hy104]; exact H) | exact H
          have Ny104 := Aside0.mk hy104
          clear hy104
          have H' := Aside0.mk H
          clear H
          go_wp2_with (first | ((with_reducible refine gate_builtin (b := .append) (xs := #[.tmp 12, .tmp 16]) rfl ?_); at_builtin; refine Kd.R_append (Kd.int .u8) (w0 := w) w.heap.size rfl (.tmp 12) (.tmp 16) 22 5 (.int .u8 0) 1 rfl Try.underlying22 info5 rfl (by decide) (by omega) u5 x5_1 (Go.bits .or .u8 ((x1_1) % 256) 128) [.int .u8 (Go.bits .or .u8 ((x1_1) % 256) 128)] (fun _ => True) (fun _ => False) rfl rfl ?aP (fun _ hk => hk.elim) ?aF ?aO ?aB ?aS ?aL ?_; (case aP => exact rfl); (case aB => exact (by repeat (first | (with_reducible first | exact HB.out | apply below_alloc | apply pw_below_drewN | apply below_drew1) | exact HB.out))); (case aF => exact (fun _ _ => trivial)); (case aO => exact (by (with_reducible repeat (first | apply Kd.R_alloc | apply Kd.R_drewN | apply Kd.R_drew)); exact HO_5.out)); (case aS => exact (below_size (by repeat (first | (with_reducible first | exact HB.out | apply below_alloc | apply pw_below_drewN | apply below_drew1) | exact HB.out)))); (case aL => have := LMc6.out; omega); intro v105 w7 ho hb hg hat; rw [← Ny104.out] at ho; have n0_ := Aside0.mk (hb); have n1_ := Aside0.mk (ho); clear HB; clear HO_5; have HB := n0_; have HO106 := n1_; clear n0_ n1_; clear ho hb hg hat))
          go_roundg k1
          case measure => have := HK1.out; omega
          case rel => exact ⟨(x1_1 / 128), (y104), (by first | rfl | (simp; done) | (simp [*]; done)), H', ⟨by have := HK1.out; omega⟩, ⟨by (with_reducible repeat (first | apply Kd.R_alloc | apply Kd.R_drewN | apply Kd.R_drew)); exact HO106.out⟩, ⟨by repeat (first | (with_reducible first | exact HB.out | apply below_alloc | apply pw_below_drewN | apply below_drew1) | exact HB.out)⟩⟩
        · rw [if_neg c6] at H
          exact absurd H (by simp)
      · rw [if_neg c5] at H
        have c5b0 : decide (128 ≤ x1_1) = false := decide_eq_false c5
        clear c5
        by_cases c8 : x5_1.length < 140737488355328
        · rw [if_pos c8] at H
          have LMc8 := Aside0.mk c8
          clear c8
          obtain ⟨y107, hy107⟩ : ∃ y_ : List Int, y_ = (x5_1 ++ [(x1_1) % 256]) := ⟨_, rfl⟩
          replace H : (some y107) = some r := by first | (rw [hy107]; with_reducible exact H) | (have H2_ := (Option.bind_some _ _).symm.trans H; rw [hy107]; with_reducible exact H2_) | (have H2_ := (Option.bind_some _ _).symm.trans H; with_reducible exact H2_) | with_reducible exact H | (rw [hy107]; exact H) | exact H
          have Ny107 := Aside0.mk hy107
          clear hy107
          obtain rfl := Option.some.inj H
          go_wp2_with (first | ((with_reducible refine gate_builtin (b := .append) (xs := #[.tmp 18, .tmp 21]) rfl ?_); at_builtin; refine Kd.R_append (Kd.int .u8) (w0 := w) w.heap.size rfl (.tmp 18) (.tmp 21) 22 5 (.int .u8 0) 1 rfl Try.underlying22 info5 rfl (by decide) (by omega) u5 x5_1 ((x1_1) % 256) [.int .u8 ((x1_1) % 256)] (fun _ => True) (fun _ => False) rfl rfl ?aP (fun _ hk => hk.elim) ?aF ?aO ?aB ?aS ?aL ?_; (case aP => exact rfl); (case aB => exact (by repeat (first | (with_reducible first | exact HB.out | apply below_alloc | apply pw_below_drewN | apply below_drew1) | exact HB.out))); (case aF => exact (fun _ _ => trivial)); (case aO => exact (by (with_reducible repeat (first | apply Kd.R_alloc | apply Kd.R_drewN | apply Kd.R_drew)); exact HO_5.out)); (case aS => exact (below_size (by repeat (first | (with_reducible first | exact HB.out | apply below_alloc | apply pw_below_drewN | apply below_drew1) | exact HB.out)))); (case aL => have := LMc8.out; omega); intro v108 w9 ho hb hg hat; rw [← Ny107.out] at ho; have n0_ := Aside0.mk (hb); have n1_ := Aside0.mk (ho); clear HB; clear HO_5; have HB := n0_; have HO109 := n1_; clear n0_ n1_; clear ho hb hg hat))
          go_ret
          exact ⟨_, by first | rfl | (simp [errW_none, errW_some] <;> rfl) | (simp [*, errW_none, errW_some] <;> rfl), by (with_reducible repeat (first | apply Kd.R_alloc | apply Kd.R_drewN | apply Kd.R_drew)); exact HO109.out, by repeat (first | (with_reducible first | exact HB.out | apply below_alloc | apply pw_below_drewN | apply below_drew1) | exact HB.out)⟩
        · rw [if_neg c8] at H
          exact absurd H (by simp)

end Go.Proofs.Ytmlbppfcpejlpaa.X

-- Printed by this session's own program (wip/xprint.py) over the translation; its external functions are hand-written. Lean checks it.
namespace Go.Proofs.Ytmlbppfcpejlpaa.X
open Go.RowKit Go.Proofs.YtmlbppfcpejlpaaW.PrintWords Go.Proofs.YtmlbppfcpejlpaaW.PrintLast Go.Proofs.YtmlbppfcpejlpaaW.PrintMore
attribute [local go_sem] max2_int min2_int max_two min_two max_three min_three max_four min_four   -- for this text's walks alone
set_option linter.unusedVariables false
set_option linter.unusedSimpArgs false

/-! ### varint_Zig: function 21 -/
def varint_Zig.f (a0 : Int) : Option (Int) := some (Go.bits .xor .u64 (IntKind.u64.wrap ((IntKind.u64.wrap (a0)) * 2)) (IntKind.u64.wrap (a0 / 9223372036854775808)))
set_option maxHeartbeats 8000000 in
set_option maxRecDepth 100000 in
theorem varint_Zig.calls (a0 : Int) (r : Int) (w : World) (h : varint_Zig.f a0 = some r) :
    Calls Try.prog 21 #[.int .i64 a0] w fun e w' => e = .returned (.int .u64 r) ∧ Drawn0 w w' := by
  have H : (some (Go.bits .xor .u64 (IntKind.u64.wrap ((IntKind.u64.wrap (a0)) * 2)) (IntKind.u64.wrap (a0 / 9223372036854775808)))) = some r := h
  clear h
  obtain rfl := Option.some.inj H
  go_enter Try.func21, Try.ntmps21
  go_wp2
  go_ret
  exact ⟨by first | rfl | (simp; done) | (simp [*]; done), by repeat (first | exact Drawn0.refl _ | apply Drawn0.step)⟩

end Go.Proofs.Ytmlbppfcpejlpaa.X
