/- Texts of this claim, laid together (wip/merge.py): XTimesOffsets, XTimesRaw, XTimesPacked, XTimesClasses, XTimesFits, XTimesSecond, XTimesTwice, XVarintZig, XTimesPut, XChunkEncode, XChunkBest, XChunkCodec, XBytesEqual, XChunkGetraw, XBytesHasprefix, XRickref04Put. No conditions. -/
import Derived.Test.YtmlbppfcpejlpaaDoorMChunkSizes1
namespace Go.Proofs.YtmlbppfcpejlpaaDoor.X
open Go.RowKit Go.Proofs.YtmlbppfcpejlpaaDoorW.PrintWords Go.Proofs.YtmlbppfcpejlpaaDoorW.PrintLast Go.Proofs.YtmlbppfcpejlpaaDoorW.PrintMore
attribute [local go_sem] max2_int min2_int max_two min_two max_three min_three max_four min_four   -- for this text's walks alone
set_option linter.unusedVariables false
set_option linter.unusedSimpArgs false

/-! ### times_offsets: function 58 -/
def times_offsets.l0 : Nat → List Int → List Int → List Int → Int → Int → Option (List Int)
 | 0, _, _, _, _, _ => none
 | k + 1, x0, x3, x6, x7, x8 => if x8 < x7 then (if 0 ≤ x8 then (if x8 < (x6.length : Int) then (if 0 < (x0.length : Int) then (if x3.length < 17592186044416 then (times_offsets.l0 k x0 (x3 ++ [IntKind.u64.wrap ((IntKind.u64.wrap (rd x6 x8)) - (IntKind.u64.wrap (rd x0 0)))]) x6 x7 (wrap64 (x8 + 1))) else (none)) else (none)) else (none)) else (none)) else (some x3)
def times_offsets.f (k : Nat) (l0 : List Int) : Option (List Int) := times_offsets.l0 k l0 ([] : List Int) l0 (l0.length : Int) 0
theorem times_offsets.mono_l : ∀ k, (∀ y0 y1 y2 y3 y4, LeO (times_offsets.l0 k y0 y1 y2 y3 y4) (times_offsets.l0 (k + 1) y0 y1 y2 y3 y4))
 | 0 => fun _ _ _ _ _ r h => by simp [times_offsets.l0] at h
 | k + 1 => by
  have ih0 := times_offsets.mono_l k
  ·intro y0 y1 y2 y3 y4
   unfold times_offsets.l0
   repeat' first
   | (with_reducible exact ih0 _ _ _ _ _)
   | (with_reducible exact LeO.refl _)
   | (with_reducible exact LeO.none _)
   | (with_reducible refine LeO.ite ?_ ?_)
   | (with_reducible refine LeO.bind ?_ (fun _ => ?_))
   | exact ih0 _ _ _ _ _
   | exact LeO.none _
   | refine LeO.ite ?_ ?_
   | refine LeO.bind ?_ (fun _ => ?_)
theorem times_offsets.mono : ∀ a0 k, LeO (times_offsets.f k a0) (times_offsets.f (k + 1) a0) := by
 intro a0 k
 have ih0 := times_offsets.mono_l k
 unfold times_offsets.f
 repeat' first
   | (with_reducible exact ih0 _ _ _ _ _)
   | (with_reducible exact LeO.refl _)
   | (with_reducible exact LeO.none _)
   | (with_reducible refine LeO.ite ?_ ?_)
   | (with_reducible refine LeO.bind ?_ (fun _ => ?_))
   | exact ih0 _ _ _ _ _
   | exact LeO.none _
   | refine LeO.ite ?_ ?_
   | refine LeO.bind ?_ (fun _ => ?_)
set_option maxHeartbeats 8000000 in
set_option maxRecDepth 100000 in
theorem times_offsets.calls (k : Nat) (A0 : Option Addr) (c0 : Nat) (l0 : List Int) (r : List Int) (w : World) (hr0 : Kd.C (Kd.int .i64) w A0 l0.length l0) (hc0 : l0.length ≤ c0) (h : times_offsets.f k l0 = some r) :
  Calls Tryd.prog 58 #[.slice A0 l0.length c0] w fun e w' => ∃ v0_ : Value, e = .returned (v0_) ∧ Kd.R (Kd.int .u64) 34 w' w.heap.size (fun _ => True) v0_ r ∧ Below w.heap.size w w' := by
 have HR0 := Aside0.mk hr0
 have HC0 := Aside0.mk hc0
 clear hr0 hc0
 have HB := Aside0.mk (Below.refl w.heap.size w)
 have H : (times_offsets.l0 k l0 ([] : List Int) l0 (l0.length : Int) 0) = some r := h
 clear h
 have H' := Aside0.mk H
 clear H
 go_enter Tryd.func58, Tryd.ntmps58
 go_wp2
 go_loopg [3, 8] k (fun kq v3 v8 w' => ∃ (x3_1 : List Int) (x8_1 : Int), v8 = .int .i64 x8_1 ∧ Aside0 (times_offsets.l0 kq l0 x3_1 l0 (l0.length : Int) x8_1 = some r) ∧ Aside0 (kq ≤ k) ∧ Aside0 (Kd.R (Kd.int .u64) 34 w' w.heap.size (fun _ => True) v3 x3_1) ∧ Aside0 (Below w.heap.size w w'))
 case atStart => exact ⟨(([] : List Int)), (0), (by first | rfl | (simp; done) | (simp [*]; done)), H', ⟨Nat.le_refl _⟩, ⟨by first | exact Kd.R_nil _ _ _ _ _ | exact Kd.N_nil _ _ _ _ _ | exact Kd.V_nil _ _ _ _ _ | exact Kd.Q_nil _ _ _ _ _ | exact Kd.S_nil _ _ _ _ _⟩, ⟨bB⟩⟩
 case round =>
  clear H'
  obtain ⟨x3_1, x8_1, rfl, HA, HK1, HO_3, HB⟩ := hrel
  cases gk with
  | zero => exact absurd HA.out (by simp [times_offsets.l0])
  | succ k1 =>
   have H := HA.out
   clear HA
   simp only [times_offsets.l0] at H
   by_cases c2 : x8_1 < (l0.length : Int)
   ·rw [if_pos c2] at H
    have c2b0 : decide (x8_1 < (l0.length : Int)) = true := decide_eq_true c2
    clear c2
    by_cases c3 : 0 ≤ x8_1
    ·rw [if_pos c3] at H
     have c3b0 : decide (0 ≤ x8_1) = true := decide_eq_true c3
     clear c3
     by_cases c4 : x8_1 < (l0.length : Int)
     ·rw [if_pos c4] at H
      have c4b0 : decide (x8_1 < (l0.length : Int)) = true := decide_eq_true c4
      clear c4
      by_cases c5 : 0 < (l0.length : Int)
      ·rw [if_pos c5] at H
       have c5b0 : decide (0 < (l0.length : Int)) = true := decide_eq_true c5
       have c5b1 : decide (0 < l0.length) = true := decide_eq_true (by omega)
       clear c5
       by_cases c6 : x3_1.length < 17592186044416
       ·rw [if_pos c6] at H
        have LMc6 := Aside0.mk c6
        clear c6
        obtain ⟨y278, hy278⟩ : ∃ y_ : List Int, y_ = (x3_1 ++ [IntKind.u64.wrap ((IntKind.u64.wrap (rd l0 x8_1)) - (IntKind.u64.wrap (rd l0 0)))]) := ⟨_, rfl⟩
        replace H : (times_offsets.l0 k1 l0 y278 l0 (l0.length : Int) (wrap64 (x8_1 + 1))) = some r := by first | (rw [hy278]; with_reducible exact H) | (have H2_ := (Option.bind_some _ _).symm.trans H; rw [hy278]; with_reducible exact H2_) | (have H2_ := (Option.bind_some _ _).symm.trans H; with_reducible exact H2_) | with_reducible exact H | (rw [hy278]; exact H) | exact H
        have Ny278 := Aside0.mk hy278
        clear hy278
        have H' := Aside0.mk H
        clear H
        have p276 : 0 ≤ (x8_1 : Int) := of_decide_eq_true (by first | (with_reducible assumption) | assumption)
        have q276 : x8_1 < (l0.length : Int) := of_decide_eq_true (by first | (with_reducible assumption) | assumption)
        obtain ⟨ad276, e276, hx276_0⟩ := Kd.at_int HR0.out x8_1 p276 q276
        cases e276
        replace hx276_0 := (HB.out.cell (World.block_lt_of_cell? w _ hx276_0)).trans hx276_0
        replace p276 := eq_true p276
        replace q276 := eq_true q276
        have p277 : 0 ≤ (0 : Int) := (by omega)
        have q277 : 0 < (l0.length : Int) := of_decide_eq_true (by first | (with_reducible assumption) | assumption)
        obtain ⟨ad277, e277, hx277_0⟩ := Kd.at_int HR0.out 0 p277 q277
        obtain rfl : ad276 = ad277 := (by injection e277)
        have qi277 : (0 < l0.length) = True := eq_true (by omega)
        (try rw [show ((0 : Int)).toNat = 0 from rfl] at hx277_0)
        (try rw [Addr.add_zero'] at hx277_0)
        replace hx277_0 := (HB.out.cell (World.block_lt_of_cell? w _ hx277_0)).trans hx277_0
        replace p277 := eq_true p277
        replace q277 := eq_true q277
        go_wp2_with (first | ((with_reducible refine gate_builtin (b := .append) (xs := #[.tmp 12, .tmp 20]) rfl ?_); at_builtin; refine Kd.R_append (Kd.int .u64) (w0 := w) w.heap.size rfl (.tmp 12) (.tmp 20) 22 34 (.int .u64 0) 8 rfl Tryd.underlying22 info34 rfl (by decide) (by omega) u3 x3_1 (IntKind.u64.wrap ((IntKind.u64.wrap (rd l0 x8_1)) - (IntKind.u64.wrap (rd l0 0)))) [.int .u64 (IntKind.u64.wrap ((IntKind.u64.wrap (rd l0 x8_1)) - (IntKind.u64.wrap (rd l0 0))))] (fun _ => True) (fun _ => False) rfl rfl ?aP (fun _ hk => hk.elim) ?aF ?aO ?aB ?aS ?aL ?_; (case aP => exact rfl); (case aB => exact bB); (case aF => exact (fun _ _ => trivial)); (case aO => exact (rR HO_3.out)); (case aS => exact (below_size bB)); (case aL => have := LMc6.out; omega); intro v279 w7 ho hb hg hat; rw [← Ny278.out] at ho; have n0_ := Aside0.mk (hb); have n1_ := Aside0.mk (ho); clear HB; clear HO_3; have HB := n0_; have HO280 := n1_; clear n0_ n1_; clear ho hb hg hat))
        go_roundg k1
        case measure => have := HK1.out; omega
        case rel => exact ⟨(y278), (wrap64 (x8_1 + 1)), (by first | rfl | (simp; done) | (simp [*]; done)), H', ⟨by have := HK1.out; omega⟩, ⟨rR HO280.out⟩, ⟨bB⟩⟩
       ·rw [if_neg c6] at H
        exact absurd H (by simp)
      ·rw [if_neg c5] at H
       exact absurd H (by simp)
     ·rw [if_neg c4] at H
      exact absurd H (by simp)
    ·rw [if_neg c3] at H
     exact absurd H (by simp)
   ·rw [if_neg c2] at H
    have c2b0 : decide (x8_1 < (l0.length : Int)) = false := decide_eq_false c2
    clear c2
    obtain rfl := Option.some.inj H
    go_wp2
    go_ret
    exact ⟨_, by first | rfl | (simp [errW_none, errW_some] <;> rfl) | (simp [*, errW_none, errW_some] <;> rfl), rR HO_3.out, bB⟩


/-! ### times_raw: function 46 -/
def times_raw.l0 : Nat → List Int → Int → Int → Option (List Int)
 | 0, _, _, _ => none
 | k + 1, x0, x1, x5 => if x5 ≥ 0 then (if 0 ≤ (wrap64 (8 * x5)) then (if x0.length < 140737488355328 then (times_raw.l0 k (x0 ++ [(shr .u64 x1 (wrap64 (8 * x5))) % 256]) x1 (wrap64 (x5 - 1))) else (none)) else (none)) else (some x0)
def times_raw.f (k : Nat) (l0 : List Int) (a1 : Int) : Option (List Int) := times_raw.l0 k l0 a1 7
theorem times_raw.mono_l : ∀ k, (∀ y0 y1 y2, LeO (times_raw.l0 k y0 y1 y2) (times_raw.l0 (k + 1) y0 y1 y2))
 | 0 => fun _ _ _ r h => by simp [times_raw.l0] at h
 | k + 1 => by
  have ih0 := times_raw.mono_l k
  ·intro y0 y1 y2
   unfold times_raw.l0
   repeat' first
   | (with_reducible exact ih0 _ _ _)
   | (with_reducible exact LeO.refl _)
   | (with_reducible exact LeO.none _)
   | (with_reducible refine LeO.ite ?_ ?_)
   | (with_reducible refine LeO.bind ?_ (fun _ => ?_))
   | exact ih0 _ _ _
   | exact LeO.none _
   | refine LeO.ite ?_ ?_
   | refine LeO.bind ?_ (fun _ => ?_)
theorem times_raw.mono : ∀ a0 a1 k, LeO (times_raw.f k a0 a1) (times_raw.f (k + 1) a0 a1) := by
 intro a0 a1 k
 have ih0 := times_raw.mono_l k
 unfold times_raw.f
 repeat' first
   | (with_reducible exact ih0 _ _ _)
   | (with_reducible exact LeO.refl _)
   | (with_reducible exact LeO.none _)
   | (with_reducible refine LeO.ite ?_ ?_)
   | (with_reducible refine LeO.bind ?_ (fun _ => ?_))
   | exact ih0 _ _ _
   | exact LeO.none _
   | refine LeO.ite ?_ ?_
   | refine LeO.bind ?_ (fun _ => ?_)
set_option maxHeartbeats 8000000 in
set_option maxRecDepth 100000 in
theorem times_raw.calls (k : Nat) (P0_ : Nat → Prop) (u9000_ : Value) (l0 : List Int) (a1 : Int) (r : List Int) (w0 w : World) (hB : Below w0.heap.size w0 w) (ho0 : Kd.R (Kd.int .u8) 5 w w0.heap.size P0_ u9000_ l0) (h : times_raw.f k l0 a1 = some r) :
  Calls Tryd.prog 46 #[u9000_, .int .u64 a1] w fun e w' => ∃ v0_ : Value, e = .returned (v0_) ∧ Kd.R (Kd.int .u8) 5 w' w0.heap.size (fun k_ => (P0_ k_ ∨ w.heap.size ≤ k_)) v0_ r ∧ Below w0.heap.size w0 w' ∧ Kept w w' (fun k_ => P0_ k_) := by
 have HO0 := Aside0.mk (show Kd.R (Kd.int .u8) 5 w w0.heap.size (fun k_ => (P0_ k_ ∨ w.heap.size ≤ k_)) u9000_ l0 from Kd.R_mono ho0 (fun k_ hk => (.inl hk)))
 have HK := Aside0.mk (Kept.refl w (fun k_ => P0_ k_))
 have HW0 := Aside0.mk hB.size
 have HB := Aside0.mk hB
 clear hB
 have H : (times_raw.l0 k l0 a1 7) = some r := h
 clear h
 have H' := Aside0.mk H
 clear H
 go_enter Tryd.func46, Tryd.ntmps46
 go_wp2
 go_loopg [0, 5] k (fun kq v0 v5 w' => ∃ (x0_1 : List Int) (x5_1 : Int), v5 = .int .i64 x5_1 ∧ Aside0 (times_raw.l0 kq x0_1 a1 x5_1 = some r) ∧ Aside0 (kq ≤ k) ∧ Aside0 (Kd.R (Kd.int .u8) 5 w' w0.heap.size (fun k_ => (P0_ k_ ∨ w.heap.size ≤ k_)) v0 x0_1) ∧ Aside0 (Kept w w' (fun k_ => P0_ k_)) ∧ Aside0 (Below w0.heap.size w0 w'))
 case atStart => exact ⟨(l0), (7), (by first | rfl | (simp; done) | (simp [*]; done)), H', ⟨Nat.le_refl _⟩, ⟨rR HO0.out⟩, ⟨by repeat (first | (with_reducible first | exact HK.out | apply Kept.alloc | apply Kept.drewN | apply Kept.drew) | exact HK.out)⟩, ⟨bB⟩⟩
 case round =>
  clear H'
  try clear p2
  obtain ⟨x0_1, x5_1, rfl, HA, HK1, HO_0, HK, HB⟩ := hrel
  cases gk with
  | zero => exact absurd HA.out (by simp [times_raw.l0])
  | succ k1 =>
   have H := HA.out
   clear HA
   simp only [times_raw.l0] at H
   by_cases c3 : x5_1 ≥ 0
   ·rw [if_pos c3] at H
    have c3b0 : decide (0 ≤ x5_1) = true := decide_eq_true c3
    clear c3
    obtain ⟨ji4, hji4⟩ : ∃ j_ : Int, (wrap64 (8 * x5_1)) = j_ := ⟨_, rfl⟩
    replace H : (if 0 ≤ (ji4) then (if x0_1.length < 140737488355328 then (times_raw.l0 k1 (x0_1 ++ [(shr .u64 a1 (ji4)) % 256]) a1 (wrap64 (x5_1 - 1))) else (none)) else (none)) = some r := by first | (rw [hji4] at H; exact H) | (simp only [hji4] at H ⊢; exact H)
    have hji4w : (IntKind.i64.wrap (8 * x5_1)) = ji4 := (i64_w _).trans hji4
    by_cases c5 : 0 ≤ (ji4)
    ·rw [if_pos c5] at H
     have c5b0 := eq_true c5
     have c5b1 : decide (0 ≤ (ji4)) = true := decide_eq_true c5
     clear c5
     obtain ⟨ji6, hji6⟩ : ∃ j_ : Int, (shr .u64 a1 (ji4)) = j_ := ⟨_, rfl⟩
     replace H : (if x0_1.length < 140737488355328 then (times_raw.l0 k1 (x0_1 ++ [(ji6) % 256]) a1 (wrap64 (x5_1 - 1))) else (none)) = some r := by first | (rw [hji6] at H; exact H) | (simp only [hji6] at H ⊢; exact H)
     have hji6_ : (a1 / 2 ^ min (ji4).toNat 64) = ji6 := hji6
     have hji6z : (ji4) ≤ 64 → (a1 / 2 ^ (ji4).toNat) = ji6 := shr_small hji6
     by_cases c7 : x0_1.length < 140737488355328
     ·rw [if_pos c7] at H
      have LMc7 := Aside0.mk c7
      clear c7
      obtain ⟨y269, hy269⟩ : ∃ y_ : List Int, y_ = (x0_1 ++ [(ji6) % 256]) := ⟨_, rfl⟩
      replace H : (times_raw.l0 k1 y269 a1 (wrap64 (x5_1 - 1))) = some r := by first | (rw [hy269]; with_reducible exact H) | (have H2_ := (Option.bind_some _ _).symm.trans H; rw [hy269]; with_reducible exact H2_) | (have H2_ := (Option.bind_some _ _).symm.trans H; with_reducible exact H2_) | with_reducible exact H | (rw [hy269]; exact H) | exact H
      have Ny269 := Aside0.mk hy269
      clear hy269
      have H' := Aside0.mk H
      clear H
      go_wp2_with (first | ((with_reducible refine gate_builtin (b := .append) (xs := #[.tmp 10, .tmp 16]) rfl ?_); at_builtin; refine Kd.R_append (Kd.int .u8) (w0 := w0) w0.heap.size rfl (.tmp 10) (.tmp 16) 23 5 (.int .u8 0) 1 rfl Tryd.underlying23 info5 rfl (by decide) (by omega) u0 x0_1 ((ji6) % 256) [.int .u8 ((ji6) % 256)] (fun k_ => (P0_ k_ ∨ w.heap.size ≤ k_)) (fun _ => False) rfl rfl ?aP (fun _ hk => hk.elim) ?aF ?aO ?aB ?aS ?aL ?_; (case aP => exact rfl); (case aB => exact bB); (case aF => exact (fun k_ hk => (.inr (Nat.le_trans (by first | exact HK.out.1 | exact (show Kept w _ (fun k_ => P0_ k_) from by repeat (first | (with_reducible first | exact HK.out | apply Kept.alloc | apply Kept.drewN | apply Kept.drew) | exact HK.out)).1) hk)))); (case aO => exact (rR HO_0.out)); (case aS => exact (below_size bB)); (case aL => have := LMc7.out; omega); intro v270 w8 ho hb hg hat; rw [← Ny269.out] at ho; have n0_ := Aside0.mk (hb); have n1_ := Aside0.mk (Kept.of_grown (S := (fun k_ => P0_ k_)) hg (by repeat (first | (with_reducible first | exact HK.out | apply Kept.alloc | apply Kept.drewN | apply Kept.drew) | exact HK.out)) (fun k_ e_ => (HO_0.out.1 k_ e_))); have n2_ := Aside0.mk (ho); clear HB; clear HK; clear HO_0; have HB := n0_; have HK := n1_; have HO271 := n2_; clear n0_ n1_ n2_; clear ho hb hg hat))
      go_roundg k1
      case measure => have := HK1.out; omega
      case rel => exact ⟨(y269), (wrap64 (x5_1 - 1)), (by first | rfl | (simp; done) | (simp [*]; done)), H', ⟨by have := HK1.out; omega⟩, ⟨rR HO271.out⟩, ⟨by repeat (first | (with_reducible first | exact HK.out | apply Kept.alloc | apply Kept.drewN | apply Kept.drew) | exact HK.out)⟩, ⟨bB⟩⟩
     ·rw [if_neg c7] at H
      exact absurd H (by simp)
    ·rw [if_neg c5] at H
     exact absurd H (by simp)
   ·rw [if_neg c3] at H
    have c3b0 : decide (0 ≤ x5_1) = false := decide_eq_false c3
    clear c3
    obtain rfl := Option.some.inj H
    go_wp2
    go_ret
    exact ⟨_, by first | rfl | (simp [errW_none, errW_some] <;> rfl) | (simp [*, errW_none, errW_some] <;> rfl), rR HO_0.out, bB, by repeat (first | (with_reducible first | exact HK.out | apply Kept.alloc | apply Kept.drewN | apply Kept.drew) | exact HK.out)⟩


/-! ### times_packed: function 45 -/
def times_packed.f (k : Nat) (l0 : List Int) : Option (List Int) := (times_offsets.f k l0).bind fun t281 => ((pack_Put.f t281).bind fun bt284 => (if 0 < (l0.length : Int) then ((times_raw.f k ([] : List Int) (IntKind.u64.wrap (rd l0 0))).bind fun t289 => (if t289.length + bt284.1.length < 140737488355328 then (some (t289 ++ bt284.1)) else (none))) else (none)))
theorem times_packed.mono : ∀ a0 k, LeO (times_packed.f k a0) (times_packed.f (k + 1) a0) := by
 intro a0 k
 unfold times_packed.f
 repeat' first
   | (with_reducible exact times_offsets.mono _ _)
   | (with_reducible exact times_raw.mono _ _ _)
   | (with_reducible exact LeO.refl _)
   | (with_reducible exact LeO.none _)
   | (with_reducible refine LeO.ite ?_ ?_)
   | (with_reducible refine LeO.bind ?_ (fun _ => ?_))
   | exact times_offsets.mono _ _
   | exact times_raw.mono _ _ _
   | exact LeO.none _
   | refine LeO.ite ?_ ?_
   | refine LeO.bind ?_ (fun _ => ?_)
set_option maxHeartbeats 8000000 in
set_option maxRecDepth 100000 in
theorem times_packed.calls (k : Nat) (A0 : Option Addr) (c0 : Nat) (l0 : List Int) (r : List Int) (w : World) (hr0 : Kd.C (Kd.int .i64) w A0 l0.length l0) (hc0 : l0.length ≤ c0) (h : times_packed.f k l0 = some r) :
  Calls Tryd.prog 45 #[.slice A0 l0.length c0] w fun e w' => ∃ v0_ : Value, e = .returned (v0_) ∧ Kd.R (Kd.int .u8) 5 w' w.heap.size (fun _ => True) v0_ r ∧ Below w.heap.size w w' := by
 have HR0 := Aside0.mk hr0
 have HC0 := Aside0.mk hc0
 clear hr0 hc0
 have HB := Aside0.mk (Below.refl w.heap.size w)
 have H : ((times_offsets.f k l0).bind fun t281 => ((pack_Put.f t281).bind fun bt284 => (if 0 < (l0.length : Int) then ((times_raw.f k ([] : List Int) (IntKind.u64.wrap (rd l0 0))).bind fun t289 => (if t289.length + bt284.1.length < 140737488355328 then (some (t289 ++ bt284.1)) else (none))) else (none)))) = some r := h
 clear h
 replace H := Option.bind_eq_some_iff.mp H
 obtain ⟨t281, A20, H⟩ := H
 replace H : ((pack_Put.f t281).bind fun bt284 => (if 0 < (l0.length : Int) then ((times_raw.f k ([] : List Int) (IntKind.u64.wrap (rd l0 0))).bind fun t289 => (if t289.length + bt284.1.length < 140737488355328 then (some (t289 ++ bt284.1)) else (none))) else (none))) = some r := H
 have A2 := Aside0.mk A20
 clear A20
 replace H := Option.bind_eq_some_iff.mp H
 obtain ⟨⟨t284, t285⟩, A30, H⟩ := H
 replace H : (if 0 < (l0.length : Int) then ((times_raw.f k ([] : List Int) (IntKind.u64.wrap (rd l0 0))).bind fun t289 => (if t289.length + t284.length < 140737488355328 then (some (t289 ++ t284)) else (none))) else (none)) = some r := H
 have A3 := Aside0.mk A30
 clear A30
 by_cases c4 : 0 < (l0.length : Int)
 ·rw [if_pos c4] at H
  have c4b0 : decide (0 < (l0.length : Int)) = true := decide_eq_true c4
  have c4b1 : decide (0 < l0.length) = true := decide_eq_true (by omega)
  clear c4
  replace H := Option.bind_eq_some_iff.mp H
  obtain ⟨t289, A50, H⟩ := H
  replace H : (if t289.length + t284.length < 140737488355328 then (some (t289 ++ t284)) else (none)) = some r := H
  have A5 := Aside0.mk A50
  clear A50
  by_cases c6 : t289.length + t284.length < 140737488355328
  ·rw [if_pos c6] at H
   have LMc6 := Aside0.mk c6
   clear c6
   obtain ⟨y292, hy292⟩ : ∃ y_ : List Int, y_ = (t289 ++ t284) := ⟨_, rfl⟩
   replace H : (some y292) = some r := by first | (rw [hy292]; with_reducible exact H) | (have H2_ := (Option.bind_some _ _).symm.trans H; rw [hy292]; with_reducible exact H2_) | (have H2_ := (Option.bind_some _ _).symm.trans H; with_reducible exact H2_) | with_reducible exact H | (rw [hy292]; exact H) | exact H
   have Ny292 := Aside0.mk hy292
   clear hy292
   obtain rfl := Option.some.inj H
   go_enter Tryd.func45, Tryd.ntmps45
   go_wp2_with (first | ((with_reducible refine gate_callee (f := 58) rfl ?_); refine goesL_ (some 7) rfl rfl Tryd.func58 (by kernel_rfl) rfl #[.slice A0 l0.length c0] rfl (by (try simp only [List.map_toArray, List.map_cons, List.map_nil]); first | done | rfl | (simp only [List.length_drop, List.length_take]; rfl)) ?_; (with_reducible refine (times_offsets.calls k _ _ l0 t281 _ ?side1 ?side2 A2.out).mono ?_); (case side1 => exact cC HR0.out); (case side2 => exact HC0.out); rintro e w7 ⟨v282, rfl, ho0, hb⟩; refine ⟨_, rfl, ?_⟩; have n0_ := Aside0.mk (Kd.R_lower ho0 (below_size bB)); have n1_ := Aside0.mk (below_step bB hb); clear HB; have HO283 := n0_; have HB := n1_; clear n0_ n1_; (try clear hb ho0); obtain ⟨Ao8, co8, eo8⟩ := Kd.R_slice HO283.out; subst eo8) | ((with_reducible refine gate_callee (f := 51) rfl ?_); refine goesL_ (some 8) rfl rfl Tryd.func51 (by kernel_rfl) rfl #[.slice Ao8 t281.length co8] rfl (by (try simp only [List.map_toArray, List.map_cons, List.map_nil]); first | done | rfl | (simp only [List.length_drop, List.length_take]; rfl)) ?_; (with_reducible refine (pack_Put.calls _ _ t281 t284 t285 _ ?side1 ?side2 A3.out).mono ?_); (case side1 => exact cC (Kd.R_reads' HO283.out).2.2); (case side2 => exact (Kd.R_reads' HO283.out).2.1); rintro e w9 ⟨v286, rfl, ho0, hb⟩; refine ⟨_, rfl, ?_⟩; have n0_ := Aside0.mk (Kd.R_below (rR HO283.out) hb); have n1_ := Aside0.mk (Kd.R_lower ho0 (below_size bB)); have n2_ := Aside0.mk (below_step bB hb); clear HO283; clear HB; have HO283 := n0_; have HO287 := n1_; have HB := n2_; clear n0_ n1_ n2_; (try clear hb ho0); have p288 : 0 ≤ (0 : Int) := (by omega); have q288 : 0 < (l0.length : Int) := of_decide_eq_true (by first | (with_reducible assumption) | assumption); obtain ⟨ad288, e288, hx288_0⟩ := Kd.at_int HR0.out 0 p288 q288; cases e288; have qi288 : (0 < l0.length) = True := eq_true (by omega); (try rw [show ((0 : Int)).toNat = 0 from rfl] at hx288_0); (try rw [Addr.add_zero'] at hx288_0); replace hx288_0 := (HB.out.cell (World.block_lt_of_cell? w _ hx288_0)).trans hx288_0; replace p288 := eq_true p288; replace q288 := eq_true q288) | ((with_reducible refine gate_callee (f := 46) rfl ?_); refine goesL_ (some 15) rfl rfl Tryd.func46 (by kernel_rfl) rfl #[.slice none 0 0, .int .u64 (IntKind.u64.wrap (rd l0 0))] rfl (by (try simp only [List.map_toArray, List.map_cons, List.map_nil]); first | done | rfl | (simp only [List.length_drop, List.length_take]; rfl)) ?_; (refine (times_raw.calls k (fun k_ => some k_ = (.slice none 0 0 : Value).ownBlock) (.slice none 0 0) ([] : List Int) (IntKind.u64.wrap (rd l0 0)) t289 w _ ?side1 ?side2 A5.out).mono ?_); (case side1 => repeat (first | (with_reducible first | exact HB.out | apply below_alloc | apply pw_below_drewN | apply below_drew1) | exact HB.out)); (case side2 => exact Kd.R_nil _ _ _ _ _); rintro e w10 ⟨v290, rfl, ho0, hb, hkp⟩; refine ⟨_, rfl, ?_⟩; have n0_ := Aside0.mk (Kd.R_mono (ok' := fun k_ => True) (Kd.R_keptB (HO283.out) hkp (fun k_ hk_ hs_ => (fun e_ => by simp [Value.ownBlock] at e_) hs_)) (fun k_ hk_ => trivial)); have n1_ := Aside0.mk (Kd.R_mono (ok' := fun k_ => some k_ ≠ (v290 : Value).ownBlock) (Kd.R_keptB (HO287.out) hkp (fun k_ hk_ hs_ => (fun e_ => by simp [Value.ownBlock] at e_) hs_)) (fun k_ hk_ => fun e_ => Or.elim (ho0.1 k_ e_.symm) (fun hs_ => hk_.2.1 hs_) (fun hn_ => Nat.not_le.2 hk_.2.2 hn_))); have n2_ := Aside0.mk (Kd.R_mono (ok' := fun k_ => some k_ ≠ (v286 : Value).ownBlock) ho0 (fun k_ hk_ => Or.elim hk_ (fun hs_ => absurd hs_ (by simp [Value.ownBlock])) (fun hn_ => (Kd.fresh' (Kd.R_lt (rR HO287.out)) k_ hn_)))); have n3_ := Aside0.mk (hb); clear HO283; clear HO287; clear HB; have HO283 := n0_; have HO287 := n1_; have HO291 := n2_; have HB := n3_; clear n0_ n1_ n2_ n3_; (try clear hb); (try clear hkp); (try clear ho0); obtain ⟨Ao12, co12, eo12⟩ := Kd.R_slice HO287.out; subst eo12) | ((with_reducible refine gate_builtin (b := .append) (xs := #[.tmp 15, .tmp 16]) rfl ?_); at_builtin; refine Kd.R_append_rows (Kd.int .u8) (w0 := w) w.heap.size rfl (.tmp 15) (.tmp 16) 23 5 (.int .u8 0) 1 rfl Tryd.underlying23 info5 rfl (by decide) (by omega) v290 t289 t284 _ _ _ (fun k_ => some k_ ≠ (.slice Ao12 t284.length co12 : Value).ownBlock) (fun _ => False) rfl rfl ?aO ?aR (fun _ _ h => h) (fun _ h => h.elim) ?aF ?aB ?aS ?aL ?_; (case aR => repeat (first | exact (Kd.R_reads' HO287.out).2.2 | (with_reducible refine Kd.C_alloc ?_ _) | (with_reducible refine Kd.C_drewN ?_ _) | (with_reducible refine Kd.C_drew ?_))); (case aB => exact bB); (case aF => exact (fun k_ hk => Kd.fresh' (Kd.R_lt (rR HO287.out)) k_ hk)); (case aO => exact (rR HO291.out)); (case aS => exact (below_size bB)); (case aL => have := LMc6.out; omega); intro v293 w11 ho hb hg hat; rw [← Ny292.out] at ho; have n0_ := Aside0.mk (Kd.R_over' (rR HO283.out) (Kd.R_typed (rR HO291.out)) (by decide) hg); have n1_ := Aside0.mk (Kd.R_after (ok := (fun _ => True)) (by (with_reducible repeat (first | apply Kd.R_alloc | apply Kd.R_drewN | apply Kd.R_drew)); exact Kd.R_mono HO287.out (fun _ hk => ⟨trivial, hk⟩)) hg hat); have n2_ := Aside0.mk (hb); have n3_ := Aside0.mk (ho); clear HO283; clear HO287; clear HB; clear HO291; have HO283 := n0_; have HO287 := n1_; have HB := n2_; have HO294 := n3_; clear n0_ n1_ n2_ n3_; clear ho hb hg hat))
   go_ret
   exact ⟨_, by first | rfl | (simp [errW_none, errW_some] <;> rfl) | (simp [*, errW_none, errW_some] <;> rfl), by (with_reducible repeat (first | apply Kd.R_alloc | apply Kd.R_drewN | apply Kd.R_drew)); exact Kd.R_mono HO294.out (fun _ hk => trivial), bB⟩
  ·rw [if_neg c6] at H
   exact absurd H (by simp)
 ·rw [if_neg c4] at H
  exact absurd H (by simp)


/-! ### times_classes: function 69 -/
def times_classes.f  : Option ((List (S99))) := some (([(⟨2, 2, 7⟩ : S99), (⟨6, 3, 9⟩ : S99), (⟨14, 4, 12⟩ : S99), (⟨15, 4, 64⟩ : S99)] : List (S99)))
set_option maxHeartbeats 8000000 in
set_option maxRecDepth 100000 in
theorem times_classes.calls  (r : List (S99)) (w : World) (h : times_classes.f  = some r) :
  Calls Tryd.prog 69 #[] w fun e w' => ∃ v0_ : Value, e = .returned (v0_) ∧ Kd.R k99 99 w' w.heap.size (fun _ => True) v0_ r ∧ Below w.heap.size w w' := by
 have hu99 := Tryd.underlying99
 have HB := Aside0.mk (Below.refl w.heap.size w)
 have H : (some (([(⟨2, 2, 7⟩ : S99), (⟨6, 3, 9⟩ : S99), (⟨14, 4, 12⟩ : S99), (⟨15, 4, 64⟩ : S99)] : List (S99)))) = some r := h
 clear h
 obtain ⟨y266, hy266⟩ : ∃ y_ : List (S99), y_ = (([(⟨2, 2, 7⟩ : S99), (⟨6, 3, 9⟩ : S99), (⟨14, 4, 12⟩ : S99), (⟨15, 4, 64⟩ : S99)] : List (S99))) := ⟨_, rfl⟩
 replace H : (some y266) = some r := by first | (rw [hy266]; with_reducible exact H) | (have H2_ := (Option.bind_some _ _).symm.trans H; rw [hy266]; with_reducible exact H2_) | (have H2_ := (Option.bind_some _ _).symm.trans H; with_reducible exact H2_) | with_reducible exact H | (rw [hy266]; exact H) | exact H
 have Ny266 := Aside0.mk hy266
 clear hy266
 obtain rfl := Option.some.inj H
 go_enter Tryd.func69, Tryd.ntmps69
 go_wp2_with (first | ((with_reducible refine gate_dst (N := 5) rfl ?_); refine Kd.R_lit k99 _ 99 ?hg (N := 5) ?hd (xs := ([(⟨2, 2, 7⟩ : S99), (⟨6, 3, 9⟩ : S99), (⟨14, 4, 12⟩ : S99), (⟨15, 4, 64⟩ : S99)] : List (S99))) (inner := [.int .u64 2, .int .i64 2, .int .i64 7, .int .u64 6, .int .i64 3, .int .i64 9, .int .u64 14, .int .i64 4, .int .i64 12, .int .u64 15, .int .i64 4, .int .i64 64]) (ok := fun _ => True) (okp := fun _ => True) ?hr ?hp (fun _ hk => hk) trivial (Below.refl _ _) (Nat.le_refl _) (by simp) ?_; (case hd => rfl); (case hg => rfl); (case hr => first | (go_simp; done) | (go_simp; rfl)); (case hp => exact (Reps.c3 (show Kd.M k99 _ _ _ (⟨2, 2, 7⟩ : S99) [.int .u64 2, .int .i64 2, .int .i64 7] from (k99_mkM _ _ _ (⟨2, 2, 7⟩ : S99) )) (Reps.c3 (show Kd.M k99 _ _ _ (⟨6, 3, 9⟩ : S99) [.int .u64 6, .int .i64 3, .int .i64 9] from (k99_mkM _ _ _ (⟨6, 3, 9⟩ : S99) )) (Reps.c3 (show Kd.M k99 _ _ _ (⟨14, 4, 12⟩ : S99) [.int .u64 14, .int .i64 4, .int .i64 12] from (k99_mkM _ _ _ (⟨14, 4, 12⟩ : S99) )) (Reps.c3 (show Kd.M k99 _ _ _ (⟨15, 4, 64⟩ : S99) [.int .u64 15, .int .i64 4, .int .i64 64] from (k99_mkM _ _ _ (⟨15, 4, 64⟩ : S99) )) (Reps.none _ _)))))); intro v267 w1 ho2 hb hg_ hnew_; clear hg_ hnew_; (first | rw [← Ny266.out] at ho2 | (simp only [Int.reduceToNat] at ho2; rw [← Ny266.out] at ho2)); have n0_ := Aside0.mk (Kd.R_lower ho2 (below_size bB)); have n1_ := Aside0.mk (below_step bB hb); clear HB; have HO268 := n0_; have HB := n1_; clear n0_ n1_; clear hb ho2))
 go_ret
 exact ⟨_, by first | rfl | (simp [errW_none, errW_some] <;> rfl) | (simp [*, errW_none, errW_some] <;> rfl), rR HO268.out, bB⟩


/-! ### times_fits: function 70 -/
def times_fits.f (a0 : Int) (a1 : Int) : Option (Bool) := if a1 = 64 then (some true) else (if 0 ≤ (wrap64 (a1 - 1)) then (if a0 ≥ (wrap64 (-(shl .i64 1 (wrap64 (a1 - 1))))) then (some (decide (a0 < (shl .i64 1 (wrap64 (a1 - 1)))))) else (some false)) else (none))
set_option maxHeartbeats 8000000 in
set_option maxRecDepth 100000 in
theorem times_fits.calls (a0 : Int) (a1 : Int) (r : Bool) (w : World) (h : times_fits.f a0 a1 = some r) :
  Calls Tryd.prog 70 #[.int .i64 a0, .int .i64 a1] w fun e w' => e = .returned (.bool r) ∧ Drawn0 w w' := by
 have H : (if a1 = 64 then (some true) else (if 0 ≤ (wrap64 (a1 - 1)) then (if a0 ≥ (wrap64 (-(shl .i64 1 (wrap64 (a1 - 1))))) then (some (decide (a0 < (shl .i64 1 (wrap64 (a1 - 1)))))) else (some false)) else (none))) = some r := h
 clear h
 by_cases c3 : a1 = 64
 ·rw [if_pos c3] at H
  have c3b0 : (a1 == 64) = true := beq_iff_eq.mpr c3
  have c3b1 : (a1 != 64) = false := bne_eq_false_iff_eq.mpr c3
  clear c3
  obtain rfl := Option.some.inj H
  go_enter Tryd.func70, Tryd.ntmps70
  go_wp2
  go_ret
  exact ⟨by first | rfl | (simp; done) | (simp [*]; done), by repeat (first | exact Drawn0.refl _ | apply Drawn0.step)⟩
 ·rw [if_neg c3] at H
  have c3b0 : (a1 == 64) = false := beq_eq_false_iff_ne.mpr c3
  have c3b1 : (a1 != 64) = true := bne_iff_ne.mpr c3
  obtain ⟨ji4, hji4⟩ : ∃ j_ : Int, (wrap64 (a1 - 1)) = j_ := ⟨_, rfl⟩
  replace H : (if 0 ≤ (ji4) then (if a0 ≥ (wrap64 (-(shl .i64 1 (ji4)))) then (some (decide (a0 < (shl .i64 1 (ji4))))) else (some false)) else (none)) = some r := by first | (rw [hji4] at H; exact H) | (simp only [hji4] at H ⊢; exact H)
  have hji4w : (IntKind.i64.wrap (a1 - 1)) = ji4 := (i64_w _).trans hji4
  by_cases c5 : 0 ≤ (ji4)
  ·rw [if_pos c5] at H
   have c5b0 := eq_true c5
   have c5b1 : decide (0 ≤ (ji4)) = true := decide_eq_true c5
   clear c5
   obtain ⟨ji6, hji6⟩ : ∃ j_ : Int, (shl .i64 1 (ji4)) = j_ := ⟨_, rfl⟩
   replace H : (if a0 ≥ (wrap64 (-(ji6))) then (some (decide (a0 < (ji6)))) else (some false)) = some r := by first | (rw [hji6] at H; exact H) | (simp only [hji6] at H ⊢; exact H)
   have hji6_ : (IntKind.i64.wrap (1 * 2 ^ min (ji4).toNat 64)) = ji6 := hji6
   have hji6z : (ji4) ≤ 64 → (IntKind.i64.wrap (1 * 2 ^ (ji4).toNat)) = ji6 := shl_small hji6
   have hji6u : (IntKind.i64.wrap (2 ^ min (ji4).toNat 64)) = ji6 := by have h_ := hji6_; rw [Int.one_mul] at h_; exact h_
   have hji6v : (ji4) ≤ 64 → (IntKind.i64.wrap (2 ^ (ji4).toNat)) = ji6 := fun hle_ => by have h_ := hji6z hle_; rw [Int.one_mul] at h_; exact h_
   have hji6y : (wrap64 (1 * 2 ^ min (ji4).toNat 64)) = ji6 := (i64_w _).symm.trans hji6_
   have hji6x : (ji4) ≤ 64 → (wrap64 (1 * 2 ^ (ji4).toNat)) = ji6 := fun h_ => (i64_w _).symm.trans (hji6z h_)
   by_cases c7 : a0 ≥ (wrap64 (-(ji6)))
   ·rw [if_pos c7] at H
    have c7b0 : decide ((wrap64 (-(ji6))) ≤ a0) = true := decide_eq_true c7
    clear c7
    have c8b0 := eq_true (of_decide_eq_true (by first | (with_reducible assumption) | assumption) : 0 ≤ (ji4))
    obtain rfl := Option.some.inj H
    go_enter Tryd.func70, Tryd.ntmps70
    go_wp2
    go_ret
    exact ⟨by first | rfl | (simp; done) | (simp only [← hji4, ← hji6] <;> (first | rfl | simp)) | (simp [*]; done), by repeat (first | exact Drawn0.refl _ | apply Drawn0.step)⟩
   ·rw [if_neg c7] at H
    have c7b0 : decide ((wrap64 (-(ji6))) ≤ a0) = false := decide_eq_false c7
    clear c7
    obtain rfl := Option.some.inj H
    go_enter Tryd.func70, Tryd.ntmps70
    go_wp2
    go_ret
    exact ⟨by first | rfl | (simp; done) | (simp only [← hji4, ← hji6] <;> (first | rfl | simp)) | (simp [*]; done), by repeat (first | exact Drawn0.refl _ | apply Drawn0.step)⟩
  ·rw [if_neg c5] at H
   exact absurd H (by simp)

end Go.Proofs.YtmlbppfcpejlpaaDoor.X

namespace Go.Proofs.YtmlbppfcpejlpaaDoor.X
open Go.RowKit Go.Proofs.YtmlbppfcpejlpaaDoorW.PrintWords Go.Proofs.YtmlbppfcpejlpaaDoorW.PrintLast Go.Proofs.YtmlbppfcpejlpaaDoorW.PrintMore
attribute [local go_sem] max2_int min2_int max_two min_two max_three min_three max_four min_four   -- for this text's walks alone
set_option linter.unusedVariables false
set_option linter.unusedSimpArgs false

/-! ### times_second: function 57 -/
-- ALONE
open Go.Proofs.YtmlbppfcpejlpaaDoor.S Go.Proofs.YtmlbppfcpejlpaaDoor.B Go.Proofs.YtmlbppfcpejlpaaDoor.W04
/-- The bits of a difference of differences that is not nought. -/
def times_second.bits (d : Int) : List Int :=
 if -64 ≤ d ∧ d < 64 then bitsN 2 2 ++ bitsN 7 (IntKind.u64.wrap d) else if -256 ≤ d ∧ d < 256 then bitsN 3 6 ++ bitsN 9 (IntKind.u64.wrap d)
 else if -2048 ≤ d ∧ d < 2048 then bitsN 4 14 ++ bitsN 12 (IntKind.u64.wrap d) else bitsN 4 15 ++ bitsN 64 (IntKind.u64.wrap d)
def times_second.cls : List S99 := [⟨2, 2, 7⟩, ⟨6, 3, 9⟩, ⟨14, 4, 12⟩, ⟨15, 4, 64⟩]
def times_second.no (d : Int) (i : Nat) : Prop := (1 ≤ i → ¬ (-64 ≤ d ∧ d < 64)) ∧ (2 ≤ i → ¬ (-256 ≤ d ∧ d < 256)) ∧ (3 ≤ i → ¬ (-2048 ≤ d ∧ d < 2048))
theorem times_second.fit (d w q : Int) (h : w ≠ 64) (h0 : 0 ≤ wrap64 (w - 1)) (hq : shl .i64 1 (wrap64 (w - 1)) = q) (hn : wrap64 (-q) = -q) : times_fits.f d w = some (decide (-q ≤ d ∧ d < q)) := by
 unfold times_fits.f
 rw [if_neg h, if_pos h0, hq, hn]
 by_cases h1 : d ≥ -q
 ·rw [if_pos h1]; simp [h1]
 ·rw [if_neg h1]; simp; omega
theorem times_second.step (d : Int) (i : Nat) (hi : i ≤ 3) (hn : times_second.no d i) : ∃ (ld ls wd : Int) (t : Bool), rd_T99 times_second.cls (i : Int) = ⟨ld, ls, wd⟩ ∧ times_fits.f d wd = some t ∧ 0 ≤ ld ∧ ld < 18446744073709551616 ∧
  (t = true → bitsN (cl ls) ld ++ bitsN (cl wd) (IntKind.u64.wrap d) = times_second.bits d) ∧ (t = false → i < 3 ∧ times_second.no d (i + 1)) := by
 obtain ⟨n1, n2, n3⟩ := hn
 have hi : i = 0 ∨ i = 1 ∨ i = 2 ∨ i = 3 := by omega
 rcases hi with rfl | rfl | rfl | rfl
 ·refine ⟨2, 2, 7, _, rfl, times_second.fit d 7 64 (by decide) (by decide +kernel) (by decide +kernel) (by decide +kernel), by decide, by decide, fun h => ?_, fun h => ⟨by decide, ?_⟩⟩
  ·have h := of_decide_eq_true h
   unfold times_second.bits; rw [if_pos h]; rfl
  ·have h := of_decide_eq_false h
   exact ⟨fun _ => h, fun h2 => absurd h2 (by decide), fun h2 => absurd h2 (by decide)⟩
 ·have h1 := n1 (by decide)
  refine ⟨6, 3, 9, _, rfl, times_second.fit d 9 256 (by decide) (by decide +kernel) (by decide +kernel) (by decide +kernel), by decide, by decide, fun h => ?_, fun h => ⟨by decide, ?_⟩⟩
  ·have h := of_decide_eq_true h
   unfold times_second.bits; rw [if_neg h1, if_pos h]; rfl
  ·have h := of_decide_eq_false h
   exact ⟨fun _ => h1, fun _ => h, fun h2 => absurd h2 (by decide)⟩
 ·have h1 := n1 (by decide)
  have h2 := n2 (by decide)
  refine ⟨14, 4, 12, _, rfl, times_second.fit d 12 2048 (by decide) (by decide +kernel) (by decide +kernel) (by decide +kernel), by decide, by decide, fun h => ?_, fun h => ⟨by decide, ?_⟩⟩
  ·have h := of_decide_eq_true h
   unfold times_second.bits; rw [if_neg h1, if_neg h2, if_pos h]; rfl
  ·have h := of_decide_eq_false h
   exact ⟨fun _ => h1, fun _ => h2, fun _ => h⟩
 ·refine ⟨15, 4, 64, true, rfl, by simp [times_fits.f], by decide, by decide, fun _ => ?_, fun h => (by cases h)⟩
  unfold times_second.bits; rw [if_neg (n1 (by decide)), if_neg (n2 (by decide)), if_neg (n3 (by decide))]; rfl
/-- A writer apart from a block. -/
def times_second.Off (w0 W : World) (g : Nat) (v : Value) (l : List Int) (gb : Nat) : Prop :=
 W.heap[g]? = some (.cells #[v, .int .i64 (l.length : Int)] 54 (0, 0)) ∧ g ≠ gb ∧ w0.heap.size ≤ g ∧ Kd.R (Kd.int .u8) 5 W w0.heap.size (fun k => k ≠ gb) v (packB l) ∧ Bits l
theorem times_second.Off.mk' {w0 W W1 g v l gb} (h : WAt w0 W g v l) (hg : gb = W.heap.size) (hb : Below W.heap.size W W1) : times_second.Off w0 W1 g v l gb := by
 have hl : g < W.heap.size := by
  by_cases hc : g < W.heap.size
  ·exact hc
  ·have := h.1; rw [Array.getElem?_eq_none (by omega)] at this; cases this
 exact ⟨blk_below h.1 hb, by omega, h.2.1, Kd.R_mono (Kd.R_below (Kd.R_elderB h.2.2.1 gb (Nat.le_of_eq hg.symm)) hb) (fun _ hk => hk.2), h.2.2.2⟩
theorem times_second.Off.drew {w0 W g v l gb} (h : times_second.Off w0 W g v l gb) : times_second.Off w0 W.drew g v l gb := ⟨h.1, h.2.1, h.2.2.1, Kd.R_drew h.2.2.2.1, h.2.2.2.2⟩
theorem times_second.Off.set {w0 W g v l gb} (h : times_second.Off w0 W g v l gb) (i : Nat) (x : Value) : times_second.Off w0 (W.setCell ⟨gb, i, none⟩ x) g v l gb :=
 ⟨blk_far h.1 (p := ⟨gb, i, none⟩) h.2.1 x, h.2.1, h.2.2.1, Kd.R_far (p := ⟨gb, i, none⟩) h.2.2.2.1 (fun _ hk => hk) x, h.2.2.2.2⟩
theorem times_second.Off.drawn {w0 W W1 g v l gb} (h : times_second.Off w0 W g v l gb) (hb : Below W.heap.size W W1) : times_second.Off w0 W1 g v l gb := ⟨blk_below h.1 hb, h.2.1, h.2.2.1, Kd.R_below h.2.2.2.1 hb, h.2.2.2.2⟩
theorem times_second.Off.out {w0 W g v l gb} (h : times_second.Off w0 W g v l gb) : WAt w0 W g v l := ⟨h.1, h.2.2.1, Kd.R_mono h.2.2.2.1 (fun _ _ => trivial), h.2.2.2.2⟩
theorem times_second.boxed {W w5 : World} {gb : Nat} {a b c x y z : Value} {T : Nat} (h : W.heap[gb]? = some (.cells #[a, b, c] T (0, 0))) (hb : Below (((W.setCell ⟨gb, 0, none⟩ x).setCell ⟨gb, 1, none⟩ y).setCell ⟨gb, 2, none⟩ z).heap.size (((W.setCell ⟨gb, 0, none⟩ x).setCell ⟨gb, 1, none⟩ y).setCell ⟨gb, 2, none⟩ z) w5) : w5.heap[gb]? = some (.cells #[x, y, z] T (0, 0)) :=
 blk_below (blk_put (cs := #[x, y, c]) (blk_put (cs := #[x, b, c]) (blk_put (cs := #[a, b, c]) h 0 _ rfl) 1 _ rfl) 2 _ rfl) hb
theorem times_second.keep {w w' : World} {g gb : Nat} {v : Value} {o : Obj} (hk : Kept w w' (Mine g v)) (hb : w.heap[gb]? = some o) (h1 : g ≠ gb) (h2 : some gb ≠ v.ownBlock) : w'.heap[gb]? = some o := by
 have hl : gb < w.heap.size := by
  by_cases hc : gb < w.heap.size
  ·exact hc
  ·rw [Array.getElem?_eq_none (by omega)] at hb; cases hb
 rw [hk.2 gb hl (fun h => h.elim (fun e => h1 e.symm) h2)]; exact hb
theorem times_second.elder {W W1 : World} {B gb : Nat} {v : Value} {xs : List S99} (h : Kd.R k99 99 W B (fun _ => True) v xs) (hg : gb = W.heap.size) (hb : Below W.heap.size W W1) : Kd.R k99 99 W1 B (fun k => k ≠ gb) v xs :=
 Kd.R_mono (Kd.R_below (Kd.R_elderB h gb (Nat.le_of_eq hg.symm)) hb) (fun _ hk => hk.2)
theorem times_second.far {W : World} {B gb i : Nat} {v x : Value} {xs : List S99} (h : Kd.R k99 99 W B (fun k => k ≠ gb) v xs) : Kd.R k99 99 (W.setCell ⟨gb, i, none⟩ x) B (fun k => k ≠ gb) v xs :=
 Kd.R_far (p := ⟨gb, i, none⟩) h (fun _ hk => hk) x
def times_second.Put2 (w0 : World) (g : Nat) (l : List Int) (e : Ending) (w' : World) : Prop :=
 e = .returned (.tuple #[]) ∧ ∃ v', WAt w0 w' g v' l ∧ Below w0.heap.size w0 w'
def times_second.Rel (w0 w : World) (g : Nat) (v : Value) (l : List Int) (d : Int) (vc : Value) (i : Nat) (wr : World) : Prop :=
 i ≤ 3 ∧ times_second.no d i ∧ WAt w0 wr g v l ∧ Below w0.heap.size w0 wr ∧ Kd.R k99 99 wr w0.heap.size (fun _ => True) vc times_second.cls
set_option maxHeartbeats 8000000 in
set_option maxRecDepth 100000 in
theorem times_second.calls (g : Nat) (v : Value) (l : List Int) (d : Int) (w0 w : World) (hI : WAt w0 w g v l) (hB : Below w0.heap.size w0 w) (hl : l.length < 999000000) :
  Calls Tryd.prog 57 #[.pointer (some ⟨g, 0, none⟩), .int .i64 d] w (times_second.Put2 w0 g (l ++ times_second.bits d)) := by
 have hu := Tryd.underlying99
 have HI := Aside0.mk hI
 have HB := Aside0.mk hB
 clear hI hB
 go_enter Tryd.func57, Tryd.ntmps57
 go_wp2_with (go_at_call 69; (with_reducible refine (times_classes.calls times_second.cls _ rfl).mono ?_); rintro e w1 ⟨v6, rfl, ho, hb⟩; obtain ⟨Ao, co, rfl⟩ := Kd.R_slice ho; have HO := Aside0.mk (Kd.R_lower ho HB.out.size); have HI1 := Aside0.mk (HI.out.below hb); have HB1 := Aside0.mk (below_step HB.out hb); clear ho hb HI HB)
 obtain ⟨n4, hn4⟩ : ∃ n4, n4 = times_second.cls.length := ⟨_, rfl⟩
 have hn4' : n4 = 4 := hn4
 rw [← hn4] at HO ⊢
 have HR : Aside0 (times_second.Rel w0 w g v l d (.slice Ao n4 co) 0 w1) := ⟨⟨by omega, ⟨fun h => absurd h (by decide), fun h => absurd h (by decide), fun h => absurd h (by decide)⟩, HI1.out, HB1.out, HO.out⟩⟩
 have HN := Aside0.mk hn4
 have HN4 := Aside0.mk hn4'
 clear HI1 HB1 HO hn4 hn4'
 go_loopw [8] (fun v8 wr => ∃ (i : Nat) (ii : Int), v8 = .int .i64 ii ∧ Aside0 (ii = (i : Int)) ∧ Aside0 (times_second.Rel w0 w g v l d (.slice Ao n4 co) i wr)) (fun v8 _ => (4 - intOf v8).toNat)
 case atStart => exact ⟨0, _, rfl, ⟨rfl⟩, HR⟩
 case round =>
  clear HR
  obtain ⟨i, ii, rfl, HII, HR⟩ := hrel
  obtain ⟨hi3, hno, hW, hB, hO⟩ := HR.out
  have HW := Aside0.mk hW
  have HB := Aside0.mk hB
  have HO := Aside0.mk hO
  clear HR hW hB hO
  obtain ⟨ld, ls, wv, t, hrd, hfit, hld0, hld1, ht, hf⟩ := times_second.step d i hi3 hno
  have HFIT := Aside0.mk hfit
  have HT := Aside0.mk ht
  have HF := Aside0.mk hf
  have hii := HII.out
  have p0 : 0 ≤ ii := by omega
  have q0 : ii < (n4 : Int) := by have := HN4.out; omega
  have p0' : 0 ≤ ii := p0
  have q3 : ii ≤ 3 := by omega
  have q1 : decide (ii < (n4 : Int)) = true := decide_eq_true q0
  rw [← hii] at hrd
  obtain ⟨ad, e, hx0, hx1, hx2⟩ := at_T99 (Kd.R_reads' HO.out).2.2 ii p0 (by rw [← HN.out]; exact q0)
  rw [hrd] at hx0 hx1 hx2
  simp only at hx0 hx1 hx2
  cases e
  replace p0 := eq_true p0
  replace q0 := eq_true q0
  obtain ⟨dv, hdv⟩ : ∃ dv, IntKind.u64.wrap d = dv := ⟨_, rfl⟩
  have hd0 : 0 ≤ dv ∧ dv < 18446744073709551616 := by rw [← hdv, wrap_u64]; omega
  have HDV := Aside0.mk hdv
  clear hrd hfit ht hf hii
  cases t with
  | true =>
   go_wp2_with (first
    | ((with_reducible refine gate_dst (N := 5) rfl ?_); refine box_event ?hg (N := 5) ?hd (cs := #[.int .u64 0, .int .i64 0, .int .i64 0]) (t := 99) ?hr ?_; (case hd => rfl); (case hg => rfl); (case hr => first | (go_simp; done) | (go_simp; rfl)); intro gb hg w31 hbox hb; have HOFF := Aside0.mk (times_second.Off.mk' (by first | exact HW.out | exact ⟨HW.out.1, HW.out.2.1, Kd.R_drew HW.out.2.2.1, HW.out.2.2.2⟩) hg hb); have GE := Aside0.mk (show w0.heap.size ≤ gb by rw [hg]; exact HB.out.size); have HB31 := Aside0.mk (below_step HB.out hb); have BK := Aside0.mk hbox; have hnb := HOFF.out.2.1; have hnb' := Ne.symm hnb; have hcz0 : w31.cell? ⟨gb, 0, none⟩ = some (.int .u64 0) := (blk_cell hbox 0).trans rfl; have hcz1 : w31.cell? ⟨gb, 1, none⟩ = some (.int .i64 0) := (blk_cell hbox 1).trans rfl; have hcz2 : w31.cell? ⟨gb, 2, none⟩ = some (.int .i64 0) := (blk_cell hbox 2).trans rfl; have hfz0 := blk_frozen hbox 0; have hfz1 := blk_frozen hbox 1; have hfz2 := blk_frozen hbox 2; clear HW HO HB hb hbox hg)
    | (go_at_call 70; (with_reducible refine (times_fits.calls d wv true _ HFIT.out).mono ?_); rintro e w5 ⟨rfl, hdr⟩; have OFF5 := Aside0.mk (times_second.Off.drawn (by repeat (first | exact HOFF.out | apply times_second.Off.set | apply times_second.Off.drew)) (Drawn0.below hdr)); have HB5 := Aside0.mk (below_step (by repeat (first | exact HB31.out | apply below_alloc | apply pw_below_drewN | apply below_drew1 | refine below_set ?_ GE.out)) (Drawn0.below hdr)); have BK5 := Aside0.mk (times_second.boxed BK.out (Drawn0.below hdr)); have hc0 : w5.cell? ⟨gb, 0, none⟩ = some (.int .u64 ld) := (blk_cell BK5.out 0).trans rfl; have hc1 : w5.cell? ⟨gb, 1, none⟩ = some (.int .i64 ls) := (blk_cell BK5.out 1).trans rfl; have hf0 := blk_frozen BK5.out 0; have hf1 := blk_frozen BK5.out 1; clear HOFF HB31 BK hdr)
    | (go_at_call 22; (with_reducible refine (put_calls g v l ld ls w0 _ OFF5.out.out HB5.out hld0 hld1 (by omega)).mono ?_); rintro e w6 ⟨rfl, v6, hW, hB, hK, hV⟩; have HW6 := Aside0.mk hW; have HB6 := Aside0.mk hB; have BK6 := Aside0.mk (times_second.keep hK BK5.out OFF5.out.2.1 (Kd.R_ne OFF5.out.2.2.2.1 BK5.out (by decide))); have hc2 : w6.cell? ⟨gb, 2, none⟩ = some (.int .i64 wv) := (blk_cell BK6.out 2).trans rfl; have hf2 := blk_frozen BK6.out 2; clear hW hB hK hV OFF5 HB5 BK5)
    | (go_at_call 22; (with_reducible refine (put_calls g v6 _ dv wv w0 _ HW6.out HB6.out hd0.1 hd0.2 (by rw [List.length_append, bitsN_len]; have := cl_le ls; omega)).mono ?_); rintro e w7 ⟨rfl, v7, hW, hB, hK, hV⟩; have HW7 := Aside0.mk hW; have HB7 := Aside0.mk hB; clear hW hB hK hV))
   go_end0
   refine ⟨rfl, v7, ?_, HB7.out⟩
   have e := HT.out (by trivial)
   rw [HDV.out] at e
   rw [← e, ← List.append_assoc]
   exact HW7.out
  | false =>
   obtain ⟨hi2, hno2⟩ := HF.out rfl
   go_wp2_with (first
    | ((with_reducible refine gate_dst (N := 5) rfl ?_); refine box_event ?hg (N := 5) ?hd (cs := #[.int .u64 0, .int .i64 0, .int .i64 0]) (t := 99) ?hr ?_; (case hd => rfl); (case hg => rfl); (case hr => first | (go_simp; done) | (go_simp; rfl)); intro gb hg w31 hbox hb; have HOFF := Aside0.mk (times_second.Off.mk' (by first | exact HW.out | exact ⟨HW.out.1, HW.out.2.1, Kd.R_drew HW.out.2.2.1, HW.out.2.2.2⟩) hg hb); have HOO := Aside0.mk (times_second.elder (by first | exact HO.out | exact Kd.R_drew HO.out) hg hb); have GE := Aside0.mk (show w0.heap.size ≤ gb by rw [hg]; exact HB.out.size); have HB31 := Aside0.mk (below_step HB.out hb); have BK := Aside0.mk hbox; have hnb := HOFF.out.2.1; have hnb' := Ne.symm hnb; have hcz0 : w31.cell? ⟨gb, 0, none⟩ = some (.int .u64 0) := (blk_cell hbox 0).trans rfl; have hcz1 : w31.cell? ⟨gb, 1, none⟩ = some (.int .i64 0) := (blk_cell hbox 1).trans rfl; have hcz2 : w31.cell? ⟨gb, 2, none⟩ = some (.int .i64 0) := (blk_cell hbox 2).trans rfl; have hfz0 := blk_frozen hbox 0; have hfz1 := blk_frozen hbox 1; have hfz2 := blk_frozen hbox 2; clear HW HO HB hb hbox hg)
    | (go_at_call 70; (with_reducible refine (times_fits.calls d wv false _ HFIT.out).mono ?_); rintro e w5 ⟨rfl, hdr⟩; have OFF5 := Aside0.mk (times_second.Off.drawn (by repeat (first | exact HOFF.out | apply times_second.Off.set | apply times_second.Off.drew)) (Drawn0.below hdr)); have HB5 := Aside0.mk (below_step (by repeat (first | exact HB31.out | apply below_alloc | apply pw_below_drewN | apply below_drew1 | refine below_set ?_ GE.out)) (Drawn0.below hdr)); have HO5 := Aside0.mk (Kd.R_below (by repeat (first | exact HOO.out | apply times_second.far | apply Kd.R_drew)) (Drawn0.below hdr)); clear HOFF HB31 BK hdr HOO))
   go_roundw
   case rel => exact ⟨i + 1, _, rfl, ⟨by have := HII.out; omega⟩, ⟨by omega, hno2, OFF5.out.out, HB5.out, Kd.R_mono HO5.out (fun _ _ => trivial)⟩⟩
   case measure => simp [intOf]; have := HII.out; omega

end Go.Proofs.YtmlbppfcpejlpaaDoor.X

namespace Go.Proofs.YtmlbppfcpejlpaaDoor.X
open Go.RowKit Go.Proofs.YtmlbppfcpejlpaaDoorW.PrintWords Go.Proofs.YtmlbppfcpejlpaaDoorW.PrintLast Go.Proofs.YtmlbppfcpejlpaaDoorW.PrintMore
attribute [local go_sem] max2_int min2_int max_two min_two max_three min_three max_four min_four   -- for this text's walks alone
set_option linter.unusedVariables false
set_option linter.unusedSimpArgs false

/-! ### times_twice: function 44 -/
open Go.Proofs.YtmlbppfcpejlpaaDoor.S Go.Proofs.YtmlbppfcpejlpaaDoor.B Go.Proofs.YtmlbppfcpejlpaaDoor.W04
/-- The difference of a number with the one ahead. -/
def times_twice.dif (l : List Int) (i : Nat) : Int := if i = 0 then 0 else IntKind.i64.wrap (rd l (i : Int) - rd l ((i - 1 : Nat) : Int))
/-- The bits of one number. -/
def times_twice.piece (l : List Int) (i : Nat) : List Int :=
 if i = 0 then bitsN 64 (IntKind.u64.wrap (rd l (i : Int))) else if i = 1 then bitsN 64 (IntKind.u64.wrap (times_twice.dif l i)) else if times_twice.dif l i = times_twice.dif l (i - 1) then bitsN 1 0
 else times_second.bits (IntKind.i64.wrap (times_twice.dif l i - times_twice.dif l (i - 1)))
def times_twice.part (l : List Int) : Nat → List Int
 | 0 => []
 | i + 1 => times_twice.part l i ++ times_twice.piece l i
def times_twice.last (l : List Int) (i : Nat) : Int := if i = 0 then 0 else rd l ((i - 1 : Nat) : Int)
def times_twice.step (l : List Int) (i : Nat) : Int := if i = 0 then 0 else times_twice.dif l (i - 1)
def times_twice.f (l0 : List Int) : Option (List Int) := if l0.length ≤ 200 then some (packB (times_twice.part l0 l0.length)) else none
theorem times_twice.sec_len (d : Int) : (times_second.bits d).length ≤ 68 := by
 unfold times_second.bits
 split
 ·rw [List.length_append, bitsN_len, bitsN_len]; omega
 ·split
  ·rw [List.length_append, bitsN_len, bitsN_len]; omega
  ·split <;> (rw [List.length_append, bitsN_len, bitsN_len]; omega)
theorem times_twice.piece_len (l : List Int) (i : Nat) : (times_twice.piece l i).length ≤ 68 := by
 unfold times_twice.piece
 split
 ·rw [bitsN_len]; omega
 ·split
  ·rw [bitsN_len]; omega
  ·split
   ·rw [bitsN_len]; omega
   ·exact times_twice.sec_len _
theorem times_twice.part_len (l : List Int) (i : Nat) : (times_twice.part l i).length ≤ 68 * i := by
 induction i with
 | zero => simp [times_twice.part]
 | succ i ih => rw [times_twice.part, List.length_append]; have := times_twice.piece_len l i; omega
def times_twice.Rel (w : World) (g : Nat) (l0 : List Int) (i : Nat) (la st : Int) (wr : World) : Prop :=
 ∃ v', WAt w wr g v' (times_twice.part l0 i) ∧ Below w.heap.size w wr ∧ la = times_twice.last l0 i ∧ st = times_twice.step l0 i
theorem times_twice.arm (l : List Int) (i : Nat) (x la st d : Int) (hx : rd l (i : Int) = x) (hla : la = times_twice.last l i) (hst : st = times_twice.step l i) (hd : IntKind.i64.wrap (x - la) = d) :
  x = times_twice.last l (i + 1) ∧ (i = 0 → times_twice.piece l i = bitsN 64 (IntKind.u64.wrap x) ∧ times_twice.step l (i + 1) = 0) ∧ (i = 1 → times_twice.piece l i = bitsN 64 (IntKind.u64.wrap d)) ∧ (0 < i → times_twice.step l (i + 1) = d) ∧
  (2 ≤ i → d = st → times_twice.piece l i = bitsN 1 0) ∧ (2 ≤ i → d ≠ st → times_twice.piece l i = times_second.bits (IntKind.i64.wrap (d - st))) := by
 have hdd : 0 < i → times_twice.dif l i = d := fun h => by
  unfold times_twice.dif times_twice.last at *
  rw [if_neg (by omega)] at hla ⊢
  rw [hx, ← hla]; exact hd
 refine ⟨?_, ?_, ?_, ?_, ?_, ?_⟩
 ·unfold times_twice.last; rw [if_neg (by omega), Nat.add_sub_cancel]; exact hx.symm
 ·rintro rfl
  exact ⟨by unfold times_twice.piece; rw [if_pos rfl, hx], by unfold times_twice.step times_twice.dif; rw [if_neg (by omega), if_pos rfl]⟩
 ·rintro rfl
  unfold times_twice.piece; rw [if_neg (by omega), if_pos rfl, hdd (by omega)]
 ·intro h
  unfold times_twice.step; rw [if_neg (by omega), Nat.add_sub_cancel]; exact hdd h
 ·intro h e
  unfold times_twice.step at hst; rw [if_neg (by omega)] at hst
  unfold times_twice.piece; rw [if_neg (by omega), if_neg (by omega), if_pos (by rw [hdd (by omega), e, hst])]
 ·intro h e
  unfold times_twice.step at hst; rw [if_neg (by omega)] at hst
  unfold times_twice.piece; rw [if_neg (by omega), if_neg (by omega), hdd (by omega), ← hst, if_neg e]
def times_twice.One (B : Nat) (xs : List Int) (w : World) (e : Ending) (w' : World) : Prop :=
 ∃ v0_ : Value, e = .returned v0_ ∧ Kd.R (Kd.int .u8) 5 w' B (fun _ => True) v0_ xs ∧ Below w.heap.size w w'
set_option maxHeartbeats 8000000 in
set_option maxRecDepth 100000 in
theorem times_twice.calls_main (A0 : Option Addr) (c0 : Nat) (l0 : List Int) (w : World) (hr0 : Kd.C (Kd.int .i64) w A0 l0.length l0) (hc0 : l0.length ≤ c0) (h1 : l0.length ≤ 200) :
  Calls Tryd.prog 44 #[.slice A0 l0.length c0] w (times_twice.One w.heap.size (packB (times_twice.part l0 l0.length)) w) := by
 have HR0 := Aside0.mk hr0
 have HC0 := Aside0.mk hc0
 clear hr0 hc0
 go_enter Tryd.func44, Tryd.ntmps44
 go_wp2
 have HR : Aside0 (times_twice.Rel w w.heap.size l0 0 0 0 (w.alloc (.cells #[.slice none 0 0, .int .i64 0] 54))) := ⟨⟨_, pack_Put.new w w (Below.refl _ _), (Below.refl _ _).alloc (Nat.le_refl _) _, rfl, rfl⟩⟩
 go_loopw [4, 5, 11] (fun v4 v5 v11 wr => ∃ (i : Nat) (ii la st : Int), v4 = .int .i64 la ∧ v5 = .int .i64 st ∧ v11 = .int .i64 ii ∧ Aside0 (ii = (i : Int)) ∧ Aside0 (i ≤ l0.length) ∧ Aside0 (times_twice.Rel w w.heap.size l0 i la st wr)) (fun _ _ v11 _ => ((l0.length : Int) - intOf v11).toNat)
 case atStart => exact ⟨0, _, _, _, rfl, rfl, rfl, ⟨rfl⟩, ⟨Nat.zero_le _⟩, HR⟩
 case round =>
  clear HR
  obtain ⟨i, ii, la, st, rfl, rfl, rfl, HI, HIL, HR⟩ := hrel
  obtain ⟨v6, hW, hB, hla, hst⟩ := HR.out
  have HW := Aside0.mk hW
  have HB := Aside0.mk hB
  have hlen := times_twice.part_len l0 i
  have hin := HI.out
  clear HR hW hB
  by_cases hlt : i < l0.length
  ·have hi0 : 0 ≤ ii := by omega
   have hi1 : ii ≤ 200 := by omega
   have hi2 : decide (ii < (l0.length : Int)) = true := by simp; omega
   have hi3 : (ii < (l0.length : Int)) = True := eq_true (by omega)
   have hi4 : (0 ≤ ii) = True := eq_true hi0
   obtain ⟨ad, e, hx⟩ := Kd.at_int (Kd.C_below HR0.out HB.out) ii hi0 (by omega)
   cases e
   obtain ⟨x, hxe⟩ : ∃ x, rd l0 (i : Int) = x := ⟨_, rfl⟩
   rw [show rd l0 ii = x by rw [hin]; exact hxe] at hx
   obtain ⟨d, hd⟩ : ∃ d, IntKind.i64.wrap (x - la) = d := ⟨_, rfl⟩
   have hd' : wrap64 (x - la) = d := (i64_w _).symm.trans hd
   have HF := Aside0.mk (times_twice.arm l0 i x la st d hxe hla hst hd)
   obtain ⟨ux, hux⟩ : ∃ y, IntKind.u64.wrap x = y := ⟨_, rfl⟩
   obtain ⟨ud, hud⟩ : ∃ y, IntKind.u64.wrap d = y := ⟨_, rfl⟩
   obtain ⟨sd, hsd⟩ : ∃ y, IntKind.i64.wrap (d - st) = y := ⟨_, rfl⟩
   have hsd' : wrap64 (d - st) = sd := (i64_w _).symm.trans hsd
   have HUX := Aside0.mk (show 0 ≤ ux ∧ ux < 18446744073709551616 by rw [← hux, wrap_u64]; omega)
   have HUD := Aside0.mk (show 0 ≤ ud ∧ ud < 18446744073709551616 by rw [← hud, wrap_u64]; omega)
   rw [hux, hud, hsd] at HF
   clear hla hst hxe hin
   by_cases q0 : i = 0
   ·have e0 : (ii == 0) = true := by rw [beq_iff_eq]; have := HI.out; omega
    have Q := Aside0.mk q0
    clear q0
    go_wp2_with (go_at_call 22; (with_reducible refine (put_calls w.heap.size v6 _ ux 64 w _ HW.out HB.out HUX.out.1 HUX.out.2 (by omega)).mono ?_); rintro e w7 ⟨rfl, v7, hW, hB, hK, hV⟩; have HW7 := Aside0.mk hW; have HB7 := Aside0.mk hB; clear hW hB hK hV HW HB)
    go_roundw
    case rel => exact ⟨i + 1, _, _, _, rfl, rfl, rfl, ⟨by have := HI.out; omega⟩, ⟨hlt⟩, ⟨v7, by
     have := HW7.out
     rw [times_twice.part, (HF.out.2.1 Q.out).1]
     exact this, HB7.out, HF.out.1, (HF.out.2.1 Q.out).2.symm⟩⟩
    case measure => simp [intOf]; have := HI.out; omega
   have e0 : (ii == 0) = false := by rw [beq_eq_false_iff_ne]; have := HI.out; omega
   by_cases q1 : i = 1
   ·have e1 : (ii == 1) = true := by rw [beq_iff_eq]; have := HI.out; omega
    have Q := Aside0.mk q1
    have Q0 := Aside0.mk q0
    clear q1 q0
    go_wp2_with (go_at_call 22; (with_reducible refine (put_calls w.heap.size v6 _ ud 64 w _ HW.out HB.out HUD.out.1 HUD.out.2 (by omega)).mono ?_); rintro e w7 ⟨rfl, v7, hW, hB, hK, hV⟩; have HW7 := Aside0.mk hW; have HB7 := Aside0.mk hB; clear hW hB hK hV HW HB)
    go_roundw
    case rel => exact ⟨i + 1, _, _, _, rfl, rfl, rfl, ⟨by have := HI.out; omega⟩, ⟨hlt⟩, ⟨v7, by
     have := HW7.out
     rw [times_twice.part, HF.out.2.2.1 Q.out]
     exact this, HB7.out, HF.out.1, (HF.out.2.2.2.1 (by have := Q0.out; omega)).symm⟩⟩
    case measure => simp [intOf]; have := HI.out; omega
   have e1 : (ii == 1) = false := by rw [beq_eq_false_iff_ne]; have := HI.out; omega
   have Q := Aside0.mk (show 2 ≤ i by omega)
   clear q0 q1
   by_cases q2 : d = st
   ·have e2 : (d == st) = true := by rw [beq_iff_eq]; exact q2
    have Q2 := Aside0.mk q2
    clear q2
    go_wp2_with (go_at_call 22; (with_reducible refine (put_calls w.heap.size v6 _ 0 1 w _ HW.out HB.out (by decide) (by decide) (by omega)).mono ?_); rintro e w7 ⟨rfl, v7, hW, hB, hK, hV⟩; have HW7 := Aside0.mk hW; have HB7 := Aside0.mk hB; clear hW hB hK hV HW HB)
    go_roundw
    case rel => exact ⟨i + 1, _, _, _, rfl, rfl, rfl, ⟨by have := HI.out; omega⟩, ⟨hlt⟩, ⟨v7, by
     have := HW7.out
     rw [times_twice.part, HF.out.2.2.2.2.1 Q.out Q2.out]
     exact this, HB7.out, HF.out.1, (HF.out.2.2.2.1 (by have := Q.out; omega)).symm⟩⟩
    case measure => simp [intOf]; have := HI.out; omega
   ·have e2 : (d == st) = false := by rw [beq_eq_false_iff_ne]; exact q2
    have Q2 := Aside0.mk q2
    clear q2
    go_wp2_with (go_at_call 57; (with_reducible refine (times_second.calls w.heap.size v6 _ sd w _ HW.out HB.out (by omega)).mono ?_); rintro e w7 ⟨rfl, v7, hW, hB⟩; have HW7 := Aside0.mk hW; have HB7 := Aside0.mk hB; clear hW hB HW HB)
    go_roundw
    case rel => exact ⟨i + 1, _, _, _, rfl, rfl, rfl, ⟨by have := HI.out; omega⟩, ⟨hlt⟩, ⟨v7, by
     have := HW7.out
     rw [times_twice.part, HF.out.2.2.2.2.2 Q.out Q2.out]
     exact this, HB7.out, HF.out.1, (HF.out.2.2.2.1 (by have := Q.out; omega)).symm⟩⟩
    case measure => simp [intOf]; have := HI.out; omega
  ·have hi2 : decide (ii < (l0.length : Int)) = false := by simp; omega
   have hil : i = l0.length := by have := HIL.out; omega
   have HIL2 := Aside0.mk hil
   have hlb2 : (times_twice.part l0 i).length < 1000000000000 := by omega
   clear hil hla hst hin
   go_wp2_with (go_at_call 24; (with_reducible refine (bytes_calls w.heap.size v6 _ w _ HW.out hlb2).mono ?_); rintro e w7 ⟨v0, rfl, hR, hB⟩; have HR7 := Aside0.mk hR; have HB7 := Aside0.mk hB; clear hR hB)
   go_ret
   refine ⟨v0, rfl, ?_, below_step HB.out HB7.out⟩
   rw [← HIL2.out]
   exact Kd.R_lower HR7.out HB.out.size
theorem times_twice.calls (A0 : Option Addr) (c0 : Nat) (l0 : List Int) (r : List Int) (w : World) (hr0 : Kd.C (Kd.int .i64) w A0 l0.length l0) (hc0 : l0.length ≤ c0) (h : times_twice.f l0 = some r) :
  Calls Tryd.prog 44 #[.slice A0 l0.length c0] w fun e w' => ∃ v0_ : Value, e = .returned v0_ ∧ Kd.R (Kd.int .u8) 5 w' w.heap.size (fun _ => True) v0_ r ∧ Below w.heap.size w w' := by
 unfold times_twice.f at h
 by_cases h1 : l0.length ≤ 200
 ·rw [if_pos h1] at h; injection h with e1; subst e1
  exact times_twice.calls_main A0 c0 l0 w hr0 hc0 h1
 ·rw [if_neg h1] at h; cases h

end Go.Proofs.YtmlbppfcpejlpaaDoor.X

namespace Go.Proofs.YtmlbppfcpejlpaaDoor.X
open Go.RowKit Go.Proofs.YtmlbppfcpejlpaaDoorW.PrintWords Go.Proofs.YtmlbppfcpejlpaaDoorW.PrintLast Go.Proofs.YtmlbppfcpejlpaaDoorW.PrintMore
attribute [local go_sem] max2_int min2_int max_two min_two max_three min_three max_four min_four   -- for this text's walks alone
set_option linter.unusedVariables false
set_option linter.unusedSimpArgs false

/-! ### varint_Zig: function 48 -/
def varint_Zig.f (a0 : Int) : Option (Int) := some (Go.bits .xor .u64 (IntKind.u64.wrap ((IntKind.u64.wrap (a0)) * 2)) (IntKind.u64.wrap (a0 / 9223372036854775808)))
set_option maxHeartbeats 8000000 in
set_option maxRecDepth 100000 in
theorem varint_Zig.calls (a0 : Int) (r : Int) (w : World) (h : varint_Zig.f a0 = some r) :
  Calls Tryd.prog 48 #[.int .i64 a0] w fun e w' => e = .returned (.int .u64 r) ∧ Drawn0 w w' := by
 have H : (some (Go.bits .xor .u64 (IntKind.u64.wrap ((IntKind.u64.wrap (a0)) * 2)) (IntKind.u64.wrap (a0 / 9223372036854775808)))) = some r := h
 clear h
 obtain rfl := Option.some.inj H
 go_enter Tryd.func48, Tryd.ntmps48
 go_wp2
 go_ret
 exact ⟨by first | rfl | (simp; done) | (simp [*]; done), by repeat (first | exact Drawn0.refl _ | apply Drawn0.step)⟩


/-! ### times_Put: function 33 -/
mutual
def times_Put.j0 : Nat → List Int → Int → Bool → Option (List Int × Int)
 | 0, _, _, _ => none
 | k + 1, x0, x1, x20 => if x20 = true then (some (([] : List Int), 1)) else (if (x0.length : Int) = 0 then (some (([] : List Int), 0)) else (if x1 = 2 then ((times_twice.f x0).bind fun t304 => (some (t304, 0))) else (if x1 = 3 then ((times_packed.f k x0).bind fun t307 => (some (t307, 0))) else (if x1 = 0 then (times_Put.l0 k ([] : List Int) x0 (x0.length : Int) 0) else (if 0 < (x0.length : Int) then ((varint_Zig.f (rd x0 0)).bind fun t315 => ((varint_Put.f k ([] : List Int) t315).bind fun t316 => (times_Put.l1 k x0 t316 1))) else (none))))))
def times_Put.l0 : Nat → List Int → List Int → Int → Int → Option (List Int × Int)
 | 0, _, _, _, _ => none
 | k + 1, x6, x64, x65, x66 => if x66 < x65 then (if 0 ≤ x66 then (if x66 < (x64.length : Int) then ((times_raw.f k x6 (IntKind.u64.wrap (rd x64 x66))).bind fun t311 => (times_Put.l0 k t311 x64 x65 (wrap64 (x66 + 1)))) else (none)) else (none)) else (some (x6, 0))
def times_Put.l1 : Nat → List Int → List Int → Int → Option (List Int × Int)
 | 0, _, _, _ => none
 | k + 1, x0, x6, x9 => if x9 < (x0.length : Int) then (if 0 ≤ x9 then (if 0 ≤ (wrap64 (x9 - 1)) then (if (wrap64 (x9 - 1)) < (x0.length : Int) then ((varint_Put.f k x6 (IntKind.u64.wrap ((IntKind.u64.wrap (rd x0 x9)) - (IntKind.u64.wrap (rd x0 (wrap64 (x9 - 1))))))).bind fun t321 => (times_Put.l1 k x0 t321 (wrap64 (x9 + 1)))) else (none)) else (none)) else (none)) else (some (x6, 0))
end
def times_Put.f (k : Nat) (l0 : List Int) (a1 : Int) : Option (List Int × Int) := if a1 < 0 then (times_Put.j0 k l0 a1 true) else (if a1 > 3 then (times_Put.j0 k l0 a1 true) else (times_Put.j0 k l0 a1 (decide ((l0.length : Int) > 200))))
theorem times_Put.mono_l : ∀ k, (∀ y0 y1 y2, LeO (times_Put.j0 k y0 y1 y2) (times_Put.j0 (k + 1) y0 y1 y2)) ∧ (∀ y0 y1 y2 y3, LeO (times_Put.l0 k y0 y1 y2 y3) (times_Put.l0 (k + 1) y0 y1 y2 y3)) ∧ (∀ y0 y1 y2, LeO (times_Put.l1 k y0 y1 y2) (times_Put.l1 (k + 1) y0 y1 y2))
 | 0 => ⟨fun _ _ _ r h => by simp [times_Put.j0] at h, fun _ _ _ _ r h => by simp [times_Put.l0] at h, fun _ _ _ r h => by simp [times_Put.l1] at h⟩
 | k + 1 => by
  obtain ⟨ih0, ih1, ih2⟩ := times_Put.mono_l k
  refine ⟨?_, ?_, ?_⟩
  ·intro y0 y1 y2
   unfold times_Put.j0
   repeat' first
   | (with_reducible exact ih0 _ _ _)
   | (with_reducible exact ih1 _ _ _ _)
   | (with_reducible exact ih2 _ _ _)
   | (with_reducible exact times_packed.mono _ _)
   | (with_reducible exact times_raw.mono _ _ _)
   | (with_reducible exact varint_Put.mono _ _ _)
   | (with_reducible exact LeO.refl _)
   | (with_reducible exact LeO.none _)
   | (with_reducible refine LeO.ite ?_ ?_)
   | (with_reducible refine LeO.bind ?_ (fun _ => ?_))
   | exact ih0 _ _ _
   | exact ih1 _ _ _ _
   | exact ih2 _ _ _
   | exact times_packed.mono _ _
   | exact times_raw.mono _ _ _
   | exact varint_Put.mono _ _ _
   | exact LeO.none _
   | refine LeO.ite ?_ ?_
   | refine LeO.bind ?_ (fun _ => ?_)
  ·intro y0 y1 y2 y3
   unfold times_Put.l0
   repeat' first
   | (with_reducible exact ih0 _ _ _)
   | (with_reducible exact ih1 _ _ _ _)
   | (with_reducible exact ih2 _ _ _)
   | (with_reducible exact times_packed.mono _ _)
   | (with_reducible exact times_raw.mono _ _ _)
   | (with_reducible exact varint_Put.mono _ _ _)
   | (with_reducible exact LeO.refl _)
   | (with_reducible exact LeO.none _)
   | (with_reducible refine LeO.ite ?_ ?_)
   | (with_reducible refine LeO.bind ?_ (fun _ => ?_))
   | exact ih0 _ _ _
   | exact ih1 _ _ _ _
   | exact ih2 _ _ _
   | exact times_packed.mono _ _
   | exact times_raw.mono _ _ _
   | exact varint_Put.mono _ _ _
   | exact LeO.none _
   | refine LeO.ite ?_ ?_
   | refine LeO.bind ?_ (fun _ => ?_)
  ·intro y0 y1 y2
   unfold times_Put.l1
   repeat' first
   | (with_reducible exact ih0 _ _ _)
   | (with_reducible exact ih1 _ _ _ _)
   | (with_reducible exact ih2 _ _ _)
   | (with_reducible exact times_packed.mono _ _)
   | (with_reducible exact times_raw.mono _ _ _)
   | (with_reducible exact varint_Put.mono _ _ _)
   | (with_reducible exact LeO.refl _)
   | (with_reducible exact LeO.none _)
   | (with_reducible refine LeO.ite ?_ ?_)
   | (with_reducible refine LeO.bind ?_ (fun _ => ?_))
   | exact ih0 _ _ _
   | exact ih1 _ _ _ _
   | exact ih2 _ _ _
   | exact times_packed.mono _ _
   | exact times_raw.mono _ _ _
   | exact varint_Put.mono _ _ _
   | exact LeO.none _
   | refine LeO.ite ?_ ?_
   | refine LeO.bind ?_ (fun _ => ?_)
theorem times_Put.mono : ∀ a0 a1 k, LeO (times_Put.f k a0 a1) (times_Put.f (k + 1) a0 a1) := by
 intro a0 a1 k
 obtain ⟨ih0, ih1, ih2⟩ := times_Put.mono_l k
 unfold times_Put.f
 repeat' first
   | (with_reducible exact ih0 _ _ _)
   | (with_reducible exact ih1 _ _ _ _)
   | (with_reducible exact ih2 _ _ _)
   | (with_reducible exact times_packed.mono _ _)
   | (with_reducible exact times_raw.mono _ _ _)
   | (with_reducible exact varint_Put.mono _ _ _)
   | (with_reducible exact LeO.refl _)
   | (with_reducible exact LeO.none _)
   | (with_reducible refine LeO.ite ?_ ?_)
   | (with_reducible refine LeO.bind ?_ (fun _ => ?_))
   | exact ih0 _ _ _
   | exact ih1 _ _ _ _
   | exact ih2 _ _ _
   | exact times_packed.mono _ _
   | exact times_raw.mono _ _ _
   | exact varint_Put.mono _ _ _
   | exact LeO.none _
   | refine LeO.ite ?_ ?_
   | refine LeO.bind ?_ (fun _ => ?_)
def times_Put.T8 : Bool × List (List Nat × List Nat) := (true, [([], []), ([], []), ([], []), ([1, 2], [1, 2]), ([3], [3]), ([4], [4]), ([], []), ([], []), ([7], [7]), ([6, 8], [6, 8]), ([9], [9]), ([10], [10]), ([5, 11], [5, 11]), ([0, 12], [0, 12]), ([13, 13, 0, 1, 2, 3, 4, 5, 6, 7, 8, 9, 10, 11, 12, 13], [0, 13])])
def times_Put.B8 : List Nat := [0, 0, 0, 6, 14, 30, 0, 0, 128, 448, 960, 1984, 4094, 8191, 16383]
theorem times_Put.tab8 : rtab .any (opsOf Tryd.f33 8) = times_Put.T8 := by kernel_rfl
theorem times_Put.bits8 : waitsOk times_Put.T8.2 times_Put.B8 = true := by kernel_rfl
set_option maxHeartbeats 8000000 in
set_option maxRecDepth 100000 in
theorem times_Put.calls (k : Nat) (A0 : Option Addr) (c0 : Nat) (l0 : List Int) (a1 : Int) (r1 : List Int) (r2 : Int) (w : World) (hr0 : Kd.C (Kd.int .i64) w A0 l0.length l0) (hc0 : l0.length ≤ c0) (h : times_Put.f k l0 a1 = some (r1, r2)) :
  Calls Tryd.prog 33 #[.slice A0 l0.length c0, .int .i64 a1] w fun e w' => ∃ v0_ : Value, e = .returned (.tuple #[v0_, .int .i64 r2]) ∧ Kd.R (Kd.int .u8) 5 w' w.heap.size (fun _ => True) v0_ r1 ∧ Below w.heap.size w w' := by
 have HR0 := Aside0.mk hr0
 have HC0 := Aside0.mk hc0
 clear hr0 hc0
 have HB := Aside0.mk (Below.refl w.heap.size w)
 have H : (if a1 < 0 then (times_Put.j0 k l0 a1 true) else (if a1 > 3 then (times_Put.j0 k l0 a1 true) else (times_Put.j0 k l0 a1 (decide ((l0.length : Int) > 200))))) = some (r1, r2) := h
 clear h
 have HC3 := Aside0.mk H
 clear H
 go_enter Tryd.func33, Tryd.ntmps33
 go_upto_region 1 with (fail)
 go_cut [20] (fun v20 wc => ∃ (kq : Nat) (x20_2 : Bool), v20 = .bool x20_2 ∧ Aside0 (times_Put.j0 kq l0 a1 x20_2 = some (r1, r2)) ∧ Aside0 (kq ≤ k) ∧ Aside0 (Below w.heap.size w wc))
 case first =>
  have H := HC3.out
  clear HC3
  by_cases c4 : a1 < 0
  ·rw [if_pos c4] at H
   have c4b0 : decide (a1 < 0) = true := decide_eq_true c4
   clear c4
   (first | rw [c4b0] | (simp only [i64_w, i32_w]; rw [c4b0]) | skip)
   have H' := Aside0.mk H
   clear H
   go_wp2
   go_meet
   case rel => exact ⟨_, (true), (by first | rfl | (simp; done) | (simp [*]; done)), H', ⟨by first | omega | exact Nat.le_refl _⟩, ⟨bB⟩⟩
  ·rw [if_neg c4] at H
   have c4b0 : decide (a1 < 0) = false := decide_eq_false c4
   clear c4
   (first | rw [c4b0] | (simp only [i64_w, i32_w]; rw [c4b0]) | skip)
   by_cases c5 : a1 > 3
   ·rw [if_pos c5] at H
    have c5b0 : decide (3 < a1) = true := decide_eq_true c5
    clear c5
    have H' := Aside0.mk H
    clear H
    go_wp2
    go_meet
    case rel => exact ⟨_, (true), (by first | rfl | (simp; done) | (simp [*]; done)), H', ⟨by first | omega | exact Nat.le_refl _⟩, ⟨bB⟩⟩
   ·rw [if_neg c5] at H
    have c5b0 : decide (3 < a1) = false := decide_eq_false c5
    clear c5
    have H' := Aside0.mk H
    clear H
    go_wp2
    go_meet
    case rel => exact ⟨_, (decide ((l0.length : Int) > 200)), (by first | rfl | (simp; done) | (simp [*]; done)), H', ⟨by first | omega | exact Nat.le_refl _⟩, ⟨bB⟩⟩
 case rest =>
  clear HC3
  (try clear p2);(try clear c3);(try clear c4);(try clear c4b0);(try clear c5);(try clear c5b0)
  obtain ⟨kq, x20_2, rfl, HA, HJ2, HB⟩ := hcut
  cases kq with
  | zero => exact absurd HA.out (by simp [times_Put.j0])
  | succ kj2 =>
   have H := HA.out
   clear HA
   simp only [times_Put.j0] at H
   by_cases c6 : x20_2 = true
   ·subst c6
    have H1 : (some (([] : List Int), 1)) = some (r1, r2) := by rw [if_pos rfl] at H; exact H
    clear H
    have H := H1
    clear H1
    simp only [Option.some.injEq, Prod.mk.injEq] at H
    obtain ⟨rfl, rfl⟩ := H
    go_wp2
    go_ret2
    exact ⟨_, by first | rfl | (simp [errW_none, errW_some] <;> rfl) | (simp [*, errW_none, errW_some] <;> rfl), by first | exact Kd.R_nil _ _ _ _ _ | exact Kd.N_nil _ _ _ _ _ | exact Kd.V_nil _ _ _ _ _ | exact Kd.Q_nil _ _ _ _ _ | exact Kd.S_nil _ _ _ _ _, bB⟩
   ·replace c6 := Bool.eq_false_iff.mpr c6
    subst c6
    have H1 : (if (l0.length : Int) = 0 then (some (([] : List Int), 0)) else (if a1 = 2 then ((times_twice.f l0).bind fun t304 => (some (t304, 0))) else (if a1 = 3 then ((times_packed.f kj2 l0).bind fun t307 => (some (t307, 0))) else (if a1 = 0 then (times_Put.l0 kj2 ([] : List Int) l0 (l0.length : Int) 0) else (if 0 < (l0.length : Int) then ((varint_Zig.f (rd l0 0)).bind fun t315 => ((varint_Put.f kj2 ([] : List Int) t315).bind fun t316 => (times_Put.l1 kj2 l0 t316 1))) else (none)))))) = some (r1, r2) := by rw [if_neg (show ¬ (false = true) by decide)] at H; exact H
    clear H
    have H := H1
    clear H1
    by_cases c7 : (l0.length : Int) = 0
    ·rw [if_pos c7] at H
     have c7b0 : ((l0.length : Int) == 0) = true := beq_iff_eq.mpr c7
     have c7b1 : ((l0.length : Int) != 0) = false := bne_eq_false_iff_eq.mpr c7
     clear c7
     simp only [Option.some.injEq, Prod.mk.injEq] at H
     obtain ⟨rfl, rfl⟩ := H
     go_wp2
     go_ret2
     exact ⟨_, by first | rfl | (simp [errW_none, errW_some] <;> rfl) | (simp [*, errW_none, errW_some] <;> rfl), by first | exact Kd.R_nil _ _ _ _ _ | exact Kd.N_nil _ _ _ _ _ | exact Kd.V_nil _ _ _ _ _ | exact Kd.Q_nil _ _ _ _ _ | exact Kd.S_nil _ _ _ _ _, bB⟩
    ·rw [if_neg c7] at H
     have c7b0 : ((l0.length : Int) == 0) = false := beq_eq_false_iff_ne.mpr c7
     have c7b1 : ((l0.length : Int) != 0) = true := bne_iff_ne.mpr c7
     have c7b2 : ¬ (l0 = []) := fun h_ => c7 (by rw [h_]; rfl)
     by_cases c8 : a1 = 2
     ·rw [if_pos c8] at H
      have c8b0 : (a1 == 2) = true := beq_iff_eq.mpr c8
      have c8b1 : (a1 != 2) = false := bne_eq_false_iff_eq.mpr c8
      clear c8
      replace H := Option.bind_eq_some_iff.mp H
      obtain ⟨t304, A90, H⟩ := H
      replace H : (some (t304, 0)) = some (r1, r2) := H
      have A9 := Aside0.mk A90
      clear A90
      simp only [Option.some.injEq, Prod.mk.injEq] at H
      obtain ⟨rfl, rfl⟩ := H
      go_wp2_with (first | ((with_reducible refine gate_callee (f := 44) rfl ?_); refine goesL_ (some 55) rfl rfl Tryd.func44 (by kernel_rfl) rfl #[.slice A0 l0.length c0] rfl (by (try simp only [List.map_toArray, List.map_cons, List.map_nil]); first | done | rfl | (simp only [List.length_drop, List.length_take]; rfl)) ?_; (with_reducible refine (times_twice.calls _ _ l0 t304 _ ?side1 ?side2 A9.out).mono ?_); (case side1 => exact cC (Kd.C_below HR0.out HB.out)); (case side2 => exact HC0.out); rintro e w10 ⟨v305, rfl, ho0, hb⟩; refine ⟨_, rfl, ?_⟩; have n0_ := Aside0.mk (Kd.R_lower ho0 (below_size bB)); have n1_ := Aside0.mk (below_step bB hb); clear HB; have HO306 := n0_; have HB := n1_; clear n0_ n1_; (try clear hb ho0)))
      go_ret2
      exact ⟨_, by first | rfl | (simp [errW_none, errW_some] <;> rfl) | (simp [*, errW_none, errW_some] <;> rfl), rR HO306.out, bB⟩
     ·rw [if_neg c8] at H
      have c8b0 : (a1 == 2) = false := beq_eq_false_iff_ne.mpr c8
      have c8b1 : (a1 != 2) = true := bne_iff_ne.mpr c8
      by_cases c11 : a1 = 3
      ·rw [if_pos c11] at H
       have c11b0 : (a1 == 3) = true := beq_iff_eq.mpr c11
       have c11b1 : (a1 != 3) = false := bne_eq_false_iff_eq.mpr c11
       clear c11
       replace H := Option.bind_eq_some_iff.mp H
       obtain ⟨t307, A120, H⟩ := H
       replace H : (some (t307, 0)) = some (r1, r2) := H
       have A12 := Aside0.mk A120
       clear A120
       simp only [Option.some.injEq, Prod.mk.injEq] at H
       obtain ⟨rfl, rfl⟩ := H
       go_wp2_with (first | ((with_reducible refine gate_callee (f := 45) rfl ?_); refine goesL_ (some 60) rfl rfl Tryd.func45 (by kernel_rfl) rfl #[.slice A0 l0.length c0] rfl (by (try simp only [List.map_toArray, List.map_cons, List.map_nil]); first | done | rfl | (simp only [List.length_drop, List.length_take]; rfl)) ?_; (with_reducible refine (times_packed.calls kj2 _ _ l0 t307 _ ?side1 ?side2 A12.out).mono ?_); (case side1 => exact cC (Kd.C_below HR0.out HB.out)); (case side2 => exact HC0.out); rintro e w13 ⟨v308, rfl, ho0, hb⟩; refine ⟨_, rfl, ?_⟩; have n0_ := Aside0.mk (Kd.R_lower ho0 (below_size bB)); have n1_ := Aside0.mk (below_step bB hb); clear HB; have HO309 := n0_; have HB := n1_; clear n0_ n1_; (try clear hb ho0)))
       go_ret2
       exact ⟨_, by first | rfl | (simp [errW_none, errW_some] <;> rfl) | (simp [*, errW_none, errW_some] <;> rfl), rR HO309.out, bB⟩
      ·rw [if_neg c11] at H
       have c11b0 : (a1 == 3) = false := beq_eq_false_iff_ne.mpr c11
       have c11b1 : (a1 != 3) = true := bne_iff_ne.mpr c11
       by_cases c14 : a1 = 0
       ·rw [if_pos c14] at H
        have c14b0 : (a1 == 0) = true := beq_iff_eq.mpr c14
        have c14b1 : (a1 != 0) = false := bne_eq_false_iff_eq.mpr c14
        clear c14
        have H' := Aside0.mk H
        clear H
        go_wp2
        go_loopg [6, 66] kj2 (fun kq v6 v66 w' => ∃ (x6_2 : List Int) (x66_2 : Int), v66 = .int .i64 x66_2 ∧ Aside0 (times_Put.l0 kq x6_2 l0 (l0.length : Int) x66_2 = some (r1, r2)) ∧ Aside0 (kq ≤ kj2) ∧ Aside0 (Kd.R (Kd.int .u8) 5 w' w.heap.size (fun _ => True) v6 x6_2) ∧ Aside0 (Below w.heap.size w w'))
        case atStart => exact ⟨(([] : List Int)), (0), (by first | rfl | (simp; done) | (simp [*]; done)), H', ⟨Nat.le_refl _⟩, ⟨by first | exact Kd.R_nil _ _ _ _ _ | exact Kd.N_nil _ _ _ _ _ | exact Kd.V_nil _ _ _ _ _ | exact Kd.Q_nil _ _ _ _ _ | exact Kd.S_nil _ _ _ _ _⟩, ⟨bB⟩⟩
        case round =>
         clear H'
         (try clear c1);(try clear p2);(try clear c3);(try clear c4);(try clear c4b0);(try clear c5);(try clear c5b0);(try clear c6);(try clear c7);(try clear c7b0);(try clear c7b1);(try clear c7b2);(try clear c8);(try clear c8b0);(try clear c8b1);(try clear c11);(try clear c11b0);(try clear c11b1);(try clear c14);(try clear c14b0);(try clear c14b1);(try clear p2)
         obtain ⟨x6_2, x66_2, rfl, HA, HK2, HO_6, HB⟩ := hrel
         cases gk with
         | zero => exact absurd HA.out (by simp [times_Put.l0])
         | succ k2 =>
          have H := HA.out
          clear HA
          simp only [times_Put.l0] at H
          by_cases c15 : x66_2 < (l0.length : Int)
          ·rw [if_pos c15] at H
           have c15b0 : decide (x66_2 < (l0.length : Int)) = true := decide_eq_true c15
           clear c15
           by_cases c16 : 0 ≤ x66_2
           ·rw [if_pos c16] at H
            have c16b0 : decide (0 ≤ x66_2) = true := decide_eq_true c16
            clear c16
            by_cases c17 : x66_2 < (l0.length : Int)
            ·rw [if_pos c17] at H
             have c17b0 : decide (x66_2 < (l0.length : Int)) = true := decide_eq_true c17
             clear c17
             replace H := Option.bind_eq_some_iff.mp H
             obtain ⟨t311, A180, H⟩ := H
             replace H : (times_Put.l0 k2 t311 l0 (l0.length : Int) (wrap64 (x66_2 + 1))) = some (r1, r2) := H
             have A18 := Aside0.mk A180
             clear A180
             have H' := Aside0.mk H
             clear H
             have p310 : 0 ≤ (x66_2 : Int) := of_decide_eq_true (by first | (with_reducible assumption) | assumption)
             have q310 : x66_2 < (l0.length : Int) := of_decide_eq_true (by first | (with_reducible assumption) | assumption)
             obtain ⟨ad310, e310, hx310_0⟩ := Kd.at_int HR0.out x66_2 p310 q310
             cases e310
             replace hx310_0 := (HB.out.cell (World.block_lt_of_cell? w _ hx310_0)).trans hx310_0
             replace p310 := eq_true p310
             replace q310 := eq_true q310
             obtain ⟨Ao19, co19, eo19⟩ := Kd.R_slice HO_6.out
             subst eo19
             go_wp2_with (first | ((with_reducible refine gate_callee (f := 46) rfl ?_); refine goesL_ (some 73) rfl rfl Tryd.func46 (by kernel_rfl) rfl #[.slice Ao19 x6_2.length co19, .int .u64 (IntKind.u64.wrap (rd l0 x66_2))] rfl (by (try simp only [List.map_toArray, List.map_cons, List.map_nil]); first | done | rfl | (simp only [List.length_drop, List.length_take]; rfl)) ?_; (with_reducible refine (times_raw.calls k2 (fun k_ => some k_ = (.slice Ao19 x6_2.length co19 : Value).ownBlock) (.slice Ao19 x6_2.length co19) x6_2 (IntKind.u64.wrap (rd l0 x66_2)) t311 w _ ?side1 ?side2 A18.out).mono ?_); (case side1 => repeat (first | (with_reducible first | exact HB.out | apply below_alloc | apply pw_below_drewN | apply below_drew1) | exact HB.out)); (case side2 => exact Kd.R_tight rfl HO_6.out); rintro e w20 ⟨v312, rfl, ho0, hb, hkp⟩; refine ⟨_, rfl, ?_⟩; have n0_ := Aside0.mk (Kd.R_mono (ok' := fun k_ => True) ho0 (fun k_ hk_ => trivial)); have n1_ := Aside0.mk (hb); clear HB; clear HO_6; have HO313 := n0_; have HB := n1_; clear n0_ n1_; (try clear hb); (try clear hkp); (try clear ho0)))
             go_roundg k2
             case measure => have := HJ2.out; have := HK2.out; omega
             case rel => exact ⟨(t311), (wrap64 (x66_2 + 1)), (by first | rfl | (simp; done) | (simp [*]; done)), H', ⟨by have := HJ2.out; have := HK2.out; omega⟩, ⟨rR HO313.out⟩, ⟨bB⟩⟩
            ·rw [if_neg c17] at H
             exact absurd H (by simp)
           ·rw [if_neg c16] at H
            exact absurd H (by simp)
          ·rw [if_neg c15] at H
           have c15b0 : decide (x66_2 < (l0.length : Int)) = false := decide_eq_false c15
           clear c15
           simp only [Option.some.injEq, Prod.mk.injEq] at H
           obtain ⟨rfl, rfl⟩ := H
           go_wp2
           go_ret2
           exact ⟨_, by first | rfl | (simp [errW_none, errW_some] <;> rfl) | (simp [*, errW_none, errW_some] <;> rfl), rR HO_6.out, bB⟩
       ·rw [if_neg c14] at H
        have c14b0 : (a1 == 0) = false := beq_eq_false_iff_ne.mpr c14
        have c14b1 : (a1 != 0) = true := bne_iff_ne.mpr c14
        by_cases c21 : 0 < (l0.length : Int)
        ·rw [if_pos c21] at H
         have c21b0 : decide (0 < (l0.length : Int)) = true := decide_eq_true c21
         have c21b1 : decide (0 < l0.length) = true := decide_eq_true (by omega)
         clear c21
         replace H := Option.bind_eq_some_iff.mp H
         obtain ⟨t315, A220, H⟩ := H
         replace H : ((varint_Put.f kj2 ([] : List Int) t315).bind fun t316 => (times_Put.l1 kj2 l0 t316 1)) = some (r1, r2) := H
         have A22 := Aside0.mk A220
         clear A220
         replace H := Option.bind_eq_some_iff.mp H
         obtain ⟨t316, A230, H⟩ := H
         replace H : (times_Put.l1 kj2 l0 t316 1) = some (r1, r2) := H
         have A23 := Aside0.mk A230
         clear A230
         have H' := Aside0.mk H
         clear H
         have p314 : 0 ≤ (0 : Int) := (by omega)
         have q314 : 0 < (l0.length : Int) := of_decide_eq_true (by first | (with_reducible assumption) | assumption)
         obtain ⟨ad314, e314, hx314_0⟩ := Kd.at_int HR0.out 0 p314 q314
         cases e314
         have qi314 : (0 < l0.length) = True := eq_true (by omega)
         (try rw [show ((0 : Int)).toNat = 0 from rfl] at hx314_0)
         (try rw [Addr.add_zero'] at hx314_0)
         replace hx314_0 := (HB.out.cell (World.block_lt_of_cell? w _ hx314_0)).trans hx314_0
         replace p314 := eq_true p314
         replace q314 := eq_true q314
         go_wp2_with (first | ((with_reducible refine gate_callee (f := 48) rfl ?_); refine goesL_ (some 25) rfl rfl Tryd.func48 (by kernel_rfl) rfl #[.int .i64 (rd l0 0)] rfl (by (try simp only [List.map_toArray, List.map_cons, List.map_nil]); first | done | rfl | (simp only [List.length_drop, List.length_take]; rfl)) ?_; (with_reducible refine (varint_Zig.calls (rd l0 0) t315 _ A22.out).mono ?_); rintro e w' ⟨rfl, ⟨nd, rfl⟩⟩; refine ⟨_, rfl, ?_⟩) | ((with_reducible refine gate_callee (f := 47) rfl ?_); refine goesL_ (some 26) rfl rfl Tryd.func47 (by kernel_rfl) rfl #[.slice none 0 0, .int .u64 t315] rfl (by (try simp only [List.map_toArray, List.map_cons, List.map_nil]); first | done | rfl | (simp only [List.length_drop, List.length_take]; rfl)) ?_; (refine (varint_Put.calls kj2 _ _ ([] : List Int) t315 t316 _ ?side1 ?side2 A23.out).mono ?_); (case side1 => exact Kd.C_nil _ _); (case side2 => exact Nat.le_refl _); rintro e w24 ⟨v317, rfl, ho0, hb⟩; refine ⟨_, rfl, ?_⟩; have n0_ := Aside0.mk (Kd.R_lower ho0 (below_size bB)); have n1_ := Aside0.mk (below_step bB hb); clear HB; have HO318 := n0_; have HB := n1_; clear n0_ n1_; (try clear hb ho0)))
         go_loopg [6, 9] kj2 (fun kq v6 v9 w' => ∃ (x6_2 : List Int) (x9_2 : Int), v9 = .int .i64 x9_2 ∧ Aside0 (times_Put.l1 kq l0 x6_2 x9_2 = some (r1, r2)) ∧ Aside0 (kq ≤ kj2) ∧ Aside0 (Kd.R (Kd.int .u8) 5 w' w.heap.size (fun _ => True) v6 x6_2) ∧ Aside0 (Below w.heap.size w w'))
         case atStart => exact ⟨(t316), (1), (by first | rfl | (simp; done) | (simp [*]; done)), H', ⟨Nat.le_refl _⟩, ⟨rR HO318.out⟩, ⟨bB⟩⟩
         case round =>
          clear H'
          (try clear c1);(try clear c2);(try clear p2);(try clear c3);(try clear p3);(try clear q3);(try clear hx3);(try clear qi3);(try clear c4);(try clear c4b0);(try clear c5);(try clear c5b0);(try clear c6);(try clear p6);(try clear c7);(try clear c7b0);(try clear c7b1);(try clear c7b2);(try clear c8);(try clear c8b0);(try clear c8b1);(try clear c11);(try clear c11b0);(try clear c11b1);(try clear c14);(try clear c14b0);(try clear c14b1);(try clear c15);(try clear c15b0);(try clear c16);(try clear c16b0);(try clear c17);(try clear c17b0);(try clear c21);(try clear c21b0);(try clear c21b1);(try clear hx310_0);(try clear hx314_0);(try clear p2);(try clear p310);(try clear p314);(try clear q310);(try clear q314)
          obtain ⟨x6_2, x9_2, rfl, HA, HK2, HO_6, HB⟩ := hrel
          cases gk with
          | zero => exact absurd HA.out (by simp [times_Put.l1])
          | succ k2 =>
           have H := HA.out
           clear HA
           simp only [times_Put.l1] at H
           by_cases c25 : x9_2 < (l0.length : Int)
           ·rw [if_pos c25] at H
            have c25b0 : decide (x9_2 < (l0.length : Int)) = true := decide_eq_true c25
            clear c25
            by_cases c26 : 0 ≤ x9_2
            ·rw [if_pos c26] at H
             have c26b0 : decide (0 ≤ x9_2) = true := decide_eq_true c26
             clear c26
             obtain ⟨ji27, hji27⟩ : ∃ j_ : Int, (wrap64 (x9_2 - 1)) = j_ := ⟨_, rfl⟩
             replace H : (if 0 ≤ (ji27) then (if (ji27) < (l0.length : Int) then ((varint_Put.f k2 x6_2 (IntKind.u64.wrap ((IntKind.u64.wrap (rd l0 x9_2)) - (IntKind.u64.wrap (rd l0 (ji27)))))).bind fun t321 => (times_Put.l1 k2 l0 t321 (wrap64 (x9_2 + 1)))) else (none)) else (none)) = some (r1, r2) := by first | (rw [hji27] at H; exact H) | (simp only [hji27] at H ⊢; exact H)
             have hji27w : (IntKind.i64.wrap (x9_2 - 1)) = ji27 := (i64_w _).trans hji27
             by_cases c28 : 0 ≤ (ji27)
             ·rw [if_pos c28] at H
              have c28b0 : decide (0 ≤ (ji27)) = true := decide_eq_true c28
              clear c28
              by_cases c29 : (ji27) < (l0.length : Int)
              ·rw [if_pos c29] at H
               have c29b0 : decide ((ji27) < (l0.length : Int)) = true := decide_eq_true c29
               clear c29
               replace H := Option.bind_eq_some_iff.mp H
               obtain ⟨t321, A300, H⟩ := H
               replace H : (times_Put.l1 k2 l0 t321 (wrap64 (x9_2 + 1))) = some (r1, r2) := H
               have A30 := Aside0.mk A300
               clear A300
               have H' := Aside0.mk H
               clear H
               try go_wp2
               have n0_ := Aside0.mk (Kd.R_drew HO_6.out)
               have n1_ := Aside0.mk (below_drew1 HB.out)
               clear HO_6
               clear HB
               have HO_6 := n0_
               have HB := n1_
               clear n0_ n1_
               have p319 : 0 ≤ (x9_2 : Int) := of_decide_eq_true (by first | (with_reducible assumption) | assumption)
               have q319 : x9_2 < (l0.length : Int) := of_decide_eq_true (by first | (with_reducible assumption) | assumption)
               obtain ⟨ad319, e319, hx319_0⟩ := Kd.at_int HR0.out x9_2 p319 q319
               have hw319_0 := hx319_0
               obtain rfl : ad314 = ad319 := (by injection e319)
               replace hx319_0 := (HB.out.cell (World.block_lt_of_cell? w _ hx319_0)).trans hx319_0
               replace p319 := eq_true p319
               replace q319 := eq_true q319
               have p320 : 0 ≤ ((ji27) : Int) := of_decide_eq_true (by first | (with_reducible assumption) | assumption)
               have q320 : (ji27) < (l0.length : Int) := of_decide_eq_true (by first | (with_reducible assumption) | assumption)
               obtain ⟨ad320, e320, hx320_0⟩ := Kd.at_int HR0.out (ji27) p320 q320
               have hw320_0 := hx320_0
               obtain rfl : ad314 = ad320 := (by injection e320)
               replace hx320_0 := (HB.out.cell (World.block_lt_of_cell? w _ hx320_0)).trans hx320_0
               replace p320 := eq_true p320
               replace q320 := eq_true q320
               obtain ⟨Ao32, co32, eo32⟩ := Kd.R_slice HO_6.out
               (first | subst eo32 | (injection eo32 with f1_ f2_ f3_; have f4_ := f1_.symm; have f5_ := f3_.symm; clear f1_ f2_ f3_; subst f4_; subst f5_))
               refine start_ (n := 15) (S := fun w' => w'.cell? (ad314.add (x9_2).toNat) = some (.int .i64 (rd l0 x9_2)) ∧ w'.cell? (ad314.add ((ji27)).toNat) = some (.int .i64 (rd l0 (ji27)))) (ds := []) #[false, false, false, false, false, false, false, false, false, false, false, false, false, false, false] (by kernel_rfl) rfl rfl ⟨((HB.out.cell (World.block_lt_of_cell? w _ hw319_0)).trans hw319_0), ((HB.out.cell (World.block_lt_of_cell? w _ hw320_0)).trans hw320_0)⟩ (fun hHeld => ?_); refine with_tabW times_Put.tab8 times_Put.bits8 (fun HT_ HW_ => ?_)
               generalize wr.drew = w31 at HO_6 HB hx319_0 hx320_0 hHeld ⊢
               refine pure_ (i := 0) (N := some 33) (v := ?_) (a' := ?_) #[true, false, false, false, false, false, false, false, false, false, false, false, false, false, false] rfl rfl (any_of HT_.out (by kernel_rfl)) (fun _ _ _ h => h) (Or.inl ⟨by rfl, ?_⟩) ?_ ?_
               rotate_left
               ·intro w'
                go_simp
                with_reducible rfl
               rotate_left
               ·simp only [Act.put, List.setIfInBounds_toArray, List.set_cons_zero, List.set_cons_succ, i64_w, i32_w]
                rfl
               refine pure_ (i := 1) (N := some 34) (v := ?_) (a' := ?_) #[true, true, false, false, false, false, false, false, false, false, false, false, false, false, false] rfl rfl (any_of HT_.out (by kernel_rfl)) (fun _ _ _ h => h) (Or.inl ⟨by rfl, ?_⟩) ?_ ?_
               rotate_left
               ·intro w'
                go_simp
                with_reducible rfl
               rotate_left
               ·simp only [Act.put, List.setIfInBounds_toArray, List.set_cons_zero, List.set_cons_succ, i64_w, i32_w]
                rfl
               refine pure_ (i := 2) (N := some 35) (v := ?_) (a' := ?_) #[true, true, true, false, false, false, false, false, false, false, false, false, false, false, false] rfl rfl (any_of HT_.out (by kernel_rfl)) (fun _ _ _ h => h) (Or.inl ⟨by rfl, ?_⟩) ?_ ?_
               rotate_left
               ·intro w'
                go_simp
                with_reducible rfl
               rotate_left
               ·simp only [Act.put, List.setIfInBounds_toArray, List.set_cons_zero, List.set_cons_succ, i64_w, i32_w]
                rfl
               refine pure_ (i := 3) (N := some 36) (v := ?_) (a' := ?_) #[true, true, true, true, false, false, false, false, false, false, false, false, false, false, false] rfl rfl (any_of HT_.out (by kernel_rfl)) (fun _ _ _ h => h) (Or.inl ⟨by rfl, ?_⟩) ?_ ?_
               rotate_left
               ·intro w'
                go_simp
                with_reducible rfl
               rotate_left
               ·simp only [Act.put, List.setIfInBounds_toArray, List.set_cons_zero, List.set_cons_succ, i64_w, i32_w]
                rfl
               refine pure_ (i := 6) (N := some 39) (v := ?_) (a' := ?_) #[true, true, true, true, false, false, true, false, false, false, false, false, false, false, false] rfl rfl (any_of HT_.out (by kernel_rfl)) (fun _ _ _ h => h) (Or.inl ⟨by rfl, ?_⟩) ?_ ?_
               rotate_left
               ·intro w'
                go_simp
                with_reducible rfl
               rotate_left
               ·simp only [Act.put, List.setIfInBounds_toArray, List.set_cons_zero, List.set_cons_succ, i64_w, i32_w]
                rfl
               refine pure_ (i := 7) (N := some 40) (v := ?_) (a' := ?_) #[true, true, true, true, false, false, true, true, false, false, false, false, false, false, false] rfl rfl (any_of HT_.out (by kernel_rfl)) (fun _ _ _ h => h) (Or.inl ⟨by rfl, ?_⟩) ?_ ?_
               rotate_left
               ·intro w'
                go_simp
                with_reducible rfl
               rotate_left
               ·simp only [Act.put, List.setIfInBounds_toArray, List.set_cons_zero, List.set_cons_succ, i64_w, i32_w]
                rfl
               refine pure_ (i := 8) (N := some 41) (v := ?_) (a' := ?_) #[true, true, true, true, false, false, true, true, true, false, false, false, false, false, false] rfl rfl (any_of HT_.out (by kernel_rfl)) (fun _ _ _ h => h) (Or.inl ⟨by rfl, ?_⟩) ?_ ?_
               rotate_left
               ·intro w'
                go_simp
                with_reducible rfl
               rotate_left
               ·simp only [Act.put, List.setIfInBounds_toArray, List.set_cons_zero, List.set_cons_succ, i64_w, i32_w]
                rfl
               refine pure_ (i := 9) (N := some 42) (v := ?_) (a' := ?_) #[true, true, true, true, false, false, true, true, true, true, false, false, false, false, false] rfl rfl (any_of HT_.out (by kernel_rfl)) (fun _ _ _ h => h) (Or.inl ⟨by rfl, ?_⟩) ?_ ?_
               rotate_left
               ·intro w'
                go_simp
                with_reducible rfl
               rotate_left
               ·simp only [Act.put, List.setIfInBounds_toArray, List.set_cons_zero, List.set_cons_succ, i64_w, i32_w]
                rfl
               refine take_ (i := 4) (N := some 37) (v := ?_) (a' := ?_) #[true, true, true, true, true, false, true, true, true, true, false, false, false, false, false] rfl rfl (take_ofW HT_.out HW_.out (by kernel_rfl)) (fun _ _ _ h => h) (Or.inl ⟨by rfl, ?_⟩) hHeld ?_ ?_
               rotate_left
               ·rintro w' ⟨s0, s1⟩
                go_simp
                with_reducible rfl
               rotate_left
               ·simp only [Act.put, List.setIfInBounds_toArray, List.set_cons_zero, List.set_cons_succ, i64_w, i32_w]
                rfl
               refine pure_ (i := 5) (N := some 38) (v := ?_) (a' := ?_) #[true, true, true, true, true, true, true, true, true, true, false, false, false, false, false] rfl rfl (any_of HT_.out (by kernel_rfl)) (fun _ _ _ h => h) (Or.inl ⟨by rfl, ?_⟩) ?_ ?_
               rotate_left
               ·intro w'
                go_simp
                with_reducible rfl
               rotate_left
               ·simp only [Act.put, List.setIfInBounds_toArray, List.set_cons_zero, List.set_cons_succ, i64_w, i32_w]
                rfl
               refine take_ (i := 10) (N := some 43) (v := ?_) (a' := ?_) #[true, true, true, true, true, true, true, true, true, true, true, false, false, false, false] rfl rfl (take_ofW HT_.out HW_.out (by kernel_rfl)) (fun _ _ _ h => h) (Or.inl ⟨by rfl, ?_⟩) hHeld ?_ ?_
               rotate_left
               ·rintro w' ⟨s0, s1⟩
                go_simp
                with_reducible rfl
               rotate_left
               ·simp only [Act.put, List.setIfInBounds_toArray, List.set_cons_zero, List.set_cons_succ, i64_w, i32_w]
                rfl
               refine pure_ (i := 11) (N := some 44) (v := ?_) (a' := ?_) #[true, true, true, true, true, true, true, true, true, true, true, true, false, false, false] rfl rfl (any_of HT_.out (by kernel_rfl)) (fun _ _ _ h => h) (Or.inl ⟨by rfl, ?_⟩) ?_ ?_
               rotate_left
               ·intro w'
                go_simp
                with_reducible rfl
               rotate_left
               ·simp only [Act.put, List.setIfInBounds_toArray, List.set_cons_zero, List.set_cons_succ, i64_w, i32_w]
                rfl
               refine pure_ (i := 12) (N := some 45) (v := ?_) (a' := ?_) #[true, true, true, true, true, true, true, true, true, true, true, true, true, false, false] rfl rfl (any_of HT_.out (by kernel_rfl)) (fun _ _ _ h => h) (Or.inl ⟨by rfl, ?_⟩) ?_ ?_
               rotate_left
               ·intro w'
                go_simp
                with_reducible rfl
               rotate_left
               ·simp only [Act.put, List.setIfInBounds_toArray, List.set_cons_zero, List.set_cons_succ, i64_w, i32_w]
                rfl
               refine one_ (i := 13) (N := some 46) #[true, true, true, true, true, true, true, true, true, true, true, true, true, true, false] rfl rfl (one_of HT_.out (by kernel_rfl)) (by decide) (fun K hK => ?_)
               refine goes_ Tryd.func47 (by kernel_rfl) rfl #[.slice Ao32 x6_2.length co32, .int .u64 (IntKind.u64.wrap ((IntKind.u64.wrap (rd l0 x9_2)) - (IntKind.u64.wrap (rd l0 (ji27)))))] (by rfl) rfl rfl (by (try simp only [List.map_toArray, List.map_cons, List.map_nil]); first | done | (simp only [hji27]; rfl) | rfl | (simp only [List.length_drop, List.length_take]; rfl)) ?_
               with_reducible refine (varint_Put.calls k2 _ _ x6_2 (IntKind.u64.wrap ((IntKind.u64.wrap (rd l0 x9_2)) - (IntKind.u64.wrap (rd l0 (ji27))))) t321 _ ?side1 ?side2 A30.out).mono ?_
               (case side1 => exact cC (Kd.R_reads' HO_6.out).2.2)
               (case side2 => exact (Kd.R_reads' HO_6.out).2.1)
               rintro e w33 ⟨v322, rfl, ho0, hb⟩
               refine ⟨_, rfl, ?_⟩
               have n0_ := Aside0.mk (Kd.R_elder' (rR HO_6.out) (Kd.R_base ho0) hb)
               have n1_ := Aside0.mk (Kd.R_lower (Kd.R_new' ho0 (Kd.R_lt (rR HO_6.out))) (below_size bB))
               have n2_ := Aside0.mk (below_step bB hb)
               clear HO_6
               clear HB
               have HO_6 := n0_
               have HO323 := n1_
               have HB := n2_
               clear n0_ n1_ n2_
               (try clear hb)
               (try clear hb2)
               (try clear hk)
               (try clear hi)
               (try clear ho0)
               refine hK.out _ _ ⟨((HB.out.cell (World.block_lt_of_cell? w _ hw319_0)).trans hw319_0), ((HB.out.cell (World.block_lt_of_cell? w _ hw320_0)).trans hw320_0)⟩ (fun hHeld => ?_)
               clear hK K
               refine norm_ (a' := ?_) ?_ ?_
               rotate_left
               ·show Act.put _ (some 46) _ = _
                simp only [Act.put, List.setIfInBounds_toArray, List.set_cons_zero, List.set_cons_succ, i64_w, i32_w]
                rfl
               refine pure_ (i := 14) (N := some 6) (v := ?_) (a' := ?_) #[true, true, true, true, true, true, true, true, true, true, true, true, true, true, true] rfl rfl (any_of HT_.out (by kernel_rfl)) (fun _ _ _ h => h) (Or.inl ⟨by rfl, ?_⟩) ?_ ?_
               rotate_left
               ·intro w'
                go_simp
                with_reducible rfl
               rotate_left
               ·simp only [Act.put, List.setIfInBounds_toArray, List.set_cons_zero, List.set_cons_succ, i64_w, i32_w]
                rfl
               refine done_ (done_of HT_.out (by kernel_rfl)) ?_
               try go_wp2
               go_roundg k2
               case measure => have := HJ2.out; have := HK2.out; omega
               case rel => exact ⟨(t321), (wrap64 (x9_2 + 1)), (by first | rfl | (simp; done) | (simp [*]; done)), H', ⟨by have := HJ2.out; have := HK2.out; omega⟩, ⟨by (with_reducible repeat (first | apply Kd.R_alloc | apply Kd.R_drewN | apply Kd.R_drew)); exact Kd.R_mono HO323.out (fun _ hk => trivial)⟩, ⟨bB⟩⟩
              ·rw [if_neg c29] at H
               exact absurd H (by simp)
             ·rw [if_neg c28] at H
              exact absurd H (by simp)
            ·rw [if_neg c26] at H
             exact absurd H (by simp)
           ·rw [if_neg c25] at H
            have c25b0 : decide (x9_2 < (l0.length : Int)) = false := decide_eq_false c25
            clear c25
            simp only [Option.some.injEq, Prod.mk.injEq] at H
            obtain ⟨rfl, rfl⟩ := H
            go_wp2
            go_ret2
            exact ⟨_, by first | rfl | (simp [errW_none, errW_some] <;> rfl) | (simp [*, errW_none, errW_some] <;> rfl), rR HO_6.out, bB⟩
        ·rw [if_neg c21] at H
         exact absurd H (by simp)


/-! ### chunk_Encode: function 19 -/
mutual
def chunk_Encode.j0 : Nat → List (S51) → Int → Bool → Option (List Int × Int)
 | 0, _, _, _ => none
 | k + 1, x0, x1, x18 => if x18 = true then (some (([] : List Int), 1)) else ((chunk_Right.f k x0).bind fun t343 => (if t343 = 0 then (chunk_Encode.l0 k x0 x1 ([] : List Int) ([] : List Int) x0 (x0.length : Int) 0) else (some (([] : List Int), t343))))
def chunk_Encode.l0 : Nat → List (S51) → Int → List Int → List Int → List (S51) → Int → Int → Option (List Int × Int)
 | 0, _, _, _, _, _, _, _ => none
 | k + 1, x0, x1, x7, x8, x24, x25, x26 => if x26 < x25 then (if 0 ≤ x26 then (if x26 < (x24.length : Int) then ((some (([(rd_T51 x24 x26).f0] : List Int) : List Int)).bind fun y346 => (if x7.length + y346.length < 17592186044416 then ((some (([(rd_T51 x24 x26).f1] : List Int) : List Int)).bind fun y352 => (if x8.length + y352.length < 17592186044416 then (chunk_Encode.l0 k x0 x1 (x7 ++ y346) (x8 ++ y352) x24 x25 (wrap64 (x26 + 1))) else (none))) else (none))) else (none)) else (none)) else ((times_Put.f k x7 (wrap64 (Int.tdiv x1 4))).bind fun bt358 => (if bt358.2 = 0 then ((some (([(x1) % 256, ((x0.length : Int) / 256) % 256, ((x0.length : Int)) % 256] : List Int) : List Int)).bind fun y362 => (if y362.length + bt358.1.length < 140737488355328 then ((some (y362 ++ bt358.1 : List Int)).bind fun y365 => ((chunk_values.f k x8 (Int.tmod x1 4)).bind fun t368 => (if y365.length + t368.length < 140737488355328 then (some ((y365 ++ t368), 0)) else (none)))) else (none))) else (some (([] : List Int), bt358.2))))
end
def chunk_Encode.f (k : Nat) (l0 : List (S51)) (a1 : Int) : Option (List Int × Int) := if a1 < 0 then (chunk_Encode.j0 k l0 a1 true) else (chunk_Encode.j0 k l0 a1 (decide (a1 ≥ 16)))
theorem chunk_Encode.mono_l : ∀ k, (∀ y0 y1 y2, LeO (chunk_Encode.j0 k y0 y1 y2) (chunk_Encode.j0 (k + 1) y0 y1 y2)) ∧ (∀ y0 y1 y2 y3 y4 y5 y6, LeO (chunk_Encode.l0 k y0 y1 y2 y3 y4 y5 y6) (chunk_Encode.l0 (k + 1) y0 y1 y2 y3 y4 y5 y6))
 | 0 => ⟨fun _ _ _ r h => by simp [chunk_Encode.j0] at h, fun _ _ _ _ _ _ _ r h => by simp [chunk_Encode.l0] at h⟩
 | k + 1 => by
  obtain ⟨ih0, ih1⟩ := chunk_Encode.mono_l k
  refine ⟨?_, ?_⟩
  ·intro y0 y1 y2
   unfold chunk_Encode.j0
   repeat' first
   | (with_reducible exact ih0 _ _ _)
   | (with_reducible exact ih1 _ _ _ _ _ _ _)
   | (with_reducible exact chunk_Right.mono _ _)
   | (with_reducible exact chunk_values.mono _ _ _)
   | (with_reducible exact times_Put.mono _ _ _)
   | (with_reducible exact LeO.refl _)
   | (with_reducible exact LeO.none _)
   | (with_reducible refine LeO.ite ?_ ?_)
   | (with_reducible refine LeO.bind ?_ (fun _ => ?_))
   | exact ih0 _ _ _
   | exact ih1 _ _ _ _ _ _ _
   | exact chunk_Right.mono _ _
   | exact chunk_values.mono _ _ _
   | exact times_Put.mono _ _ _
   | exact LeO.none _
   | refine LeO.ite ?_ ?_
   | refine LeO.bind ?_ (fun _ => ?_)
  ·intro y0 y1 y2 y3 y4 y5 y6
   unfold chunk_Encode.l0
   repeat' first
   | (with_reducible exact ih0 _ _ _)
   | (with_reducible exact ih1 _ _ _ _ _ _ _)
   | (with_reducible exact chunk_Right.mono _ _)
   | (with_reducible exact chunk_values.mono _ _ _)
   | (with_reducible exact times_Put.mono _ _ _)
   | (with_reducible exact LeO.refl _)
   | (with_reducible exact LeO.none _)
   | (with_reducible refine LeO.ite ?_ ?_)
   | (with_reducible refine LeO.bind ?_ (fun _ => ?_))
   | exact ih0 _ _ _
   | exact ih1 _ _ _ _ _ _ _
   | exact chunk_Right.mono _ _
   | exact chunk_values.mono _ _ _
   | exact times_Put.mono _ _ _
   | exact LeO.none _
   | refine LeO.ite ?_ ?_
   | refine LeO.bind ?_ (fun _ => ?_)
theorem chunk_Encode.mono : ∀ a0 a1 k, LeO (chunk_Encode.f k a0 a1) (chunk_Encode.f (k + 1) a0 a1) := by
 intro a0 a1 k
 obtain ⟨ih0, ih1⟩ := chunk_Encode.mono_l k
 unfold chunk_Encode.f
 repeat' first
   | (with_reducible exact ih0 _ _ _)
   | (with_reducible exact ih1 _ _ _ _ _ _ _)
   | (with_reducible exact chunk_Right.mono _ _)
   | (with_reducible exact chunk_values.mono _ _ _)
   | (with_reducible exact times_Put.mono _ _ _)
   | (with_reducible exact LeO.refl _)
   | (with_reducible exact LeO.none _)
   | (with_reducible refine LeO.ite ?_ ?_)
   | (with_reducible refine LeO.bind ?_ (fun _ => ?_))
   | exact ih0 _ _ _
   | exact ih1 _ _ _ _ _ _ _
   | exact chunk_Right.mono _ _
   | exact chunk_values.mono _ _ _
   | exact times_Put.mono _ _ _
   | exact LeO.none _
   | refine LeO.ite ?_ ?_
   | refine LeO.bind ?_ (fun _ => ?_)
def chunk_Encode.T11 : Bool × List (List Nat × List Nat) := (true, [([], []), ([], []), ([1], [1]), ([2], [2]), ([0, 3], [0, 3]), ([], []), ([], []), ([6], [6]), ([7], [7]), ([5, 8, 4], [5, 8]), ([4, 9, 0, 1, 2, 3, 4], [0, 4]), ([9, 10, 0, 1, 2, 3, 4, 5, 6, 7, 8, 9, 10], [5, 9])])
def chunk_Encode.B11 : List Nat := [0, 0, 2, 6, 15, 0, 0, 64, 192, 511, 1023, 2047]
theorem chunk_Encode.tab11 : rtab .any (opsOf Tryd.f19 11) = chunk_Encode.T11 := by kernel_rfl
theorem chunk_Encode.bits11 : waitsOk chunk_Encode.T11.2 chunk_Encode.B11 = true := by kernel_rfl
set_option maxHeartbeats 8000000 in
set_option maxRecDepth 100000 in
theorem chunk_Encode.calls (k : Nat) (A0 : Option Addr) (c0 : Nat) (l0 : List (S51)) (a1 : Int) (r1 : List Int) (r2 : Int) (w : World) (hr0 : Kd.C k51 w A0 l0.length l0) (hc0 : l0.length ≤ c0) (hT_ : Go.Proofs.YtmlbppfcpejlpaaDoor.W08.Tab w) (h : chunk_Encode.f k l0 a1 = some (r1, r2)) :
  Calls Tryd.prog 19 #[.slice A0 l0.length c0, .int .i64 a1] w fun e w' => ∃ v0_ : Value, e = .returned (.tuple #[v0_, .int .i64 r2]) ∧ Kd.R (Kd.int .u8) 5 w' w.heap.size (fun _ => True) v0_ r1 ∧ Below w.heap.size w w' := by
 have HTAB := Aside0.mk hT_
 clear hT_
 have hu51 := Tryd.underlying51
 have HR0 := Aside0.mk hr0
 have HC0 := Aside0.mk hc0
 clear hr0 hc0
 have HB := Aside0.mk (Below.refl w.heap.size w)
 have H : (if a1 < 0 then (chunk_Encode.j0 k l0 a1 true) else (chunk_Encode.j0 k l0 a1 (decide (a1 ≥ 16)))) = some (r1, r2) := h
 clear h
 have HC3 := Aside0.mk H
 clear H
 go_enter Tryd.func19, Tryd.ntmps19
 go_upto_region 1 with (fail)
 go_cut [18] (fun v18 wc => ∃ (kq : Nat) (x18_2 : Bool), v18 = .bool x18_2 ∧ Aside0 (chunk_Encode.j0 kq l0 a1 x18_2 = some (r1, r2)) ∧ Aside0 (kq ≤ k) ∧ Aside0 (Below w.heap.size w wc))
 case first =>
  have H := HC3.out
  clear HC3
  by_cases c4 : a1 < 0
  ·rw [if_pos c4] at H
   have c4b0 : decide (a1 < 0) = true := decide_eq_true c4
   clear c4
   (first | rw [c4b0] | (simp only [i64_w, i32_w]; rw [c4b0]) | skip)
   have H' := Aside0.mk H
   clear H
   go_wp2
   go_meet
   case rel => exact ⟨_, (true), (by first | rfl | (simp; done) | (simp [*]; done)), H', ⟨by first | omega | exact Nat.le_refl _⟩, ⟨bB⟩⟩
  ·rw [if_neg c4] at H
   have c4b0 : decide (a1 < 0) = false := decide_eq_false c4
   clear c4
   (first | rw [c4b0] | (simp only [i64_w, i32_w]; rw [c4b0]) | skip)
   have H' := Aside0.mk H
   clear H
   go_wp2
   go_meet
   case rel => exact ⟨_, (decide (a1 ≥ 16)), (by first | rfl | (simp; done) | (simp [*]; done)), H', ⟨by first | omega | exact Nat.le_refl _⟩, ⟨bB⟩⟩
 case rest =>
  clear HC3
  (try clear c1);(try clear p2);(try clear c4);(try clear c4b0)
  obtain ⟨kq, x18_2, rfl, HA, HJ2, HB⟩ := hcut
  cases kq with
  | zero => exact absurd HA.out (by simp [chunk_Encode.j0])
  | succ kj2 =>
   have H := HA.out
   clear HA
   simp only [chunk_Encode.j0] at H
   by_cases c5 : x18_2 = true
   ·subst c5
    have H1 : (some (([] : List Int), 1)) = some (r1, r2) := by rw [if_pos rfl] at H; exact H
    clear H
    have H := H1
    clear H1
    simp only [Option.some.injEq, Prod.mk.injEq] at H
    obtain ⟨rfl, rfl⟩ := H
    go_wp2
    go_ret2
    exact ⟨_, by first | rfl | (simp [errW_none, errW_some] <;> rfl) | (simp [*, errW_none, errW_some] <;> rfl), by first | exact Kd.R_nil _ _ _ _ _ | exact Kd.N_nil _ _ _ _ _ | exact Kd.V_nil _ _ _ _ _ | exact Kd.Q_nil _ _ _ _ _ | exact Kd.S_nil _ _ _ _ _, bB⟩
   ·replace c5 := Bool.eq_false_iff.mpr c5
    subst c5
    have H1 : ((chunk_Right.f kj2 l0).bind fun t343 => (if t343 = 0 then (chunk_Encode.l0 kj2 l0 a1 ([] : List Int) ([] : List Int) l0 (l0.length : Int) 0) else (some (([] : List Int), t343)))) = some (r1, r2) := by rw [if_neg (show ¬ (false = true) by decide)] at H; exact H
    clear H
    have H := H1
    clear H1
    replace H := Option.bind_eq_some_iff.mp H
    obtain ⟨t343, A60, H⟩ := H
    replace H : (if t343 = 0 then (chunk_Encode.l0 kj2 l0 a1 ([] : List Int) ([] : List Int) l0 (l0.length : Int) 0) else (some (([] : List Int), t343))) = some (r1, r2) := H
    have A6 := Aside0.mk A60
    clear A60
    by_cases c7 : t343 = 0
    ·rw [if_pos c7] at H
     have c7b0 : (t343 == 0) = true := beq_iff_eq.mpr c7
     have c7b1 : (t343 != 0) = false := bne_eq_false_iff_eq.mpr c7
     clear c7
     have H' := Aside0.mk H
     clear H
     go_wp2_with (first | ((with_reducible refine gate_callee (f := 21) rfl ?_); refine goesL_ (some 20) rfl rfl Tryd.func21 (by kernel_rfl) rfl #[.slice A0 l0.length c0] rfl (by (try simp only [List.map_toArray, List.map_cons, List.map_nil]); first | done | rfl | (simp only [List.length_drop, List.length_take]; rfl)) ?_; (with_reducible refine (chunk_Right.calls kj2 _ _ l0 t343 _ ?side1 ?side2 A6.out).mono ?_); (case side1 => exact cC (Kd.C_below HR0.out HB.out)); (case side2 => exact HC0.out); rintro e w' ⟨rfl, ⟨nd, rfl⟩⟩; refine ⟨_, rfl, ?_⟩))
     go_loopg [7, 8, 26] kj2 (fun kq v7 v8 v26 w' => ∃ (x7_2 : List Int) (x8_2 : List Int) (x26_2 : Int), v26 = .int .i64 x26_2 ∧ Aside0 (chunk_Encode.l0 kq l0 a1 x7_2 x8_2 l0 (l0.length : Int) x26_2 = some (r1, r2)) ∧ Aside0 (kq ≤ kj2) ∧ Aside0 (Kd.R (Kd.int .i64) 2 w' w.heap.size (fun _ => True) v7 x7_2) ∧ Aside0 (Kd.R (Kd.int .u64) 34 w' w.heap.size (fun _ => True) v8 x8_2) ∧ Aside0 (Below w.heap.size w w'))
     case atStart => exact ⟨(([] : List Int)), (([] : List Int)), (0), (by first | rfl | (simp; done) | (simp [*]; done)), H', ⟨Nat.le_refl _⟩, ⟨by first | exact Kd.R_nil _ _ _ _ _ | exact Kd.N_nil _ _ _ _ _ | exact Kd.V_nil _ _ _ _ _ | exact Kd.Q_nil _ _ _ _ _ | exact Kd.S_nil _ _ _ _ _⟩, ⟨by first | exact Kd.R_nil _ _ _ _ _ | exact Kd.N_nil _ _ _ _ _ | exact Kd.V_nil _ _ _ _ _ | exact Kd.Q_nil _ _ _ _ _ | exact Kd.S_nil _ _ _ _ _⟩, ⟨bB⟩⟩
     case round =>
      clear H'
      (try clear c1);(try clear c2);(try clear p2);(try clear c4);(try clear c4b0);(try clear c5);(try clear c7);(try clear c7b0);(try clear c7b1);(try clear p2)
      obtain ⟨x7_2, x8_2, x26_2, rfl, HA, HK2, HO_7, HO_8, HB⟩ := hrel
      cases gk with
      | zero => exact absurd HA.out (by simp [chunk_Encode.l0])
      | succ k2 =>
       have H := HA.out
       clear HA
       simp only [chunk_Encode.l0] at H
       by_cases c8 : x26_2 < (l0.length : Int)
       ·rw [if_pos c8] at H
        have c8b0 : decide (x26_2 < (l0.length : Int)) = true := decide_eq_true c8
        clear c8
        by_cases c9 : 0 ≤ x26_2
        ·rw [if_pos c9] at H
         have c9b0 : decide (0 ≤ x26_2) = true := decide_eq_true c9
         clear c9
         by_cases c10 : x26_2 < (l0.length : Int)
         ·rw [if_pos c10] at H
          have c10b0 : decide (x26_2 < (l0.length : Int)) = true := decide_eq_true c10
          clear c10
          obtain ⟨y346, hy346⟩ : ∃ y_ : List Int, y_ = (([(rd_T51 l0 x26_2).f0] : List Int)) := ⟨_, rfl⟩
          replace H : (if x7_2.length + y346.length < 17592186044416 then ((some (([(rd_T51 l0 x26_2).f1] : List Int) : List Int)).bind fun y352 => (if x8_2.length + y352.length < 17592186044416 then (chunk_Encode.l0 k2 l0 a1 (x7_2 ++ y346) (x8_2 ++ y352) l0 (l0.length : Int) (wrap64 (x26_2 + 1))) else (none))) else (none)) = some (r1, r2) := by first | (rw [hy346]; with_reducible exact H) | (have H2_ := (Option.bind_some _ _).symm.trans H; rw [hy346]; with_reducible exact H2_) | (have H2_ := (Option.bind_some _ _).symm.trans H; with_reducible exact H2_) | with_reducible exact H | (rw [hy346]; exact H) | exact H
          have Ny346 := Aside0.mk hy346
          clear hy346
          by_cases c11 : x7_2.length + y346.length < 17592186044416
          ·rw [if_pos c11] at H
           have LMc11 := Aside0.mk c11
           clear c11
           obtain ⟨y349, hy349⟩ : ∃ y_ : List Int, y_ = (x7_2 ++ y346) := ⟨_, rfl⟩
           replace H : ((some (([(rd_T51 l0 x26_2).f1] : List Int) : List Int)).bind fun y352 => (if x8_2.length + y352.length < 17592186044416 then (chunk_Encode.l0 k2 l0 a1 y349 (x8_2 ++ y352) l0 (l0.length : Int) (wrap64 (x26_2 + 1))) else (none))) = some (r1, r2) := by first | (rw [hy349]; with_reducible exact H) | (have H2_ := (Option.bind_some _ _).symm.trans H; rw [hy349]; with_reducible exact H2_) | (have H2_ := (Option.bind_some _ _).symm.trans H; with_reducible exact H2_) | with_reducible exact H | (rw [hy349]; exact H) | exact H
           have Ny349 := Aside0.mk hy349
           clear hy349
           obtain ⟨y352, hy352⟩ : ∃ y_ : List Int, y_ = (([(rd_T51 l0 x26_2).f1] : List Int)) := ⟨_, rfl⟩
           replace H : (if x8_2.length + y352.length < 17592186044416 then (chunk_Encode.l0 k2 l0 a1 y349 (x8_2 ++ y352) l0 (l0.length : Int) (wrap64 (x26_2 + 1))) else (none)) = some (r1, r2) := by first | (rw [hy352]; with_reducible exact H) | (have H2_ := (Option.bind_some _ _).symm.trans H; rw [hy352]; with_reducible exact H2_) | (have H2_ := (Option.bind_some _ _).symm.trans H; with_reducible exact H2_) | with_reducible exact H | (rw [hy352]; exact H) | exact H
           have Ny352 := Aside0.mk hy352
           clear hy352
           by_cases c12 : x8_2.length + y352.length < 17592186044416
           ·rw [if_pos c12] at H
            have LMc12 := Aside0.mk c12
            clear c12
            obtain ⟨y355, hy355⟩ : ∃ y_ : List Int, y_ = (x8_2 ++ y352) := ⟨_, rfl⟩
            replace H : (chunk_Encode.l0 k2 l0 a1 y349 y355 l0 (l0.length : Int) (wrap64 (x26_2 + 1))) = some (r1, r2) := by first | (rw [hy355]; with_reducible exact H) | (have H2_ := (Option.bind_some _ _).symm.trans H; rw [hy355]; with_reducible exact H2_) | (have H2_ := (Option.bind_some _ _).symm.trans H; with_reducible exact H2_) | with_reducible exact H | (rw [hy355]; exact H) | exact H
            have Ny355 := Aside0.mk hy355
            clear hy355
            have H' := Aside0.mk H
            clear H
            have p344 : 0 ≤ (x26_2 : Int) := of_decide_eq_true (by first | (with_reducible assumption) | assumption)
            have q344 : x26_2 < (l0.length : Int) := of_decide_eq_true (by first | (with_reducible assumption) | assumption)
            obtain ⟨ad344, e344, hx344_0, hx344_1⟩ := at_T51 HR0.out x26_2 p344 q344
            cases e344
            replace hx344_0 := (HB.out.cell (World.block_lt_of_cell? w _ hx344_0)).trans hx344_0
            replace hx344_1 := (HB.out.cell (World.block_lt_of_cell? w _ hx344_1)).trans hx344_1
            replace p344 := eq_true p344
            replace q344 := eq_true q344
            try go_wp2_with (first | ((with_reducible refine gate_dst (N := 10) rfl ?_); refine box_event ?hg (N := 10) ?hd (cs := #[.int .i64 0, .int .u64 0]) (t := 51) ?hr ?_; (case hd => rfl); (case hg => rfl); (case hr => first | (go_simp; done) | (go_simp; rfl)); intro gb345 hg w13 hbox hb; have n0_ := Aside0.mk (Kd.R_below (rR HO_7.out) hb); have n1_ := Aside0.mk (Kd.R_below (rR HO_8.out) hb); have n2_ := Aside0.mk (below_step bB hb); have n3_ := Aside0.mk (hbox); have n4_ := Aside0.mk ((by rw [hg]; exact (below_size bB) : w.heap.size ≤ gb345)); have n5_ := Aside0.mk ((by rw [hg]; exact (below_size bB) : w.heap.size ≤ gb345)); clear HO_7; clear HO_8; clear HB; have HO_7 := n0_; have HO_8 := n1_; have HB := n2_; have BK345 := n3_; have GW345 := n4_; have GE345 := n5_; clear n0_ n1_ n2_ n3_ n4_ n5_; clear hb hbox hg; have hcz14_0 : w13.cell? ⟨gb345, 0, none⟩ = some (.int .i64 0) := (blk_cell BK345.out 0).trans rfl; have hcz14_1 : w13.cell? ⟨gb345, 1, none⟩ = some (.int .u64 0) := (blk_cell BK345.out 1).trans rfl; have hfz14_0 := blk_frozen BK345.out 0; have hfz14_1 := blk_frozen BK345.out 1; obtain ⟨Ao15, co15, eo15⟩ := Kd.R_slice HO_7.out; subst eo15; obtain ⟨Ao16, co16, eo16⟩ := Kd.R_slice HO_8.out; subst eo16))
            have n0_ : Aside0 (Kd.R (Kd.int .i64) 2 ((w13.setCell ⟨gb345, 0, none⟩ (.int .i64 ((rd_T51 l0 x26_2).f0))).setCell ⟨gb345, 1, none⟩ (.int .u64 ((rd_T51 l0 x26_2).f1))) w.heap.size (fun _ => True) (.slice Ao15 x7_2.length co15) x7_2) := ⟨by (with_reducible repeat (first | apply Kd.R_alloc | apply Kd.R_drewN | apply Kd.R_drew)); exact Kd.R_mono (Kd.R_far (p := ⟨gb345, 1, none⟩) (Kd.R_far (p := ⟨gb345, 0, none⟩) (Kd.R_types HO_7.out BK345.out (by decide)) (fun _ hk => hk.2) (.int .i64 ((rd_T51 l0 x26_2).f0))) (fun _ hk => hk.2) (.int .u64 ((rd_T51 l0 x26_2).f1))) (fun _ hk => trivial)⟩
            have n1_ : Aside0 (Kd.R (Kd.int .u64) 34 ((w13.setCell ⟨gb345, 0, none⟩ (.int .i64 ((rd_T51 l0 x26_2).f0))).setCell ⟨gb345, 1, none⟩ (.int .u64 ((rd_T51 l0 x26_2).f1))) w.heap.size (fun _ => True) (.slice Ao16 x8_2.length co16) x8_2) := ⟨by (with_reducible repeat (first | apply Kd.R_alloc | apply Kd.R_drewN | apply Kd.R_drew)); exact Kd.R_mono (Kd.R_far (p := ⟨gb345, 1, none⟩) (Kd.R_far (p := ⟨gb345, 0, none⟩) (Kd.R_types HO_8.out BK345.out (by decide)) (fun _ hk => hk.2) (.int .i64 ((rd_T51 l0 x26_2).f0))) (fun _ hk => hk.2) (.int .u64 ((rd_T51 l0 x26_2).f1))) (fun _ hk => trivial)⟩
            have n2_ : Aside0 (((w13.setCell ⟨gb345, 0, none⟩ (.int .i64 ((rd_T51 l0 x26_2).f0))).setCell ⟨gb345, 1, none⟩ (.int .u64 ((rd_T51 l0 x26_2).f1))).heap[gb345]? = some (.cells #[.int .i64 ((rd_T51 l0 x26_2).f0), .int .u64 ((rd_T51 l0 x26_2).f1)] 51 (0, 0))) := ⟨by (with_reducible repeat (first | refine blk_drewN ?_ _ | refine blk_drew ?_ | refine blk_alloc ?_ _)); refine blk_put (cs := #[.int .i64 ((rd_T51 l0 x26_2).f0), .int .u64 0]) ?_ 1 _ rfl; (with_reducible repeat (first | refine blk_drewN ?_ _ | refine blk_drew ?_ | refine blk_alloc ?_ _)); refine blk_put (cs := #[.int .i64 0, .int .u64 0]) ?_ 0 _ rfl; (with_reducible repeat (first | refine blk_drewN ?_ _ | refine blk_drew ?_ | refine blk_alloc ?_ _)); exact BK345.out⟩
            have n3_ : Aside0 (Below w.heap.size w ((w13.setCell ⟨gb345, 0, none⟩ (.int .i64 ((rd_T51 l0 x26_2).f0))).setCell ⟨gb345, 1, none⟩ (.int .u64 ((rd_T51 l0 x26_2).f1)))) := ⟨by repeat (first | (with_reducible first | exact HB.out | apply below_alloc | apply pw_below_drewN | apply below_drew1 | refine below_set ?_ GE345.out) | exact HB.out)⟩
            (try clear HO_7)
            (try clear HO_8)
            (try clear BK345)
            (try clear HB)
            generalize ((w13.setCell ⟨gb345, 0, none⟩ (.int .i64 ((rd_T51 l0 x26_2).f0))).setCell ⟨gb345, 1, none⟩ (.int .u64 ((rd_T51 l0 x26_2).f1))) = w17 at n0_ n1_ n2_ n3_ ⊢
            have HO_7 := n0_
            have HO_8 := n1_
            have BK345 := n2_
            have HB := n3_
            clear n0_ n1_ n2_ n3_
            have n0_ := Aside0.mk (Kd.R_drew HO_7.out)
            have n1_ := Aside0.mk (Kd.R_drew HO_8.out)
            have n2_ := Aside0.mk (blk_drew BK345.out)
            have n3_ := Aside0.mk (below_drew1 HB.out)
            clear HO_7
            clear HO_8
            clear BK345
            clear HB
            have HO_7 := n0_
            have HO_8 := n1_
            have BK345 := n2_
            have HB := n3_
            clear n0_ n1_ n2_ n3_
            refine start_ (n := 12) (S := fun w' => w'.cell? ⟨gb345, 0, none⟩ = some (.int .i64 ((rd_T51 l0 x26_2).f0)) ∧ w'.cell? ⟨gb345, 1, none⟩ = some (.int .u64 ((rd_T51 l0 x26_2).f1))) (ds := []) #[false, false, false, false, false, false, false, false, false, false, false, false] (by kernel_rfl) rfl rfl ⟨(blk_cell BK345.out 0).trans rfl, (blk_cell BK345.out 1).trans rfl⟩ (fun hHeld => ?_); refine with_tabW chunk_Encode.tab11 chunk_Encode.bits11 (fun HT_ HW_ => ?_)
            generalize w17.drew = w18 at HO_7 HO_8 BK345 HB hHeld ⊢
            refine pure_ (i := 0) (N := some 30) (v := ?_) (a' := ?_) #[true, false, false, false, false, false, false, false, false, false, false, false] rfl rfl (any_of HT_.out (by kernel_rfl)) (fun _ _ _ h => h) (Or.inl ⟨by rfl, ?_⟩) ?_ ?_
            rotate_left
            ·intro w'
             go_simp
             with_reducible rfl
            rotate_left
            ·simp only [Act.put, List.setIfInBounds_toArray, List.set_cons_zero, List.set_cons_succ, i64_w, i32_w]
             rfl
            refine pure_ (i := 1) (N := some 31) (v := ?_) (a' := ?_) #[true, true, false, false, false, false, false, false, false, false, false, false] rfl rfl (any_of HT_.out (by kernel_rfl)) (fun _ _ _ h => h) (Or.inl ⟨by rfl, ?_⟩) ?_ ?_
            rotate_left
            ·intro w'
             go_simp
             with_reducible rfl
            rotate_left
            ·simp only [Act.put, List.setIfInBounds_toArray, List.set_cons_zero, List.set_cons_succ, i64_w, i32_w]
             rfl
            refine pure_ (i := 5) (N := some 35) (v := ?_) (a' := ?_) #[true, true, false, false, false, true, false, false, false, false, false, false] rfl rfl (any_of HT_.out (by kernel_rfl)) (fun _ _ _ h => h) (Or.inl ⟨by rfl, ?_⟩) ?_ ?_
            rotate_left
            ·intro w'
             go_simp
             with_reducible rfl
            rotate_left
            ·simp only [Act.put, List.setIfInBounds_toArray, List.set_cons_zero, List.set_cons_succ, i64_w, i32_w]
             rfl
            refine pure_ (i := 6) (N := some 36) (v := ?_) (a' := ?_) #[true, true, false, false, false, true, true, false, false, false, false, false] rfl rfl (any_of HT_.out (by kernel_rfl)) (fun _ _ _ h => h) (Or.inl ⟨by rfl, ?_⟩) ?_ ?_
            rotate_left
            ·intro w'
             go_simp
             with_reducible rfl
            rotate_left
            ·simp only [Act.put, List.setIfInBounds_toArray, List.set_cons_zero, List.set_cons_succ, i64_w, i32_w]
             rfl
            refine take_ (i := 2) (N := some 32) (v := ?_) (a' := ?_) #[true, true, true, false, false, true, true, false, false, false, false, false] rfl rfl (take_ofW HT_.out HW_.out (by kernel_rfl)) (fun _ _ _ h => h) (Or.inl ⟨by rfl, ?_⟩) hHeld ?_ ?_
            rotate_left
            ·rintro w' ⟨s0, s1⟩
             go_simp
             with_reducible rfl
            rotate_left
            ·simp only [Act.put, List.setIfInBounds_toArray, List.set_cons_zero, List.set_cons_succ, i64_w, i32_w]
             rfl
            refine take_ (i := 7) (N := some 37) (v := ?_) (a' := ?_) #[true, true, true, false, false, true, true, true, false, false, false, false] rfl rfl (take_ofW HT_.out HW_.out (by kernel_rfl)) (fun _ _ _ h => h) (Or.inl ⟨by rfl, ?_⟩) hHeld ?_ ?_
            rotate_left
            ·rintro w' ⟨s0, s1⟩
             go_simp
             with_reducible rfl
            rotate_left
            ·simp only [Act.put, List.setIfInBounds_toArray, List.set_cons_zero, List.set_cons_succ, i64_w, i32_w]
             rfl
            refine join_ (σ := Value × Value × Value) 3 #[true, true, true, true, true, true, true, true, true, false, false, false] (fun s_ => [(33, s_.1), (34, s_.2.1), (38, s_.2.2)]) (fun s_ w' => (w'.cell? ⟨gb345, 0, none⟩ = some (.int .i64 ((rd_T51 l0 x26_2).f0)) ∧ w'.cell? ⟨gb345, 1, none⟩ = some (.int .u64 ((rd_T51 l0 x26_2).f1))) ∧ (Kd.R (Kd.int .i64) 2 w' w.heap.size (fun k_ => some k_ ≠ (s_.2.1 : Value).ownBlock) s_.1 y346) ∧ (Kd.R (Kd.int .i64) 2 w' w.heap.size (fun k_ => some k_ ≠ (s_.1 : Value).ownBlock) s_.2.1 y349) ∧ (Kd.R (Kd.int .u64) 34 w' w.heap.size (fun k_ => some k_ ≠ (.slice Ao16 x8_2.length co16 : Value).ownBlock) s_.2.2 y352) ∧ (Kd.R (Kd.int .u64) 34 w' w.heap.size (fun k_ => some k_ ≠ (s_.2.2 : Value).ownBlock) (.slice Ao16 x8_2.length co16) x8_2) ∧ (w'.heap[gb345]? = some (.cells #[.int .i64 ((rd_T51 l0 x26_2).f0), .int .u64 ((rd_T51 l0 x26_2).f1)] 51 (0, 0))) ∧ (Below w.heap.size w w')) ?_ ?_
            rotate_left
            ·intro hCont
             refine two_ (i := 3) (j := 8) (Ni := some 33) (Nj := some 38) #[true, true, true, true, false, true, true, true, false, false, false, false] #[true, true, true, false, false, true, true, true, true, false, false, false] rfl rfl rfl rfl (two_of HT_.out (by kernel_rfl)) (by decide) (by decide) (fun K hK => ?_) (fun K hK => ?_)
             ·skip
              refine Kd.R_lit_step (Kd.int .i64) _ 2 ?hg (N := 33) ?hd (xs := ([(rd_T51 l0 x26_2).f0] : List Int)) (inner := [.int .i64 ((rd_T51 l0 x26_2).f0)]) (ok := fun _ => True) (okp := fun _ => True) ?hr ?hp (fun _ hk => hk) trivial (Below.refl _ _) (Nat.le_refl _) (by simp) ?_; (case hd => rfl); (case hg => rfl); (case hr => first | (go_simp; done) | (go_simp; rfl)); (case hp => exact (Reps.one (show Kd.M (Kd.int .i64) _ _ _ ((rd_T51 l0 x26_2).f0) [.int .i64 ((rd_T51 l0 x26_2).f0)] from rfl) (Reps.none _ _)))
              intro v347 w19 ho20 hb hg_ hnew_
              clear hg_ hnew_
              (first | rw [← Ny346.out] at ho20 | (simp only [Int.reduceToNat] at ho20; rw [← Ny346.out] at ho20))
              have n0_ := Aside0.mk (Kd.R_elder' (rR HO_7.out) (Kd.R_base ho20) hb)
              have n1_ := Aside0.mk (Kd.R_below (rR HO_8.out) hb)
              have n2_ := Aside0.mk (Kd.R_lower (Kd.R_new' ho20 (Kd.R_lt (rR HO_7.out))) (below_size (by repeat (first | (with_reducible first | exact HB.out | apply below_alloc | apply pw_below_drewN | apply below_drew1 | refine below_set ?_ GE345.out) | exact HB.out))))
              have n3_ := Aside0.mk (blk_below (g := gb345) (o := .cells #[.int .i64 ((rd_T51 l0 x26_2).f0), .int .u64 ((rd_T51 l0 x26_2).f1)] 51 (0, 0)) (by (with_reducible repeat (first | refine blk_drewN ?_ _ | refine blk_drew ?_ | refine blk_alloc ?_ _)); exact BK345.out) hb)
              have n4_ := Aside0.mk (below_step (by repeat (first | (with_reducible first | exact HB.out | apply below_alloc | apply pw_below_drewN | apply below_drew1 | refine below_set ?_ GE345.out) | exact HB.out)) hb)
              clear HO_7
              clear HO_8
              clear BK345
              clear HB
              have HO_7 := n0_
              have HO_8 := n1_
              have HO348 := n2_
              have BK345 := n3_
              have HB := n4_
              clear n0_ n1_ n2_ n3_ n4_
              clear hb ho20
              obtain ⟨Ao22, co22, eo22⟩ := Kd.R_slice HO348.out
              (first | subst eo22 | (injection eo22 with f1_ f2_ f3_; have f4_ := f1_.symm; have f5_ := f3_.symm; clear f1_ f2_ f3_; subst f4_; subst f5_))
              refine hK.out _ _ ⟨(blk_cell BK345.out 0).trans rfl, (blk_cell BK345.out 1).trans rfl⟩ (fun hHeld => ?_)
              clear hK K
              refine norm_ (a' := ?_) ?_ ?_
              rotate_left
              ·show Act.put _ (some 33) _ = _
               simp only [Act.put, List.setIfInBounds_toArray, List.set_cons_zero, List.set_cons_succ, i64_w, i32_w]
               rfl
              refine two_ (i := 4) (j := 8) (Ni := some 34) (Nj := some 38) #[true, true, true, true, true, true, true, true, false, false, false, false] #[true, true, true, true, false, true, true, true, true, false, false, false] rfl rfl rfl rfl (two_of HT_.out (by kernel_rfl)) (by decide) (by decide) (fun K hK => ?_) (fun K hK => ?_)
              ·skip
               refine Kd.R_append_rows_step (Kd.int .i64) (w0 := w) w.heap.size (by rfl) (.tmp 30) (.tmp 33) 68 2 (.int .i64 0) 8 rfl Tryd.underlying68 info2 rfl (by decide) (by omega) (.slice Ao15 x7_2.length co15) x7_2 y346 _ _ _ (fun k_ => some k_ ≠ (.slice Ao22 y346.length co22 : Value).ownBlock) (fun _ => False) rfl rfl ?aO ?aR (fun _ _ h => h) (fun _ h => h.elim) ?aF ?aB ?aS ?aL ?_
               (case aR => repeat (first | exact (Kd.R_reads' HO348.out).2.2 | (with_reducible refine Kd.C_alloc ?_ _) | (with_reducible refine Kd.C_drewN ?_ _) | (with_reducible refine Kd.C_drew ?_)))
               (case aB => exact (by repeat (first | (with_reducible first | exact HB.out | apply below_alloc | apply pw_below_drewN | apply below_drew1 | refine below_set ?_ GE345.out) | exact HB.out)))
               (case aF => exact (fun k_ hk => Kd.fresh' (Kd.R_lt (rR HO348.out)) k_ hk))
               (case aO => exact (by (with_reducible repeat (first | apply Kd.R_alloc | apply Kd.R_drewN | apply Kd.R_drew)); exact Kd.R_mono HO_7.out (fun _ hk => hk.2)))
               (case aS => exact (below_size (by repeat (first | (with_reducible first | exact HB.out | apply below_alloc | apply pw_below_drewN | apply below_drew1 | refine below_set ?_ GE345.out) | exact HB.out))))
               (case aL => have := LMc11.out; omega)
               intro v350 w21 ho hb hg hat
               rw [← Ny349.out] at ho
               have n0_ := Aside0.mk (Kd.R_over' (rR HO_8.out) (Kd.R_typed (rR HO_7.out)) (by decide) hg)
               have n1_ := Aside0.mk (blk_grown (g := gb345) (o := .cells #[.int .i64 ((rd_T51 l0 x26_2).f0), .int .u64 ((rd_T51 l0 x26_2).f1)] 51 (0, 0)) (by (with_reducible repeat (first | refine blk_drewN ?_ _ | refine blk_drew ?_ | refine blk_alloc ?_ _)); exact BK345.out) hg (Kd.R_ne HO_7.out BK345.out (by decide)))
               have n2_ := Aside0.mk (Kd.R_after (ok := (fun _ => True)) (rR HO348.out) hg hat)
               have n3_ := Aside0.mk (hb)
               have n4_ := Aside0.mk (ho)
               clear HO_8
               clear BK345
               clear HO348
               clear HB
               clear HO_7
               have HO_8 := n0_
               have BK345 := n1_
               have HO348 := n2_
               have HB := n3_
               have HO351 := n4_
               clear n0_ n1_ n2_ n3_ n4_
               clear ho hb hg hat
               refine hK.out _ _ ⟨(blk_cell BK345.out 0).trans rfl, (blk_cell BK345.out 1).trans rfl⟩ (fun hHeld => ?_)
               clear hK K
               refine norm_ (a' := ?_) ?_ ?_
               rotate_left
               ·show Act.put _ (some 34) _ = _
                simp only [Act.put, List.setIfInBounds_toArray, List.set_cons_zero, List.set_cons_succ, i64_w, i32_w]
                rfl
               refine one_ (i := 8) (N := some 38) #[true, true, true, true, true, true, true, true, true, false, false, false] rfl rfl (one_of HT_.out (by kernel_rfl)) (by decide) (fun K hK => ?_)
               refine Kd.R_lit_step (Kd.int .u64) _ 34 ?hg (N := 38) ?hd (xs := ([(rd_T51 l0 x26_2).f1] : List Int)) (inner := [.int .u64 ((rd_T51 l0 x26_2).f1)]) (ok := fun _ => True) (okp := fun _ => True) ?hr ?hp (fun _ hk => hk) trivial (Below.refl _ _) (Nat.le_refl _) (by simp) ?_; (case hd => rfl); (case hg => rfl); (case hr => first | (go_simp; done) | (go_simp; rfl)); (case hp => exact (Reps.one (show Kd.M (Kd.int .u64) _ _ _ ((rd_T51 l0 x26_2).f1) [.int .u64 ((rd_T51 l0 x26_2).f1)] from rfl) (Reps.none _ _)))
               intro v353 w23 ho24 hb hg_ hnew_
               clear hg_ hnew_
               (first | rw [← Ny352.out] at ho24 | (simp only [Int.reduceToNat] at ho24; rw [← Ny352.out] at ho24))
               have n0_ := Aside0.mk (Kd.R_elder' (rR HO_8.out) (Kd.R_base ho24) hb)
               have n1_ := Aside0.mk (Kd.R_below (rR HO348.out) hb)
               have n2_ := Aside0.mk (Kd.R_below (rR HO351.out) hb)
               have n3_ := Aside0.mk (Kd.R_lower (Kd.R_new' ho24 (Kd.R_lt (rR HO_8.out))) (below_size (by repeat (first | (with_reducible first | exact HB.out | apply below_alloc | apply pw_below_drewN | apply below_drew1 | refine below_set ?_ GE345.out) | exact HB.out))))
               have n4_ := Aside0.mk (blk_below (g := gb345) (o := .cells #[.int .i64 ((rd_T51 l0 x26_2).f0), .int .u64 ((rd_T51 l0 x26_2).f1)] 51 (0, 0)) (by (with_reducible repeat (first | refine blk_drewN ?_ _ | refine blk_drew ?_ | refine blk_alloc ?_ _)); exact BK345.out) hb)
               have n5_ := Aside0.mk (below_step (by repeat (first | (with_reducible first | exact HB.out | apply below_alloc | apply pw_below_drewN | apply below_drew1 | refine below_set ?_ GE345.out) | exact HB.out)) hb)
               clear HO_8
               clear HO348
               clear HO351
               clear BK345
               clear HB
               have HO_8 := n0_
               have HO348 := n1_
               have HO351 := n2_
               have HO354 := n3_
               have BK345 := n4_
               have HB := n5_
               clear n0_ n1_ n2_ n3_ n4_ n5_
               clear hb ho24
               refine hK.out _ _ ⟨(blk_cell BK345.out 0).trans rfl, (blk_cell BK345.out 1).trans rfl⟩ (fun hHeld => ?_)
               clear hK K
               refine norm_ (a' := ?_) ?_ ?_
               rotate_left
               ·show Act.put _ (some 38) _ = _
                simp only [Act.put, List.setIfInBounds_toArray, List.set_cons_zero, List.set_cons_succ, i64_w, i32_w]
                rfl
               exact norm_ (by simp only [putAll, Act.put, List.setIfInBounds_toArray, List.set_cons_zero, List.set_cons_succ]) (hCont (.slice Ao22 y346.length co22, v350, v353) _ ⟨hHeld, (by (with_reducible repeat (first | apply Kd.R_alloc | apply Kd.R_drewN | apply Kd.R_drew)); exact Kd.R_mono HO348.out (fun _ hk => hk.2)), (rR HO351.out), (by (with_reducible repeat (first | apply Kd.R_alloc | apply Kd.R_drewN | apply Kd.R_drew)); exact Kd.R_mono HO354.out (fun _ hk => hk.2)), (by (with_reducible repeat (first | apply Kd.R_alloc | apply Kd.R_drewN | apply Kd.R_drew)); exact Kd.R_mono HO_8.out (fun _ hk => hk.2)), (by (with_reducible repeat (first | refine blk_drewN ?_ _ | refine blk_drew ?_ | refine blk_alloc ?_ _)); exact BK345.out), (by repeat (first | (with_reducible first | exact HB.out | apply below_alloc | apply pw_below_drewN | apply below_drew1 | refine below_set ?_ GE345.out) | exact HB.out))⟩)
              ·skip
               refine Kd.R_lit_step (Kd.int .u64) _ 34 ?hg (N := 38) ?hd (xs := ([(rd_T51 l0 x26_2).f1] : List Int)) (inner := [.int .u64 ((rd_T51 l0 x26_2).f1)]) (ok := fun _ => True) (okp := fun _ => True) ?hr ?hp (fun _ hk => hk) trivial (Below.refl _ _) (Nat.le_refl _) (by simp) ?_; (case hd => rfl); (case hg => rfl); (case hr => first | (go_simp; done) | (go_simp; rfl)); (case hp => exact (Reps.one (show Kd.M (Kd.int .u64) _ _ _ ((rd_T51 l0 x26_2).f1) [.int .u64 ((rd_T51 l0 x26_2).f1)] from rfl) (Reps.none _ _)))
               intro v353 w21 ho22 hb hg_ hnew_
               clear hg_ hnew_
               (first | rw [← Ny352.out] at ho22 | (simp only [Int.reduceToNat] at ho22; rw [← Ny352.out] at ho22))
               have n0_ := Aside0.mk (Kd.R_below (rR HO_7.out) hb)
               have n1_ := Aside0.mk (Kd.R_elder' (rR HO_8.out) (Kd.R_base ho22) hb)
               have n2_ := Aside0.mk (Kd.R_below (rR HO348.out) hb)
               have n3_ := Aside0.mk (Kd.R_lower (Kd.R_new' ho22 (Kd.R_lt (rR HO_8.out))) (below_size (by repeat (first | (with_reducible first | exact HB.out | apply below_alloc | apply pw_below_drewN | apply below_drew1 | refine below_set ?_ GE345.out) | exact HB.out))))
               have n4_ := Aside0.mk (blk_below (g := gb345) (o := .cells #[.int .i64 ((rd_T51 l0 x26_2).f0), .int .u64 ((rd_T51 l0 x26_2).f1)] 51 (0, 0)) (by (with_reducible repeat (first | refine blk_drewN ?_ _ | refine blk_drew ?_ | refine blk_alloc ?_ _)); exact BK345.out) hb)
               have n5_ := Aside0.mk (below_step (by repeat (first | (with_reducible first | exact HB.out | apply below_alloc | apply pw_below_drewN | apply below_drew1 | refine below_set ?_ GE345.out) | exact HB.out)) hb)
               clear HO_7
               clear HO_8
               clear HO348
               clear BK345
               clear HB
               have HO_7 := n0_
               have HO_8 := n1_
               have HO348 := n2_
               have HO354 := n3_
               have BK345 := n4_
               have HB := n5_
               clear n0_ n1_ n2_ n3_ n4_ n5_
               clear hb ho22
               obtain ⟨Ao24, co24, eo24⟩ := Kd.R_slice HO348.out
               (first | subst eo24 | (injection eo24 with f1_ f2_ f3_; have f4_ := f1_.symm; have f5_ := f3_.symm; clear f1_ f2_ f3_; subst f4_; subst f5_))
               refine hK.out _ _ ⟨(blk_cell BK345.out 0).trans rfl, (blk_cell BK345.out 1).trans rfl⟩ (fun hHeld => ?_)
               clear hK K
               refine norm_ (a' := ?_) ?_ ?_
               rotate_left
               ·show Act.put _ (some 38) _ = _
                simp only [Act.put, List.setIfInBounds_toArray, List.set_cons_zero, List.set_cons_succ, i64_w, i32_w]
                rfl
               refine one_ (i := 4) (N := some 34) #[true, true, true, true, true, true, true, true, true, false, false, false] rfl rfl (one_of HT_.out (by kernel_rfl)) (by decide) (fun K hK => ?_)
               refine Kd.R_append_rows_step (Kd.int .i64) (w0 := w) w.heap.size (by rfl) (.tmp 30) (.tmp 33) 68 2 (.int .i64 0) 8 rfl Tryd.underlying68 info2 rfl (by decide) (by omega) (.slice Ao15 x7_2.length co15) x7_2 y346 _ _ _ (fun k_ => some k_ ≠ (.slice Ao24 y346.length co24 : Value).ownBlock) (fun _ => False) rfl rfl ?aO ?aR (fun _ _ h => h) (fun _ h => h.elim) ?aF ?aB ?aS ?aL ?_
               (case aR => repeat (first | exact (Kd.R_reads' HO348.out).2.2 | (with_reducible refine Kd.C_alloc ?_ _) | (with_reducible refine Kd.C_drewN ?_ _) | (with_reducible refine Kd.C_drew ?_)))
               (case aB => exact (by repeat (first | (with_reducible first | exact HB.out | apply below_alloc | apply pw_below_drewN | apply below_drew1 | refine below_set ?_ GE345.out) | exact HB.out)))
               (case aF => exact (fun k_ hk => Kd.fresh' (Kd.R_lt (rR HO348.out)) k_ hk))
               (case aO => exact (by (with_reducible repeat (first | apply Kd.R_alloc | apply Kd.R_drewN | apply Kd.R_drew)); exact Kd.R_mono HO_7.out (fun _ hk => hk.2)))
               (case aS => exact (below_size (by repeat (first | (with_reducible first | exact HB.out | apply below_alloc | apply pw_below_drewN | apply below_drew1 | refine below_set ?_ GE345.out) | exact HB.out))))
               (case aL => have := LMc11.out; omega)
               intro v350 w23 ho hb hg hat
               rw [← Ny349.out] at ho
               have n0_ := Aside0.mk (Kd.R_over' (rR HO_8.out) (Kd.R_typed (rR HO_7.out)) (by decide) hg)
               have n1_ := Aside0.mk (blk_grown (g := gb345) (o := .cells #[.int .i64 ((rd_T51 l0 x26_2).f0), .int .u64 ((rd_T51 l0 x26_2).f1)] 51 (0, 0)) (by (with_reducible repeat (first | refine blk_drewN ?_ _ | refine blk_drew ?_ | refine blk_alloc ?_ _)); exact BK345.out) hg (Kd.R_ne HO_7.out BK345.out (by decide)))
               have n2_ := Aside0.mk (Kd.R_after (ok := (fun _ => True)) (rR HO348.out) hg hat)
               have n3_ := Aside0.mk (Kd.R_over' (rR HO354.out) (Kd.R_typed (rR HO_7.out)) (by decide) hg)
               have n4_ := Aside0.mk (hb)
               have n5_ := Aside0.mk (ho)
               clear HO_8
               clear BK345
               clear HO348
               clear HO354
               clear HB
               clear HO_7
               have HO_8 := n0_
               have BK345 := n1_
               have HO348 := n2_
               have HO354 := n3_
               have HB := n4_
               have HO351 := n5_
               clear n0_ n1_ n2_ n3_ n4_ n5_
               clear ho hb hg hat
               refine hK.out _ _ ⟨(blk_cell BK345.out 0).trans rfl, (blk_cell BK345.out 1).trans rfl⟩ (fun hHeld => ?_)
               clear hK K
               refine norm_ (a' := ?_) ?_ ?_
               rotate_left
               ·show Act.put _ (some 34) _ = _
                simp only [Act.put, List.setIfInBounds_toArray, List.set_cons_zero, List.set_cons_succ, i64_w, i32_w]
                rfl
               exact norm_ (by simp only [putAll, Act.put, List.setIfInBounds_toArray, List.set_cons_zero, List.set_cons_succ]) (hCont (.slice Ao24 y346.length co24, v350, v353) _ ⟨hHeld, (by (with_reducible repeat (first | apply Kd.R_alloc | apply Kd.R_drewN | apply Kd.R_drew)); exact Kd.R_mono HO348.out (fun _ hk => hk.2)), (rR HO351.out), (by (with_reducible repeat (first | apply Kd.R_alloc | apply Kd.R_drewN | apply Kd.R_drew)); exact Kd.R_mono HO354.out (fun _ hk => hk.2)), (by (with_reducible repeat (first | apply Kd.R_alloc | apply Kd.R_drewN | apply Kd.R_drew)); exact Kd.R_mono HO_8.out (fun _ hk => hk.2)), (by (with_reducible repeat (first | refine blk_drewN ?_ _ | refine blk_drew ?_ | refine blk_alloc ?_ _)); exact BK345.out), (by repeat (first | (with_reducible first | exact HB.out | apply below_alloc | apply pw_below_drewN | apply below_drew1 | refine below_set ?_ GE345.out) | exact HB.out))⟩)
             ·skip
              refine Kd.R_lit_step (Kd.int .u64) _ 34 ?hg (N := 38) ?hd (xs := ([(rd_T51 l0 x26_2).f1] : List Int)) (inner := [.int .u64 ((rd_T51 l0 x26_2).f1)]) (ok := fun _ => True) (okp := fun _ => True) ?hr ?hp (fun _ hk => hk) trivial (Below.refl _ _) (Nat.le_refl _) (by simp) ?_; (case hd => rfl); (case hg => rfl); (case hr => first | (go_simp; done) | (go_simp; rfl)); (case hp => exact (Reps.one (show Kd.M (Kd.int .u64) _ _ _ ((rd_T51 l0 x26_2).f1) [.int .u64 ((rd_T51 l0 x26_2).f1)] from rfl) (Reps.none _ _)))
              intro v353 w19 ho20 hb hg_ hnew_
              clear hg_ hnew_
              (first | rw [← Ny352.out] at ho20 | (simp only [Int.reduceToNat] at ho20; rw [← Ny352.out] at ho20))
              have n0_ := Aside0.mk (Kd.R_below (rR HO_7.out) hb)
              have n1_ := Aside0.mk (Kd.R_elder' (rR HO_8.out) (Kd.R_base ho20) hb)
              have n2_ := Aside0.mk (Kd.R_lower (Kd.R_new' ho20 (Kd.R_lt (rR HO_8.out))) (below_size (by repeat (first | (with_reducible first | exact HB.out | apply below_alloc | apply pw_below_drewN | apply below_drew1 | refine below_set ?_ GE345.out) | exact HB.out))))
              have n3_ := Aside0.mk (blk_below (g := gb345) (o := .cells #[.int .i64 ((rd_T51 l0 x26_2).f0), .int .u64 ((rd_T51 l0 x26_2).f1)] 51 (0, 0)) (by (with_reducible repeat (first | refine blk_drewN ?_ _ | refine blk_drew ?_ | refine blk_alloc ?_ _)); exact BK345.out) hb)
              have n4_ := Aside0.mk (below_step (by repeat (first | (with_reducible first | exact HB.out | apply below_alloc | apply pw_below_drewN | apply below_drew1 | refine below_set ?_ GE345.out) | exact HB.out)) hb)
              clear HO_7
              clear HO_8
              clear BK345
              clear HB
              have HO_7 := n0_
              have HO_8 := n1_
              have HO354 := n2_
              have BK345 := n3_
              have HB := n4_
              clear n0_ n1_ n2_ n3_ n4_
              clear hb ho20
              refine hK.out _ _ ⟨(blk_cell BK345.out 0).trans rfl, (blk_cell BK345.out 1).trans rfl⟩ (fun hHeld => ?_)
              clear hK K
              refine norm_ (a' := ?_) ?_ ?_
              rotate_left
              ·show Act.put _ (some 38) _ = _
               simp only [Act.put, List.setIfInBounds_toArray, List.set_cons_zero, List.set_cons_succ, i64_w, i32_w]
               rfl
              refine one_ (i := 3) (N := some 33) #[true, true, true, true, false, true, true, true, true, false, false, false] rfl rfl (one_of HT_.out (by kernel_rfl)) (by decide) (fun K hK => ?_)
              refine Kd.R_lit_step (Kd.int .i64) _ 2 ?hg (N := 33) ?hd (xs := ([(rd_T51 l0 x26_2).f0] : List Int)) (inner := [.int .i64 ((rd_T51 l0 x26_2).f0)]) (ok := fun _ => True) (okp := fun _ => True) ?hr ?hp (fun _ hk => hk) trivial (Below.refl _ _) (Nat.le_refl _) (by simp) ?_; (case hd => rfl); (case hg => rfl); (case hr => first | (go_simp; done) | (go_simp; rfl)); (case hp => exact (Reps.one (show Kd.M (Kd.int .i64) _ _ _ ((rd_T51 l0 x26_2).f0) [.int .i64 ((rd_T51 l0 x26_2).f0)] from rfl) (Reps.none _ _)))
              intro v347 w21 ho22 hb hg_ hnew_
              clear hg_ hnew_
              (first | rw [← Ny346.out] at ho22 | (simp only [Int.reduceToNat] at ho22; rw [← Ny346.out] at ho22))
              have n0_ := Aside0.mk (Kd.R_elder' (rR HO_7.out) (Kd.R_base ho22) hb)
              have n1_ := Aside0.mk (Kd.R_below (rR HO_8.out) hb)
              have n2_ := Aside0.mk (Kd.R_below (rR HO354.out) hb)
              have n3_ := Aside0.mk (Kd.R_lower (Kd.R_new' ho22 (Kd.R_lt (rR HO_7.out))) (below_size (by repeat (first | (with_reducible first | exact HB.out | apply below_alloc | apply pw_below_drewN | apply below_drew1 | refine below_set ?_ GE345.out) | exact HB.out))))
              have n4_ := Aside0.mk (blk_below (g := gb345) (o := .cells #[.int .i64 ((rd_T51 l0 x26_2).f0), .int .u64 ((rd_T51 l0 x26_2).f1)] 51 (0, 0)) (by (with_reducible repeat (first | refine blk_drewN ?_ _ | refine blk_drew ?_ | refine blk_alloc ?_ _)); exact BK345.out) hb)
              have n5_ := Aside0.mk (below_step (by repeat (first | (with_reducible first | exact HB.out | apply below_alloc | apply pw_below_drewN | apply below_drew1 | refine below_set ?_ GE345.out) | exact HB.out)) hb)
              clear HO_7
              clear HO_8
              clear HO354
              clear BK345
              clear HB
              have HO_7 := n0_
              have HO_8 := n1_
              have HO354 := n2_
              have HO348 := n3_
              have BK345 := n4_
              have HB := n5_
              clear n0_ n1_ n2_ n3_ n4_ n5_
              clear hb ho22
              obtain ⟨Ao24, co24, eo24⟩ := Kd.R_slice HO348.out
              (first | subst eo24 | (injection eo24 with f1_ f2_ f3_; have f4_ := f1_.symm; have f5_ := f3_.symm; clear f1_ f2_ f3_; subst f4_; subst f5_))
              refine hK.out _ _ ⟨(blk_cell BK345.out 0).trans rfl, (blk_cell BK345.out 1).trans rfl⟩ (fun hHeld => ?_)
              clear hK K
              refine norm_ (a' := ?_) ?_ ?_
              rotate_left
              ·show Act.put _ (some 33) _ = _
               simp only [Act.put, List.setIfInBounds_toArray, List.set_cons_zero, List.set_cons_succ, i64_w, i32_w]
               rfl
              refine one_ (i := 4) (N := some 34) #[true, true, true, true, true, true, true, true, true, false, false, false] rfl rfl (one_of HT_.out (by kernel_rfl)) (by decide) (fun K hK => ?_)
              refine Kd.R_append_rows_step (Kd.int .i64) (w0 := w) w.heap.size (by rfl) (.tmp 30) (.tmp 33) 68 2 (.int .i64 0) 8 rfl Tryd.underlying68 info2 rfl (by decide) (by omega) (.slice Ao15 x7_2.length co15) x7_2 y346 _ _ _ (fun k_ => some k_ ≠ (.slice Ao24 y346.length co24 : Value).ownBlock) (fun _ => False) rfl rfl ?aO ?aR (fun _ _ h => h) (fun _ h => h.elim) ?aF ?aB ?aS ?aL ?_
              (case aR => repeat (first | exact (Kd.R_reads' HO348.out).2.2 | (with_reducible refine Kd.C_alloc ?_ _) | (with_reducible refine Kd.C_drewN ?_ _) | (with_reducible refine Kd.C_drew ?_)))
              (case aB => exact (by repeat (first | (with_reducible first | exact HB.out | apply below_alloc | apply pw_below_drewN | apply below_drew1 | refine below_set ?_ GE345.out) | exact HB.out)))
              (case aF => exact (fun k_ hk => Kd.fresh' (Kd.R_lt (rR HO348.out)) k_ hk))
              (case aO => exact (by (with_reducible repeat (first | apply Kd.R_alloc | apply Kd.R_drewN | apply Kd.R_drew)); exact Kd.R_mono HO_7.out (fun _ hk => hk.2)))
              (case aS => exact (below_size (by repeat (first | (with_reducible first | exact HB.out | apply below_alloc | apply pw_below_drewN | apply below_drew1 | refine below_set ?_ GE345.out) | exact HB.out))))
              (case aL => have := LMc11.out; omega)
              intro v350 w23 ho hb hg hat
              rw [← Ny349.out] at ho
              have n0_ := Aside0.mk (Kd.R_over' (rR HO_8.out) (Kd.R_typed (rR HO_7.out)) (by decide) hg)
              have n1_ := Aside0.mk (blk_grown (g := gb345) (o := .cells #[.int .i64 ((rd_T51 l0 x26_2).f0), .int .u64 ((rd_T51 l0 x26_2).f1)] 51 (0, 0)) (by (with_reducible repeat (first | refine blk_drewN ?_ _ | refine blk_drew ?_ | refine blk_alloc ?_ _)); exact BK345.out) hg (Kd.R_ne HO_7.out BK345.out (by decide)))
              have n2_ := Aside0.mk (Kd.R_over' (rR HO354.out) (Kd.R_typed (rR HO_7.out)) (by decide) hg)
              have n3_ := Aside0.mk (Kd.R_after (ok := (fun _ => True)) (rR HO348.out) hg hat)
              have n4_ := Aside0.mk (hb)
              have n5_ := Aside0.mk (ho)
              clear HO_8
              clear BK345
              clear HO354
              clear HO348
              clear HB
              clear HO_7
              have HO_8 := n0_
              have BK345 := n1_
              have HO354 := n2_
              have HO348 := n3_
              have HB := n4_
              have HO351 := n5_
              clear n0_ n1_ n2_ n3_ n4_ n5_
              clear ho hb hg hat
              refine hK.out _ _ ⟨(blk_cell BK345.out 0).trans rfl, (blk_cell BK345.out 1).trans rfl⟩ (fun hHeld => ?_)
              clear hK K
              refine norm_ (a' := ?_) ?_ ?_
              rotate_left
              ·show Act.put _ (some 34) _ = _
               simp only [Act.put, List.setIfInBounds_toArray, List.set_cons_zero, List.set_cons_succ, i64_w, i32_w]
               rfl
              exact norm_ (by simp only [putAll, Act.put, List.setIfInBounds_toArray, List.set_cons_zero, List.set_cons_succ]) (hCont (.slice Ao24 y346.length co24, v350, v353) _ ⟨hHeld, (by (with_reducible repeat (first | apply Kd.R_alloc | apply Kd.R_drewN | apply Kd.R_drew)); exact Kd.R_mono HO348.out (fun _ hk => hk.2)), (rR HO351.out), (by (with_reducible repeat (first | apply Kd.R_alloc | apply Kd.R_drewN | apply Kd.R_drew)); exact Kd.R_mono HO354.out (fun _ hk => hk.2)), (by (with_reducible repeat (first | apply Kd.R_alloc | apply Kd.R_drewN | apply Kd.R_drew)); exact Kd.R_mono HO_8.out (fun _ hk => hk.2)), (by (with_reducible repeat (first | refine blk_drewN ?_ _ | refine blk_drew ?_ | refine blk_alloc ?_ _)); exact BK345.out), (by repeat (first | (with_reducible first | exact HB.out | apply below_alloc | apply pw_below_drewN | apply below_drew1 | refine below_set ?_ GE345.out) | exact HB.out))⟩)
            rintro ⟨v347, v350, v353⟩ w25 ⟨hS_, h0_, h1_, h2_, h3_, h4_, h5_⟩
            have n0_ : Aside0 (Kd.R (Kd.int .i64) 2 w25 w.heap.size (fun k_ => some k_ ≠ (v350 : Value).ownBlock) v347 y346) := ⟨h0_⟩
            have n1_ : Aside0 (Kd.R (Kd.int .i64) 2 w25 w.heap.size (fun k_ => some k_ ≠ (v347 : Value).ownBlock) v350 y349) := ⟨h1_⟩
            have n2_ : Aside0 (Kd.R (Kd.int .u64) 34 w25 w.heap.size (fun k_ => some k_ ≠ (.slice Ao16 x8_2.length co16 : Value).ownBlock) v353 y352) := ⟨h2_⟩
            have n3_ : Aside0 (Kd.R (Kd.int .u64) 34 w25 w.heap.size (fun k_ => some k_ ≠ (v353 : Value).ownBlock) (.slice Ao16 x8_2.length co16) x8_2) := ⟨h3_⟩
            have n4_ : Aside0 (w25.heap[gb345]? = some (.cells #[.int .i64 ((rd_T51 l0 x26_2).f0), .int .u64 ((rd_T51 l0 x26_2).f1)] 51 (0, 0))) := ⟨h4_⟩
            have n5_ : Aside0 (Below w.heap.size w w25) := ⟨h5_⟩
            clear HO_7
            clear HO_8
            clear BK345
            clear HB
            clear h0_ h1_ h2_ h3_ h4_ h5_
            have HO348 := n0_
            have HO351 := n1_
            have HO354 := n2_
            have HO_8 := n3_
            have BK345 := n4_
            have HB := n5_
            clear n0_ n1_ n2_ n3_ n4_ n5_
            have hHeld : w25.cell? ⟨gb345, 0, none⟩ = some (.int .i64 ((rd_T51 l0 x26_2).f0)) ∧ w25.cell? ⟨gb345, 1, none⟩ = some (.int .u64 ((rd_T51 l0 x26_2).f1)) := hS_
            obtain ⟨Ao27, co27, eo27⟩ := Kd.R_slice HO354.out
            (first | subst eo27 | (injection eo27 with f1_ f2_ f3_; have f4_ := f1_.symm; have f5_ := f3_.symm; clear f1_ f2_ f3_; subst f4_; subst f5_))
            refine norm_ (a' := ?_) ?_ ?_
            rotate_left
            ·simp only [putAll, Act.put, List.setIfInBounds_toArray, List.set_cons_zero, List.set_cons_succ]
             rfl
            refine one_ (i := 9) (N := some 39) #[true, true, true, true, true, true, true, true, true, true, false, false] rfl rfl (one_of HT_.out (by kernel_rfl)) (by decide) (fun K hK => ?_)
            refine Kd.R_append_rows_step (Kd.int .u64) (w0 := w) w.heap.size (by rfl) (.tmp 35) (.tmp 38) 22 34 (.int .u64 0) 8 rfl Tryd.underlying22 info34 rfl (by decide) (by omega) (.slice Ao16 x8_2.length co16) x8_2 y352 _ _ _ (fun k_ => some k_ ≠ (.slice Ao27 y352.length co27 : Value).ownBlock) (fun _ => False) rfl rfl ?aO ?aR (fun _ _ h => h) (fun _ h => h.elim) ?aF ?aB ?aS ?aL ?_
            (case aR => repeat (first | exact (Kd.R_reads' HO354.out).2.2 | (with_reducible refine Kd.C_alloc ?_ _) | (with_reducible refine Kd.C_drewN ?_ _) | (with_reducible refine Kd.C_drew ?_)))
            (case aB => exact (by repeat (first | (with_reducible first | exact HB.out | apply below_alloc | apply pw_below_drewN | apply below_drew1 | refine below_set ?_ GE345.out) | exact HB.out)))
            (case aF => exact (fun k_ hk => Kd.fresh' (Kd.R_lt (rR HO354.out)) k_ hk))
            (case aO => exact (rR HO_8.out))
            (case aS => exact (below_size (by repeat (first | (with_reducible first | exact HB.out | apply below_alloc | apply pw_below_drewN | apply below_drew1 | refine below_set ?_ GE345.out) | exact HB.out))))
            (case aL => have := LMc12.out; omega)
            intro v356 w26 ho hb hg hat
            rw [← Ny355.out] at ho
            have n0_ := Aside0.mk (blk_grown (g := gb345) (o := .cells #[.int .i64 ((rd_T51 l0 x26_2).f0), .int .u64 ((rd_T51 l0 x26_2).f1)] 51 (0, 0)) (by (with_reducible repeat (first | refine blk_drewN ?_ _ | refine blk_drew ?_ | refine blk_alloc ?_ _)); exact BK345.out) hg (Kd.R_ne HO_8.out BK345.out (by decide)))
            have n1_ := Aside0.mk (Kd.R_over' (rR HO348.out) (Kd.R_typed (rR HO_8.out)) (by decide) hg)
            have n2_ := Aside0.mk (Kd.R_over' (rR HO351.out) (Kd.R_typed (rR HO_8.out)) (by decide) hg)
            have n3_ := Aside0.mk (Kd.R_after (ok := (fun _ => True)) (by (with_reducible repeat (first | apply Kd.R_alloc | apply Kd.R_drewN | apply Kd.R_drew)); exact Kd.R_mono HO354.out (fun _ hk => ⟨trivial, hk⟩)) hg hat)
            have n4_ := Aside0.mk (hb)
            have n5_ := Aside0.mk (ho)
            clear BK345
            clear HO348
            clear HO351
            clear HO354
            clear HB
            clear HO_8
            have BK345 := n0_
            have HO348 := n1_
            have HO351 := n2_
            have HO354 := n3_
            have HB := n4_
            have HO357 := n5_
            clear n0_ n1_ n2_ n3_ n4_ n5_
            clear ho hb hg hat
            refine hK.out _ _ ⟨(blk_cell BK345.out 0).trans rfl, (blk_cell BK345.out 1).trans rfl⟩ (fun hHeld => ?_)
            clear hK K
            refine norm_ (a' := ?_) ?_ ?_
            rotate_left
            ·show Act.put _ (some 39) _ = _
             simp only [Act.put, List.setIfInBounds_toArray, List.set_cons_zero, List.set_cons_succ, i64_w, i32_w]
             rfl
            refine pure_ (i := 10) (N := some 7) (v := ?_) (a' := ?_) #[true, true, true, true, true, true, true, true, true, true, true, false] rfl rfl (any_of HT_.out (by kernel_rfl)) (fun _ _ _ h => h) (Or.inl ⟨by rfl, ?_⟩) ?_ ?_
            rotate_left
            ·intro w'
             go_simp
             with_reducible rfl
            rotate_left
            ·simp only [Act.put, List.setIfInBounds_toArray, List.set_cons_zero, List.set_cons_succ, i64_w, i32_w]
             rfl
            refine pure_ (i := 11) (N := some 8) (v := ?_) (a' := ?_) #[true, true, true, true, true, true, true, true, true, true, true, true] rfl rfl (any_of HT_.out (by kernel_rfl)) (fun _ _ _ h => h) (Or.inl ⟨by rfl, ?_⟩) ?_ ?_
            rotate_left
            ·intro w'
             go_simp
             with_reducible rfl
            rotate_left
            ·simp only [Act.put, List.setIfInBounds_toArray, List.set_cons_zero, List.set_cons_succ, i64_w, i32_w]
             rfl
            refine done_ (done_of HT_.out (by kernel_rfl)) ?_
            try go_wp2
            go_roundg k2
            case measure => have := HJ2.out; have := HK2.out; omega
            case rel => exact ⟨(y349), (y355), (wrap64 (x26_2 + 1)), (by first | rfl | (simp; done) | (simp [*]; done)), H', ⟨by have := HJ2.out; have := HK2.out; omega⟩, ⟨by (with_reducible repeat (first | apply Kd.R_alloc | apply Kd.R_drewN | apply Kd.R_drew)); exact Kd.R_mono HO351.out (fun _ hk => trivial)⟩, ⟨by (with_reducible repeat (first | apply Kd.R_alloc | apply Kd.R_drewN | apply Kd.R_drew)); exact Kd.R_mono HO357.out (fun _ hk => trivial)⟩, ⟨by repeat (first | (with_reducible first | exact HB.out | apply below_alloc | apply pw_below_drewN | apply below_drew1 | refine below_set ?_ GE345.out) | exact HB.out)⟩⟩
           ·rw [if_neg c12] at H
            exact absurd H (by simp)
          ·rw [if_neg c11] at H
           exact absurd H (by simp)
         ·rw [if_neg c10] at H
          exact absurd H (by simp)
        ·rw [if_neg c9] at H
         exact absurd H (by simp)
       ·rw [if_neg c8] at H
        have c8b0 : decide (x26_2 < (l0.length : Int)) = false := decide_eq_false c8
        clear c8
        replace H := Option.bind_eq_some_iff.mp H
        obtain ⟨⟨t358, t359⟩, A280, H⟩ := H
        replace H : (if t359 = 0 then ((some (([(a1) % 256, ((l0.length : Int) / 256) % 256, ((l0.length : Int)) % 256] : List Int) : List Int)).bind fun y362 => (if y362.length + t358.length < 140737488355328 then ((some (y362 ++ t358 : List Int)).bind fun y365 => ((chunk_values.f k2 x8_2 (Int.tmod a1 4)).bind fun t368 => (if y365.length + t368.length < 140737488355328 then (some ((y365 ++ t368), 0)) else (none)))) else (none))) else (some (([] : List Int), t359))) = some (r1, r2) := H
        have A28 := Aside0.mk A280
        clear A280
        by_cases c29 : t359 = 0
        ·rw [if_pos c29] at H
         have c29b0 : (t359 == 0) = true := beq_iff_eq.mpr c29
         have c29b1 : (t359 != 0) = false := bne_eq_false_iff_eq.mpr c29
         clear c29
         obtain ⟨y362, hy362⟩ : ∃ y_ : List Int, y_ = (([(a1) % 256, ((l0.length : Int) / 256) % 256, ((l0.length : Int)) % 256] : List Int)) := ⟨_, rfl⟩
         replace H : (if y362.length + t358.length < 140737488355328 then ((some (y362 ++ t358 : List Int)).bind fun y365 => ((chunk_values.f k2 x8_2 (Int.tmod a1 4)).bind fun t368 => (if y365.length + t368.length < 140737488355328 then (some ((y365 ++ t368), 0)) else (none)))) else (none)) = some (r1, r2) := by first | (rw [hy362]; with_reducible exact H) | (have H2_ := (Option.bind_some _ _).symm.trans H; rw [hy362]; with_reducible exact H2_) | (have H2_ := (Option.bind_some _ _).symm.trans H; with_reducible exact H2_) | with_reducible exact H | (rw [hy362]; exact H) | exact H
         have Ny362 := Aside0.mk hy362
         clear hy362
         by_cases c30 : y362.length + t358.length < 140737488355328
         ·rw [if_pos c30] at H
          have LMc30 := Aside0.mk c30
          clear c30
          obtain ⟨y365, hy365⟩ : ∃ y_ : List Int, y_ = (y362 ++ t358) := ⟨_, rfl⟩
          replace H : ((chunk_values.f k2 x8_2 (Int.tmod a1 4)).bind fun t368 => (if y365.length + t368.length < 140737488355328 then (some ((y365 ++ t368), 0)) else (none))) = some (r1, r2) := by first | (rw [hy365]; with_reducible exact H) | (have H2_ := (Option.bind_some _ _).symm.trans H; rw [hy365]; with_reducible exact H2_) | (have H2_ := (Option.bind_some _ _).symm.trans H; with_reducible exact H2_) | with_reducible exact H | (rw [hy365]; exact H) | exact H
          have Ny365 := Aside0.mk hy365
          clear hy365
          replace H := Option.bind_eq_some_iff.mp H
          obtain ⟨t368, A310, H⟩ := H
          replace H : (if y365.length + t368.length < 140737488355328 then (some ((y365 ++ t368), 0)) else (none)) = some (r1, r2) := H
          have A31 := Aside0.mk A310
          clear A310
          by_cases c32 : y365.length + t368.length < 140737488355328
          ·rw [if_pos c32] at H
           have LMc32 := Aside0.mk c32
           clear c32
           obtain ⟨y371, hy371⟩ : ∃ y_ : List Int, y_ = (y365 ++ t368) := ⟨_, rfl⟩
           replace H : (some (y371, 0)) = some (r1, r2) := by first | (rw [hy371]; with_reducible exact H) | (have H2_ := (Option.bind_some _ _).symm.trans H; rw [hy371]; with_reducible exact H2_) | (have H2_ := (Option.bind_some _ _).symm.trans H; with_reducible exact H2_) | with_reducible exact H | (rw [hy371]; exact H) | exact H
           have Ny371 := Aside0.mk hy371
           clear hy371
           simp only [Option.some.injEq, Prod.mk.injEq] at H
           obtain ⟨rfl, rfl⟩ := H
           obtain ⟨Ao33, co33, eo33⟩ := Kd.R_slice HO_7.out
           subst eo33
           go_wp2_with (first | ((with_reducible refine gate_callee (f := 33) rfl ?_); refine goesL_ (some 45) rfl rfl Tryd.func33 (by kernel_rfl) rfl #[.slice Ao33 x7_2.length co33, .int .i64 (wrap64 (Int.tdiv a1 4))] rfl (by (try simp only [List.map_toArray, List.map_cons, List.map_nil]); first | done | rfl | (simp only [List.length_drop, List.length_take]; rfl)) ?_; (with_reducible refine (times_Put.calls k2 _ _ x7_2 (wrap64 (Int.tdiv a1 4)) t358 t359 _ ?side1 ?side2 A28.out).mono ?_); (case side1 => exact cC (Kd.R_reads' HO_7.out).2.2); (case side2 => exact (Kd.R_reads' HO_7.out).2.1); rintro e w34 ⟨v360, rfl, ho0, hb⟩; refine ⟨_, rfl, ?_⟩; have n0_ := Aside0.mk (Kd.R_below (rR HO_7.out) hb); have n1_ := Aside0.mk (Kd.R_below (rR HO_8.out) hb); have n2_ := Aside0.mk (Kd.R_lower ho0 (below_size bB)); have n3_ := Aside0.mk (below_step bB hb); clear HO_7; clear HO_8; clear HB; have HO_7 := n0_; have HO_8 := n1_; have HO361 := n2_; have HB := n3_; clear n0_ n1_ n2_ n3_; (try clear hb ho0)) | ((with_reducible refine gate_dst (N := 60) rfl ?_); refine Kd.R_lit (Kd.int .u8) _ 5 ?hg (N := 60) ?hd (xs := ([(a1) % 256, ((l0.length : Int) / 256) % 256, ((l0.length : Int)) % 256] : List Int)) (inner := [.int .u8 ((a1) % 256), .int .u8 (((l0.length : Int) / 256) % 256), .int .u8 (((l0.length : Int)) % 256)]) (ok := fun _ => True) (okp := fun _ => True) ?hr ?hp (fun _ hk => hk) trivial (Below.refl _ _) (Nat.le_refl _) (by simp) ?_; (case hd => rfl); (case hg => rfl); (case hr => first | (go_simp; done) | (go_simp; rfl)); (case hp => exact (Reps.one (show Kd.M (Kd.int .u8) _ _ _ ((a1) % 256) [.int .u8 ((a1) % 256)] from rfl) (Reps.one (show Kd.M (Kd.int .u8) _ _ _ (((l0.length : Int) / 256) % 256) [.int .u8 (((l0.length : Int) / 256) % 256)] from rfl) (Reps.one (show Kd.M (Kd.int .u8) _ _ _ (((l0.length : Int)) % 256) [.int .u8 (((l0.length : Int)) % 256)] from rfl) (Reps.none _ _))))); intro v363 w35 ho36 hb hg_ hnew_; clear hg_ hnew_; (first | rw [← Ny362.out] at ho36 | (simp only [Int.reduceToNat] at ho36; rw [← Ny362.out] at ho36)); have n0_ := Aside0.mk (Kd.R_below (rR HO_7.out) hb); have n1_ := Aside0.mk (Kd.R_below (rR HO_8.out) hb); have n2_ := Aside0.mk (Kd.R_elder' (rR HO361.out) (Kd.R_base ho36) hb); have n3_ := Aside0.mk (Kd.R_lower (Kd.R_new' ho36 (Kd.R_lt (rR HO361.out))) (below_size bB)); have n4_ := Aside0.mk (below_step bB hb); clear HO_7; clear HO_8; clear HO361; clear HB; have HO_7 := n0_; have HO_8 := n1_; have HO361 := n2_; have HO364 := n3_; have HB := n4_; clear n0_ n1_ n2_ n3_ n4_; clear hb ho36; obtain ⟨Ao38, co38, eo38⟩ := Kd.R_slice HO361.out; subst eo38) | ((with_reducible refine gate_builtin (b := .append) (xs := #[.tmp 60, .tmp 61]) rfl ?_); at_builtin; refine Kd.R_append_rows (Kd.int .u8) (w0 := w) w.heap.size rfl (.tmp 60) (.tmp 61) 23 5 (.int .u8 0) 1 rfl Tryd.underlying23 info5 rfl (by decide) (by omega) v363 y362 t358 _ _ _ (fun k_ => some k_ ≠ (.slice Ao38 t358.length co38 : Value).ownBlock) (fun _ => False) rfl rfl ?aO ?aR (fun _ _ h => h) (fun _ h => h.elim) ?aF ?aB ?aS ?aL ?_; (case aR => repeat (first | exact (Kd.R_reads' HO361.out).2.2 | (with_reducible refine Kd.C_alloc ?_ _) | (with_reducible refine Kd.C_drewN ?_ _) | (with_reducible refine Kd.C_drew ?_))); (case aB => exact bB); (case aF => exact (fun k_ hk => Kd.fresh' (Kd.R_lt (rR HO361.out)) k_ hk)); (case aO => exact (by (with_reducible repeat (first | apply Kd.R_alloc | apply Kd.R_drewN | apply Kd.R_drew)); exact Kd.R_mono HO364.out (fun _ hk => hk.2))); (case aS => exact (below_size bB)); (case aL => have := LMc30.out; omega); intro v366 w37 ho hb hg hat; rw [← Ny365.out] at ho; have n0_ := Aside0.mk (Kd.R_over' (rR HO_7.out) (Kd.R_typed (rR HO364.out)) (by decide) hg); have n1_ := Aside0.mk (Kd.R_over' (rR HO_8.out) (Kd.R_typed (rR HO364.out)) (by decide) hg); have n2_ := Aside0.mk (Kd.R_after (ok := (fun _ => True)) (rR HO361.out) hg hat); have n3_ := Aside0.mk (hb); have n4_ := Aside0.mk (ho); clear HO_7; clear HO_8; clear HO361; clear HB; clear HO364; have HO_7 := n0_; have HO_8 := n1_; have HO361 := n2_; have HB := n3_; have HO367 := n4_; clear n0_ n1_ n2_ n3_ n4_; clear ho hb hg hat; obtain ⟨Ao39, co39, eo39⟩ := Kd.R_slice HO_8.out; subst eo39) | ((with_reducible refine gate_callee (f := 34) rfl ?_); refine goesL_ (some 67) rfl rfl Tryd.func34 (by kernel_rfl) rfl #[.slice Ao39 x8_2.length co39, .int .i64 (Int.tmod a1 4)] rfl (by (try simp only [List.map_toArray, List.map_cons, List.map_nil]); first | done | rfl | (simp only [List.length_drop, List.length_take]; rfl)) ?_; (with_reducible refine (chunk_values.calls k2 _ _ x8_2 (Int.tmod a1 4) t368 _ ?side1 ?side2 ?sideT A31.out).mono ?_); (case sideT => exact Go.Proofs.YtmlbppfcpejlpaaDoor.W08.Tab.below HTAB.out bB); (case side1 => exact cC (Kd.R_reads' HO_8.out).2.2); (case side2 => exact (Kd.R_reads' HO_8.out).2.1); rintro e w40 ⟨v369, rfl, ho0, hb⟩; refine ⟨_, rfl, ?_⟩; have n0_ := Aside0.mk (Kd.R_below (rR HO_7.out) hb); have n1_ := Aside0.mk (Kd.R_below (rR HO_8.out) hb); have n2_ := Aside0.mk (Kd.R_elder' (rR HO361.out) (Kd.R_base ho0) hb); have n3_ := Aside0.mk (Kd.R_elder' (rR HO367.out) (Kd.R_base ho0) hb); have n4_ := Aside0.mk (Kd.R_lower (Kd.R_new' (Kd.R_new' ho0 (Kd.R_lt (rR HO361.out))) (Kd.R_lt (rR HO367.out))) (below_size bB)); have n5_ := Aside0.mk (below_step bB hb); clear HO_7; clear HO_8; clear HO361; clear HO367; clear HB; have HO_7 := n0_; have HO_8 := n1_; have HO361 := n2_; have HO367 := n3_; have HO370 := n4_; have HB := n5_; clear n0_ n1_ n2_ n3_ n4_ n5_; (try clear hb ho0); obtain ⟨Ao42, co42, eo42⟩ := Kd.R_slice HO370.out; subst eo42) | ((with_reducible refine gate_builtin (b := .append) (xs := #[.tmp 63, .tmp 67]) rfl ?_); at_builtin; refine Kd.R_append_rows (Kd.int .u8) (w0 := w) w.heap.size rfl (.tmp 63) (.tmp 67) 23 5 (.int .u8 0) 1 rfl Tryd.underlying23 info5 rfl (by decide) (by omega) v366 y365 t368 _ _ _ (fun k_ => some k_ ≠ (.slice Ao38 t358.length co38 : Value).ownBlock ∧ some k_ ≠ (.slice Ao42 t368.length co42 : Value).ownBlock) (fun _ => False) rfl rfl ?aO ?aR (fun _ _ h => h) (fun _ h => h.elim) ?aF ?aB ?aS ?aL ?_; (case aR => repeat (first | exact (Kd.R_reads' HO370.out).2.2 | (with_reducible refine Kd.C_alloc ?_ _) | (with_reducible refine Kd.C_drewN ?_ _) | (with_reducible refine Kd.C_drew ?_))); (case aB => exact bB); (case aF => exact (fun k_ hk => ⟨Kd.fresh' (Kd.R_lt (rR HO361.out)) k_ hk, Kd.fresh' (Kd.R_lt (rR HO370.out)) k_ hk⟩)); (case aO => exact (rR HO367.out)); (case aS => exact (below_size bB)); (case aL => have := LMc32.out; omega); intro v372 w41 ho hb hg hat; rw [← Ny371.out] at ho; have n0_ := Aside0.mk (Kd.R_over' (rR HO_7.out) (Kd.R_typed (rR HO367.out)) (by decide) hg); have n1_ := Aside0.mk (Kd.R_over' (rR HO_8.out) (Kd.R_typed (rR HO367.out)) (by decide) hg); have n2_ := Aside0.mk (Kd.R_after (ok := (fun k_ => some k_ ≠ (.slice Ao42 t368.length co42 : Value).ownBlock)) (by (with_reducible repeat (first | apply Kd.R_alloc | apply Kd.R_drewN | apply Kd.R_drew)); exact Kd.R_mono HO361.out (fun _ hk => ⟨hk.2, hk.1.2⟩)) hg hat); have n3_ := Aside0.mk (Kd.R_after (ok := (fun k_ => some k_ ≠ (.slice Ao38 t358.length co38 : Value).ownBlock)) (by (with_reducible repeat (first | apply Kd.R_alloc | apply Kd.R_drewN | apply Kd.R_drew)); exact Kd.R_mono HO370.out (fun _ hk => ⟨hk.1.2, hk.2⟩)) hg hat); have n4_ := Aside0.mk (hb); have n5_ := Aside0.mk (ho); clear HO_7; clear HO_8; clear HO361; clear HO370; clear HB; clear HO367; have HO_7 := n0_; have HO_8 := n1_; have HO361 := n2_; have HO370 := n3_; have HB := n4_; have HO373 := n5_; clear n0_ n1_ n2_ n3_ n4_ n5_; clear ho hb hg hat))
           go_ret2
           exact ⟨_, by first | rfl | (simp [errW_none, errW_some] <;> rfl) | (simp [*, errW_none, errW_some] <;> rfl), by (with_reducible repeat (first | apply Kd.R_alloc | apply Kd.R_drewN | apply Kd.R_drew)); exact Kd.R_mono HO373.out (fun _ hk => trivial), bB⟩
          ·rw [if_neg c32] at H
           exact absurd H (by simp)
         ·rw [if_neg c30] at H
          exact absurd H (by simp)
        ·rw [if_neg c29] at H
         have c29b0 : (t359 == 0) = false := beq_eq_false_iff_ne.mpr c29
         have c29b1 : (t359 != 0) = true := bne_iff_ne.mpr c29
         simp only [Option.some.injEq, Prod.mk.injEq] at H
         obtain ⟨rfl, rfl⟩ := H
         obtain ⟨Ao43, co43, eo43⟩ := Kd.R_slice HO_7.out
         subst eo43
         go_wp2_with (first | ((with_reducible refine gate_callee (f := 33) rfl ?_); refine goesL_ (some 45) rfl rfl Tryd.func33 (by kernel_rfl) rfl #[.slice Ao43 x7_2.length co43, .int .i64 (wrap64 (Int.tdiv a1 4))] rfl (by (try simp only [List.map_toArray, List.map_cons, List.map_nil]); first | done | rfl | (simp only [List.length_drop, List.length_take]; rfl)) ?_; (with_reducible refine (times_Put.calls k2 _ _ x7_2 (wrap64 (Int.tdiv a1 4)) t358 t359 _ ?side1 ?side2 A28.out).mono ?_); (case side1 => exact cC (Kd.R_reads' HO_7.out).2.2); (case side2 => exact (Kd.R_reads' HO_7.out).2.1); rintro e w44 ⟨v360, rfl, ho0, hb⟩; refine ⟨_, rfl, ?_⟩; have n0_ := Aside0.mk (Kd.R_below (rR HO_7.out) hb); have n1_ := Aside0.mk (Kd.R_below (rR HO_8.out) hb); have n2_ := Aside0.mk (Kd.R_lower ho0 (below_size bB)); have n3_ := Aside0.mk (below_step bB hb); clear HO_7; clear HO_8; clear HB; have HO_7 := n0_; have HO_8 := n1_; have HO361 := n2_; have HB := n3_; clear n0_ n1_ n2_ n3_; (try clear hb ho0)))
         go_ret2
         exact ⟨_, by first | rfl | (simp [errW_none, errW_some] <;> rfl) | (simp [*, errW_none, errW_some] <;> rfl), by first | exact Kd.R_nil _ _ _ _ _ | exact Kd.N_nil _ _ _ _ _ | exact Kd.V_nil _ _ _ _ _ | exact Kd.Q_nil _ _ _ _ _ | exact Kd.S_nil _ _ _ _ _, bB⟩
    ·rw [if_neg c7] at H
     have c7b0 : (t343 == 0) = false := beq_eq_false_iff_ne.mpr c7
     have c7b1 : (t343 != 0) = true := bne_iff_ne.mpr c7
     simp only [Option.some.injEq, Prod.mk.injEq] at H
     obtain ⟨rfl, rfl⟩ := H
     go_wp2_with (first | ((with_reducible refine gate_callee (f := 21) rfl ?_); refine goesL_ (some 20) rfl rfl Tryd.func21 (by kernel_rfl) rfl #[.slice A0 l0.length c0] rfl (by (try simp only [List.map_toArray, List.map_cons, List.map_nil]); first | done | rfl | (simp only [List.length_drop, List.length_take]; rfl)) ?_; (with_reducible refine (chunk_Right.calls kj2 _ _ l0 t343 _ ?side1 ?side2 A6.out).mono ?_); (case side1 => exact cC (Kd.C_below HR0.out HB.out)); (case side2 => exact HC0.out); rintro e w' ⟨rfl, ⟨nd, rfl⟩⟩; refine ⟨_, rfl, ?_⟩))
     go_ret2
     exact ⟨_, by first | rfl | (simp [errW_none, errW_some] <;> rfl) | (simp [*, errW_none, errW_some] <;> rfl), by first | exact Kd.R_nil _ _ _ _ _ | exact Kd.N_nil _ _ _ _ _ | exact Kd.V_nil _ _ _ _ _ | exact Kd.Q_nil _ _ _ _ _ | exact Kd.S_nil _ _ _ _ _, bB⟩


/-! ### chunk_Best: function 20 -/
def chunk_Best.l0 : Nat → List (S51) → Int → Int → Int → Option (Int × Int)
 | 0, _, _, _, _ => none
 | k + 1, x0, x5, x6, x15 => if x15 < 16 then ((chunk_Encode.f k x0 x15).bind fun bt587 => (if x15 = 0 then (chunk_Best.l0 k x0 x15 (bt587.1.length : Int) (wrap64 (x15 + 1))) else (if (bt587.1.length : Int) < x6 then (chunk_Best.l0 k x0 x15 (bt587.1.length : Int) (wrap64 (x15 + 1))) else (chunk_Best.l0 k x0 x5 x6 (wrap64 (x15 + 1)))))) else (some (x5, 0))
def chunk_Best.f (k : Nat) (l0 : List (S51)) : Option (Int × Int) := (chunk_Right.f k l0).bind fun t586 => (if t586 = 0 then (chunk_Best.l0 k l0 0 0 0) else (some (0, t586)))
theorem chunk_Best.mono_l : ∀ k, (∀ y0 y1 y2 y3, LeO (chunk_Best.l0 k y0 y1 y2 y3) (chunk_Best.l0 (k + 1) y0 y1 y2 y3))
 | 0 => fun _ _ _ _ r h => by simp [chunk_Best.l0] at h
 | k + 1 => by
  have ih0 := chunk_Best.mono_l k
  ·intro y0 y1 y2 y3
   unfold chunk_Best.l0
   repeat' first
   | (with_reducible exact ih0 _ _ _ _)
   | (with_reducible exact chunk_Encode.mono _ _ _)
   | (with_reducible exact chunk_Right.mono _ _)
   | (with_reducible exact LeO.refl _)
   | (with_reducible exact LeO.none _)
   | (with_reducible refine LeO.ite ?_ ?_)
   | (with_reducible refine LeO.bind ?_ (fun _ => ?_))
   | exact ih0 _ _ _ _
   | exact chunk_Encode.mono _ _ _
   | exact chunk_Right.mono _ _
   | exact LeO.none _
   | refine LeO.ite ?_ ?_
   | refine LeO.bind ?_ (fun _ => ?_)
theorem chunk_Best.mono : ∀ a0 k, LeO (chunk_Best.f k a0) (chunk_Best.f (k + 1) a0) := by
 intro a0 k
 have ih0 := chunk_Best.mono_l k
 unfold chunk_Best.f
 repeat' first
   | (with_reducible exact ih0 _ _ _ _)
   | (with_reducible exact chunk_Encode.mono _ _ _)
   | (with_reducible exact chunk_Right.mono _ _)
   | (with_reducible exact LeO.refl _)
   | (with_reducible exact LeO.none _)
   | (with_reducible refine LeO.ite ?_ ?_)
   | (with_reducible refine LeO.bind ?_ (fun _ => ?_))
   | exact ih0 _ _ _ _
   | exact chunk_Encode.mono _ _ _
   | exact chunk_Right.mono _ _
   | exact LeO.none _
   | refine LeO.ite ?_ ?_
   | refine LeO.bind ?_ (fun _ => ?_)
set_option maxHeartbeats 8000000 in
set_option maxRecDepth 100000 in
theorem chunk_Best.calls (k : Nat) (A0 : Option Addr) (c0 : Nat) (l0 : List (S51)) (r1 : Int) (r2 : Int) (w : World) (hr0 : Kd.C k51 w A0 l0.length l0) (hc0 : l0.length ≤ c0) (hT_ : Go.Proofs.YtmlbppfcpejlpaaDoor.W08.Tab w) (h : chunk_Best.f k l0 = some (r1, r2)) :
  Calls Tryd.prog 20 #[.slice A0 l0.length c0] w fun e w' => e = .returned (.tuple #[.int .i64 r1, .int .i64 r2]) ∧ Below w.heap.size w w' := by
 have HTAB := Aside0.mk hT_
 clear hT_
 have HR0 := Aside0.mk hr0
 have HC0 := Aside0.mk hc0
 clear hr0 hc0
 have HB := Aside0.mk (Below.refl w.heap.size w)
 have H : ((chunk_Right.f k l0).bind fun t586 => (if t586 = 0 then (chunk_Best.l0 k l0 0 0 0) else (some (0, t586)))) = some (r1, r2) := h
 clear h
 replace H := Option.bind_eq_some_iff.mp H
 obtain ⟨t586, A20, H⟩ := H
 replace H : (if t586 = 0 then (chunk_Best.l0 k l0 0 0 0) else (some (0, t586))) = some (r1, r2) := H
 have A2 := Aside0.mk A20
 clear A20
 by_cases c3 : t586 = 0
 ·rw [if_pos c3] at H
  have c3b0 : (t586 == 0) = true := beq_iff_eq.mpr c3
  have c3b1 : (t586 != 0) = false := bne_eq_false_iff_eq.mpr c3
  clear c3
  have H' := Aside0.mk H
  clear H
  go_enter Tryd.func20, Tryd.ntmps20
  go_wp2_with (first | ((with_reducible refine gate_callee (f := 21) rfl ?_); refine goesL_ (some 11) rfl rfl Tryd.func21 (by kernel_rfl) rfl #[.slice A0 l0.length c0] rfl (by (try simp only [List.map_toArray, List.map_cons, List.map_nil]); first | done | rfl | (simp only [List.length_drop, List.length_take]; rfl)) ?_; (with_reducible refine (chunk_Right.calls k _ _ l0 t586 _ ?side1 ?side2 A2.out).mono ?_); (case side1 => exact cC HR0.out); (case side2 => exact HC0.out); rintro e w' ⟨rfl, ⟨nd, rfl⟩⟩; refine ⟨_, rfl, ?_⟩))
  go_loopg [5, 6, 15] k (fun kq v5 v6 v15 w' => ∃ (x5_1 : Int) (x6_1 : Int) (x15_1 : Int), v5 = .int .i64 x5_1 ∧ v6 = .int .i64 x6_1 ∧ v15 = .int .i64 x15_1 ∧ Aside0 (chunk_Best.l0 kq l0 x5_1 x6_1 x15_1 = some (r1, r2)) ∧ Aside0 (kq ≤ k) ∧ Aside0 (Below w.heap.size w w'))
  case atStart => exact ⟨(0), (0), (0), (by first | rfl | (simp; done) | (simp [*]; done)), (by first | rfl | (simp; done) | (simp [*]; done)), (by first | rfl | (simp; done) | (simp [*]; done)), H', ⟨Nat.le_refl _⟩, ⟨bB⟩⟩
  case round =>
   clear H'
   (try clear c2);(try clear p2);(try clear c3);(try clear c3b0);(try clear c3b1)
   obtain ⟨x5_1, x6_1, x15_1, rfl, rfl, rfl, HA, HK1, HB⟩ := hrel
   cases gk with
   | zero => exact absurd HA.out (by simp [chunk_Best.l0])
   | succ k1 =>
    have H := HA.out
    clear HA
    simp only [chunk_Best.l0] at H
    by_cases c4 : x15_1 < 16
    ·rw [if_pos c4] at H
     have c4b0 : decide (x15_1 < 16) = true := decide_eq_true c4
     clear c4
     replace H := Option.bind_eq_some_iff.mp H
     obtain ⟨⟨t587, t588⟩, A50, H⟩ := H
     replace H : (if x15_1 = 0 then (chunk_Best.l0 k1 l0 x15_1 (t587.length : Int) (wrap64 (x15_1 + 1))) else (if (t587.length : Int) < x6_1 then (chunk_Best.l0 k1 l0 x15_1 (t587.length : Int) (wrap64 (x15_1 + 1))) else (chunk_Best.l0 k1 l0 x5_1 x6_1 (wrap64 (x15_1 + 1))))) = some (r1, r2) := H
     have A5 := Aside0.mk A50
     clear A50
     by_cases c6 : x15_1 = 0
     ·rw [if_pos c6] at H
      have c6b0 : (x15_1 == 0) = true := beq_iff_eq.mpr c6
      have c6b1 : (x15_1 != 0) = false := bne_eq_false_iff_eq.mpr c6
      clear c6
      have H' := Aside0.mk H
      clear H
      go_wp2_with (first | ((with_reducible refine gate_callee (f := 19) rfl ?_); refine goesL_ (some 21) rfl rfl Tryd.func19 (by kernel_rfl) rfl #[.slice A0 l0.length c0, .int .i64 x15_1] rfl (by (try simp only [List.map_toArray, List.map_cons, List.map_nil]); first | done | rfl | (simp only [List.length_drop, List.length_take]; rfl)) ?_; (with_reducible refine (chunk_Encode.calls k1 _ _ l0 x15_1 t587 t588 _ ?side1 ?side2 ?sideT A5.out).mono ?_); (case sideT => exact Go.Proofs.YtmlbppfcpejlpaaDoor.W08.Tab.below HTAB.out bB); (case side1 => exact cC (Kd.C_below HR0.out HB.out)); (case side2 => exact HC0.out); rintro e w7 ⟨v589, rfl, ho0, hb⟩; refine ⟨_, rfl, ?_⟩; have n0_ := Aside0.mk (Kd.R_lower ho0 (below_size bB)); have n1_ := Aside0.mk (below_step bB hb); clear HB; have HO590 := n0_; have HB := n1_; clear n0_ n1_; (try clear hb ho0); obtain ⟨Ao8, co8, eo8⟩ := Kd.R_slice HO590.out; subst eo8))
      go_roundg k1
      case measure => have := HK1.out; omega
      case rel => exact ⟨(x15_1), ((t587.length : Int)), (wrap64 (x15_1 + 1)), (by first | rfl | (simp; done) | (simp [*]; done)), (by first | rfl | (simp; done) | (simp [*]; done)), (by first | rfl | (simp; done) | (simp [*]; done)), H', ⟨by have := HK1.out; omega⟩, ⟨bB⟩⟩
     ·rw [if_neg c6] at H
      have c6b0 : (x15_1 == 0) = false := beq_eq_false_iff_ne.mpr c6
      have c6b1 : (x15_1 != 0) = true := bne_iff_ne.mpr c6
      by_cases c9 : (t587.length : Int) < x6_1
      ·rw [if_pos c9] at H
       have c9b0 : decide ((t587.length : Int) < x6_1) = true := decide_eq_true c9
       clear c9
       have H' := Aside0.mk H
       clear H
       go_wp2_with (first | ((with_reducible refine gate_callee (f := 19) rfl ?_); refine goesL_ (some 21) rfl rfl Tryd.func19 (by kernel_rfl) rfl #[.slice A0 l0.length c0, .int .i64 x15_1] rfl (by (try simp only [List.map_toArray, List.map_cons, List.map_nil]); first | done | rfl | (simp only [List.length_drop, List.length_take]; rfl)) ?_; (with_reducible refine (chunk_Encode.calls k1 _ _ l0 x15_1 t587 t588 _ ?side1 ?side2 ?sideT A5.out).mono ?_); (case sideT => exact Go.Proofs.YtmlbppfcpejlpaaDoor.W08.Tab.below HTAB.out bB); (case side1 => exact cC (Kd.C_below HR0.out HB.out)); (case side2 => exact HC0.out); rintro e w10 ⟨v589, rfl, ho0, hb⟩; refine ⟨_, rfl, ?_⟩; have n0_ := Aside0.mk (Kd.R_lower ho0 (below_size bB)); have n1_ := Aside0.mk (below_step bB hb); clear HB; have HO590 := n0_; have HB := n1_; clear n0_ n1_; (try clear hb ho0); obtain ⟨Ao11, co11, eo11⟩ := Kd.R_slice HO590.out; subst eo11))
       go_roundg k1
       case measure => have := HK1.out; omega
       case rel => exact ⟨(x15_1), ((t587.length : Int)), (wrap64 (x15_1 + 1)), (by first | rfl | (simp; done) | (simp [*]; done)), (by first | rfl | (simp; done) | (simp [*]; done)), (by first | rfl | (simp; done) | (simp [*]; done)), H', ⟨by have := HK1.out; omega⟩, ⟨bB⟩⟩
      ·rw [if_neg c9] at H
       have c9b0 : decide ((t587.length : Int) < x6_1) = false := decide_eq_false c9
       clear c9
       have H' := Aside0.mk H
       clear H
       go_wp2_with (first | ((with_reducible refine gate_callee (f := 19) rfl ?_); refine goesL_ (some 21) rfl rfl Tryd.func19 (by kernel_rfl) rfl #[.slice A0 l0.length c0, .int .i64 x15_1] rfl (by (try simp only [List.map_toArray, List.map_cons, List.map_nil]); first | done | rfl | (simp only [List.length_drop, List.length_take]; rfl)) ?_; (with_reducible refine (chunk_Encode.calls k1 _ _ l0 x15_1 t587 t588 _ ?side1 ?side2 ?sideT A5.out).mono ?_); (case sideT => exact Go.Proofs.YtmlbppfcpejlpaaDoor.W08.Tab.below HTAB.out bB); (case side1 => exact cC (Kd.C_below HR0.out HB.out)); (case side2 => exact HC0.out); rintro e w12 ⟨v589, rfl, ho0, hb⟩; refine ⟨_, rfl, ?_⟩; have n0_ := Aside0.mk (Kd.R_lower ho0 (below_size bB)); have n1_ := Aside0.mk (below_step bB hb); clear HB; have HO590 := n0_; have HB := n1_; clear n0_ n1_; (try clear hb ho0); obtain ⟨Ao13, co13, eo13⟩ := Kd.R_slice HO590.out; subst eo13))
       go_roundg k1
       case measure => have := HK1.out; omega
       case rel => exact ⟨(x5_1), (x6_1), (wrap64 (x15_1 + 1)), (by first | rfl | (simp; done) | (simp [*]; done)), (by first | rfl | (simp; done) | (simp [*]; done)), (by first | rfl | (simp; done) | (simp [*]; done)), H', ⟨by have := HK1.out; omega⟩, ⟨bB⟩⟩
    ·rw [if_neg c4] at H
     have c4b0 : decide (x15_1 < 16) = false := decide_eq_false c4
     clear c4
     simp only [Option.some.injEq, Prod.mk.injEq] at H
     obtain ⟨rfl, rfl⟩ := H
     go_wp2
     go_ret2
     exact ⟨by first | rfl | (simp [errW_none, errW_some] <;> rfl) | (simp [*, errW_none, errW_some] <;> rfl), bB⟩
 ·rw [if_neg c3] at H
  have c3b0 : (t586 == 0) = false := beq_eq_false_iff_ne.mpr c3
  have c3b1 : (t586 != 0) = true := bne_iff_ne.mpr c3
  simp only [Option.some.injEq, Prod.mk.injEq] at H
  obtain ⟨rfl, rfl⟩ := H
  go_enter Tryd.func20, Tryd.ntmps20
  go_wp2_with (first | ((with_reducible refine gate_callee (f := 21) rfl ?_); refine goesL_ (some 11) rfl rfl Tryd.func21 (by kernel_rfl) rfl #[.slice A0 l0.length c0] rfl (by (try simp only [List.map_toArray, List.map_cons, List.map_nil]); first | done | rfl | (simp only [List.length_drop, List.length_take]; rfl)) ?_; (with_reducible refine (chunk_Right.calls k _ _ l0 t586 _ ?side1 ?side2 A2.out).mono ?_); (case side1 => exact cC HR0.out); (case side2 => exact HC0.out); rintro e w' ⟨rfl, ⟨nd, rfl⟩⟩; refine ⟨_, rfl, ?_⟩))
  go_ret2
  exact ⟨by first | rfl | (simp [errW_none, errW_some] <;> rfl) | (simp [*, errW_none, errW_some] <;> rfl), bB⟩


/-! ### chunk_Codec: function 15 -/
def chunk_Codec.f (a0 : Int) (a1 : Int) : Option (Int) := if a0 < 0 then (some (-1)) else (if a0 ≥ 4 then (some (-1)) else (if a1 < 0 then (some (-1)) else (if a1 ≥ 4 then (some (-1)) else (some (wrap64 ((wrap64 (4 * a0)) + a1))))))
set_option maxHeartbeats 8000000 in
set_option maxRecDepth 100000 in
theorem chunk_Codec.calls (a0 : Int) (a1 : Int) (r : Int) (w : World) (h : chunk_Codec.f a0 a1 = some r) :
  Calls Tryd.prog 15 #[.int .i64 a0, .int .i64 a1] w fun e w' => e = .returned (.int .i64 r) ∧ Drawn0 w w' := by
 have H : (if a0 < 0 then (some (-1)) else (if a0 ≥ 4 then (some (-1)) else (if a1 < 0 then (some (-1)) else (if a1 ≥ 4 then (some (-1)) else (some (wrap64 ((wrap64 (4 * a0)) + a1))))))) = some r := h
 clear h
 by_cases c3 : a0 < 0
 ·rw [if_pos c3] at H
  have c3b0 : decide (a0 < 0) = true := decide_eq_true c3
  clear c3
  obtain rfl := Option.some.inj H
  go_enter Tryd.func15, Tryd.ntmps15
  go_wp2
  go_ret
  exact ⟨by first | rfl | (simp; done) | (simp [*]; done), by repeat (first | exact Drawn0.refl _ | apply Drawn0.step)⟩
 ·rw [if_neg c3] at H
  have c3b0 : decide (a0 < 0) = false := decide_eq_false c3
  clear c3
  by_cases c4 : a0 ≥ 4
  ·rw [if_pos c4] at H
   have c4b0 : decide (4 ≤ a0) = true := decide_eq_true c4
   clear c4
   obtain rfl := Option.some.inj H
   go_enter Tryd.func15, Tryd.ntmps15
   go_wp2
   go_ret
   exact ⟨by first | rfl | (simp; done) | (simp [*]; done), by repeat (first | exact Drawn0.refl _ | apply Drawn0.step)⟩
  ·rw [if_neg c4] at H
   have c4b0 : decide (4 ≤ a0) = false := decide_eq_false c4
   clear c4
   by_cases c5 : a1 < 0
   ·rw [if_pos c5] at H
    have c5b0 : decide (a1 < 0) = true := decide_eq_true c5
    clear c5
    obtain rfl := Option.some.inj H
    go_enter Tryd.func15, Tryd.ntmps15
    go_wp2
    go_ret
    exact ⟨by first | rfl | (simp; done) | (simp [*]; done), by repeat (first | exact Drawn0.refl _ | apply Drawn0.step)⟩
   ·rw [if_neg c5] at H
    have c5b0 : decide (a1 < 0) = false := decide_eq_false c5
    clear c5
    by_cases c6 : a1 ≥ 4
    ·rw [if_pos c6] at H
     have c6b0 : decide (4 ≤ a1) = true := decide_eq_true c6
     clear c6
     obtain rfl := Option.some.inj H
     go_enter Tryd.func15, Tryd.ntmps15
     go_wp2
     go_ret
     exact ⟨by first | rfl | (simp; done) | (simp [*]; done), by repeat (first | exact Drawn0.refl _ | apply Drawn0.step)⟩
    ·rw [if_neg c6] at H
     have c6b0 : decide (4 ≤ a1) = false := decide_eq_false c6
     clear c6
     obtain rfl := Option.some.inj H
     go_enter Tryd.func15, Tryd.ntmps15
     go_wp2
     go_ret
     exact ⟨by first | rfl | (simp; done) | (simp [*]; done), by repeat (first | exact Drawn0.refl _ | apply Drawn0.step)⟩


/-! ### bytes_Equal: function 40 -/
def bytes_Equal.f (l0 : List Int) (l1 : List Int) : Option (Bool) := some ((strOfNums l0).toList == (strOfNums l1).toList)
set_option maxHeartbeats 8000000 in
set_option maxRecDepth 100000 in
theorem bytes_Equal.calls (A0 : Option Addr) (c0 : Nat) (l0 : List Int) (A1 : Option Addr) (c1 : Nat) (l1 : List Int) (r : Bool) (w : World) (hr0 : Kd.C (Kd.int .u8) w A0 l0.length l0) (hc0 : l0.length ≤ c0) (hr1 : Kd.C (Kd.int .u8) w A1 l1.length l1) (hc1 : l1.length ≤ c1) (h : bytes_Equal.f l0 l1 = some r) :
  Calls Tryd.prog 40 #[.slice A0 l0.length c0, .slice A1 l1.length c1] w fun e w' => e = .returned (.bool r) ∧ Drawn0 w w' := by
 have HR0 := Aside0.mk hr0
 have HC0 := Aside0.mk hc0
 clear hr0 hc0
 have HR1 := Aside0.mk hr1
 have HC1 := Aside0.mk hc1
 clear hr1 hc1
 have H : (some ((strOfNums l0).toList == (strOfNums l1).toList)) = some r := h
 clear h
 obtain rfl := Option.some.inj H
 have hcv3 := Kd.C_string (P := Tryd.prog) (A := A0) (c := c0) Tryd.underlying23 Tryd.underlying5 Tryd.underlying9 HR0.out
 have hcv4 := Kd.C_string (P := Tryd.prog) (A := A1) (c := c1) Tryd.underlying23 Tryd.underlying5 Tryd.underlying9 HR1.out
 go_enter Tryd.func40, Tryd.ntmps40
 go_wp2
 go_ret
 exact ⟨by first | rfl | (simp; done) | (simp [*]; done), by repeat (first | exact Drawn0.refl _ | apply Drawn0.step)⟩


/-! ### chunk_getRaw: function 54 -/
/-- Of this function nothing is told (no law that is proved here comes to it). -/
def chunk_getRaw.f (l0 : List Int) (a1 : Int) : Option (List Int × Int × Int) := none
theorem chunk_getRaw.calls (A0 : Option Addr) (c0 : Nat) (l0 : List Int) (a1 : Int) (r1 : List Int) (r2 : Int) (r3 : Int) (w : World) (hr0 : Kd.C (Kd.int .u8) w A0 l0.length l0) (hc0 : l0.length ≤ c0) (h : chunk_getRaw.f l0 a1 = some (r1, r2, r3)) :
  Calls Tryd.prog 54 #[.slice A0 l0.length c0, .int .i64 a1] w fun e w' => ∃ v0_ : Value, e = .returned (.tuple #[v0_, .int .i64 r2, .int .i64 r3]) ∧ Kd.R (Kd.int .u64) 34 w' w.heap.size (fun _ => True) v0_ r1 ∧ Below w.heap.size w w' := by
 cases h


/-! ### bytes_HasPrefix: function 31 -/
def bytes_HasPrefix.f (l0 : List Int) (l1 : List Int) : Option (Bool) := if (l0.length : Int) ≥ (l1.length : Int) then (if 0 ≤ (l1.length : Int) then (if (l1.length : Int) ≤ (l0.length : Int) then ((bytes_Equal.f (l0.take ((l1.length : Int) : Int).toNat) l1).bind fun t162 => (some t162)) else (none)) else (none)) else (some false)
set_option maxHeartbeats 8000000 in
set_option maxRecDepth 100000 in
theorem bytes_HasPrefix.calls (A0 : Option Addr) (c0 : Nat) (l0 : List Int) (A1 : Option Addr) (c1 : Nat) (l1 : List Int) (r : Bool) (w : World) (hr0 : Kd.C (Kd.int .u8) w A0 l0.length l0) (hc0 : l0.length ≤ c0) (hr1 : Kd.C (Kd.int .u8) w A1 l1.length l1) (hc1 : l1.length ≤ c1) (h : bytes_HasPrefix.f l0 l1 = some r) :
  Calls Tryd.prog 31 #[.slice A0 l0.length c0, .slice A1 l1.length c1] w fun e w' => e = .returned (.bool r) ∧ Drawn0 w w' := by
 have HR0 := Aside0.mk hr0
 have HC0 := Aside0.mk hc0
 clear hr0 hc0
 have HR1 := Aside0.mk hr1
 have HC1 := Aside0.mk hc1
 clear hr1 hc1
 have H : (if (l0.length : Int) ≥ (l1.length : Int) then (if 0 ≤ (l1.length : Int) then (if (l1.length : Int) ≤ (l0.length : Int) then ((bytes_Equal.f (l0.take ((l1.length : Int) : Int).toNat) l1).bind fun t162 => (some t162)) else (none)) else (none)) else (some false)) = some r := h
 clear h
 by_cases c3 : (l0.length : Int) ≥ (l1.length : Int)
 ·rw [if_pos c3] at H
  have c3b0 : decide ((l1.length : Int) ≤ (l0.length : Int)) = true := decide_eq_true c3
  have c3b1 : decide (l1.length ≤ l0.length) = true := decide_eq_true (Int.ofNat_le.mp c3)
  clear c3
  by_cases c4 : 0 ≤ (l1.length : Int)
  ·rw [if_pos c4] at H
   have c4b0 := eq_true c4
   have c4b1 : decide (0 ≤ (l1.length : Int)) = true := decide_eq_true c4
   clear c4
   by_cases c5 : (l1.length : Int) ≤ (l0.length : Int)
   ·rw [if_pos c5] at H
    have c5b0 := eq_true c5
    have c5b1 : decide ((l1.length : Int) ≤ (l0.length : Int)) = true := decide_eq_true c5
    clear c5
    replace H := Option.bind_eq_some_iff.mp H
    obtain ⟨t162, A60, H⟩ := H
    replace H : (some t162) = some r := H
    have A6 := Aside0.mk A60
    clear A60
    obtain rfl := Option.some.inj H
    obtain ⟨i07, hi07, _, hsz7, _⟩ := info_parts info5
    obtain ⟨hcut7, hA7, hC7⟩ := print_take_of (P := Tryd.prog) (Value.int .u8) 0 23 5 .i64 Tryd.underlying23 hi07 hsz7 A0 c0 l0 (l1.length : Int) (of_decide_eq_true (by first | (with_reducible assumption) | assumption)) (of_decide_eq_true (by first | (with_reducible assumption) | assumption)) HC0.out
    have HR161 := Aside0.mk (Kd.C_of_reads (h1 := fun _ => rfl) (hA7 _ (Kd.reads_of_C HR0.out)))
    have HC161 := Aside0.mk hC7
    clear hA7 hC7 hi07 hsz7
    obtain ⟨yq7, hyq7⟩ : ∃ y_ : List Int, y_ = l0.take ((l1.length : Int) : Int).toNat := ⟨_, rfl⟩
    rw [← hyq7] at hcut7 HR161 HC161
    have eyq7 : (l0.take ((l1.length : Int) : Int).toNat) = yq7 := hyq7.symm
    (try rw [eyq7] at A6)
    (try rw [eyq7] at H)
    (try rw [eyq7] at c5b1)
    (try rw [eyq7] at c5b0)
    (try rw [eyq7] at c4b1)
    (try rw [eyq7] at c4b0)
    (try rw [eyq7] at c3b1)
    (try rw [eyq7] at c3b0)
    (try rw [eyq7] at HC1)
    (try rw [eyq7] at HC0)
    have Nyq7 := Aside0.mk hyq7
    clear eyq7 hyq7
    go_enter Tryd.func31, Tryd.ntmps31
    go_wp2_with (first | (go_at_call 40; (with_reducible refine (bytes_Equal.calls _ _ yq7 _ _ l1 t162 _ ?side1 ?side2 ?side3 ?side4 A6.out).mono ?_); (case side1 => exact cC HR161.out); (case side2 => exact HC161.out); (case side3 => exact cC HR1.out); (case side4 => exact HC1.out); rintro e w' ⟨rfl, ⟨nd, rfl⟩⟩))
    go_ret
    exact ⟨by first | rfl | (simp; done) | (simp [*]; done), by repeat (first | exact Drawn0.refl _ | apply Drawn0.step)⟩
   ·rw [if_neg c5] at H
    exact absurd H (by simp)
  ·rw [if_neg c4] at H
   exact absurd H (by simp)
 ·rw [if_neg c3] at H
  have c3b0 : decide ((l1.length : Int) ≤ (l0.length : Int)) = false := decide_eq_false c3
  have c3b1 : decide (l1.length ≤ l0.length) = false := decide_eq_false (fun h => c3 (Int.ofNat_le.mpr h))
  clear c3
  obtain rfl := Option.some.inj H
  go_enter Tryd.func31, Tryd.ntmps31
  go_wp2
  go_ret
  exact ⟨by first | rfl | (simp; done) | (simp [*]; done), by repeat (first | exact Drawn0.refl _ | apply Drawn0.step)⟩


/-! ### rickref04_Put: function 25 -/
def rickref04_Put.l0 : Nat → List Int → Int → Int → Option (List Int)
 | 0, _, _, _ => none
 | k + 1, x0, x1, x7 => if x7 ≥ 0 then (if 0 ≤ x7 then (if x0.length < 140737488355328 then (rickref04_Put.l0 k (x0 ++ [(Go.bits .and .u64 (shr .u64 x1 x7) 1) % 256]) x1 (wrap64 (x7 - 1))) else (none)) else (none)) else (some x0)
def rickref04_Put.f (k : Nat) (l0 : List Int) (a1 : Int) (a2 : Int) : Option (List Int) := rickref04_Put.l0 k l0 a1 ((mn (mx a2 0) 64) - 1)
theorem rickref04_Put.mono_l : ∀ k, (∀ y0 y1 y2, LeO (rickref04_Put.l0 k y0 y1 y2) (rickref04_Put.l0 (k + 1) y0 y1 y2))
 | 0 => fun _ _ _ r h => by simp [rickref04_Put.l0] at h
 | k + 1 => by
  have ih0 := rickref04_Put.mono_l k
  ·intro y0 y1 y2
   unfold rickref04_Put.l0
   repeat' first
   | (with_reducible exact ih0 _ _ _)
   | (with_reducible exact LeO.refl _)
   | (with_reducible exact LeO.none _)
   | (with_reducible refine LeO.ite ?_ ?_)
   | (with_reducible refine LeO.bind ?_ (fun _ => ?_))
   | exact ih0 _ _ _
   | exact LeO.none _
   | refine LeO.ite ?_ ?_
   | refine LeO.bind ?_ (fun _ => ?_)
theorem rickref04_Put.mono : ∀ a0 a1 a2 k, LeO (rickref04_Put.f k a0 a1 a2) (rickref04_Put.f (k + 1) a0 a1 a2) := by
 intro a0 a1 a2 k
 have ih0 := rickref04_Put.mono_l k
 unfold rickref04_Put.f
 repeat' first
   | (with_reducible exact ih0 _ _ _)
   | (with_reducible exact LeO.refl _)
   | (with_reducible exact LeO.none _)
   | (with_reducible refine LeO.ite ?_ ?_)
   | (with_reducible refine LeO.bind ?_ (fun _ => ?_))
   | exact ih0 _ _ _
   | exact LeO.none _
   | refine LeO.ite ?_ ?_
   | refine LeO.bind ?_ (fun _ => ?_)
set_option maxHeartbeats 8000000 in
set_option maxRecDepth 100000 in
theorem rickref04_Put.calls (k : Nat) (P0_ : Nat → Prop) (u9000_ : Value) (l0 : List Int) (a1 : Int) (a2 : Int) (r : List Int) (w0 w : World) (hB : Below w0.heap.size w0 w) (ho0 : Kd.R (Kd.int .u8) 5 w w0.heap.size P0_ u9000_ l0) (h : rickref04_Put.f k l0 a1 a2 = some r) :
  Calls Tryd.prog 25 #[u9000_, .int .u64 a1, .int .i64 a2] w fun e w' => ∃ v0_ : Value, e = .returned (v0_) ∧ Kd.R (Kd.int .u8) 5 w' w0.heap.size (fun k_ => (P0_ k_ ∨ w.heap.size ≤ k_)) v0_ r ∧ Below w0.heap.size w0 w' ∧ Kept w w' (fun k_ => P0_ k_) := by
 have HO0 := Aside0.mk (show Kd.R (Kd.int .u8) 5 w w0.heap.size (fun k_ => (P0_ k_ ∨ w.heap.size ≤ k_)) u9000_ l0 from Kd.R_mono ho0 (fun k_ hk => (.inl hk)))
 have HK := Aside0.mk (Kept.refl w (fun k_ => P0_ k_))
 have HW0 := Aside0.mk hB.size
 have HB := Aside0.mk hB
 clear hB
 have H : (rickref04_Put.l0 k l0 a1 ((mn (mx a2 0) 64) - 1)) = some r := h
 clear h
 obtain ⟨ji4, hji4⟩ : ∃ j_ : Int, (mx a2 0) = j_ := ⟨_, rfl⟩
 replace H : (rickref04_Put.l0 k l0 a1 ((mn (ji4) 64) - 1)) = some r := by first | (rw [hji4] at H; exact H) | (simp only [hji4] at H ⊢; exact H)
 (try (have hji4l : 0 ≤ ji4 := by (rw [← hji4]; unfold mx; (repeat' split) <;> omega)))
 (try (have hji4m : 0 ≤ ji4 := by omega))
 have hji4_ : (if a2 < 0 then 0 else a2) = ji4 := hji4
 obtain ⟨ji5, hji5⟩ : ∃ j_ : Int, (mn (ji4) 64) = j_ := ⟨_, rfl⟩
 replace H : (rickref04_Put.l0 k l0 a1 ((ji5) - 1)) = some r := by first | (rw [hji5] at H; exact H) | (simp only [hji5] at H ⊢; exact H)
 have hji5_ : (if 64 < (ji4) then 64 else (ji4)) = ji5 := hji5
 have H' := Aside0.mk H
 clear H
 go_enter Tryd.func25, Tryd.ntmps25
 go_wp2
 go_loopg [0, 7] k (fun kq v0 v7 w' => ∃ (x0_1 : List Int) (x7_1 : Int), v7 = .int .i64 x7_1 ∧ Aside0 (rickref04_Put.l0 kq x0_1 a1 x7_1 = some r) ∧ Aside0 (kq ≤ k) ∧ Aside0 (Kd.R (Kd.int .u8) 5 w' w0.heap.size (fun k_ => (P0_ k_ ∨ w.heap.size ≤ k_)) v0 x0_1) ∧ Aside0 (Kept w w' (fun k_ => P0_ k_)) ∧ Aside0 (Below w0.heap.size w0 w'))
 case atStart => exact ⟨(l0), ((ji5) - 1), (by first | rfl | (simp; done) | (simp only [← hji5] <;> (first | rfl | simp)) | (simp [*]; done)), H', ⟨Nat.le_refl _⟩, ⟨rR HO0.out⟩, ⟨by repeat (first | (with_reducible first | exact HK.out | apply Kept.alloc | apply Kept.drewN | apply Kept.drew) | exact HK.out)⟩, ⟨bB⟩⟩
 case round =>
  clear H'
  (try clear c2);(try clear p2)
  obtain ⟨x0_1, x7_1, rfl, HA, HK1, HO_0, HK, HB⟩ := hrel
  cases gk with
  | zero => exact absurd HA.out (by simp [rickref04_Put.l0])
  | succ k1 =>
   have H := HA.out
   clear HA
   simp only [rickref04_Put.l0] at H
   by_cases c6 : x7_1 ≥ 0
   ·rw [if_pos c6] at H
    have c6b0 : decide (0 ≤ x7_1) = true := decide_eq_true c6
    clear c6
    by_cases c7 : 0 ≤ x7_1
    ·rw [if_pos c7] at H
     have c7b0 := eq_true c7
     have c7b1 : decide (0 ≤ x7_1) = true := decide_eq_true c7
     clear c7
     obtain ⟨ji8, hji8⟩ : ∃ j_ : Int, (shr .u64 a1 x7_1) = j_ := ⟨_, rfl⟩
     replace H : (if x0_1.length < 140737488355328 then (rickref04_Put.l0 k1 (x0_1 ++ [(Go.bits .and .u64 (ji8) 1) % 256]) a1 (wrap64 (x7_1 - 1))) else (none)) = some r := by first | (rw [hji8] at H; exact H) | (simp only [hji8] at H ⊢; exact H)
     have hji8_ : (a1 / 2 ^ min x7_1.toNat 64) = ji8 := hji8
     have hji8z : x7_1 ≤ 64 → (a1 / 2 ^ x7_1.toNat) = ji8 := shr_small hji8
     by_cases c9 : x0_1.length < 140737488355328
     ·rw [if_pos c9] at H
      have LMc9 := Aside0.mk c9
      clear c9
      obtain ⟨y106, hy106⟩ : ∃ y_ : List Int, y_ = (x0_1 ++ [(Go.bits .and .u64 (ji8) 1) % 256]) := ⟨_, rfl⟩
      replace H : (rickref04_Put.l0 k1 y106 a1 (wrap64 (x7_1 - 1))) = some r := by first | (rw [hy106]; with_reducible exact H) | (have H2_ := (Option.bind_some _ _).symm.trans H; rw [hy106]; with_reducible exact H2_) | (have H2_ := (Option.bind_some _ _).symm.trans H; with_reducible exact H2_) | with_reducible exact H | (rw [hy106]; exact H) | exact H
      have Ny106 := Aside0.mk hy106
      clear hy106
      have H' := Aside0.mk H
      clear H
      go_wp2_with (first | ((with_reducible refine gate_builtin (b := .append) (xs := #[.tmp 16, .tmp 22]) rfl ?_); at_builtin; refine Kd.R_append (Kd.int .u8) (w0 := w0) w0.heap.size rfl (.tmp 16) (.tmp 22) 23 5 (.int .u8 0) 1 rfl Tryd.underlying23 info5 rfl (by decide) (by omega) u0 x0_1 ((Go.bits .and .u64 (ji8) 1) % 256) [.int .u8 ((Go.bits .and .u64 (ji8) 1) % 256)] (fun k_ => (P0_ k_ ∨ w.heap.size ≤ k_)) (fun _ => False) rfl rfl ?aP (fun _ hk => hk.elim) ?aF ?aO ?aB ?aS ?aL ?_; (case aP => exact rfl); (case aB => exact bB); (case aF => exact (fun k_ hk => (.inr (Nat.le_trans (by first | exact HK.out.1 | exact (show Kept w _ (fun k_ => P0_ k_) from by repeat (first | (with_reducible first | exact HK.out | apply Kept.alloc | apply Kept.drewN | apply Kept.drew) | exact HK.out)).1) hk)))); (case aO => exact (rR HO_0.out)); (case aS => exact (below_size bB)); (case aL => have := LMc9.out; omega); intro v107 w10 ho hb hg hat; rw [← Ny106.out] at ho; have n0_ := Aside0.mk (hb); have n1_ := Aside0.mk (Kept.of_grown (S := (fun k_ => P0_ k_)) hg (by repeat (first | (with_reducible first | exact HK.out | apply Kept.alloc | apply Kept.drewN | apply Kept.drew) | exact HK.out)) (fun k_ e_ => (HO_0.out.1 k_ e_))); have n2_ := Aside0.mk (ho); clear HB; clear HK; clear HO_0; have HB := n0_; have HK := n1_; have HO108 := n2_; clear n0_ n1_ n2_; clear ho hb hg hat))
      go_roundg k1
      case measure => have := HK1.out; omega
      case rel => exact ⟨(y106), (wrap64 (x7_1 - 1)), (by first | rfl | (simp; done) | (simp [*]; done)), H', ⟨by have := HK1.out; omega⟩, ⟨rR HO108.out⟩, ⟨by repeat (first | (with_reducible first | exact HK.out | apply Kept.alloc | apply Kept.drewN | apply Kept.drew) | exact HK.out)⟩, ⟨bB⟩⟩
     ·rw [if_neg c9] at H
      exact absurd H (by simp)
    ·rw [if_neg c7] at H
     exact absurd H (by simp)
   ·rw [if_neg c6] at H
    have c6b0 : decide (0 ≤ x7_1) = false := decide_eq_false c6
    clear c6
    obtain rfl := Option.some.inj H
    go_wp2
    go_ret
    exact ⟨_, by first | rfl | (simp [errW_none, errW_some] <;> rfl) | (simp only [← hji4, ← hji5]; first | rfl | (simp [errW_none, errW_some] <;> rfl)) | (simp [*, errW_none, errW_some] <;> rfl), rR HO_0.out, bB, by repeat (first | (with_reducible first | exact HK.out | apply Kept.alloc | apply Kept.drewN | apply Kept.drew) | exact HK.out)⟩

end Go.Proofs.YtmlbppfcpejlpaaDoor.X
