/- Texts of this claim, laid together (wip/merge.py): XTimesGetraw, XTimesDifference, XTimesGettwice, XTimesGot, XTimesGet, XChunkDecode, XRicklaw10Codes, Q05, Q09p. No conditions. -/
import Derived.Test.YtmlbppfcpejlpaaDoorMChunkSizes1
import Derived.Test.YtmlbppfcpejlpaaDoorMChunkSizes3
import Derived.Test.YtmlbppfcpejlpaaDoorMChunkSizes2
namespace Go.Proofs.YtmlbppfcpejlpaaDoor.X
open Go.RowKit Go.Proofs.YtmlbppfcpejlpaaDoorW.PrintWords Go.Proofs.YtmlbppfcpejlpaaDoorW.PrintLast Go.Proofs.YtmlbppfcpejlpaaDoorW.PrintMore
attribute [local go_sem] max2_int min2_int max_two min_two max_three min_three max_four min_four   -- for this text's walks alone
set_option linter.unusedVariables false
set_option linter.unusedSimpArgs false

/-! ### times_getRaw: function 63 -/
def times_getRaw.l0 : Nat → List Int → List Int → Int → Int → Option (List Int × Int)
 | 0, _, _, _, _ => none
 | k + 1, x0, x6, x13, x14 => if x14 < x13 then (if 0 ≤ (wrap64 (8 * x14)) then (if (wrap64 (8 * x14)) ≤ (x0.length : Int) then ((times_number.f k (x0.drop ((wrap64 (8 * x14)) : Int).toNat)).bind fun t377 => (if x6.length < 17592186044416 then (times_getRaw.l0 k x0 (x6 ++ [wrap64 (t377)]) x13 (wrap64 (x14 + 1))) else (none))) else (none)) else (none)) else (some (x6, 0))
def times_getRaw.f (k : Nat) (l0 : List Int) (a1 : Int) : Option (List Int × Int) := if (l0.length : Int) < (wrap64 (8 * a1)) then (some (([] : List Int), 4)) else (times_getRaw.l0 k l0 ([] : List Int) a1 0)
theorem times_getRaw.mono_l : ∀ k, (∀ y0 y1 y2 y3, LeO (times_getRaw.l0 k y0 y1 y2 y3) (times_getRaw.l0 (k + 1) y0 y1 y2 y3))
 | 0 => fun _ _ _ _ r h => by simp [times_getRaw.l0] at h
 | k + 1 => by
  have ih0 := times_getRaw.mono_l k
  ·intro y0 y1 y2 y3
   unfold times_getRaw.l0
   repeat' first
   | (with_reducible exact ih0 _ _ _ _)
   | (with_reducible exact times_number.mono _ _)
   | (with_reducible exact LeO.refl _)
   | (with_reducible exact LeO.none _)
   | (with_reducible refine LeO.ite ?_ ?_)
   | (with_reducible refine LeO.bind ?_ (fun _ => ?_))
   | exact ih0 _ _ _ _
   | exact times_number.mono _ _
   | exact LeO.none _
   | refine LeO.ite ?_ ?_
   | refine LeO.bind ?_ (fun _ => ?_)
theorem times_getRaw.mono : ∀ a0 a1 k, LeO (times_getRaw.f k a0 a1) (times_getRaw.f (k + 1) a0 a1) := by
 intro a0 a1 k
 have ih0 := times_getRaw.mono_l k
 unfold times_getRaw.f
 repeat' first
   | (with_reducible exact ih0 _ _ _ _)
   | (with_reducible exact times_number.mono _ _)
   | (with_reducible exact LeO.refl _)
   | (with_reducible exact LeO.none _)
   | (with_reducible refine LeO.ite ?_ ?_)
   | (with_reducible refine LeO.bind ?_ (fun _ => ?_))
   | exact ih0 _ _ _ _
   | exact times_number.mono _ _
   | exact LeO.none _
   | refine LeO.ite ?_ ?_
   | refine LeO.bind ?_ (fun _ => ?_)
set_option maxHeartbeats 8000000 in
set_option maxRecDepth 100000 in
theorem times_getRaw.calls (k : Nat) (A0 : Option Addr) (c0 : Nat) (l0 : List Int) (a1 : Int) (r1 : List Int) (r2 : Int) (w : World) (hr0 : Kd.C (Kd.int .u8) w A0 l0.length l0) (hc0 : l0.length ≤ c0) (h : times_getRaw.f k l0 a1 = some (r1, r2)) :
  Calls Tryd.prog 63 #[.slice A0 l0.length c0, .int .i64 a1] w fun e w' => ∃ v0_ : Value, e = .returned (.tuple #[v0_, .int .i64 r2]) ∧ Kd.R (Kd.int .i64) 2 w' w.heap.size (fun _ => True) v0_ r1 ∧ Below w.heap.size w w' := by
 have HR0 := Aside0.mk hr0
 have HC0 := Aside0.mk hc0
 clear hr0 hc0
 have HB := Aside0.mk (Below.refl w.heap.size w)
 have H : (if (l0.length : Int) < (wrap64 (8 * a1)) then (some (([] : List Int), 4)) else (times_getRaw.l0 k l0 ([] : List Int) a1 0)) = some (r1, r2) := h
 clear h
 by_cases c3 : (l0.length : Int) < (wrap64 (8 * a1))
 ·rw [if_pos c3] at H
  have c3b0 : decide ((l0.length : Int) < (wrap64 (8 * a1))) = true := decide_eq_true c3
  clear c3
  simp only [Option.some.injEq, Prod.mk.injEq] at H
  obtain ⟨rfl, rfl⟩ := H
  go_enter Tryd.func63, Tryd.ntmps63
  go_wp2
  go_ret2
  exact ⟨_, by first | rfl | (simp [errW_none, errW_some] <;> rfl) | (simp [*, errW_none, errW_some] <;> rfl), by first | exact Kd.R_nil _ _ _ _ _ | exact Kd.N_nil _ _ _ _ _ | exact Kd.V_nil _ _ _ _ _ | exact Kd.Q_nil _ _ _ _ _ | exact Kd.S_nil _ _ _ _ _, bB⟩
 ·rw [if_neg c3] at H
  have c3b0 : decide ((l0.length : Int) < (wrap64 (8 * a1))) = false := decide_eq_false c3
  clear c3
  have H' := Aside0.mk H
  clear H
  go_enter Tryd.func63, Tryd.ntmps63
  go_wp2
  go_loopg [6, 14] k (fun kq v6 v14 w' => ∃ (x6_1 : List Int) (x14_1 : Int), v14 = .int .i64 x14_1 ∧ Aside0 (times_getRaw.l0 kq l0 x6_1 a1 x14_1 = some (r1, r2)) ∧ Aside0 (kq ≤ k) ∧ Aside0 (Kd.R (Kd.int .i64) 2 w' w.heap.size (fun _ => True) v6 x6_1) ∧ Aside0 (Below w.heap.size w w'))
  case atStart => exact ⟨(([] : List Int)), (0), (by first | rfl | (simp; done) | (simp [*]; done)), H', ⟨Nat.le_refl _⟩, ⟨by first | exact Kd.R_nil _ _ _ _ _ | exact Kd.N_nil _ _ _ _ _ | exact Kd.V_nil _ _ _ _ _ | exact Kd.Q_nil _ _ _ _ _ | exact Kd.S_nil _ _ _ _ _⟩, ⟨bB⟩⟩
  case round =>
   clear H'
   (try clear p2);(try clear c3);(try clear c3b0)
   obtain ⟨x6_1, x14_1, rfl, HA, HK1, HO_6, HB⟩ := hrel
   cases gk with
   | zero => exact absurd HA.out (by simp [times_getRaw.l0])
   | succ k1 =>
    have H := HA.out
    clear HA
    simp only [times_getRaw.l0] at H
    by_cases c4 : x14_1 < a1
    ·rw [if_pos c4] at H
     have c4b0 : decide (x14_1 < a1) = true := decide_eq_true c4
     clear c4
     obtain ⟨ji5, hji5⟩ : ∃ j_ : Int, (wrap64 (8 * x14_1)) = j_ := ⟨_, rfl⟩
     replace H : (if 0 ≤ (ji5) then (if (ji5) ≤ (l0.length : Int) then ((times_number.f k1 (l0.drop ((ji5) : Int).toNat)).bind fun t377 => (if x6_1.length < 17592186044416 then (times_getRaw.l0 k1 l0 (x6_1 ++ [wrap64 (t377)]) a1 (wrap64 (x14_1 + 1))) else (none))) else (none)) else (none)) = some (r1, r2) := by first | (rw [hji5] at H; exact H) | (simp only [hji5] at H ⊢; exact H)
     have hji5w : (IntKind.i64.wrap (8 * x14_1)) = ji5 := (i64_w _).trans hji5
     by_cases c6 : 0 ≤ (ji5)
     ·rw [if_pos c6] at H
      have c6b0 := eq_true c6
      have c6b1 : decide (0 ≤ (ji5)) = true := decide_eq_true c6
      clear c6
      by_cases c7 : (ji5) ≤ (l0.length : Int)
      ·rw [if_pos c7] at H
       have c7b0 := eq_true c7
       have c7b1 : decide ((ji5) ≤ (l0.length : Int)) = true := decide_eq_true c7
       clear c7
       replace H := Option.bind_eq_some_iff.mp H
       obtain ⟨t377, A80, H⟩ := H
       replace H : (if x6_1.length < 17592186044416 then (times_getRaw.l0 k1 l0 (x6_1 ++ [wrap64 (t377)]) a1 (wrap64 (x14_1 + 1))) else (none)) = some (r1, r2) := H
       have A8 := Aside0.mk A80
       clear A80
       by_cases c9 : x6_1.length < 17592186044416
       ·rw [if_pos c9] at H
        have LMc9 := Aside0.mk c9
        clear c9
        obtain ⟨y378, hy378⟩ : ∃ y_ : List Int, y_ = (x6_1 ++ [wrap64 (t377)]) := ⟨_, rfl⟩
        replace H : (times_getRaw.l0 k1 l0 y378 a1 (wrap64 (x14_1 + 1))) = some (r1, r2) := by first | (rw [hy378]; with_reducible exact H) | (have H2_ := (Option.bind_some _ _).symm.trans H; rw [hy378]; with_reducible exact H2_) | (have H2_ := (Option.bind_some _ _).symm.trans H; with_reducible exact H2_) | with_reducible exact H | (rw [hy378]; exact H) | exact H
        have Ny378 := Aside0.mk hy378
        clear hy378
        have H' := Aside0.mk H
        clear H
        obtain ⟨i010, hi010, _, hsz10, _⟩ := info_parts info5
        obtain ⟨A10, hcut10, hA10, hC10⟩ := print_drop_of (P := Tryd.prog) (Value.int .u8) 0 23 5 .i64 Tryd.underlying23 hi010 hsz10 A0 c0 l0 (ji5) (of_decide_eq_true (by first | (with_reducible assumption) | assumption)) (of_decide_eq_true (by first | (with_reducible assumption) | assumption)) HC0.out
        have HR376 := Aside0.mk (Kd.C_of_reads (h1 := fun _ => rfl) (hA10 _ (Kd.reads_of_C HR0.out)))
        have HC376 := Aside0.mk hC10
        clear hA10 hC10 hi010 hsz10
        obtain ⟨yq10, hyq10⟩ : ∃ y_ : List Int, y_ = l0.drop ((ji5) : Int).toNat := ⟨_, rfl⟩
        rw [← hyq10] at hcut10 HR376 HC376
        have eyq10 : (l0.drop ((ji5) : Int).toNat) = yq10 := hyq10.symm
        (try rw [eyq10] at H')
        (try rw [eyq10] at Ny378)
        (try rw [eyq10] at H)
        (try rw [eyq10] at LMc9)
        (try rw [eyq10] at A8)
        (try rw [eyq10] at c7b1)
        (try rw [eyq10] at c7b0)
        (try rw [eyq10] at c6b1)
        (try rw [eyq10] at c6b0)
        (try rw [eyq10] at c4b0)
        (try rw [eyq10] at c3b0)
        (try rw [eyq10] at HC0)
        have Nyq10 := Aside0.mk hyq10
        clear eyq10 hyq10
        go_wp2_with (first | ((with_reducible refine gate_callee (f := 71) rfl ?_); refine goesL_ (some 22) rfl rfl Tryd.func71 (by kernel_rfl) rfl #[.slice A10 yq10.length (c0 - (ji5).toNat)] rfl (by (try simp only [List.map_toArray, List.map_cons, List.map_nil]); first | done | (rw [show yq10.length = (l0.length - (ji5).toNat) from List.length_drop] <;> rfl) | (simp only [hji5]; rfl) | rfl | (simp only [List.length_drop, List.length_take]; rfl)) ?_; (with_reducible refine (times_number.calls k1 _ _ yq10 t377 _ ?side1 ?side2 A8.out).mono ?_); (case side1 => exact cC (Kd.C_below HR376.out HB.out)); (case side2 => exact HC376.out); rintro e w' ⟨rfl, ⟨nd, rfl⟩⟩; refine ⟨_, rfl, ?_⟩) | ((with_reducible refine gate_builtin (b := .append) (xs := #[.tmp 17, .tmp 24]) rfl ?_); at_builtin; refine Kd.R_append (Kd.int .i64) (w0 := w) w.heap.size rfl (.tmp 17) (.tmp 24) 68 2 (.int .i64 0) 8 rfl Tryd.underlying68 info2 rfl (by decide) (by omega) u6 x6_1 (wrap64 (t377)) [.int .i64 (wrap64 (t377))] (fun _ => True) (fun _ => False) rfl rfl ?aP (fun _ hk => hk.elim) ?aF ?aO ?aB ?aS ?aL ?_; (case aP => exact rfl); (case aB => exact bB); (case aF => exact (fun _ _ => trivial)); (case aO => exact (rR HO_6.out)); (case aS => exact (below_size bB)); (case aL => have := LMc9.out; omega); intro v379 w11 ho hb hg hat; rw [← Ny378.out] at ho; have n0_ := Aside0.mk (hb); have n1_ := Aside0.mk (ho); clear HB; clear HO_6; have HB := n0_; have HO380 := n1_; clear n0_ n1_; clear ho hb hg hat))
        go_roundg k1
        case measure => have := HK1.out; omega
        case rel => exact ⟨(y378), (wrap64 (x14_1 + 1)), (by first | rfl | (simp; done) | (simp [*]; done)), H', ⟨by have := HK1.out; omega⟩, ⟨rR HO380.out⟩, ⟨bB⟩⟩
       ·rw [if_neg c9] at H
        exact absurd H (by simp)
      ·rw [if_neg c7] at H
       exact absurd H (by simp)
     ·rw [if_neg c6] at H
      exact absurd H (by simp)
    ·rw [if_neg c4] at H
     have c4b0 : decide (x14_1 < a1) = false := decide_eq_false c4
     clear c4
     simp only [Option.some.injEq, Prod.mk.injEq] at H
     obtain ⟨rfl, rfl⟩ := H
     go_wp2
     go_ret2
     exact ⟨_, by first | rfl | (simp [errW_none, errW_some] <;> rfl) | (simp [*, errW_none, errW_some] <;> rfl), rR HO_6.out, bB⟩


/-! ### times_difference: function 74 -/
def times_difference.l0 : Nat → Int → List (S99) → Int → Int → List Int → Int → Bool → Option (Int × Int × Bool)
 | 0, _, _, _, _, _, _, _ => none
 | k + 1, x3, x10, x11, x12, x1000, x1001, x1002 => if x12 < x11 then (if 0 ≤ x12 then (if x12 < (x10.length : Int) then (if ((rd_T99 x10 x12).f2) = 64 then ((bits_Reader_Take.f k x1000 x1001 x1002 ((rd_T99 x10 x12).f2)).bind fun bt406 => (if 0 ≤ (wrap64 (64 - ((rd_T99 x10 x12).f2))) then (some (shr .i64 (wrap64 (shl .u64 bt406.1 (wrap64 (64 - ((rd_T99 x10 x12).f2))))) (wrap64 (64 - ((rd_T99 x10 x12).f2))), bt406.2.1, bt406.2.2)) else (none))) else ((bits_Reader_Take.f k x1000 x1001 x1002 1).bind fun bt409 => (if bt409.1 = 0 then ((bits_Reader_Take.f k x1000 bt409.2.1 bt409.2.2 ((rd_T99 x10 x12).f2)).bind fun bt412 => (if 0 ≤ (wrap64 (64 - ((rd_T99 x10 x12).f2))) then (some (shr .i64 (wrap64 (shl .u64 bt412.1 (wrap64 (64 - ((rd_T99 x10 x12).f2))))) (wrap64 (64 - ((rd_T99 x10 x12).f2))), bt412.2.1, bt412.2.2)) else (none))) else (times_difference.l0 k x3 x10 x11 (wrap64 (x12 + 1)) x1000 bt409.2.1 bt409.2.2)))) else (none)) else (none)) else ((bits_Reader_Take.f k x1000 x1001 x1002 x3).bind fun bt415 => (if 0 ≤ (wrap64 (64 - x3)) then (some (shr .i64 (wrap64 (shl .u64 bt415.1 (wrap64 (64 - x3)))) (wrap64 (64 - x3)), bt415.2.1, bt415.2.2)) else (none)))
def times_difference.f (k : Nat) (s0_0 : List Int) (s0_1 : Int) (s0_2 : Bool) : Option (Int × Int × Bool) := (bits_Reader_Take.f k s0_0 s0_1 s0_2 1).bind fun bt398 => (if bt398.1 = 0 then (some (0, bt398.2.1, bt398.2.2)) else ((times_classes.f).bind fun t401 => (times_difference.l0 k 64 t401 (t401.length : Int) 0 s0_0 bt398.2.1 bt398.2.2)))
theorem times_difference.mono_l : ∀ k, (∀ y0 y1 y2 y3 y4 y5 y6, LeO (times_difference.l0 k y0 y1 y2 y3 y4 y5 y6) (times_difference.l0 (k + 1) y0 y1 y2 y3 y4 y5 y6))
 | 0 => fun _ _ _ _ _ _ _ r h => by simp [times_difference.l0] at h
 | k + 1 => by
  have ih0 := times_difference.mono_l k
  ·intro y0 y1 y2 y3 y4 y5 y6
   unfold times_difference.l0
   repeat' first
   | (with_reducible exact ih0 _ _ _ _ _ _ _)
   | (with_reducible exact bits_Reader_Take.mono _ _ _ _ _)
   | (with_reducible exact LeO.refl _)
   | (with_reducible exact LeO.none _)
   | (with_reducible refine LeO.ite ?_ ?_)
   | (with_reducible refine LeO.bind ?_ (fun _ => ?_))
   | exact ih0 _ _ _ _ _ _ _
   | exact bits_Reader_Take.mono _ _ _ _ _
   | exact LeO.none _
   | refine LeO.ite ?_ ?_
   | refine LeO.bind ?_ (fun _ => ?_)
theorem times_difference.mono : ∀ a0 a1 a2 k, LeO (times_difference.f k a0 a1 a2) (times_difference.f (k + 1) a0 a1 a2) := by
 intro a0 a1 a2 k
 have ih0 := times_difference.mono_l k
 unfold times_difference.f
 repeat' first
   | (with_reducible exact ih0 _ _ _ _ _ _ _)
   | (with_reducible exact bits_Reader_Take.mono _ _ _ _ _)
   | (with_reducible exact LeO.refl _)
   | (with_reducible exact LeO.none _)
   | (with_reducible refine LeO.ite ?_ ?_)
   | (with_reducible refine LeO.bind ?_ (fun _ => ?_))
   | exact ih0 _ _ _ _ _ _ _
   | exact bits_Reader_Take.mono _ _ _ _ _
   | exact LeO.none _
   | refine LeO.ite ?_ ?_
   | refine LeO.bind ?_ (fun _ => ?_)
set_option maxHeartbeats 8000000 in
set_option maxRecDepth 100000 in
theorem times_difference.calls (k : Nat) (g : Nat) (s0_0 : List Int) (s0_1 : Int) (s0_2 : Bool) (r1 : Int) (r2 : Int) (r3 : Bool) (w0 w : World) (hI : IsS75 w0 w g s0_0 s0_1 s0_2) (hB : Below w0.heap.size w0 w) (h : times_difference.f k s0_0 s0_1 s0_2 = some (r1, r2, r3)) :
  Calls Tryd.prog 74 #[.pointer (some ⟨g, 0, none⟩)] w fun e w' => e = .returned (.int .i64 r1) ∧ IsS75 w0 w' g s0_0 r2 r3 ∧ Below w0.heap.size w0 w' ∧ KeepBut w w' g none := by
 have hu99 := Tryd.underlying99
 have HI0 := Aside0.mk hI
 have HK := Aside0.mk (KeepBut.refl w g none)
 have HL := Aside0.mk hB.size
 clear hI
 have HW0 := Aside0.mk hB.size
 have HB := Aside0.mk hB
 clear hB
 have H : ((bits_Reader_Take.f k s0_0 s0_1 s0_2 1).bind fun bt398 => (if bt398.1 = 0 then (some (0, bt398.2.1, bt398.2.2)) else ((times_classes.f).bind fun t401 => (times_difference.l0 k 64 t401 (t401.length : Int) 0 s0_0 bt398.2.1 bt398.2.2)))) = some (r1, r2, r3) := h
 clear h
 replace H := Option.bind_eq_some_iff.mp H
 obtain ⟨⟨t398, t399, t400⟩, A20, H⟩ := H
 replace H : (if t398 = 0 then (some (0, t399, t400)) else ((times_classes.f).bind fun t401 => (times_difference.l0 k 64 t401 (t401.length : Int) 0 s0_0 t399 t400))) = some (r1, r2, r3) := H
 have A2 := Aside0.mk A20
 clear A20
 by_cases c3 : t398 = 0
 ·rw [if_pos c3] at H
  have c3b0 : (t398 == 0) = true := beq_iff_eq.mpr c3
  have c3b1 : (t398 != 0) = false := bne_eq_false_iff_eq.mpr c3
  clear c3
  simp only [Option.some.injEq, Prod.mk.injEq] at H
  obtain ⟨rfl, rfl, rfl⟩ := H
  go_enter Tryd.func74, Tryd.ntmps74
  go_wp2_with (first | ((with_reducible refine gate_callee (f := 28) rfl ?_); refine goesL_ (some 8) rfl rfl Tryd.func28 (by kernel_rfl) rfl #[.pointer (some ⟨g, 0, none⟩), .int .i64 1] rfl (by (try simp only [List.map_toArray, List.map_cons, List.map_nil]); first | done | rfl | (simp only [List.length_drop, List.length_take]; rfl)) ?_; (with_reducible refine (bits_Reader_Take.calls k g s0_0 s0_1 s0_2 1 t398 t399 t400 w0 _ ?side1 ?side2 A2.out).mono ?_); (case side1 => repeat (first | (with_reducible first | exact HI0.out | apply IsS75.alloc | apply IsS75.drewN | apply IsS75.drew | apply IsS75.set_1 | apply IsS75.set_2) | exact HI0.out)); (case side2 => repeat (first | (with_reducible first | exact HB.out | apply below_alloc | apply pw_below_drewN | apply below_drew1 | refine below_set ?_ (IsS75.ge HI0.out)) | exact HB.out)); rintro e w4 ⟨rfl, hi, hb, hk⟩; refine ⟨_, rfl, ?_⟩; have n0_ := Aside0.mk (KeepBut.trans (by repeat (first | (with_reducible first | exact HK.out | apply KeepBut.set_ | apply keep_drewN | apply keep_drew | apply keep_alloc) | exact HK.out)) hk (.inl rfl)); have n1_ := Aside0.mk (hb); have n2_ := Aside0.mk (hi); clear HK; clear HB; clear HI0; have HK := n0_; have HB := n1_; have HI0 := n2_; clear n0_ n1_ n2_; (try clear hb hk hi)))
  go_ret
  exact ⟨by first | rfl | (simp [errW_none, errW_some] <;> rfl) | (simp [*, errW_none, errW_some] <;> rfl), by repeat (first | (with_reducible first | exact HI0.out | apply IsS75.alloc | apply IsS75.drewN | apply IsS75.drew | apply IsS75.set_1 | apply IsS75.set_2) | exact HI0.out), by repeat (first | (with_reducible first | exact HB.out | apply below_alloc | apply pw_below_drewN | apply below_drew1 | refine below_set ?_ (IsS75.ge HI0.out)) | exact HB.out), by repeat (first | (with_reducible first | exact HK.out | apply KeepBut.set_ | apply keep_drewN | apply keep_drew | apply keep_alloc) | exact HK.out)⟩
 ·rw [if_neg c3] at H
  have c3b0 : (t398 == 0) = false := beq_eq_false_iff_ne.mpr c3
  have c3b1 : (t398 != 0) = true := bne_iff_ne.mpr c3
  replace H := Option.bind_eq_some_iff.mp H
  obtain ⟨t401, A50, H⟩ := H
  replace H : (times_difference.l0 k 64 t401 (t401.length : Int) 0 s0_0 t399 t400) = some (r1, r2, r3) := H
  have A5 := Aside0.mk A50
  clear A50
  have H' := Aside0.mk H
  clear H
  go_enter Tryd.func74, Tryd.ntmps74
  go_wp2_with (first | ((with_reducible refine gate_callee (f := 28) rfl ?_); refine goesL_ (some 8) rfl rfl Tryd.func28 (by kernel_rfl) rfl #[.pointer (some ⟨g, 0, none⟩), .int .i64 1] rfl (by (try simp only [List.map_toArray, List.map_cons, List.map_nil]); first | done | rfl | (simp only [List.length_drop, List.length_take]; rfl)) ?_; (with_reducible refine (bits_Reader_Take.calls k g s0_0 s0_1 s0_2 1 t398 t399 t400 w0 _ ?side1 ?side2 A2.out).mono ?_); (case side1 => repeat (first | (with_reducible first | exact HI0.out | apply IsS75.alloc | apply IsS75.drewN | apply IsS75.drew | apply IsS75.set_1 | apply IsS75.set_2) | exact HI0.out)); (case side2 => repeat (first | (with_reducible first | exact HB.out | apply below_alloc | apply pw_below_drewN | apply below_drew1 | refine below_set ?_ (IsS75.ge HI0.out)) | exact HB.out)); rintro e w6 ⟨rfl, hi, hb, hk⟩; refine ⟨_, rfl, ?_⟩; have n0_ := Aside0.mk (KeepBut.trans (by repeat (first | (with_reducible first | exact HK.out | apply KeepBut.set_ | apply keep_drewN | apply keep_drew | apply keep_alloc) | exact HK.out)) hk (.inl rfl)); have n1_ := Aside0.mk (hb); have n2_ := Aside0.mk (hi); clear HK; clear HB; clear HI0; have HK := n0_; have HB := n1_; have HI0 := n2_; clear n0_ n1_ n2_; (try clear hb hk hi)) | ((with_reducible refine gate_callee (f := 69) rfl ?_); refine goesL_ (some 10) rfl rfl Tryd.func69 (by kernel_rfl) rfl #[] rfl (by (try simp only [List.map_toArray, List.map_cons, List.map_nil]); first | done | rfl | (simp only [List.length_drop, List.length_take]; rfl)) ?_; (with_reducible refine (times_classes.calls  t401 _ A5.out).mono ?_); rintro e w7 ⟨v402, rfl, ho0, hb⟩; refine ⟨_, rfl, ?_⟩; have n0_ := Aside0.mk (Kd.R_lower ho0 (keep_size (w := w) (g := g) (row := none) (by repeat (first | (with_reducible first | exact HK.out | apply KeepBut.set_ | apply keep_drewN | apply keep_drew | apply keep_alloc) | exact HK.out)))); have n1_ := Aside0.mk (IsS75.below (by repeat (first | (with_reducible first | exact HI0.out | apply IsS75.alloc | apply IsS75.drewN | apply IsS75.drew | apply IsS75.set_1 | apply IsS75.set_2) | exact HI0.out)) hb); have n2_ := Aside0.mk (KeepBut.trans (by repeat (first | (with_reducible first | exact HK.out | apply KeepBut.set_ | apply keep_drewN | apply keep_drew | apply keep_alloc) | exact HK.out)) (KeepBut.of_below hb g none) (.inl rfl)); have n3_ := Aside0.mk (below_step (by repeat (first | (with_reducible first | exact HB.out | apply below_alloc | apply pw_below_drewN | apply below_drew1 | refine below_set ?_ (IsS75.ge HI0.out)) | exact HB.out)) hb); clear HI0; clear HK; clear HB; have HO403 := n0_; have HI0 := n1_; have HK := n2_; have HB := n3_; clear n0_ n1_ n2_ n3_; (try clear hb ho0); obtain ⟨Ao8, co8, eo8⟩ := Kd.R_slice HO403.out; subst eo8))
  go_loopg [3, 12] k (fun kq v3 v12 w' => ∃ (x3_1 : Int) (x12_1 : Int) (x1001_1 : Int) (x1002_1 : Bool), v3 = .int .i64 x3_1 ∧ v12 = .int .i64 x12_1 ∧ Aside0 (times_difference.l0 kq x3_1 t401 (t401.length : Int) x12_1 s0_0 x1001_1 x1002_1 = some (r1, r2, r3)) ∧ Aside0 (kq ≤ k) ∧ Aside0 (Kd.R k99 99 w' w.heap.size (fun _ => True) (.slice Ao8 t401.length co8) t401) ∧ Aside0 (IsS75 w0 w' g s0_0 x1001_1 x1002_1) ∧ Aside0 (KeepBut w w' g none) ∧ Aside0 (Below w0.heap.size w0 w'))
  case atStart => exact ⟨(64), (0), (t399), (t400), (by first | rfl | (simp; done) | (simp [*]; done)), (by first | rfl | (simp; done) | (simp [*]; done)), H', ⟨Nat.le_refl _⟩, ⟨rR HO403.out⟩, ⟨by repeat (first | (with_reducible first | exact HI0.out | apply IsS75.alloc | apply IsS75.drewN | apply IsS75.drew | apply IsS75.set_1 | apply IsS75.set_2) | exact HI0.out)⟩, ⟨by repeat (first | (with_reducible first | exact HK.out | apply KeepBut.set_ | apply keep_drewN | apply keep_drew | apply keep_alloc) | exact HK.out)⟩, ⟨by repeat (first | (with_reducible first | exact HB.out | apply below_alloc | apply pw_below_drewN | apply below_drew1 | refine below_set ?_ (IsS75.ge HI0.out)) | exact HB.out)⟩⟩
  case round =>
   clear H'
   (try clear c2);(try clear p2);(try clear c3);(try clear c3b0);(try clear c3b1);(try clear c6);(try clear c7)
   obtain ⟨x3_1, x12_1, x1001_1, x1002_1, rfl, rfl, HA, HK1, HO_10, HI0, HK, HB⟩ := hrel
   cases gk with
   | zero => exact absurd HA.out (by simp [times_difference.l0])
   | succ k1 =>
    have H := HA.out
    clear HA
    simp only [times_difference.l0] at H
    by_cases c9 : x12_1 < (t401.length : Int)
    ·rw [if_pos c9] at H
     have c9b0 : decide (x12_1 < (t401.length : Int)) = true := decide_eq_true c9
     clear c9
     by_cases c10 : 0 ≤ x12_1
     ·rw [if_pos c10] at H
      have c10b0 : decide (0 ≤ x12_1) = true := decide_eq_true c10
      clear c10
      by_cases c11 : x12_1 < (t401.length : Int)
      ·rw [if_pos c11] at H
       have c11b0 : decide (x12_1 < (t401.length : Int)) = true := decide_eq_true c11
       clear c11
       by_cases c12 : ((rd_T99 t401 x12_1).f2) = 64
       ·rw [if_pos c12] at H
        have c12b0 : (((rd_T99 t401 x12_1).f2) == 64) = true := beq_iff_eq.mpr c12
        have c12b1 : (((rd_T99 t401 x12_1).f2) != 64) = false := bne_eq_false_iff_eq.mpr c12
        clear c12
        replace H := Option.bind_eq_some_iff.mp H
        obtain ⟨⟨t406, t407, t408⟩, A130, H⟩ := H
        replace H : (if 0 ≤ (wrap64 (64 - ((rd_T99 t401 x12_1).f2))) then (some (shr .i64 (wrap64 (shl .u64 t406 (wrap64 (64 - ((rd_T99 t401 x12_1).f2))))) (wrap64 (64 - ((rd_T99 t401 x12_1).f2))), t407, t408)) else (none)) = some (r1, r2, r3) := H
        have A13 := Aside0.mk A130
        clear A130
        obtain ⟨ji14, hji14⟩ : ∃ j_ : Int, (wrap64 (64 - ((rd_T99 t401 x12_1).f2))) = j_ := ⟨_, rfl⟩
        replace H : (if 0 ≤ (ji14) then (some (shr .i64 (wrap64 (shl .u64 t406 (ji14))) (ji14), t407, t408)) else (none)) = some (r1, r2, r3) := by first | (rw [hji14] at H; exact H) | (simp only [hji14] at H ⊢; exact H)
        (try rw [hji14] at A13)
        have hji14w : (IntKind.i64.wrap (64 - ((rd_T99 t401 x12_1).f2))) = ji14 := (i64_w _).trans hji14
        by_cases c15 : 0 ≤ (ji14)
        ·rw [if_pos c15] at H
         have c15b0 := eq_true c15
         have c15b1 : decide (0 ≤ (ji14)) = true := decide_eq_true c15
         clear c15
         obtain ⟨ji16, hji16⟩ : ∃ j_ : Int, (shl .u64 t406 (ji14)) = j_ := ⟨_, rfl⟩
         replace H : (some (shr .i64 (wrap64 (ji16)) (ji14), t407, t408)) = some (r1, r2, r3) := by first | (rw [hji16] at H; exact H) | (simp only [hji16] at H ⊢; exact H)
         (try rw [hji16] at A13)
         have hji16_ : (IntKind.u64.wrap (t406 * 2 ^ min (ji14).toNat 64)) = ji16 := hji16
         have hji16z : (ji14) ≤ 64 → (IntKind.u64.wrap (t406 * 2 ^ (ji14).toNat)) = ji16 := shl_small hji16
         have c17b0 := eq_true (of_decide_eq_true (by first | (with_reducible assumption) | assumption) : 0 ≤ (ji14))
         obtain ⟨ji18, hji18⟩ : ∃ j_ : Int, (shr .i64 (wrap64 (ji16)) (ji14)) = j_ := ⟨_, rfl⟩
         replace H : (some (ji18, t407, t408)) = some (r1, r2, r3) := by first | (rw [hji18] at H; exact H) | (simp only [hji18] at H ⊢; exact H)
         (try rw [hji18] at A13)
         have hji18_ : ((wrap64 (ji16)) / 2 ^ min (ji14).toNat 64) = ji18 := hji18
         have hji18z : (ji14) ≤ 64 → ((wrap64 (ji16)) / 2 ^ (ji14).toNat) = ji18 := shr_small hji18
         simp only [Option.some.injEq, Prod.mk.injEq] at H
         obtain ⟨rfl, rfl, rfl⟩ := H
         have p404 : 0 ≤ (x12_1 : Int) := of_decide_eq_true (by first | (with_reducible assumption) | assumption)
         have q404 : x12_1 < (t401.length : Int) := of_decide_eq_true (by first | (with_reducible assumption) | assumption)
         obtain ⟨ad404, e404, hx404_0, hx404_1, hx404_2⟩ := at_T99 (Kd.R_reads' HO_10.out).2.2 x12_1 p404 q404
         cases e404
         replace p404 := eq_true p404
         replace q404 := eq_true q404
         go_wp2_with (first | ((with_reducible refine gate_dst (N := 5) rfl ?_); refine box_event ?hg (N := 5) ?hd (cs := #[.int .u64 0, .int .i64 0, .int .i64 0]) (t := 99) ?hr ?_; (case hd => rfl); (case hg => rfl); (case hr => first | (go_simp; done) | (go_simp; rfl)); intro gb405 hg w19 hbox hb; have n0_ := Aside0.mk (Kd.R_below (Kd.R_elderB (rR HO_10.out) gb405 (Nat.le_of_eq hg.symm)) hb); have n1_ := Aside0.mk (IsS75.below (by repeat (first | (with_reducible first | exact HI0.out | apply IsS75.alloc | apply IsS75.drewN | apply IsS75.drew | apply IsS75.set_1 | apply IsS75.set_2) | exact HI0.out)) hb); have n2_ := Aside0.mk (KeepBut.trans (by repeat (first | (with_reducible first | exact HK.out | apply KeepBut.set_ | apply keep_drewN | apply keep_drew | apply keep_alloc) | exact HK.out)) (KeepBut.of_below hb g none) (.inl rfl)); have n3_ := Aside0.mk (below_step (by repeat (first | (with_reducible first | exact HB.out | apply below_alloc | apply pw_below_drewN | apply below_drew1 | refine below_set ?_ (IsS75.ge HI0.out)) | exact HB.out)) hb); have n4_ := Aside0.mk (hbox); have n5_ := Aside0.mk ((by rw [hg]; exact (keep_size (w := w) (g := g) (row := none) (by repeat (first | (with_reducible first | exact HK.out | apply KeepBut.set_ | apply keep_drewN | apply keep_drew | apply keep_alloc) | exact HK.out))) : w.heap.size ≤ gb405)); have n6_ := Aside0.mk ((Nat.le_trans HW0.out (by rw [hg]; exact (keep_size (w := w) (g := g) (row := none) (by repeat (first | (with_reducible first | exact HK.out | apply KeepBut.set_ | apply keep_drewN | apply keep_drew | apply keep_alloc) | exact HK.out))) : w.heap.size ≤ gb405) : w0.heap.size ≤ gb405)); have n7_ := Aside0.mk ((by rw [hg]; exact Nat.ne_of_lt (IsS75.lt (show IsS75 w0 _ g s0_0 x1001_1 x1002_1 from by repeat (first | (with_reducible first | exact HI0.out | apply IsS75.alloc | apply IsS75.drewN | apply IsS75.drew | apply IsS75.set_1 | apply IsS75.set_2) | exact HI0.out))) : g ≠ gb405)); have n8_ := Aside0.mk ((by rw [hg]; exact Nat.ne_of_gt (IsS75.lt (show IsS75 w0 _ g s0_0 x1001_1 x1002_1 from by repeat (first | (with_reducible first | exact HI0.out | apply IsS75.alloc | apply IsS75.drewN | apply IsS75.drew | apply IsS75.set_1 | apply IsS75.set_2) | exact HI0.out))) : gb405 ≠ g)); clear HO_10; clear HI0; clear HK; clear HB; have HO_10 := n0_; have HI0 := n1_; have HK := n2_; have HB := n3_; have BK405 := n4_; have GW405 := n5_; have GE405 := n6_; have NB0_405 := n7_; have NB405_0 := n8_; clear n0_ n1_ n2_ n3_ n4_ n5_ n6_ n7_ n8_; clear hb hbox hg; have hnb20 := NB405_0.out; have hnc20 := NB0_405.out; have hcz21_0 : w19.cell? ⟨gb405, 0, none⟩ = some (.int .u64 0) := (blk_cell BK405.out 0).trans rfl; have hcz21_1 : w19.cell? ⟨gb405, 1, none⟩ = some (.int .i64 0) := (blk_cell BK405.out 1).trans rfl; have hcz21_2 : w19.cell? ⟨gb405, 2, none⟩ = some (.int .i64 0) := (blk_cell BK405.out 2).trans rfl; have hfz21_0 := blk_frozen BK405.out 0; have hfz21_1 := blk_frozen BK405.out 1; have hfz21_2 := blk_frozen BK405.out 2) | ((with_reducible refine gate_callee (f := 28) rfl ?_); refine goesL_ (some 29) rfl rfl Tryd.func28 (by kernel_rfl) rfl #[.pointer (some ⟨g, 0, none⟩), .int .i64 ((rd_T99 t401 x12_1).f2)] rfl (by (try simp only [List.map_toArray, List.map_cons, List.map_nil]); first | done | rfl | (simp only [List.length_drop, List.length_take]; rfl)) ?_; (with_reducible refine (bits_Reader_Take.calls k1 g s0_0 x1001_1 x1002_1 ((rd_T99 t401 x12_1).f2) t406 t407 t408 w0 _ ?side1 ?side2 A13.out).mono ?_); (case side1 => repeat (first | (with_reducible first | exact HI0.out | apply IsS75.alloc | apply IsS75.drewN | apply IsS75.drew | apply IsS75.set_1 | apply IsS75.set_2 | refine IsS75.far ?_ NB0_405.out _) | exact HI0.out)); (case side2 => repeat (first | (with_reducible first | exact HB.out | apply below_alloc | apply pw_below_drewN | apply below_drew1 | refine below_set ?_ (IsS75.ge HI0.out) | refine below_set ?_ GE405.out) | exact HB.out)); rintro e w22 ⟨rfl, hi, hb, hk⟩; refine ⟨_, rfl, ?_⟩; have n0_ := Aside0.mk (Kd.R_mono (Kd.R_keep (IsS75.apart (show IsS75 w0 _ g s0_0 x1001_1 x1002_1 from by repeat (first | (with_reducible first | exact HI0.out | apply IsS75.alloc | apply IsS75.drewN | apply IsS75.drew | apply IsS75.set_1 | apply IsS75.set_2 | refine IsS75.far ?_ NB0_405.out _) | exact HI0.out)) (by (with_reducible repeat (first | apply Kd.R_alloc | apply Kd.R_drewN | apply Kd.R_drew)); exact (Kd.R_mono (Kd.R_far (p := ⟨gb405, 2, none⟩) (Kd.R_far (p := ⟨gb405, 1, none⟩) (Kd.R_far (p := ⟨gb405, 0, none⟩) (Kd.R_mono HO_10.out (fun k_ hk => (⟨hk, hk.2⟩ : _ ∧ k_ ≠ gb405))) (fun _ hk => hk.2) (.int .u64 ((rd_T99 t401 x12_1).f0))) (fun _ hk => hk.2) (.int .i64 ((rd_T99 t401 x12_1).f1))) (fun _ hk => hk.2) (.int .i64 ((rd_T99 t401 x12_1).f2))) (fun _ h_ => h_.1))) (by decide)) hk (fun _ h => h.2)) (fun _ h => h.1)); have n1_ := Aside0.mk (KeepBut.blk hk (g' := gb405) (o := .cells #[.int .u64 ((rd_T99 t401 x12_1).f0), .int .i64 ((rd_T99 t401 x12_1).f1), .int .i64 ((rd_T99 t401 x12_1).f2)] 99 (0, 0)) (by (with_reducible repeat (first | refine blk_drewN ?_ _ | refine blk_drew ?_ | refine blk_alloc ?_ _)); refine blk_put (cs := #[.int .u64 ((rd_T99 t401 x12_1).f0), .int .i64 ((rd_T99 t401 x12_1).f1), .int .i64 0]) ?_ 2 _ rfl; (with_reducible repeat (first | refine blk_drewN ?_ _ | refine blk_drew ?_ | refine blk_alloc ?_ _)); refine blk_put (cs := #[.int .u64 ((rd_T99 t401 x12_1).f0), .int .i64 0, .int .i64 0]) ?_ 1 _ rfl; (with_reducible repeat (first | refine blk_drewN ?_ _ | refine blk_drew ?_ | refine blk_alloc ?_ _)); refine blk_put (cs := #[.int .u64 0, .int .i64 0, .int .i64 0]) ?_ 0 _ rfl; (with_reducible repeat (first | refine blk_drewN ?_ _ | refine blk_drew ?_ | refine blk_alloc ?_ _)); exact BK405.out) NB405_0.out (by simp)); have n2_ := Aside0.mk (KeepBut.trans (by repeat (first | (with_reducible first | exact HK.out | apply KeepBut.set_ | apply keep_drewN | apply keep_drew | apply keep_alloc | refine keep_far ?_ GW405.out _) | exact HK.out)) hk (.inl rfl)); have n3_ := Aside0.mk (hb); have n4_ := Aside0.mk (hi); clear HO_10; clear BK405; clear HK; clear HB; clear HI0; have HO_10 := n0_; have BK405 := n1_; have HK := n2_; have HB := n3_; have HI0 := n4_; clear n0_ n1_ n2_ n3_ n4_; (try clear hb hk hi)))
         go_ret
         exact ⟨by first | rfl | (simp [errW_none, errW_some] <;> rfl) | (simp only [← hji14, ← hji16, ← hji18]; first | rfl | (simp [errW_none, errW_some] <;> rfl)) | (simp [*, errW_none, errW_some] <;> rfl), by repeat (first | (with_reducible first | exact HI0.out | apply IsS75.alloc | apply IsS75.drewN | apply IsS75.drew | apply IsS75.set_1 | apply IsS75.set_2 | refine IsS75.far ?_ NB0_405.out _) | exact HI0.out), by repeat (first | (with_reducible first | exact HB.out | apply below_alloc | apply pw_below_drewN | apply below_drew1 | refine below_set ?_ (IsS75.ge HI0.out) | refine below_set ?_ GE405.out) | exact HB.out), by repeat (first | (with_reducible first | exact HK.out | apply KeepBut.set_ | apply keep_drewN | apply keep_drew | apply keep_alloc | refine keep_far ?_ GW405.out _) | exact HK.out)⟩
        ·rw [if_neg c15] at H
         exact absurd H (by simp)
       ·rw [if_neg c12] at H
        have c12b0 : (((rd_T99 t401 x12_1).f2) == 64) = false := beq_eq_false_iff_ne.mpr c12
        have c12b1 : (((rd_T99 t401 x12_1).f2) != 64) = true := bne_iff_ne.mpr c12
        replace H := Option.bind_eq_some_iff.mp H
        obtain ⟨⟨t409, t410, t411⟩, A230, H⟩ := H
        replace H : (if t409 = 0 then ((bits_Reader_Take.f k1 s0_0 t410 t411 ((rd_T99 t401 x12_1).f2)).bind fun bt412 => (if 0 ≤ (wrap64 (64 - ((rd_T99 t401 x12_1).f2))) then (some (shr .i64 (wrap64 (shl .u64 bt412.1 (wrap64 (64 - ((rd_T99 t401 x12_1).f2))))) (wrap64 (64 - ((rd_T99 t401 x12_1).f2))), bt412.2.1, bt412.2.2)) else (none))) else (times_difference.l0 k1 x3_1 t401 (t401.length : Int) (wrap64 (x12_1 + 1)) s0_0 t410 t411)) = some (r1, r2, r3) := H
        have A23 := Aside0.mk A230
        clear A230
        by_cases c24 : t409 = 0
        ·rw [if_pos c24] at H
         have c24b0 : (t409 == 0) = true := beq_iff_eq.mpr c24
         have c24b1 : (t409 != 0) = false := bne_eq_false_iff_eq.mpr c24
         clear c24
         replace H := Option.bind_eq_some_iff.mp H
         obtain ⟨⟨t412, t413, t414⟩, A250, H⟩ := H
         replace H : (if 0 ≤ (wrap64 (64 - ((rd_T99 t401 x12_1).f2))) then (some (shr .i64 (wrap64 (shl .u64 t412 (wrap64 (64 - ((rd_T99 t401 x12_1).f2))))) (wrap64 (64 - ((rd_T99 t401 x12_1).f2))), t413, t414)) else (none)) = some (r1, r2, r3) := H
         have A25 := Aside0.mk A250
         clear A250
         obtain ⟨ji26, hji26⟩ : ∃ j_ : Int, (wrap64 (64 - ((rd_T99 t401 x12_1).f2))) = j_ := ⟨_, rfl⟩
         replace H : (if 0 ≤ (ji26) then (some (shr .i64 (wrap64 (shl .u64 t412 (ji26))) (ji26), t413, t414)) else (none)) = some (r1, r2, r3) := by first | (rw [hji26] at H; exact H) | (simp only [hji26] at H ⊢; exact H)
         (try rw [hji26] at A23)
         (try rw [hji26] at A25)
         have hji26w : (IntKind.i64.wrap (64 - ((rd_T99 t401 x12_1).f2))) = ji26 := (i64_w _).trans hji26
         by_cases c27 : 0 ≤ (ji26)
         ·rw [if_pos c27] at H
          have c27b0 := eq_true c27
          have c27b1 : decide (0 ≤ (ji26)) = true := decide_eq_true c27
          clear c27
          obtain ⟨ji28, hji28⟩ : ∃ j_ : Int, (shl .u64 t412 (ji26)) = j_ := ⟨_, rfl⟩
          replace H : (some (shr .i64 (wrap64 (ji28)) (ji26), t413, t414)) = some (r1, r2, r3) := by first | (rw [hji28] at H; exact H) | (simp only [hji28] at H ⊢; exact H)
          (try rw [hji28] at A23)
          (try rw [hji28] at A25)
          have hji28_ : (IntKind.u64.wrap (t412 * 2 ^ min (ji26).toNat 64)) = ji28 := hji28
          have hji28z : (ji26) ≤ 64 → (IntKind.u64.wrap (t412 * 2 ^ (ji26).toNat)) = ji28 := shl_small hji28
          have c29b0 := eq_true (of_decide_eq_true (by first | (with_reducible assumption) | assumption) : 0 ≤ (ji26))
          obtain ⟨ji30, hji30⟩ : ∃ j_ : Int, (shr .i64 (wrap64 (ji28)) (ji26)) = j_ := ⟨_, rfl⟩
          replace H : (some (ji30, t413, t414)) = some (r1, r2, r3) := by first | (rw [hji30] at H; exact H) | (simp only [hji30] at H ⊢; exact H)
          (try rw [hji30] at A23)
          (try rw [hji30] at A25)
          have hji30_ : ((wrap64 (ji28)) / 2 ^ min (ji26).toNat 64) = ji30 := hji30
          have hji30z : (ji26) ≤ 64 → ((wrap64 (ji28)) / 2 ^ (ji26).toNat) = ji30 := shr_small hji30
          simp only [Option.some.injEq, Prod.mk.injEq] at H
          obtain ⟨rfl, rfl, rfl⟩ := H
          have p404 : 0 ≤ (x12_1 : Int) := of_decide_eq_true (by first | (with_reducible assumption) | assumption)
          have q404 : x12_1 < (t401.length : Int) := of_decide_eq_true (by first | (with_reducible assumption) | assumption)
          obtain ⟨ad404, e404, hx404_0, hx404_1, hx404_2⟩ := at_T99 (Kd.R_reads' HO_10.out).2.2 x12_1 p404 q404
          cases e404
          replace p404 := eq_true p404
          replace q404 := eq_true q404
          go_wp2_with (first | ((with_reducible refine gate_dst (N := 5) rfl ?_); refine box_event ?hg (N := 5) ?hd (cs := #[.int .u64 0, .int .i64 0, .int .i64 0]) (t := 99) ?hr ?_; (case hd => rfl); (case hg => rfl); (case hr => first | (go_simp; done) | (go_simp; rfl)); intro gb405 hg w31 hbox hb; have n0_ := Aside0.mk (Kd.R_below (Kd.R_elderB (rR HO_10.out) gb405 (Nat.le_of_eq hg.symm)) hb); have n1_ := Aside0.mk (IsS75.below (by repeat (first | (with_reducible first | exact HI0.out | apply IsS75.alloc | apply IsS75.drewN | apply IsS75.drew | apply IsS75.set_1 | apply IsS75.set_2) | exact HI0.out)) hb); have n2_ := Aside0.mk (KeepBut.trans (by repeat (first | (with_reducible first | exact HK.out | apply KeepBut.set_ | apply keep_drewN | apply keep_drew | apply keep_alloc) | exact HK.out)) (KeepBut.of_below hb g none) (.inl rfl)); have n3_ := Aside0.mk (below_step (by repeat (first | (with_reducible first | exact HB.out | apply below_alloc | apply pw_below_drewN | apply below_drew1 | refine below_set ?_ (IsS75.ge HI0.out)) | exact HB.out)) hb); have n4_ := Aside0.mk (hbox); have n5_ := Aside0.mk ((by rw [hg]; exact (keep_size (w := w) (g := g) (row := none) (by repeat (first | (with_reducible first | exact HK.out | apply KeepBut.set_ | apply keep_drewN | apply keep_drew | apply keep_alloc) | exact HK.out))) : w.heap.size ≤ gb405)); have n6_ := Aside0.mk ((Nat.le_trans HW0.out (by rw [hg]; exact (keep_size (w := w) (g := g) (row := none) (by repeat (first | (with_reducible first | exact HK.out | apply KeepBut.set_ | apply keep_drewN | apply keep_drew | apply keep_alloc) | exact HK.out))) : w.heap.size ≤ gb405) : w0.heap.size ≤ gb405)); have n7_ := Aside0.mk ((by rw [hg]; exact Nat.ne_of_lt (IsS75.lt (show IsS75 w0 _ g s0_0 x1001_1 x1002_1 from by repeat (first | (with_reducible first | exact HI0.out | apply IsS75.alloc | apply IsS75.drewN | apply IsS75.drew | apply IsS75.set_1 | apply IsS75.set_2) | exact HI0.out))) : g ≠ gb405)); have n8_ := Aside0.mk ((by rw [hg]; exact Nat.ne_of_gt (IsS75.lt (show IsS75 w0 _ g s0_0 x1001_1 x1002_1 from by repeat (first | (with_reducible first | exact HI0.out | apply IsS75.alloc | apply IsS75.drewN | apply IsS75.drew | apply IsS75.set_1 | apply IsS75.set_2) | exact HI0.out))) : gb405 ≠ g)); clear HO_10; clear HI0; clear HK; clear HB; have HO_10 := n0_; have HI0 := n1_; have HK := n2_; have HB := n3_; have BK405 := n4_; have GW405 := n5_; have GE405 := n6_; have NB0_405 := n7_; have NB405_0 := n8_; clear n0_ n1_ n2_ n3_ n4_ n5_ n6_ n7_ n8_; clear hb hbox hg; have hnb32 := NB405_0.out; have hnc32 := NB0_405.out; have hcz33_0 : w31.cell? ⟨gb405, 0, none⟩ = some (.int .u64 0) := (blk_cell BK405.out 0).trans rfl; have hcz33_1 : w31.cell? ⟨gb405, 1, none⟩ = some (.int .i64 0) := (blk_cell BK405.out 1).trans rfl; have hcz33_2 : w31.cell? ⟨gb405, 2, none⟩ = some (.int .i64 0) := (blk_cell BK405.out 2).trans rfl; have hfz33_0 := blk_frozen BK405.out 0; have hfz33_1 := blk_frozen BK405.out 1; have hfz33_2 := blk_frozen BK405.out 2) | (go_at_call 28; (with_reducible refine (bits_Reader_Take.calls k1 g s0_0 x1001_1 x1002_1 1 t409 t410 t411 w0 _ ?side1 ?side2 A23.out).mono ?_); (case side1 => repeat (first | (with_reducible first | exact HI0.out | apply IsS75.alloc | apply IsS75.drewN | apply IsS75.drew | apply IsS75.set_1 | apply IsS75.set_2 | refine IsS75.far ?_ NB0_405.out _) | exact HI0.out)); (case side2 => repeat (first | (with_reducible first | exact HB.out | apply below_alloc | apply pw_below_drewN | apply below_drew1 | refine below_set ?_ (IsS75.ge HI0.out) | refine below_set ?_ GE405.out) | exact HB.out)); rintro e w34 ⟨rfl, hi, hb, hk⟩; have n0_ := Aside0.mk (Kd.R_mono (Kd.R_keep (IsS75.apart (show IsS75 w0 _ g s0_0 x1001_1 x1002_1 from by repeat (first | (with_reducible first | exact HI0.out | apply IsS75.alloc | apply IsS75.drewN | apply IsS75.drew | apply IsS75.set_1 | apply IsS75.set_2 | refine IsS75.far ?_ NB0_405.out _) | exact HI0.out)) (by (with_reducible repeat (first | apply Kd.R_alloc | apply Kd.R_drewN | apply Kd.R_drew)); exact (Kd.R_mono (Kd.R_far (p := ⟨gb405, 2, none⟩) (Kd.R_far (p := ⟨gb405, 1, none⟩) (Kd.R_far (p := ⟨gb405, 0, none⟩) (Kd.R_mono HO_10.out (fun k_ hk => (⟨hk, hk.2⟩ : _ ∧ k_ ≠ gb405))) (fun _ hk => hk.2) (.int .u64 ((rd_T99 t401 x12_1).f0))) (fun _ hk => hk.2) (.int .i64 ((rd_T99 t401 x12_1).f1))) (fun _ hk => hk.2) (.int .i64 ((rd_T99 t401 x12_1).f2))) (fun _ h_ => h_.1))) (by decide)) hk (fun _ h => h.2)) (fun _ h => h.1)); have n1_ := Aside0.mk (KeepBut.blk hk (g' := gb405) (o := .cells #[.int .u64 ((rd_T99 t401 x12_1).f0), .int .i64 ((rd_T99 t401 x12_1).f1), .int .i64 ((rd_T99 t401 x12_1).f2)] 99 (0, 0)) (by (with_reducible repeat (first | refine blk_drewN ?_ _ | refine blk_drew ?_ | refine blk_alloc ?_ _)); refine blk_put (cs := #[.int .u64 ((rd_T99 t401 x12_1).f0), .int .i64 ((rd_T99 t401 x12_1).f1), .int .i64 0]) ?_ 2 _ rfl; (with_reducible repeat (first | refine blk_drewN ?_ _ | refine blk_drew ?_ | refine blk_alloc ?_ _)); refine blk_put (cs := #[.int .u64 ((rd_T99 t401 x12_1).f0), .int .i64 0, .int .i64 0]) ?_ 1 _ rfl; (with_reducible repeat (first | refine blk_drewN ?_ _ | refine blk_drew ?_ | refine blk_alloc ?_ _)); refine blk_put (cs := #[.int .u64 0, .int .i64 0, .int .i64 0]) ?_ 0 _ rfl; (with_reducible repeat (first | refine blk_drewN ?_ _ | refine blk_drew ?_ | refine blk_alloc ?_ _)); exact BK405.out) NB405_0.out (by simp)); have n2_ := Aside0.mk (KeepBut.trans (by repeat (first | (with_reducible first | exact HK.out | apply KeepBut.set_ | apply keep_drewN | apply keep_drew | apply keep_alloc | refine keep_far ?_ GW405.out _) | exact HK.out)) hk (.inl rfl)); have n3_ := Aside0.mk (hb); have n4_ := Aside0.mk (hi); clear HO_10; clear BK405; clear HK; clear HB; clear HI0; have HO_10 := n0_; have BK405 := n1_; have HK := n2_; have HB := n3_; have HI0 := n4_; clear n0_ n1_ n2_ n3_ n4_; (try clear hb hk hi); have hcz35_0 : w34.cell? ⟨gb405, 0, none⟩ = some (.int .u64 ((rd_T99 t401 x12_1).f0)) := (blk_cell BK405.out 0).trans rfl; have hcz35_1 : w34.cell? ⟨gb405, 1, none⟩ = some (.int .i64 ((rd_T99 t401 x12_1).f1)) := (blk_cell BK405.out 1).trans rfl; have hcz35_2 : w34.cell? ⟨gb405, 2, none⟩ = some (.int .i64 ((rd_T99 t401 x12_1).f2)) := (blk_cell BK405.out 2).trans rfl; have hfz35_0 := blk_frozen BK405.out 0; have hfz35_1 := blk_frozen BK405.out 1; have hfz35_2 := blk_frozen BK405.out 2) | ((with_reducible refine gate_callee (f := 28) rfl ?_); refine goesL_ (some 29) rfl rfl Tryd.func28 (by kernel_rfl) rfl #[.pointer (some ⟨g, 0, none⟩), .int .i64 ((rd_T99 t401 x12_1).f2)] rfl (by (try simp only [List.map_toArray, List.map_cons, List.map_nil]); first | done | rfl | (simp only [List.length_drop, List.length_take]; rfl)) ?_; (with_reducible refine (bits_Reader_Take.calls k1 g s0_0 t410 t411 ((rd_T99 t401 x12_1).f2) t412 t413 t414 w0 _ ?side1 ?side2 A25.out).mono ?_); (case side1 => repeat (first | (with_reducible first | exact HI0.out | apply IsS75.alloc | apply IsS75.drewN | apply IsS75.drew | apply IsS75.set_1 | apply IsS75.set_2 | refine IsS75.far ?_ NB0_405.out _) | exact HI0.out)); (case side2 => repeat (first | (with_reducible first | exact HB.out | apply below_alloc | apply pw_below_drewN | apply below_drew1 | refine below_set ?_ (IsS75.ge HI0.out) | refine below_set ?_ GE405.out) | exact HB.out)); rintro e w36 ⟨rfl, hi, hb, hk⟩; refine ⟨_, rfl, ?_⟩; have n0_ := Aside0.mk (Kd.R_mono (Kd.R_keep (IsS75.apart (show IsS75 w0 _ g s0_0 t410 t411 from by repeat (first | (with_reducible first | exact HI0.out | apply IsS75.alloc | apply IsS75.drewN | apply IsS75.drew | apply IsS75.set_1 | apply IsS75.set_2 | refine IsS75.far ?_ NB0_405.out _) | exact HI0.out)) (rR HO_10.out) (by decide)) hk (fun _ h => h.2)) (fun _ h => h.1)); have n1_ := Aside0.mk (KeepBut.blk hk (g' := gb405) (o := .cells #[.int .u64 ((rd_T99 t401 x12_1).f0), .int .i64 ((rd_T99 t401 x12_1).f1), .int .i64 ((rd_T99 t401 x12_1).f2)] 99 (0, 0)) (by (with_reducible repeat (first | refine blk_drewN ?_ _ | refine blk_drew ?_ | refine blk_alloc ?_ _)); exact BK405.out) NB405_0.out (by simp)); have n2_ := Aside0.mk (KeepBut.trans (by repeat (first | (with_reducible first | exact HK.out | apply KeepBut.set_ | apply keep_drewN | apply keep_drew | apply keep_alloc | refine keep_far ?_ GW405.out _) | exact HK.out)) hk (.inl rfl)); have n3_ := Aside0.mk (hb); have n4_ := Aside0.mk (hi); clear HO_10; clear BK405; clear HK; clear HB; clear HI0; have HO_10 := n0_; have BK405 := n1_; have HK := n2_; have HB := n3_; have HI0 := n4_; clear n0_ n1_ n2_ n3_ n4_; (try clear hb hk hi)))
          go_ret
          exact ⟨by first | rfl | (simp [errW_none, errW_some] <;> rfl) | (simp only [← hji26, ← hji28, ← hji30]; first | rfl | (simp [errW_none, errW_some] <;> rfl)) | (simp [*, errW_none, errW_some] <;> rfl), by repeat (first | (with_reducible first | exact HI0.out | apply IsS75.alloc | apply IsS75.drewN | apply IsS75.drew | apply IsS75.set_1 | apply IsS75.set_2 | refine IsS75.far ?_ NB0_405.out _) | exact HI0.out), by repeat (first | (with_reducible first | exact HB.out | apply below_alloc | apply pw_below_drewN | apply below_drew1 | refine below_set ?_ (IsS75.ge HI0.out) | refine below_set ?_ GE405.out) | exact HB.out), by repeat (first | (with_reducible first | exact HK.out | apply KeepBut.set_ | apply keep_drewN | apply keep_drew | apply keep_alloc | refine keep_far ?_ GW405.out _) | exact HK.out)⟩
         ·rw [if_neg c27] at H
          exact absurd H (by simp)
        ·rw [if_neg c24] at H
         have c24b0 : (t409 == 0) = false := beq_eq_false_iff_ne.mpr c24
         have c24b1 : (t409 != 0) = true := bne_iff_ne.mpr c24
         have H' := Aside0.mk H
         clear H
         have p404 : 0 ≤ (x12_1 : Int) := of_decide_eq_true (by first | (with_reducible assumption) | assumption)
         have q404 : x12_1 < (t401.length : Int) := of_decide_eq_true (by first | (with_reducible assumption) | assumption)
         obtain ⟨ad404, e404, hx404_0, hx404_1, hx404_2⟩ := at_T99 (Kd.R_reads' HO_10.out).2.2 x12_1 p404 q404
         cases e404
         replace p404 := eq_true p404
         replace q404 := eq_true q404
         go_wp2_with (first | ((with_reducible refine gate_dst (N := 5) rfl ?_); refine box_event ?hg (N := 5) ?hd (cs := #[.int .u64 0, .int .i64 0, .int .i64 0]) (t := 99) ?hr ?_; (case hd => rfl); (case hg => rfl); (case hr => first | (go_simp; done) | (go_simp; rfl)); intro gb405 hg w37 hbox hb; have n0_ := Aside0.mk (Kd.R_below (Kd.R_elderB (rR HO_10.out) gb405 (Nat.le_of_eq hg.symm)) hb); have n1_ := Aside0.mk (IsS75.below (by repeat (first | (with_reducible first | exact HI0.out | apply IsS75.alloc | apply IsS75.drewN | apply IsS75.drew | apply IsS75.set_1 | apply IsS75.set_2) | exact HI0.out)) hb); have n2_ := Aside0.mk (KeepBut.trans (by repeat (first | (with_reducible first | exact HK.out | apply KeepBut.set_ | apply keep_drewN | apply keep_drew | apply keep_alloc) | exact HK.out)) (KeepBut.of_below hb g none) (.inl rfl)); have n3_ := Aside0.mk (below_step (by repeat (first | (with_reducible first | exact HB.out | apply below_alloc | apply pw_below_drewN | apply below_drew1 | refine below_set ?_ (IsS75.ge HI0.out)) | exact HB.out)) hb); have n4_ := Aside0.mk (hbox); have n5_ := Aside0.mk ((by rw [hg]; exact (keep_size (w := w) (g := g) (row := none) (by repeat (first | (with_reducible first | exact HK.out | apply KeepBut.set_ | apply keep_drewN | apply keep_drew | apply keep_alloc) | exact HK.out))) : w.heap.size ≤ gb405)); have n6_ := Aside0.mk ((Nat.le_trans HW0.out (by rw [hg]; exact (keep_size (w := w) (g := g) (row := none) (by repeat (first | (with_reducible first | exact HK.out | apply KeepBut.set_ | apply keep_drewN | apply keep_drew | apply keep_alloc) | exact HK.out))) : w.heap.size ≤ gb405) : w0.heap.size ≤ gb405)); have n7_ := Aside0.mk ((by rw [hg]; exact Nat.ne_of_lt (IsS75.lt (show IsS75 w0 _ g s0_0 x1001_1 x1002_1 from by repeat (first | (with_reducible first | exact HI0.out | apply IsS75.alloc | apply IsS75.drewN | apply IsS75.drew | apply IsS75.set_1 | apply IsS75.set_2) | exact HI0.out))) : g ≠ gb405)); have n8_ := Aside0.mk ((by rw [hg]; exact Nat.ne_of_gt (IsS75.lt (show IsS75 w0 _ g s0_0 x1001_1 x1002_1 from by repeat (first | (with_reducible first | exact HI0.out | apply IsS75.alloc | apply IsS75.drewN | apply IsS75.drew | apply IsS75.set_1 | apply IsS75.set_2) | exact HI0.out))) : gb405 ≠ g)); clear HO_10; clear HI0; clear HK; clear HB; have HO_10 := n0_; have HI0 := n1_; have HK := n2_; have HB := n3_; have BK405 := n4_; have GW405 := n5_; have GE405 := n6_; have NB0_405 := n7_; have NB405_0 := n8_; clear n0_ n1_ n2_ n3_ n4_ n5_ n6_ n7_ n8_; clear hb hbox hg; have hnb38 := NB405_0.out; have hnc38 := NB0_405.out; have hcz39_0 : w37.cell? ⟨gb405, 0, none⟩ = some (.int .u64 0) := (blk_cell BK405.out 0).trans rfl; have hcz39_1 : w37.cell? ⟨gb405, 1, none⟩ = some (.int .i64 0) := (blk_cell BK405.out 1).trans rfl; have hcz39_2 : w37.cell? ⟨gb405, 2, none⟩ = some (.int .i64 0) := (blk_cell BK405.out 2).trans rfl; have hfz39_0 := blk_frozen BK405.out 0; have hfz39_1 := blk_frozen BK405.out 1; have hfz39_2 := blk_frozen BK405.out 2) | (go_at_call 28; (with_reducible refine (bits_Reader_Take.calls k1 g s0_0 x1001_1 x1002_1 1 t409 t410 t411 w0 _ ?side1 ?side2 A23.out).mono ?_); (case side1 => repeat (first | (with_reducible first | exact HI0.out | apply IsS75.alloc | apply IsS75.drewN | apply IsS75.drew | apply IsS75.set_1 | apply IsS75.set_2 | refine IsS75.far ?_ NB0_405.out _) | exact HI0.out)); (case side2 => repeat (first | (with_reducible first | exact HB.out | apply below_alloc | apply pw_below_drewN | apply below_drew1 | refine below_set ?_ (IsS75.ge HI0.out) | refine below_set ?_ GE405.out) | exact HB.out)); rintro e w40 ⟨rfl, hi, hb, hk⟩; have n0_ := Aside0.mk (Kd.R_mono (Kd.R_keep (IsS75.apart (show IsS75 w0 _ g s0_0 x1001_1 x1002_1 from by repeat (first | (with_reducible first | exact HI0.out | apply IsS75.alloc | apply IsS75.drewN | apply IsS75.drew | apply IsS75.set_1 | apply IsS75.set_2 | refine IsS75.far ?_ NB0_405.out _) | exact HI0.out)) (by (with_reducible repeat (first | apply Kd.R_alloc | apply Kd.R_drewN | apply Kd.R_drew)); exact (Kd.R_mono (Kd.R_far (p := ⟨gb405, 2, none⟩) (Kd.R_far (p := ⟨gb405, 1, none⟩) (Kd.R_far (p := ⟨gb405, 0, none⟩) (Kd.R_mono HO_10.out (fun k_ hk => (⟨hk, hk.2⟩ : _ ∧ k_ ≠ gb405))) (fun _ hk => hk.2) (.int .u64 ((rd_T99 t401 x12_1).f0))) (fun _ hk => hk.2) (.int .i64 ((rd_T99 t401 x12_1).f1))) (fun _ hk => hk.2) (.int .i64 ((rd_T99 t401 x12_1).f2))) (fun _ h_ => h_.1))) (by decide)) hk (fun _ h => h.2)) (fun _ h => h.1)); have n1_ := Aside0.mk (KeepBut.blk hk (g' := gb405) (o := .cells #[.int .u64 ((rd_T99 t401 x12_1).f0), .int .i64 ((rd_T99 t401 x12_1).f1), .int .i64 ((rd_T99 t401 x12_1).f2)] 99 (0, 0)) (by (with_reducible repeat (first | refine blk_drewN ?_ _ | refine blk_drew ?_ | refine blk_alloc ?_ _)); refine blk_put (cs := #[.int .u64 ((rd_T99 t401 x12_1).f0), .int .i64 ((rd_T99 t401 x12_1).f1), .int .i64 0]) ?_ 2 _ rfl; (with_reducible repeat (first | refine blk_drewN ?_ _ | refine blk_drew ?_ | refine blk_alloc ?_ _)); refine blk_put (cs := #[.int .u64 ((rd_T99 t401 x12_1).f0), .int .i64 0, .int .i64 0]) ?_ 1 _ rfl; (with_reducible repeat (first | refine blk_drewN ?_ _ | refine blk_drew ?_ | refine blk_alloc ?_ _)); refine blk_put (cs := #[.int .u64 0, .int .i64 0, .int .i64 0]) ?_ 0 _ rfl; (with_reducible repeat (first | refine blk_drewN ?_ _ | refine blk_drew ?_ | refine blk_alloc ?_ _)); exact BK405.out) NB405_0.out (by simp)); have n2_ := Aside0.mk (KeepBut.trans (by repeat (first | (with_reducible first | exact HK.out | apply KeepBut.set_ | apply keep_drewN | apply keep_drew | apply keep_alloc | refine keep_far ?_ GW405.out _) | exact HK.out)) hk (.inl rfl)); have n3_ := Aside0.mk (hb); have n4_ := Aside0.mk (hi); clear HO_10; clear BK405; clear HK; clear HB; clear HI0; have HO_10 := n0_; have BK405 := n1_; have HK := n2_; have HB := n3_; have HI0 := n4_; clear n0_ n1_ n2_ n3_ n4_; (try clear hb hk hi)))
         go_roundg k1
         case measure => have := HK1.out; omega
         case rel => exact ⟨(x3_1), (wrap64 (x12_1 + 1)), (t410), (t411), (by first | rfl | (simp; done) | (simp [*]; done)), (by first | rfl | (simp; done) | (simp [*]; done)), H', ⟨by have := HK1.out; omega⟩, ⟨by (with_reducible repeat (first | apply Kd.R_alloc | apply Kd.R_drewN | apply Kd.R_drew)); exact Kd.R_mono HO_10.out (fun _ hk => trivial)⟩, ⟨by repeat (first | (with_reducible first | exact HI0.out | apply IsS75.alloc | apply IsS75.drewN | apply IsS75.drew | apply IsS75.set_1 | apply IsS75.set_2 | refine IsS75.far ?_ NB0_405.out _) | exact HI0.out)⟩, ⟨by repeat (first | (with_reducible first | exact HK.out | apply KeepBut.set_ | apply keep_drewN | apply keep_drew | apply keep_alloc | refine keep_far ?_ GW405.out _) | exact HK.out)⟩, ⟨by repeat (first | (with_reducible first | exact HB.out | apply below_alloc | apply pw_below_drewN | apply below_drew1 | refine below_set ?_ (IsS75.ge HI0.out) | refine below_set ?_ GE405.out) | exact HB.out)⟩⟩
      ·rw [if_neg c11] at H
       exact absurd H (by simp)
     ·rw [if_neg c10] at H
      exact absurd H (by simp)
    ·rw [if_neg c9] at H
     have c9b0 : decide (x12_1 < (t401.length : Int)) = false := decide_eq_false c9
     clear c9
     replace H := Option.bind_eq_some_iff.mp H
     obtain ⟨⟨t415, t416, t417⟩, A410, H⟩ := H
     replace H : (if 0 ≤ (wrap64 (64 - x3_1)) then (some (shr .i64 (wrap64 (shl .u64 t415 (wrap64 (64 - x3_1)))) (wrap64 (64 - x3_1)), t416, t417)) else (none)) = some (r1, r2, r3) := H
     have A41 := Aside0.mk A410
     clear A410
     obtain ⟨ji42, hji42⟩ : ∃ j_ : Int, (wrap64 (64 - x3_1)) = j_ := ⟨_, rfl⟩
     replace H : (if 0 ≤ (ji42) then (some (shr .i64 (wrap64 (shl .u64 t415 (ji42))) (ji42), t416, t417)) else (none)) = some (r1, r2, r3) := by first | (rw [hji42] at H; exact H) | (simp only [hji42] at H ⊢; exact H)
     (try rw [hji42] at A41)
     have hji42w : (IntKind.i64.wrap (64 - x3_1)) = ji42 := (i64_w _).trans hji42
     by_cases c43 : 0 ≤ (ji42)
     ·rw [if_pos c43] at H
      have c43b0 := eq_true c43
      have c43b1 : decide (0 ≤ (ji42)) = true := decide_eq_true c43
      clear c43
      obtain ⟨ji44, hji44⟩ : ∃ j_ : Int, (shl .u64 t415 (ji42)) = j_ := ⟨_, rfl⟩
      replace H : (some (shr .i64 (wrap64 (ji44)) (ji42), t416, t417)) = some (r1, r2, r3) := by first | (rw [hji44] at H; exact H) | (simp only [hji44] at H ⊢; exact H)
      (try rw [hji44] at A41)
      have hji44_ : (IntKind.u64.wrap (t415 * 2 ^ min (ji42).toNat 64)) = ji44 := hji44
      have hji44z : (ji42) ≤ 64 → (IntKind.u64.wrap (t415 * 2 ^ (ji42).toNat)) = ji44 := shl_small hji44
      have c45b0 := eq_true (of_decide_eq_true (by first | (with_reducible assumption) | assumption) : 0 ≤ (ji42))
      obtain ⟨ji46, hji46⟩ : ∃ j_ : Int, (shr .i64 (wrap64 (ji44)) (ji42)) = j_ := ⟨_, rfl⟩
      replace H : (some (ji46, t416, t417)) = some (r1, r2, r3) := by first | (rw [hji46] at H; exact H) | (simp only [hji46] at H ⊢; exact H)
      (try rw [hji46] at A41)
      have hji46_ : ((wrap64 (ji44)) / 2 ^ min (ji42).toNat 64) = ji46 := hji46
      have hji46z : (ji42) ≤ 64 → ((wrap64 (ji44)) / 2 ^ (ji42).toNat) = ji46 := shr_small hji46
      simp only [Option.some.injEq, Prod.mk.injEq] at H
      obtain ⟨rfl, rfl, rfl⟩ := H
      go_wp2_with (first | ((with_reducible refine gate_callee (f := 28) rfl ?_); refine goesL_ (some 29) rfl rfl Tryd.func28 (by kernel_rfl) rfl #[.pointer (some ⟨g, 0, none⟩), .int .i64 x3_1] rfl (by (try simp only [List.map_toArray, List.map_cons, List.map_nil]); first | done | rfl | (simp only [List.length_drop, List.length_take]; rfl)) ?_; (with_reducible refine (bits_Reader_Take.calls k1 g s0_0 x1001_1 x1002_1 x3_1 t415 t416 t417 w0 _ ?side1 ?side2 A41.out).mono ?_); (case side1 => repeat (first | (with_reducible first | exact HI0.out | apply IsS75.alloc | apply IsS75.drewN | apply IsS75.drew | apply IsS75.set_1 | apply IsS75.set_2) | exact HI0.out)); (case side2 => repeat (first | (with_reducible first | exact HB.out | apply below_alloc | apply pw_below_drewN | apply below_drew1 | refine below_set ?_ (IsS75.ge HI0.out)) | exact HB.out)); rintro e w47 ⟨rfl, hi, hb, hk⟩; refine ⟨_, rfl, ?_⟩; have n0_ := Aside0.mk (Kd.R_mono (Kd.R_keep (IsS75.apart (show IsS75 w0 _ g s0_0 x1001_1 x1002_1 from by repeat (first | (with_reducible first | exact HI0.out | apply IsS75.alloc | apply IsS75.drewN | apply IsS75.drew | apply IsS75.set_1 | apply IsS75.set_2) | exact HI0.out)) (rR HO_10.out) (by decide)) hk (fun _ h => h.2)) (fun _ h => h.1)); have n1_ := Aside0.mk (KeepBut.trans (by repeat (first | (with_reducible first | exact HK.out | apply KeepBut.set_ | apply keep_drewN | apply keep_drew | apply keep_alloc) | exact HK.out)) hk (.inl rfl)); have n2_ := Aside0.mk (hb); have n3_ := Aside0.mk (hi); clear HO_10; clear HK; clear HB; clear HI0; have HO_10 := n0_; have HK := n1_; have HB := n2_; have HI0 := n3_; clear n0_ n1_ n2_ n3_; (try clear hb hk hi)))
      go_ret
      exact ⟨by first | rfl | (simp [errW_none, errW_some] <;> rfl) | (simp only [← hji42, ← hji44, ← hji46]; first | rfl | (simp [errW_none, errW_some] <;> rfl)) | (simp [*, errW_none, errW_some] <;> rfl), by repeat (first | (with_reducible first | exact HI0.out | apply IsS75.alloc | apply IsS75.drewN | apply IsS75.drew | apply IsS75.set_1 | apply IsS75.set_2) | exact HI0.out), by repeat (first | (with_reducible first | exact HB.out | apply below_alloc | apply pw_below_drewN | apply below_drew1 | refine below_set ?_ (IsS75.ge HI0.out)) | exact HB.out), by repeat (first | (with_reducible first | exact HK.out | apply KeepBut.set_ | apply keep_drewN | apply keep_drew | apply keep_alloc) | exact HK.out)⟩
     ·rw [if_neg c43] at H
      exact absurd H (by simp)

end Go.Proofs.YtmlbppfcpejlpaaDoor.X

namespace Go.Proofs.YtmlbppfcpejlpaaDoor.X
open Go.RowKit Go.Proofs.YtmlbppfcpejlpaaDoorW.PrintWords Go.Proofs.YtmlbppfcpejlpaaDoorW.PrintLast Go.Proofs.YtmlbppfcpejlpaaDoorW.PrintMore
attribute [local go_sem] max2_int min2_int max_two min_two max_three min_three max_four min_four   -- for this text's walks alone
set_option linter.unusedVariables false
set_option linter.unusedSimpArgs false

/-! ### times_getTwice: function 65 -/
open Go.Proofs.YtmlbppfcpejlpaaDoor.S Go.Proofs.YtmlbppfcpejlpaaDoor.B Go.Proofs.YtmlbppfcpejlpaaDoor.W04
/-- What i rounds give: the numbers, the last step, the reader's place, and whether it is bad. -/
def times_getTwice.run (l : List Int) : Nat → Option (List Int × Int × Int × Bool)
 | 0 => some ([], 0, 0, false)
 | i + 1 => (times_getTwice.run l i).bind fun p =>
  if i = 0 then (bits_Reader_Take.f 200 l p.2.2.1 p.2.2.2 64).bind fun t => some (p.1 ++ [IntKind.i64.wrap t.1], p.2.1, t.2.1, t.2.2)
  else if i = 1 then (bits_Reader_Take.f 200 l p.2.2.1 p.2.2.2 64).bind fun t => some (p.1 ++ [IntKind.i64.wrap (rd p.1 ((i : Int) - 1) + IntKind.i64.wrap t.1)], IntKind.i64.wrap t.1, t.2.1, t.2.2)
  else (times_difference.f 200 l p.2.2.1 p.2.2.2).bind fun t => some (p.1 ++ [IntKind.i64.wrap (rd p.1 ((i : Int) - 1) + IntKind.i64.wrap (p.2.1 + t.1))], IntKind.i64.wrap (p.2.1 + t.1), t.2.1, t.2.2)
def times_getTwice.f (l0 : List Int) (a1 : Int) : Option (List Int × Int) :=
 if a1 ≤ 200 ∧ l0.length < 1000000000 then (times_getTwice.run l0 a1.toNat).bind fun p => if p.2.2.2 = true then some ([], 4) else some (p.1, 0) else none
theorem times_getTwice.run_le (l : List Int) (n i : Nat) (h : i ≤ n) (x : List Int × Int × Int × Bool) (hx : times_getTwice.run l n = some x) : ∃ y, times_getTwice.run l i = some y := by
 induction n generalizing x with
 | zero =>
  have : i = 0 := by omega
  subst this; exact ⟨x, hx⟩
 | succ n ih =>
  by_cases e : i = n + 1
  ·subst e; exact ⟨x, hx⟩
  ·rw [times_getTwice.run] at hx
   obtain ⟨y, hy, _⟩ := Option.bind_eq_some_iff.1 hx
   exact ih (by omega) y hy
def times_getTwice.Two (B : Nat) (xs : List Int) (m : Int) (w : World) (e : Ending) (w' : World) : Prop :=
 ∃ v0_ : Value, e = .returned (.tuple #[v0_, .int .i64 m]) ∧ Kd.R (Kd.int .i64) 2 w' B (fun _ => True) v0_ xs ∧ Below w.heap.size w w'
def times_getTwice.ot : Bool → List Int → List Int | true, _ => [] | false, l => l
def times_getTwice.er : Bool → Int | true => 4 | false => 0
def times_getTwice.Rel (w1 : World) (g : Nat) (l : List Int) (i : Nat) (vo : Value) (st : Int) (wr : World) : Prop :=
 ∃ (a : Int) (bad : Bool) (out : List Int), times_getTwice.run l i = some (out, st, a, bad) ∧ IsS75 w1 wr g l a bad ∧ Below w1.heap.size w1 wr ∧ Kd.R (Kd.int .i64) 2 wr w1.heap.size (fun _ => True) vo out ∧ out.length = i
set_option maxHeartbeats 8000000 in
set_option maxRecDepth 100000 in
theorem times_getTwice.calls_main (A0 : Option Addr) (c0 : Nat) (l0 : List Int) (nn : Int) (n : Nat) (out0 : List Int) (st0 at0 : Int) (bad0 : Bool) (w : World) (hr0 : Kd.C (Kd.int .u8) w A0 l0.length l0) (hc0 : l0.length ≤ c0) (hn : n = nn.toNat) (hn2 : n ≤ 200) (hl : l0.length < 1000000000) (hrun : times_getTwice.run l0 n = some (out0, st0, at0, bad0)) :
  Calls Tryd.prog 65 #[.slice A0 l0.length c0, .int .i64 nn] w (times_getTwice.Two w.heap.size (times_getTwice.ot bad0 out0) (times_getTwice.er bad0) w) := by
 have HR0 := Aside0.mk hr0
 have HC0 := Aside0.mk hc0
 have HN := Aside0.mk hn
 have HRN := Aside0.mk hrun
 clear hr0 hc0 hrun hn
 go_enter Tryd.func65, Tryd.ntmps65
 go_wp2_with (go_at_call 27; (with_reducible refine (new_calls _ _ l0 _ HR0.out HC0.out (by omega)).mono ?_); rintro e w2 ⟨g, w1, rfl, hb1, hs, hb2⟩; have HS0 := Aside0.mk hs; have HB1 := Aside0.mk hb1; have HB2 := Aside0.mk hb2; clear hb1 hs hb2)
 have HR : Aside0 (times_getTwice.Rel w1 g l0 0 (.slice none 0 0) 0 w2) := ⟨⟨0, false, [], rfl, HS0.out, HB2.out, Kd.R_nil _ _ _ _ _, rfl⟩⟩
 clear HS0 HB2
 go_loopw [7, 8, 13] (fun v7 v8 v13 wr => ∃ (i : Nat) (ii st : Int), v8 = .int .i64 st ∧ v13 = .int .i64 ii ∧ Aside0 (ii = (i : Int)) ∧ Aside0 (i ≤ n) ∧ Aside0 (times_getTwice.Rel w1 g l0 i v7 st wr)) (fun _ _ v13 _ => (nn - intOf v13).toNat)
 case atStart => exact ⟨0, _, _, rfl, rfl, ⟨rfl⟩, ⟨Nat.zero_le _⟩, HR⟩
 case round =>
  clear HR
  obtain ⟨i, ii, st, rfl, rfl, HI, HIL, HR⟩ := hrel
  obtain ⟨a, bad, out, hrun, hs, hbl, ho, hlen⟩ := HR.out
  have HS := Aside0.mk hs
  have HB := Aside0.mk hbl
  have HLEN := Aside0.mk hlen
  have HRUN0 := Aside0.mk hrun
  clear HR hs hbl
  have hin := HI.out
  by_cases hlt : i < n
  ·have hi0 : 0 ≤ ii := by omega
   have hi1 : ii ≤ 200 := by omega
   have HNN := Aside0.mk (show ii < nn by have := HN.out; omega)
   have hi2 : decide (ii < nn) = true := decide_eq_true HNN.out
   obtain ⟨⟨out1, st1, a1, bad1⟩, hnext⟩ := times_getTwice.run_le l0 n (i + 1) hlt _ HRN.out
   have HNX := Aside0.mk hnext
   rw [times_getTwice.run, hrun, Option.bind_some] at hnext
   by_cases q0 : i = 0
   ·have e0 : (ii == 0) = true := by rw [beq_iff_eq]; omega
    rw [if_pos q0] at hnext
    obtain ⟨⟨tv, a2, bad2⟩, ht, hnext⟩ := Option.bind_eq_some_iff.1 hnext
    have HO := Aside0.mk ho
    injection hnext with hnext; injection hnext with g1 hnext; injection hnext with g2 hnext; injection hnext with g3 g4
    have g1' : out ++ [IntKind.i64.wrap tv] = out1 := g1
    have g2' : st = st1 := g2
    have g3' : a2 = a1 := g3
    have g4' : bad2 = bad1 := g4
    subst g3'; subst g4'; subst g2'
    obtain ⟨sv, hsv⟩ : ∃ sv, IntKind.i64.wrap tv = sv := ⟨_, rfl⟩
    rw [hsv] at g1'
    subst g1'
    have HRUN := HNX
    have HT : Aside0 (bits_Reader_Take.f 200 l0 a bad 64 = some (tv, a2, bad2)) := ⟨ht⟩
    have hsv' : wrap64 tv = sv := (i64_w _).symm.trans hsv
    clear g1 g2 g3 g4 ht HNX HRUN0 hrun ho hlen hin q0
    go_wp2_with (first
     | (go_at_call 28; (with_reducible refine (bits_Reader_Take.calls 200 g l0 a bad 64 tv a2 bad2 w1 wr HS.out HB.out HT.out).mono ?_); rintro e w5 ⟨rfl, hs, hb2, hk⟩; have HS5 := Aside0.mk hs; have HB5 := Aside0.mk hb2; have HO5 := Aside0.mk (Kd.R_mono (ok' := fun _ => True) (Kd.R_keep (HS.out.apart HO.out (by decide)) hk (fun _ h => h.2)) (fun _ _ => trivial)); clear hs hb2 hk HS HB HO)
     | ((with_reducible refine gate_builtin (b := .append) (xs := #[.tmp 23, .tmp 27]) rfl ?_); at_builtin; refine Kd.R_append (Kd.int .i64) (w0 := w1) w1.heap.size rfl (.tmp 23) (.tmp 27) 68 2 (.int .i64 0) 8 rfl Tryd.underlying68 info2 rfl (by decide) (by omega) u7 out sv [.int .i64 sv] (fun _ => True) (fun _ => False) rfl rfl ?aP (fun _ hk => hk.elim) ?aF ?aO ?aB ?aS ?aL ?_; (case aP => exact rfl); (case aB => exact HB5.out); (case aF => exact (fun _ _ => trivial)); (case aO => exact HO5.out); (case aS => exact (below_size HB5.out)); (case aL => have := HLEN.out; omega); intro v6 w6 ho hb hg hat; have HO6 := Aside0.mk ho; have HB6 := Aside0.mk hb; have HS6 := Aside0.mk (HS5.out.grown hg (HS5.out.own_ne HO5.out (by decide))); clear ho hb hg hat HS5 HB5 HO5))
    go_roundw
    case rel => exact ⟨i + 1, _, _, rfl, rfl, ⟨by have := HI.out; omega⟩, ⟨hlt⟩, ⟨a2, bad2, out ++ [sv], HRUN.out, HS6.out, HB6.out, HO6.out, by have := HLEN.out; simp; omega⟩⟩
    case measure => simp [intOf]; have := HI.out; have := HNN.out; omega
   have e0 : (ii == 0) = false := by rw [beq_eq_false_iff_ne]; omega
   obtain ⟨jj, hjj⟩ : ∃ jj, jj = ii - 1 := ⟨_, rfl⟩
   have hj0 : 0 ≤ jj := by omega
   have hj1 : IntKind.i64.wrap (ii - 1) = jj := by rw [IntKind.wrap_i64]; omega
   have hj2 : wrap64 (ii - 1) = jj := (i64_w _).symm.trans hj1
   have hj3 : ii - 1 = jj := hjj.symm
   obtain ⟨ln, hln⟩ : ∃ ln, ln = out.length := ⟨_, rfl⟩
   have hj4 : (jj < (ln : Int)) = True := eq_true (by omega)
   have hj5 : (0 ≤ jj) = True := eq_true hj0
   have HJ := Aside0.mk (show jj = (i : Int) - 1 by omega)
   obtain ⟨A7, c7, rfl⟩ := Kd.R_slice ho
   obtain ⟨ad, e, hx⟩ := Kd.at_int (Kd.R_reads' ho).2.2 jj hj0 (by omega)
   cases e
   obtain ⟨xv, hxv⟩ : ∃ xv, rd out jj = xv := ⟨_, rfl⟩
   have HRD := Aside0.mk hxv
   rw [← HJ.out, hxv] at hnext
   have HO := Aside0.mk ho
   rw [← hln] at HO ⊢
   have HLN := Aside0.mk hln
   clear ho hx hxv hln hjj
   by_cases q1 : i = 1
   ·have e1 : (ii == 1) = true := by rw [beq_iff_eq]; omega
    rw [if_neg q0, if_pos q1] at hnext
    obtain ⟨⟨tv, a2, bad2⟩, ht, hnext⟩ := Option.bind_eq_some_iff.1 hnext
    injection hnext with hnext; injection hnext with g1 hnext; injection hnext with g2 hnext; injection hnext with g3 g4
    have g1' : out ++ [IntKind.i64.wrap (xv + IntKind.i64.wrap tv)] = out1 := g1
    have g2' : IntKind.i64.wrap tv = st1 := g2
    have g3' : a2 = a1 := g3
    have g4' : bad2 = bad1 := g4
    rw [g2'] at g1'
    subst g3'; subst g4'
    obtain ⟨sv, hsv⟩ : ∃ sv, IntKind.i64.wrap (xv + st1) = sv := ⟨_, rfl⟩
    rw [hsv] at g1'
    subst g1'
    have HRUN := HNX
    have HT : Aside0 (bits_Reader_Take.f 200 l0 a bad 64 = some (tv, a2, bad2)) := ⟨ht⟩
    have hsv' : wrap64 (xv + st1) = sv := (i64_w _).symm.trans hsv
    have hst' : wrap64 tv = st1 := (i64_w _).symm.trans g2'
    clear g1 g2 g3 g4 ht HNX HRUN0 hrun hlen hin q0 q1
    go_wp2_with (first
     | (go_at_call 28; (with_reducible refine (bits_Reader_Take.calls 200 g l0 a bad 64 tv a2 bad2 w1 wr HS.out HB.out HT.out).mono ?_); rintro e w5 ⟨rfl, hs, hb2, hk⟩; have HS5 := Aside0.mk hs; have HB5 := Aside0.mk hb2; have HO5 := Aside0.mk (Kd.R_mono (ok' := fun _ => True) (Kd.R_keep (HS.out.apart HO.out (by decide)) hk (fun _ h => h.2)) (fun _ _ => trivial)); obtain ⟨ad5, e5, hx5⟩ := Kd.at_int (Kd.R_reads' HO5.out).2.2 jj hj0 (by rw [HLEN.out]; have := HJ.out; omega); cases e5; rw [HRD.out] at hx5; clear hs hb2 hk HS HB HO)
     | ((with_reducible refine gate_builtin (b := .append) (xs := #[.tmp 34, .tmp 42]) rfl ?_); at_builtin; refine Kd.R_append (Kd.int .i64) (w0 := w1) w1.heap.size rfl (.tmp 34) (.tmp 42) 68 2 (.int .i64 0) 8 rfl Tryd.underlying68 info2 rfl (by decide) (by omega) (.slice (some ad) ln c7) out sv [.int .i64 sv] (fun _ => True) (fun _ => False) rfl rfl ?aP (fun _ hk => hk.elim) ?aF ?aO ?aB ?aS ?aL ?_; (case aP => exact rfl); (case aB => exact HB5.out); (case aF => exact (fun _ _ => trivial)); (case aO => exact HO5.out); (case aS => exact (below_size HB5.out)); (case aL => have := HLEN.out; omega); intro v6 w6 ho hb hg hat; have HO6 := Aside0.mk ho; have HB6 := Aside0.mk hb; have HS6 := Aside0.mk (HS5.out.grown hg (HS5.out.own_ne HO5.out (by decide))); clear ho hb hg hat HS5 HB5 HO5))
    go_roundw
    case rel => exact ⟨i + 1, _, _, rfl, rfl, ⟨by have := HI.out; omega⟩, ⟨hlt⟩, ⟨a2, bad2, out ++ [sv], HRUN.out, HS6.out, HB6.out, HO6.out, by have := HLEN.out; simp; omega⟩⟩
    case measure => simp [intOf]; have := HI.out; have := HNN.out; omega
   ·have e1 : (ii == 1) = false := by rw [beq_eq_false_iff_ne]; omega
    rw [if_neg q0, if_neg q1] at hnext
    obtain ⟨⟨tv, a2, bad2⟩, ht, hnext⟩ := Option.bind_eq_some_iff.1 hnext
    injection hnext with hnext; injection hnext with g1 hnext; injection hnext with g2 hnext; injection hnext with g3 g4
    have g1' : out ++ [IntKind.i64.wrap (xv + IntKind.i64.wrap (st + tv))] = out1 := g1
    have g2' : IntKind.i64.wrap (st + tv) = st1 := g2
    have g3' : a2 = a1 := g3
    have g4' : bad2 = bad1 := g4
    rw [g2'] at g1'
    subst g3'; subst g4'
    obtain ⟨sv, hsv⟩ : ∃ sv, IntKind.i64.wrap (xv + st1) = sv := ⟨_, rfl⟩
    rw [hsv] at g1'
    subst g1'
    have HRUN := HNX
    have HT : Aside0 (times_difference.f 200 l0 a bad = some (tv, a2, bad2)) := ⟨ht⟩
    have hsv' : wrap64 (xv + st1) = sv := (i64_w _).symm.trans hsv
    have hst' : wrap64 (st + tv) = st1 := (i64_w _).symm.trans g2'
    clear g1 g2 g3 g4 ht HNX HRUN0 hrun hlen hin q0 q1
    go_wp2_with (first
     | (go_at_call 74; (with_reducible refine (times_difference.calls 200 g l0 a bad tv a2 bad2 w1 wr HS.out HB.out HT.out).mono ?_); rintro e w5 ⟨rfl, hs, hb2, hk⟩; have HS5 := Aside0.mk hs; have HB5 := Aside0.mk hb2; have HO5 := Aside0.mk (Kd.R_mono (ok' := fun _ => True) (Kd.R_keep (HS.out.apart HO.out (by decide)) hk (fun _ h => h.2)) (fun _ _ => trivial)); obtain ⟨ad5, e5, hx5⟩ := Kd.at_int (Kd.R_reads' HO5.out).2.2 jj hj0 (by rw [HLEN.out]; have := HJ.out; omega); cases e5; rw [HRD.out] at hx5; clear hs hb2 hk HS HB HO)
     | ((with_reducible refine gate_builtin (b := .append) (xs := #[.tmp 34, .tmp 42]) rfl ?_); at_builtin; refine Kd.R_append (Kd.int .i64) (w0 := w1) w1.heap.size rfl (.tmp 34) (.tmp 42) 68 2 (.int .i64 0) 8 rfl Tryd.underlying68 info2 rfl (by decide) (by omega) (.slice (some ad) ln c7) out sv [.int .i64 sv] (fun _ => True) (fun _ => False) rfl rfl ?aP (fun _ hk => hk.elim) ?aF ?aO ?aB ?aS ?aL ?_; (case aP => exact rfl); (case aB => exact HB5.out); (case aF => exact (fun _ _ => trivial)); (case aO => exact HO5.out); (case aS => exact (below_size HB5.out)); (case aL => have := HLEN.out; omega); intro v6 w6 ho hb hg hat; have HO6 := Aside0.mk ho; have HB6 := Aside0.mk hb; have HS6 := Aside0.mk (HS5.out.grown hg (HS5.out.own_ne HO5.out (by decide))); clear ho hb hg hat HS5 HB5 HO5))
    go_roundw
    case rel => exact ⟨i + 1, _, _, rfl, rfl, ⟨by have := HI.out; omega⟩, ⟨hlt⟩, ⟨a2, bad2, out ++ [sv], HRUN.out, HS6.out, HB6.out, HO6.out, by have := HLEN.out; simp; omega⟩⟩
    case measure => simp [intOf]; have := HI.out; have := HNN.out; omega
  ·have hi2 : decide (ii < nn) = false := by rw [decide_eq_false_iff_not]; have := HN.out; omega
   have hil : i = n := by have := HIL.out; omega
   subst hil
   have HO := Aside0.mk ho
   have hE : (out, st, a, bad) = (out0, st0, at0, bad0) := by
    have := HRN.out
    rw [hrun] at this; exact Option.some.inj this
   injection hE with g1 g2; injection g2 with g2 g3; injection g3 with g3 g4
   subst g1; subst g4
   clear g2 g3 hrun HRUN0 ho hin hlen
   cases bad with
   | true =>
    have HBD : Aside0 (bits_Reader_Bad.f l0 a true = some (true, a, true)) := ⟨rfl⟩
    go_wp2_with (go_at_call 30; (with_reducible refine (bits_Reader_Bad.calls g l0 a true true a true w1 wr HS.out HB.out HBD.out).mono ?_); rintro e w5 ⟨rfl, hs, hb2, hk⟩; have HB5 := Aside0.mk hb2; clear hs hb2 hk)
    go_ret2
    exact ⟨_, rfl, Kd.R_nil _ _ _ _ _, below_step HB1.out HB5.out⟩
   | false =>
    have HBD : Aside0 (bits_Reader_Bad.f l0 a false = some (false, a, false)) := ⟨rfl⟩
    go_wp2_with (go_at_call 30; (with_reducible refine (bits_Reader_Bad.calls g l0 a false false a false w1 wr HS.out HB.out HBD.out).mono ?_); rintro e w5 ⟨rfl, hs, hb2, hk⟩; have HB5 := Aside0.mk hb2; have HO5 := Aside0.mk (Kd.R_mono (ok' := fun _ => True) (Kd.R_keep (HS.out.apart HO.out (by decide)) hk (fun _ h => h.2)) (fun _ _ => trivial)); clear hs hb2 hk HS HB HO)
    go_ret2
    exact ⟨_, rfl, Kd.R_lower HO5.out HB1.out.size, below_step HB1.out HB5.out⟩
theorem times_getTwice.calls (A0 : Option Addr) (c0 : Nat) (l0 : List Int) (a1 : Int) (r1 : List Int) (r2 : Int) (w : World) (hr0 : Kd.C (Kd.int .u8) w A0 l0.length l0) (hc0 : l0.length ≤ c0) (h : times_getTwice.f l0 a1 = some (r1, r2)) :
  Calls Tryd.prog 65 #[.slice A0 l0.length c0, .int .i64 a1] w fun e w' => ∃ v0_ : Value, e = .returned (.tuple #[v0_, .int .i64 r2]) ∧ Kd.R (Kd.int .i64) 2 w' w.heap.size (fun _ => True) v0_ r1 ∧ Below w.heap.size w w' := by
 unfold times_getTwice.f at h
 by_cases h1 : a1 ≤ 200 ∧ l0.length < 1000000000
 ·rw [if_pos h1] at h
  obtain ⟨⟨out0, st0, at0, bad0⟩, hr, h⟩ := Option.bind_eq_some_iff.1 h
  have := times_getTwice.calls_main A0 c0 l0 a1 a1.toNat out0 st0 at0 bad0 w hr0 hc0 rfl (by omega) h1.2 hr
  cases bad0 with
  | true => injection h with h; injection h with e1 e2; subst e1; subst e2; exact this
  | false => injection h with h; injection h with e1 e2; subst e1; subst e2; exact this
 ·rw [if_neg h1] at h; cases h

end Go.Proofs.YtmlbppfcpejlpaaDoor.X

namespace Go.Proofs.YtmlbppfcpejlpaaDoor.X
open Go.RowKit Go.Proofs.YtmlbppfcpejlpaaDoorW.PrintWords Go.Proofs.YtmlbppfcpejlpaaDoorW.PrintLast Go.Proofs.YtmlbppfcpejlpaaDoorW.PrintMore
attribute [local go_sem] max2_int min2_int max_two min_two max_three min_three max_four min_four   -- for this text's walks alone
set_option linter.unusedVariables false
set_option linter.unusedSimpArgs false

/-! ### times_got: function 53 -/
def times_got.f (k : Nat) (l0 : List Int) (a1 : Int) (a2 : Int) : Option (List Int × Int) := if a2 = 0 then ((times_getRaw.f k l0 a1).bind fun bt429 => (some (bt429.1, bt429.2))) else (if a2 = 1 then ((times_getDelta.f k l0 a1).bind fun bt433 => (some (bt433.1, bt433.2))) else (if a2 = 2 then ((times_getTwice.f l0 a1).bind fun bt437 => (some (bt437.1, bt437.2))) else ((times_getPacked.f k l0 a1).bind fun bt441 => (some (bt441.1, bt441.2)))))
theorem times_got.mono : ∀ a0 a1 a2 k, LeO (times_got.f k a0 a1 a2) (times_got.f (k + 1) a0 a1 a2) := by
 intro a0 a1 a2 k
 unfold times_got.f
 repeat' first
   | (with_reducible exact times_getDelta.mono _ _ _)
   | (with_reducible exact times_getPacked.mono _ _ _)
   | (with_reducible exact times_getRaw.mono _ _ _)
   | (with_reducible exact LeO.refl _)
   | (with_reducible exact LeO.none _)
   | (with_reducible refine LeO.ite ?_ ?_)
   | (with_reducible refine LeO.bind ?_ (fun _ => ?_))
   | exact times_getDelta.mono _ _ _
   | exact times_getPacked.mono _ _ _
   | exact times_getRaw.mono _ _ _
   | exact LeO.none _
   | refine LeO.ite ?_ ?_
   | refine LeO.bind ?_ (fun _ => ?_)
set_option maxHeartbeats 8000000 in
set_option maxRecDepth 100000 in
theorem times_got.calls (k : Nat) (A0 : Option Addr) (c0 : Nat) (l0 : List Int) (a1 : Int) (a2 : Int) (r1 : List Int) (r2 : Int) (w : World) (hr0 : Kd.C (Kd.int .u8) w A0 l0.length l0) (hc0 : l0.length ≤ c0) (h : times_got.f k l0 a1 a2 = some (r1, r2)) :
  Calls Tryd.prog 53 #[.slice A0 l0.length c0, .int .i64 a1, .int .i64 a2] w fun e w' => ∃ v0_ : Value, e = .returned (.tuple #[v0_, .int .i64 r2]) ∧ Kd.R (Kd.int .i64) 2 w' w.heap.size (fun _ => True) v0_ r1 ∧ Below w.heap.size w w' := by
 have HR0 := Aside0.mk hr0
 have HC0 := Aside0.mk hc0
 clear hr0 hc0
 have HB := Aside0.mk (Below.refl w.heap.size w)
 have H : (if a2 = 0 then ((times_getRaw.f k l0 a1).bind fun bt429 => (some (bt429.1, bt429.2))) else (if a2 = 1 then ((times_getDelta.f k l0 a1).bind fun bt433 => (some (bt433.1, bt433.2))) else (if a2 = 2 then ((times_getTwice.f l0 a1).bind fun bt437 => (some (bt437.1, bt437.2))) else ((times_getPacked.f k l0 a1).bind fun bt441 => (some (bt441.1, bt441.2)))))) = some (r1, r2) := h
 clear h
 by_cases c4 : a2 = 0
 ·rw [if_pos c4] at H
  have c4b0 : (a2 == 0) = true := beq_iff_eq.mpr c4
  have c4b1 : (a2 != 0) = false := bne_eq_false_iff_eq.mpr c4
  clear c4
  replace H := Option.bind_eq_some_iff.mp H
  obtain ⟨⟨t429, t430⟩, A50, H⟩ := H
  replace H : (some (t429, t430)) = some (r1, r2) := H
  have A5 := Aside0.mk A50
  clear A50
  simp only [Option.some.injEq, Prod.mk.injEq] at H
  obtain ⟨rfl, rfl⟩ := H
  go_enter Tryd.func53, Tryd.ntmps53
  go_wp2_with (first | ((with_reducible refine gate_callee (f := 63) rfl ?_); refine goesL_ (some 13) rfl rfl Tryd.func63 (by kernel_rfl) rfl #[.slice A0 l0.length c0, .int .i64 a1] rfl (by (try simp only [List.map_toArray, List.map_cons, List.map_nil]); first | done | rfl | (simp only [List.length_drop, List.length_take]; rfl)) ?_; (with_reducible refine (times_getRaw.calls k _ _ l0 a1 t429 t430 _ ?side1 ?side2 A5.out).mono ?_); (case side1 => exact cC HR0.out); (case side2 => exact HC0.out); rintro e w6 ⟨v431, rfl, ho0, hb⟩; refine ⟨_, rfl, ?_⟩; have n0_ := Aside0.mk (Kd.R_lower ho0 (below_size bB)); have n1_ := Aside0.mk (below_step bB hb); clear HB; have HO432 := n0_; have HB := n1_; clear n0_ n1_; (try clear hb ho0)))
  go_ret2
  exact ⟨_, by first | rfl | (simp [errW_none, errW_some] <;> rfl) | (simp [*, errW_none, errW_some] <;> rfl), rR HO432.out, bB⟩
 ·rw [if_neg c4] at H
  have c4b0 : (a2 == 0) = false := beq_eq_false_iff_ne.mpr c4
  have c4b1 : (a2 != 0) = true := bne_iff_ne.mpr c4
  by_cases c7 : a2 = 1
  ·rw [if_pos c7] at H
   have c7b0 : (a2 == 1) = true := beq_iff_eq.mpr c7
   have c7b1 : (a2 != 1) = false := bne_eq_false_iff_eq.mpr c7
   clear c7
   replace H := Option.bind_eq_some_iff.mp H
   obtain ⟨⟨t433, t436⟩, A80, H⟩ := H
   replace H : (some (t433, t436)) = some (r1, r2) := H
   have A8 := Aside0.mk A80
   clear A80
   simp only [Option.some.injEq, Prod.mk.injEq] at H
   obtain ⟨rfl, rfl⟩ := H
   go_enter Tryd.func53, Tryd.ntmps53
   go_wp2_with (first | ((with_reducible refine gate_callee (f := 64) rfl ?_); refine goesL_ (some 20) rfl rfl Tryd.func64 (by kernel_rfl) rfl #[.slice A0 l0.length c0, .int .i64 a1] rfl (by (try simp only [List.map_toArray, List.map_cons, List.map_nil]); first | done | rfl | (simp only [List.length_drop, List.length_take]; rfl)) ?_; (with_reducible refine (times_getDelta.calls k (fun k_ => k_ < w.heap.size) _ _ l0 a1 t433 t436 _ ?side1 A8.out).mono ?_); (case side1 => exact Kd.V_mk HC0.out (Kd.F_below (Kd.C_F (Kd.heap_int .u8) HR0.out) bB)); rintro e w9 ⟨v434, rfl, ho0, hb⟩; refine ⟨_, rfl, ?_⟩; have n0_ := Aside0.mk (Kd.R_lower (Kd.R_mono (ok' := fun k_ => True) ho0 (fun _ hk_ => trivial)) (below_size bB)); have n1_ := Aside0.mk (below_step bB hb); clear HB; have HO435 := n0_; have HB := n1_; clear n0_ n1_; (try clear hb ho0)))
   go_ret2
   exact ⟨_, by first | rfl | (simp [errW_none, errW_some] <;> rfl) | (simp [*, errW_none, errW_some] <;> rfl), rR HO435.out, bB⟩
  ·rw [if_neg c7] at H
   have c7b0 : (a2 == 1) = false := beq_eq_false_iff_ne.mpr c7
   have c7b1 : (a2 != 1) = true := bne_iff_ne.mpr c7
   by_cases c10 : a2 = 2
   ·rw [if_pos c10] at H
    have c10b0 : (a2 == 2) = true := beq_iff_eq.mpr c10
    have c10b1 : (a2 != 2) = false := bne_eq_false_iff_eq.mpr c10
    clear c10
    replace H := Option.bind_eq_some_iff.mp H
    obtain ⟨⟨t437, t438⟩, A110, H⟩ := H
    replace H : (some (t437, t438)) = some (r1, r2) := H
    have A11 := Aside0.mk A110
    clear A110
    simp only [Option.some.injEq, Prod.mk.injEq] at H
    obtain ⟨rfl, rfl⟩ := H
    go_enter Tryd.func53, Tryd.ntmps53
    go_wp2_with (first | ((with_reducible refine gate_callee (f := 65) rfl ?_); refine goesL_ (some 27) rfl rfl Tryd.func65 (by kernel_rfl) rfl #[.slice A0 l0.length c0, .int .i64 a1] rfl (by (try simp only [List.map_toArray, List.map_cons, List.map_nil]); first | done | rfl | (simp only [List.length_drop, List.length_take]; rfl)) ?_; (with_reducible refine (times_getTwice.calls _ _ l0 a1 t437 t438 _ ?side1 ?side2 A11.out).mono ?_); (case side1 => exact cC HR0.out); (case side2 => exact HC0.out); rintro e w12 ⟨v439, rfl, ho0, hb⟩; refine ⟨_, rfl, ?_⟩; have n0_ := Aside0.mk (Kd.R_lower ho0 (below_size bB)); have n1_ := Aside0.mk (below_step bB hb); clear HB; have HO440 := n0_; have HB := n1_; clear n0_ n1_; (try clear hb ho0)))
    go_ret2
    exact ⟨_, by first | rfl | (simp [errW_none, errW_some] <;> rfl) | (simp [*, errW_none, errW_some] <;> rfl), rR HO440.out, bB⟩
   ·rw [if_neg c10] at H
    have c10b0 : (a2 == 2) = false := beq_eq_false_iff_ne.mpr c10
    have c10b1 : (a2 != 2) = true := bne_iff_ne.mpr c10
    replace H := Option.bind_eq_some_iff.mp H
    obtain ⟨⟨t441, t442⟩, A130, H⟩ := H
    replace H : (some (t441, t442)) = some (r1, r2) := H
    have A13 := Aside0.mk A130
    clear A130
    simp only [Option.some.injEq, Prod.mk.injEq] at H
    obtain ⟨rfl, rfl⟩ := H
    go_enter Tryd.func53, Tryd.ntmps53
    go_wp2_with (first | ((with_reducible refine gate_callee (f := 66) rfl ?_); refine goesL_ (some 32) rfl rfl Tryd.func66 (by kernel_rfl) rfl #[.slice A0 l0.length c0, .int .i64 a1] rfl (by (try simp only [List.map_toArray, List.map_cons, List.map_nil]); first | done | rfl | (simp only [List.length_drop, List.length_take]; rfl)) ?_; (with_reducible refine (times_getPacked.calls k _ _ l0 a1 t441 t442 _ ?side1 ?side2 A13.out).mono ?_); (case side1 => exact cC HR0.out); (case side2 => exact HC0.out); rintro e w14 ⟨v443, rfl, ho0, hb⟩; refine ⟨_, rfl, ?_⟩; have n0_ := Aside0.mk (Kd.R_lower ho0 (below_size bB)); have n1_ := Aside0.mk (below_step bB hb); clear HB; have HO444 := n0_; have HB := n1_; clear n0_ n1_; (try clear hb ho0)))
    go_ret2
    exact ⟨_, by first | rfl | (simp [errW_none, errW_some] <;> rfl) | (simp [*, errW_none, errW_some] <;> rfl), rR HO444.out, bB⟩


/-! ### times_Get: function 42 -/
def times_Get.j0 : Nat → List Int → Int → Int → Bool → Option (List Int × Int × Int)
 | 0, _, _, _, _ => none
 | k + 1, x0, x1, x2, x13 => if x13 = true then (some (([] : List Int), 0, 1)) else (if x1 = 0 then (some (([] : List Int), 0, 0)) else ((times_got.f k x0 x1 x2).bind fun bt445 => (if bt445.2 = 0 then ((times_Put.f k bt445.1 x2).bind fun bt449 => ((bytes_HasPrefix.f x0 bt449.1).bind fun t453 => (if t453 = true then (some (bt445.1, (bt449.1.length : Int), 0)) else (some (([] : List Int), 0, 3))))) else (some (([] : List Int), 0, bt445.2)))))
def times_Get.f (k : Nat) (l0 : List Int) (a1 : Int) (a2 : Int) : Option (List Int × Int × Int) := if a2 < 0 then (times_Get.j0 k l0 a1 a2 true) else (if a2 > 3 then (times_Get.j0 k l0 a1 a2 true) else (if a1 < 0 then (times_Get.j0 k l0 a1 a2 true) else (times_Get.j0 k l0 a1 a2 (decide (a1 > 200)))))
theorem times_Get.mono_l : ∀ k, (∀ y0 y1 y2 y3, LeO (times_Get.j0 k y0 y1 y2 y3) (times_Get.j0 (k + 1) y0 y1 y2 y3))
 | 0 => fun _ _ _ _ r h => by simp [times_Get.j0] at h
 | k + 1 => by
  have ih0 := times_Get.mono_l k
  ·intro y0 y1 y2 y3
   unfold times_Get.j0
   repeat' first
   | (with_reducible exact ih0 _ _ _ _)
   | (with_reducible exact times_Put.mono _ _ _)
   | (with_reducible exact times_got.mono _ _ _ _)
   | (with_reducible exact LeO.refl _)
   | (with_reducible exact LeO.none _)
   | (with_reducible refine LeO.ite ?_ ?_)
   | (with_reducible refine LeO.bind ?_ (fun _ => ?_))
   | exact ih0 _ _ _ _
   | exact times_Put.mono _ _ _
   | exact times_got.mono _ _ _ _
   | exact LeO.none _
   | refine LeO.ite ?_ ?_
   | refine LeO.bind ?_ (fun _ => ?_)
theorem times_Get.mono : ∀ a0 a1 a2 k, LeO (times_Get.f k a0 a1 a2) (times_Get.f (k + 1) a0 a1 a2) := by
 intro a0 a1 a2 k
 have ih0 := times_Get.mono_l k
 unfold times_Get.f
 repeat' first
   | (with_reducible exact ih0 _ _ _ _)
   | (with_reducible exact times_Put.mono _ _ _)
   | (with_reducible exact times_got.mono _ _ _ _)
   | (with_reducible exact LeO.refl _)
   | (with_reducible exact LeO.none _)
   | (with_reducible refine LeO.ite ?_ ?_)
   | (with_reducible refine LeO.bind ?_ (fun _ => ?_))
   | exact ih0 _ _ _ _
   | exact times_Put.mono _ _ _
   | exact times_got.mono _ _ _ _
   | exact LeO.none _
   | refine LeO.ite ?_ ?_
   | refine LeO.bind ?_ (fun _ => ?_)
set_option maxHeartbeats 8000000 in
set_option maxRecDepth 100000 in
theorem times_Get.calls (k : Nat) (A0 : Option Addr) (c0 : Nat) (l0 : List Int) (a1 : Int) (a2 : Int) (r1 : List Int) (r2 : Int) (r3 : Int) (w : World) (hr0 : Kd.C (Kd.int .u8) w A0 l0.length l0) (hc0 : l0.length ≤ c0) (h : times_Get.f k l0 a1 a2 = some (r1, r2, r3)) :
  Calls Tryd.prog 42 #[.slice A0 l0.length c0, .int .i64 a1, .int .i64 a2] w fun e w' => ∃ v0_ : Value, e = .returned (.tuple #[v0_, .int .i64 r2, .int .i64 r3]) ∧ Kd.R (Kd.int .i64) 2 w' w.heap.size (fun _ => True) v0_ r1 ∧ Below w.heap.size w w' := by
 have HR0 := Aside0.mk hr0
 have HC0 := Aside0.mk hc0
 clear hr0 hc0
 have HB := Aside0.mk (Below.refl w.heap.size w)
 have H : (if a2 < 0 then (times_Get.j0 k l0 a1 a2 true) else (if a2 > 3 then (times_Get.j0 k l0 a1 a2 true) else (if a1 < 0 then (times_Get.j0 k l0 a1 a2 true) else (times_Get.j0 k l0 a1 a2 (decide (a1 > 200)))))) = some (r1, r2, r3) := h
 clear h
 have HC4 := Aside0.mk H
 clear H
 go_enter Tryd.func42, Tryd.ntmps42
 go_upto_region 1 with (fail)
 go_cut [13] (fun v13 wc => ∃ (kq : Nat) (x13_3 : Bool), v13 = .bool x13_3 ∧ Aside0 (times_Get.j0 kq l0 a1 a2 x13_3 = some (r1, r2, r3)) ∧ Aside0 (kq ≤ k) ∧ Aside0 (Below w.heap.size w wc))
 case first =>
  have H := HC4.out
  clear HC4
  by_cases c5 : a2 < 0
  ·rw [if_pos c5] at H
   have c5b0 : decide (a2 < 0) = true := decide_eq_true c5
   clear c5
   (first | rw [c5b0] | (simp only [i64_w, i32_w]; rw [c5b0]) | skip)
   have H' := Aside0.mk H
   clear H
   go_wp2
   go_meet
   case rel => exact ⟨_, (true), (by first | rfl | (simp; done) | (simp [*]; done)), H', ⟨by first | omega | exact Nat.le_refl _⟩, ⟨bB⟩⟩
  ·rw [if_neg c5] at H
   have c5b0 : decide (a2 < 0) = false := decide_eq_false c5
   clear c5
   (first | rw [c5b0] | (simp only [i64_w, i32_w]; rw [c5b0]) | skip)
   by_cases c6 : a2 > 3
   ·rw [if_pos c6] at H
    have c6b0 : decide (3 < a2) = true := decide_eq_true c6
    clear c6
    have H' := Aside0.mk H
    clear H
    go_wp2
    go_meet
    case rel => exact ⟨_, (true), (by first | rfl | (simp; done) | (simp [*]; done)), H', ⟨by first | omega | exact Nat.le_refl _⟩, ⟨bB⟩⟩
   ·rw [if_neg c6] at H
    have c6b0 : decide (3 < a2) = false := decide_eq_false c6
    clear c6
    by_cases c7 : a1 < 0
    ·rw [if_pos c7] at H
     have c7b0 : decide (a1 < 0) = true := decide_eq_true c7
     clear c7
     have H' := Aside0.mk H
     clear H
     go_wp2
     go_meet
     case rel => exact ⟨_, (true), (by first | rfl | (simp; done) | (simp [*]; done)), H', ⟨by first | omega | exact Nat.le_refl _⟩, ⟨bB⟩⟩
    ·rw [if_neg c7] at H
     have c7b0 : decide (a1 < 0) = false := decide_eq_false c7
     clear c7
     have H' := Aside0.mk H
     clear H
     go_wp2
     go_meet
     case rel => exact ⟨_, (decide (a1 > 200)), (by first | rfl | (simp; done) | (simp [*]; done)), H', ⟨by first | omega | exact Nat.le_refl _⟩, ⟨bB⟩⟩
 case rest =>
  clear HC4
  (try clear p2);(try clear c4);(try clear c5);(try clear c5b0);(try clear c6);(try clear c6b0);(try clear c7);(try clear c7b0)
  obtain ⟨kq, x13_3, rfl, HA, HJ3, HB⟩ := hcut
  cases kq with
  | zero => exact absurd HA.out (by simp [times_Get.j0])
  | succ kj3 =>
   have H := HA.out
   clear HA
   simp only [times_Get.j0] at H
   by_cases c8 : x13_3 = true
   ·subst c8
    have H1 : (some (([] : List Int), 0, 1)) = some (r1, r2, r3) := by rw [if_pos rfl] at H; exact H
    clear H
    have H := H1
    clear H1
    simp only [Option.some.injEq, Prod.mk.injEq] at H
    obtain ⟨rfl, rfl, rfl⟩ := H
    go_wp2
    go_ret3
    exact ⟨_, by first | rfl | (simp [errW_none, errW_some] <;> rfl) | (simp [*, errW_none, errW_some] <;> rfl), by first | exact Kd.R_nil _ _ _ _ _ | exact Kd.N_nil _ _ _ _ _ | exact Kd.V_nil _ _ _ _ _ | exact Kd.Q_nil _ _ _ _ _ | exact Kd.S_nil _ _ _ _ _, bB⟩
   ·replace c8 := Bool.eq_false_iff.mpr c8
    subst c8
    have H1 : (if a1 = 0 then (some (([] : List Int), 0, 0)) else ((times_got.f kj3 l0 a1 a2).bind fun bt445 => (if bt445.2 = 0 then ((times_Put.f kj3 bt445.1 a2).bind fun bt449 => ((bytes_HasPrefix.f l0 bt449.1).bind fun t453 => (if t453 = true then (some (bt445.1, (bt449.1.length : Int), 0)) else (some (([] : List Int), 0, 3))))) else (some (([] : List Int), 0, bt445.2))))) = some (r1, r2, r3) := by rw [if_neg (show ¬ (false = true) by decide)] at H; exact H
    clear H
    have H := H1
    clear H1
    by_cases c9 : a1 = 0
    ·rw [if_pos c9] at H
     have c9b0 : (a1 == 0) = true := beq_iff_eq.mpr c9
     have c9b1 : (a1 != 0) = false := bne_eq_false_iff_eq.mpr c9
     clear c9
     simp only [Option.some.injEq, Prod.mk.injEq] at H
     obtain ⟨rfl, rfl, rfl⟩ := H
     go_wp2
     go_ret3
     exact ⟨_, by first | rfl | (simp [errW_none, errW_some] <;> rfl) | (simp [*, errW_none, errW_some] <;> rfl), by first | exact Kd.R_nil _ _ _ _ _ | exact Kd.N_nil _ _ _ _ _ | exact Kd.V_nil _ _ _ _ _ | exact Kd.Q_nil _ _ _ _ _ | exact Kd.S_nil _ _ _ _ _, bB⟩
    ·rw [if_neg c9] at H
     have c9b0 : (a1 == 0) = false := beq_eq_false_iff_ne.mpr c9
     have c9b1 : (a1 != 0) = true := bne_iff_ne.mpr c9
     replace H := Option.bind_eq_some_iff.mp H
     obtain ⟨⟨t445, t446⟩, A100, H⟩ := H
     replace H : (if t446 = 0 then ((times_Put.f kj3 t445 a2).bind fun bt449 => ((bytes_HasPrefix.f l0 bt449.1).bind fun t453 => (if t453 = true then (some (t445, (bt449.1.length : Int), 0)) else (some (([] : List Int), 0, 3))))) else (some (([] : List Int), 0, t446))) = some (r1, r2, r3) := H
     have A10 := Aside0.mk A100
     clear A100
     by_cases c11 : t446 = 0
     ·rw [if_pos c11] at H
      have c11b0 : (t446 == 0) = true := beq_iff_eq.mpr c11
      have c11b1 : (t446 != 0) = false := bne_eq_false_iff_eq.mpr c11
      clear c11
      replace H := Option.bind_eq_some_iff.mp H
      obtain ⟨⟨t449, t450⟩, A120, H⟩ := H
      replace H : ((bytes_HasPrefix.f l0 t449).bind fun t453 => (if t453 = true then (some (t445, (t449.length : Int), 0)) else (some (([] : List Int), 0, 3)))) = some (r1, r2, r3) := H
      have A12 := Aside0.mk A120
      clear A120
      replace H := Option.bind_eq_some_iff.mp H
      obtain ⟨t453, A130, H⟩ := H
      replace H : (if t453 = true then (some (t445, (t449.length : Int), 0)) else (some (([] : List Int), 0, 3))) = some (r1, r2, r3) := H
      have A13 := Aside0.mk A130
      clear A130
      by_cases c14 : t453 = true
      ·subst c14
       have H1 : (some (t445, (t449.length : Int), 0)) = some (r1, r2, r3) := by rw [if_pos rfl] at H; exact H
       clear H
       have H := H1
       clear H1
       simp only [Option.some.injEq, Prod.mk.injEq] at H
       obtain ⟨rfl, rfl, rfl⟩ := H
       go_wp2_with (first | ((with_reducible refine gate_callee (f := 53) rfl ?_); refine goesL_ (some 35) rfl rfl Tryd.func53 (by kernel_rfl) rfl #[.slice A0 l0.length c0, .int .i64 a1, .int .i64 a2] rfl (by (try simp only [List.map_toArray, List.map_cons, List.map_nil]); first | done | rfl | (simp only [List.length_drop, List.length_take]; rfl)) ?_; (with_reducible refine (times_got.calls kj3 _ _ l0 a1 a2 t445 t446 _ ?side1 ?side2 A10.out).mono ?_); (case side1 => exact cC (Kd.C_below HR0.out HB.out)); (case side2 => exact HC0.out); rintro e w15 ⟨v447, rfl, ho0, hb⟩; refine ⟨_, rfl, ?_⟩; have n0_ := Aside0.mk (Kd.R_lower ho0 (below_size bB)); have n1_ := Aside0.mk (below_step bB hb); clear HB; have HO448 := n0_; have HB := n1_; clear n0_ n1_; (try clear hb ho0); obtain ⟨Ao16, co16, eo16⟩ := Kd.R_slice HO448.out; subst eo16) | ((with_reducible refine gate_callee (f := 33) rfl ?_); refine goesL_ (some 44) rfl rfl Tryd.func33 (by kernel_rfl) rfl #[.slice Ao16 t445.length co16, .int .i64 a2] rfl (by (try simp only [List.map_toArray, List.map_cons, List.map_nil]); first | done | rfl | (simp only [List.length_drop, List.length_take]; rfl)) ?_; (with_reducible refine (times_Put.calls kj3 _ _ t445 a2 t449 t450 _ ?side1 ?side2 A12.out).mono ?_); (case side1 => exact cC (Kd.R_reads' HO448.out).2.2); (case side2 => exact (Kd.R_reads' HO448.out).2.1); rintro e w17 ⟨v451, rfl, ho0, hb⟩; refine ⟨_, rfl, ?_⟩; have n0_ := Aside0.mk (Kd.R_below (rR HO448.out) hb); have n1_ := Aside0.mk (Kd.R_lower ho0 (below_size bB)); have n2_ := Aside0.mk (below_step bB hb); clear HO448; clear HB; have HO448 := n0_; have HO452 := n1_; have HB := n2_; clear n0_ n1_ n2_; (try clear hb ho0); obtain ⟨Ao18, co18, eo18⟩ := Kd.R_slice HO452.out; subst eo18) | ((with_reducible refine gate_callee (f := 31) rfl ?_); refine goesL_ (some 49) rfl rfl Tryd.func31 (by kernel_rfl) rfl #[.slice A0 l0.length c0, .slice Ao18 t449.length co18] rfl (by (try simp only [List.map_toArray, List.map_cons, List.map_nil]); first | done | rfl | (simp only [List.length_drop, List.length_take]; rfl)) ?_; (with_reducible refine (bytes_HasPrefix.calls _ _ l0 _ _ t449 true _ ?side1 ?side2 ?side3 ?side4 A13.out).mono ?_); (case side1 => exact cC (Kd.C_below HR0.out HB.out)); (case side2 => exact HC0.out); (case side3 => exact cC (Kd.R_reads' HO452.out).2.2); (case side4 => exact (Kd.R_reads' HO452.out).2.1); rintro e w' ⟨rfl, ⟨nd, rfl⟩⟩; refine ⟨_, rfl, ?_⟩))
       go_ret3
       exact ⟨_, by first | rfl | (simp [errW_none, errW_some] <;> rfl) | (simp [*, errW_none, errW_some] <;> rfl), rR HO448.out, bB⟩
      ·replace c14 := Bool.eq_false_iff.mpr c14
       subst c14
       have H1 : (some (([] : List Int), 0, 3)) = some (r1, r2, r3) := by rw [if_neg (show ¬ (false = true) by decide)] at H; exact H
       clear H
       have H := H1
       clear H1
       simp only [Option.some.injEq, Prod.mk.injEq] at H
       obtain ⟨rfl, rfl, rfl⟩ := H
       go_wp2_with (first | ((with_reducible refine gate_callee (f := 53) rfl ?_); refine goesL_ (some 35) rfl rfl Tryd.func53 (by kernel_rfl) rfl #[.slice A0 l0.length c0, .int .i64 a1, .int .i64 a2] rfl (by (try simp only [List.map_toArray, List.map_cons, List.map_nil]); first | done | rfl | (simp only [List.length_drop, List.length_take]; rfl)) ?_; (with_reducible refine (times_got.calls kj3 _ _ l0 a1 a2 t445 t446 _ ?side1 ?side2 A10.out).mono ?_); (case side1 => exact cC (Kd.C_below HR0.out HB.out)); (case side2 => exact HC0.out); rintro e w19 ⟨v447, rfl, ho0, hb⟩; refine ⟨_, rfl, ?_⟩; have n0_ := Aside0.mk (Kd.R_lower ho0 (below_size bB)); have n1_ := Aside0.mk (below_step bB hb); clear HB; have HO448 := n0_; have HB := n1_; clear n0_ n1_; (try clear hb ho0); obtain ⟨Ao20, co20, eo20⟩ := Kd.R_slice HO448.out; subst eo20) | ((with_reducible refine gate_callee (f := 33) rfl ?_); refine goesL_ (some 44) rfl rfl Tryd.func33 (by kernel_rfl) rfl #[.slice Ao20 t445.length co20, .int .i64 a2] rfl (by (try simp only [List.map_toArray, List.map_cons, List.map_nil]); first | done | rfl | (simp only [List.length_drop, List.length_take]; rfl)) ?_; (with_reducible refine (times_Put.calls kj3 _ _ t445 a2 t449 t450 _ ?side1 ?side2 A12.out).mono ?_); (case side1 => exact cC (Kd.R_reads' HO448.out).2.2); (case side2 => exact (Kd.R_reads' HO448.out).2.1); rintro e w21 ⟨v451, rfl, ho0, hb⟩; refine ⟨_, rfl, ?_⟩; have n0_ := Aside0.mk (Kd.R_below (rR HO448.out) hb); have n1_ := Aside0.mk (Kd.R_lower ho0 (below_size bB)); have n2_ := Aside0.mk (below_step bB hb); clear HO448; clear HB; have HO448 := n0_; have HO452 := n1_; have HB := n2_; clear n0_ n1_ n2_; (try clear hb ho0); obtain ⟨Ao22, co22, eo22⟩ := Kd.R_slice HO452.out; subst eo22) | ((with_reducible refine gate_callee (f := 31) rfl ?_); refine goesL_ (some 49) rfl rfl Tryd.func31 (by kernel_rfl) rfl #[.slice A0 l0.length c0, .slice Ao22 t449.length co22] rfl (by (try simp only [List.map_toArray, List.map_cons, List.map_nil]); first | done | rfl | (simp only [List.length_drop, List.length_take]; rfl)) ?_; (with_reducible refine (bytes_HasPrefix.calls _ _ l0 _ _ t449 false _ ?side1 ?side2 ?side3 ?side4 A13.out).mono ?_); (case side1 => exact cC (Kd.C_below HR0.out HB.out)); (case side2 => exact HC0.out); (case side3 => exact cC (Kd.R_reads' HO452.out).2.2); (case side4 => exact (Kd.R_reads' HO452.out).2.1); rintro e w' ⟨rfl, ⟨nd, rfl⟩⟩; refine ⟨_, rfl, ?_⟩))
       go_ret3
       exact ⟨_, by first | rfl | (simp [errW_none, errW_some] <;> rfl) | (simp [*, errW_none, errW_some] <;> rfl), by first | exact Kd.R_nil _ _ _ _ _ | exact Kd.N_nil _ _ _ _ _ | exact Kd.V_nil _ _ _ _ _ | exact Kd.Q_nil _ _ _ _ _ | exact Kd.S_nil _ _ _ _ _, bB⟩
     ·rw [if_neg c11] at H
      have c11b0 : (t446 == 0) = false := beq_eq_false_iff_ne.mpr c11
      have c11b1 : (t446 != 0) = true := bne_iff_ne.mpr c11
      simp only [Option.some.injEq, Prod.mk.injEq] at H
      obtain ⟨rfl, rfl, rfl⟩ := H
      go_wp2_with (first | ((with_reducible refine gate_callee (f := 53) rfl ?_); refine goesL_ (some 35) rfl rfl Tryd.func53 (by kernel_rfl) rfl #[.slice A0 l0.length c0, .int .i64 a1, .int .i64 a2] rfl (by (try simp only [List.map_toArray, List.map_cons, List.map_nil]); first | done | rfl | (simp only [List.length_drop, List.length_take]; rfl)) ?_; (with_reducible refine (times_got.calls kj3 _ _ l0 a1 a2 t445 t446 _ ?side1 ?side2 A10.out).mono ?_); (case side1 => exact cC (Kd.C_below HR0.out HB.out)); (case side2 => exact HC0.out); rintro e w23 ⟨v447, rfl, ho0, hb⟩; refine ⟨_, rfl, ?_⟩; have n0_ := Aside0.mk (Kd.R_lower ho0 (below_size bB)); have n1_ := Aside0.mk (below_step bB hb); clear HB; have HO448 := n0_; have HB := n1_; clear n0_ n1_; (try clear hb ho0)))
      go_ret3
      exact ⟨_, by first | rfl | (simp [errW_none, errW_some] <;> rfl) | (simp [*, errW_none, errW_some] <;> rfl), by first | exact Kd.R_nil _ _ _ _ _ | exact Kd.N_nil _ _ _ _ _ | exact Kd.V_nil _ _ _ _ _ | exact Kd.Q_nil _ _ _ _ _ | exact Kd.S_nil _ _ _ _ _, bB⟩


/-! ### chunk_Decode: function 32 -/
def chunk_Decode.l0 : Nat → List Int → Int → List Int → List (S51) → List Int → Int → Int → Option ((List (S51)) × Int × Int)
 | 0, _, _, _, _, _, _, _ => none
 | k + 1, x0, x5, x7, x12, x79, x80, x81 => if x81 < x80 then (if 0 ≤ x81 then (if x81 < (x79.length : Int) then (if x81 < (x7.length : Int) then (if x12.length < 8796093022208 then (chunk_Decode.l0 k x0 x5 x7 (x12 ++ [(⟨rd x7 x81, rd x79 x81⟩ : S51)]) x79 x80 (wrap64 (x81 + 1))) else (none)) else (none)) else (none)) else (none)) else ((chunk_Encode.f k x12 x5).bind fun bt547 => (if bt547.2 = 0 then ((bytes_Equal.f bt547.1 x0).bind fun t551 => (if t551 = true then (some (x12, x5, 0)) else ((chunk_refused.f 3).bind fun bt552 => (some (bt552.1, bt552.2.1, bt552.2.2))))) else ((chunk_refused.f 3).bind fun bt557 => (some (bt557.1, bt557.2.1, bt557.2.2)))))
def chunk_Decode.f (k : Nat) (l0 : List Int) : Option ((List (S51)) × Int × Int) := if (l0.length : Int) < 3 then ((chunk_refused.f 4).bind fun bt507 => (some (bt507.1, bt507.2.1, bt507.2.2))) else (if 0 < (l0.length : Int) then (if 1 < (l0.length : Int) then (if 2 < (l0.length : Int) then (if (wrap64 (rd l0 0)) ≥ 16 then ((chunk_refused.f 3).bind fun bt515 => (some (bt515.1, bt515.2.1, bt515.2.2))) else (if 3 ≤ (l0.length : Int) then ((times_Get.f k (l0.drop 3) (Go.bits .or .i64 (wrap64 ((wrap64 (rd l0 1)) * 256)) (wrap64 (rd l0 2))) (wrap64 (Int.tdiv (wrap64 (rd l0 0)) 4))).bind fun bt521 => (if bt521.2.2 = 0 then (if 0 ≤ (wrap64 (3 + bt521.2.1)) then (if (wrap64 (3 + bt521.2.1)) ≤ (l0.length : Int) then ((chunk_getValues.f k (l0.drop ((wrap64 (3 + bt521.2.1)) : Int).toNat) (Go.bits .or .i64 (wrap64 ((wrap64 (rd l0 1)) * 256)) (wrap64 (rd l0 2))) (Int.tmod (wrap64 (rd l0 0)) 4)).bind fun bt532 => (if bt532.2.2 = 0 then (chunk_Decode.l0 k l0 (wrap64 (rd l0 0)) bt521.1 ([] : List (S51)) bt532.1 (bt532.1.length : Int) 0) else ((chunk_refused.f bt532.2.2).bind fun bt537 => (some (bt537.1, bt537.2.1, bt537.2.2))))) else (none)) else (none)) else ((chunk_refused.f bt521.2.2).bind fun bt526 => (some (bt526.1, bt526.2.1, bt526.2.2))))) else (none))) else (none)) else (none)) else (none))
theorem chunk_Decode.mono_l : ∀ k, (∀ y0 y1 y2 y3 y4 y5 y6, LeO (chunk_Decode.l0 k y0 y1 y2 y3 y4 y5 y6) (chunk_Decode.l0 (k + 1) y0 y1 y2 y3 y4 y5 y6))
 | 0 => fun _ _ _ _ _ _ _ r h => by simp [chunk_Decode.l0] at h
 | k + 1 => by
  have ih0 := chunk_Decode.mono_l k
  ·intro y0 y1 y2 y3 y4 y5 y6
   unfold chunk_Decode.l0
   repeat' first
   | (with_reducible exact ih0 _ _ _ _ _ _ _)
   | (with_reducible exact chunk_Encode.mono _ _ _)
   | (with_reducible exact chunk_getValues.mono _ _ _ _)
   | (with_reducible exact times_Get.mono _ _ _ _)
   | (with_reducible exact LeO.refl _)
   | (with_reducible exact LeO.none _)
   | (with_reducible refine LeO.ite ?_ ?_)
   | (with_reducible refine LeO.bind ?_ (fun _ => ?_))
   | exact ih0 _ _ _ _ _ _ _
   | exact chunk_Encode.mono _ _ _
   | exact chunk_getValues.mono _ _ _ _
   | exact times_Get.mono _ _ _ _
   | exact LeO.none _
   | refine LeO.ite ?_ ?_
   | refine LeO.bind ?_ (fun _ => ?_)
theorem chunk_Decode.mono : ∀ a0 k, LeO (chunk_Decode.f k a0) (chunk_Decode.f (k + 1) a0) := by
 intro a0 k
 have ih0 := chunk_Decode.mono_l k
 unfold chunk_Decode.f
 repeat' first
   | (with_reducible exact ih0 _ _ _ _ _ _ _)
   | (with_reducible exact chunk_Encode.mono _ _ _)
   | (with_reducible exact chunk_getValues.mono _ _ _ _)
   | (with_reducible exact times_Get.mono _ _ _ _)
   | (with_reducible exact LeO.refl _)
   | (with_reducible exact LeO.none _)
   | (with_reducible refine LeO.ite ?_ ?_)
   | (with_reducible refine LeO.bind ?_ (fun _ => ?_))
   | exact ih0 _ _ _ _ _ _ _
   | exact chunk_Encode.mono _ _ _
   | exact chunk_getValues.mono _ _ _ _
   | exact times_Get.mono _ _ _ _
   | exact LeO.none _
   | refine LeO.ite ?_ ?_
   | refine LeO.bind ?_ (fun _ => ?_)
set_option maxHeartbeats 8000000 in
set_option maxRecDepth 100000 in
theorem chunk_Decode.calls (k : Nat) (A0 : Option Addr) (c0 : Nat) (l0 : List Int) (r1 : List (S51)) (r2 : Int) (r3 : Int) (w : World) (hr0 : Kd.C (Kd.int .u8) w A0 l0.length l0) (hc0 : l0.length ≤ c0) (hT_ : Go.Proofs.YtmlbppfcpejlpaaDoor.W08.Tab w) (h : chunk_Decode.f k l0 = some (r1, r2, r3)) :
  Calls Tryd.prog 32 #[.slice A0 l0.length c0] w fun e w' => ∃ v0_ : Value, e = .returned (.tuple #[v0_, .int .i64 r2, .int .i64 r3]) ∧ Kd.R k51 51 w' w.heap.size (fun _ => True) v0_ r1 ∧ Below w.heap.size w w' := by
 have HTAB := Aside0.mk hT_
 clear hT_
 have hu51 := Tryd.underlying51
 have HR0 := Aside0.mk hr0
 have HC0 := Aside0.mk hc0
 clear hr0 hc0
 have HB := Aside0.mk (Below.refl w.heap.size w)
 have H : (if (l0.length : Int) < 3 then ((chunk_refused.f 4).bind fun bt507 => (some (bt507.1, bt507.2.1, bt507.2.2))) else (if 0 < (l0.length : Int) then (if 1 < (l0.length : Int) then (if 2 < (l0.length : Int) then (if (wrap64 (rd l0 0)) ≥ 16 then ((chunk_refused.f 3).bind fun bt515 => (some (bt515.1, bt515.2.1, bt515.2.2))) else (if 3 ≤ (l0.length : Int) then ((times_Get.f k (l0.drop 3) (Go.bits .or .i64 (wrap64 ((wrap64 (rd l0 1)) * 256)) (wrap64 (rd l0 2))) (wrap64 (Int.tdiv (wrap64 (rd l0 0)) 4))).bind fun bt521 => (if bt521.2.2 = 0 then (if 0 ≤ (wrap64 (3 + bt521.2.1)) then (if (wrap64 (3 + bt521.2.1)) ≤ (l0.length : Int) then ((chunk_getValues.f k (l0.drop ((wrap64 (3 + bt521.2.1)) : Int).toNat) (Go.bits .or .i64 (wrap64 ((wrap64 (rd l0 1)) * 256)) (wrap64 (rd l0 2))) (Int.tmod (wrap64 (rd l0 0)) 4)).bind fun bt532 => (if bt532.2.2 = 0 then (chunk_Decode.l0 k l0 (wrap64 (rd l0 0)) bt521.1 ([] : List (S51)) bt532.1 (bt532.1.length : Int) 0) else ((chunk_refused.f bt532.2.2).bind fun bt537 => (some (bt537.1, bt537.2.1, bt537.2.2))))) else (none)) else (none)) else ((chunk_refused.f bt521.2.2).bind fun bt526 => (some (bt526.1, bt526.2.1, bt526.2.2))))) else (none))) else (none)) else (none)) else (none))) = some (r1, r2, r3) := h
 clear h
 by_cases c2 : (l0.length : Int) < 3
 ·rw [if_pos c2] at H
  have c2b0 : decide ((l0.length : Int) < 3) = true := decide_eq_true c2
  have c2b1 : decide (l0.length < 3) = true := decide_eq_true (by omega)
  clear c2
  replace H := Option.bind_eq_some_iff.mp H
  obtain ⟨⟨t507, t508, t509⟩, A30, H⟩ := H
  replace H : (some (t507, t508, t509)) = some (r1, r2, r3) := H
  have A3 := Aside0.mk A30
  clear A30
  simp only [Option.some.injEq, Prod.mk.injEq] at H
  obtain ⟨rfl, rfl, rfl⟩ := H
  go_enter Tryd.func32, Tryd.ntmps32
  go_wp2_with (first | (go_at_call 41; (with_reducible refine (chunk_refused.calls 4 t507 t508 t509 _ A3.out).mono ?_); rintro e w4 ⟨v510, rfl, ho0, hb⟩; have n0_ := Aside0.mk (Kd.R_lower ho0 (below_size bB)); have n1_ := Aside0.mk (below_step bB hb); clear HB; have HO511 := n0_; have HB := n1_; clear n0_ n1_; (try clear hb ho0)))
  repeat (go_quiet (first | (go_at_call 41; (with_reducible refine (chunk_refused.calls 4 t507 t508 t509 _ A3.out).mono ?_); rintro e w4 ⟨v510, rfl, ho0, hb⟩; have n0_ := Aside0.mk (Kd.R_lower ho0 (below_size bB)); have n1_ := Aside0.mk (below_step bB hb); clear HB; have HO511 := n0_; have HB := n1_; clear n0_ n1_; (try clear hb ho0))); try go_wp2_with (first | (go_at_call 41; (with_reducible refine (chunk_refused.calls 4 t507 t508 t509 _ A3.out).mono ?_); rintro e w4 ⟨v510, rfl, ho0, hb⟩; have n0_ := Aside0.mk (Kd.R_lower ho0 (below_size bB)); have n1_ := Aside0.mk (below_step bB hb); clear HB; have HO511 := n0_; have HB := n1_; clear n0_ n1_; (try clear hb ho0))))
  go_ret3
  exact ⟨_, by first | rfl | (simp [errW_none, errW_some] <;> rfl) | (simp [*, errW_none, errW_some] <;> rfl), rR HO511.out, bB⟩
 ·rw [if_neg c2] at H
  have c2b0 : decide ((l0.length : Int) < 3) = false := decide_eq_false c2
  have c2b1 : decide (l0.length < 3) = false := decide_eq_false (by omega)
  clear c2
  by_cases c5 : 0 < (l0.length : Int)
  ·rw [if_pos c5] at H
   have c5b0 : decide (0 < (l0.length : Int)) = true := decide_eq_true c5
   have c5b1 : decide (0 < l0.length) = true := decide_eq_true (by omega)
   clear c5
   by_cases c6 : 1 < (l0.length : Int)
   ·rw [if_pos c6] at H
    have c6b0 : decide (1 < (l0.length : Int)) = true := decide_eq_true c6
    have c6b1 : decide (1 < l0.length) = true := decide_eq_true (by omega)
    clear c6
    by_cases c7 : 2 < (l0.length : Int)
    ·rw [if_pos c7] at H
     have c7b0 : decide (2 < (l0.length : Int)) = true := decide_eq_true c7
     have c7b1 : decide (2 < l0.length) = true := decide_eq_true (by omega)
     clear c7
     by_cases c8 : (wrap64 (rd l0 0)) ≥ 16
     ·rw [if_pos c8] at H
      have c8b0 : decide (16 ≤ (wrap64 (rd l0 0))) = true := decide_eq_true c8
      clear c8
      replace H := Option.bind_eq_some_iff.mp H
      obtain ⟨⟨t515, t516, t517⟩, A90, H⟩ := H
      replace H : (some (t515, t516, t517)) = some (r1, r2, r3) := H
      have A9 := Aside0.mk A90
      clear A90
      simp only [Option.some.injEq, Prod.mk.injEq] at H
      obtain ⟨rfl, rfl, rfl⟩ := H
      have p512 : 0 ≤ (0 : Int) := (by omega)
      have q512 : 0 < (l0.length : Int) := of_decide_eq_true (by first | (with_reducible assumption) | assumption)
      obtain ⟨ad512, e512, hx512_0⟩ := Kd.at_int HR0.out 0 p512 q512
      cases e512
      have qi512 : (0 < l0.length) = True := eq_true (by omega)
      (try rw [show ((0 : Int)).toNat = 0 from rfl] at hx512_0)
      (try rw [Addr.add_zero'] at hx512_0)
      replace p512 := eq_true p512
      replace q512 := eq_true q512
      have p513 : 0 ≤ (1 : Int) := (by omega)
      have q513 : 1 < (l0.length : Int) := of_decide_eq_true (by first | (with_reducible assumption) | assumption)
      obtain ⟨ad513, e513, hx513_0⟩ := Kd.at_int HR0.out 1 p513 q513
      obtain rfl : ad512 = ad513 := (by injection e513)
      (try simp only [show (1 : Int).toNat = 1 from rfl, Nat.reduceMul, Nat.reduceEqDiff, Go.Addr.add, ↓reduceIte] at hx513_0)
      have qi513 : (1 < l0.length) = True := eq_true (by omega)
      (try rw [show ((1 : Int)).toNat = 1 from rfl] at hx513_0)
      replace p513 := eq_true p513
      replace q513 := eq_true q513
      have p514 : 0 ≤ (2 : Int) := (by omega)
      have q514 : 2 < (l0.length : Int) := of_decide_eq_true (by first | (with_reducible assumption) | assumption)
      obtain ⟨ad514, e514, hx514_0⟩ := Kd.at_int HR0.out 2 p514 q514
      obtain rfl : ad512 = ad514 := (by injection e514)
      (try simp only [show (2 : Int).toNat = 2 from rfl, Nat.reduceMul, Nat.reduceEqDiff, Go.Addr.add, ↓reduceIte] at hx514_0)
      have qi514 : (2 < l0.length) = True := eq_true (by omega)
      (try rw [show ((2 : Int)).toNat = 2 from rfl] at hx514_0)
      replace p514 := eq_true p514
      replace q514 := eq_true q514
      go_enter Tryd.func32, Tryd.ntmps32
      go_wp2_with (first | (go_at_call 41; (with_reducible refine (chunk_refused.calls 3 t515 t516 t517 _ A9.out).mono ?_); rintro e w10 ⟨v518, rfl, ho0, hb⟩; have n0_ := Aside0.mk (Kd.R_lower ho0 (below_size bB)); have n1_ := Aside0.mk (below_step bB hb); clear HB; have HO519 := n0_; have HB := n1_; clear n0_ n1_; (try clear hb ho0)))
      repeat (go_quiet (first | (go_at_call 41; (with_reducible refine (chunk_refused.calls 3 t515 t516 t517 _ A9.out).mono ?_); rintro e w10 ⟨v518, rfl, ho0, hb⟩; have n0_ := Aside0.mk (Kd.R_lower ho0 (below_size bB)); have n1_ := Aside0.mk (below_step bB hb); clear HB; have HO519 := n0_; have HB := n1_; clear n0_ n1_; (try clear hb ho0))); try go_wp2_with (first | (go_at_call 41; (with_reducible refine (chunk_refused.calls 3 t515 t516 t517 _ A9.out).mono ?_); rintro e w10 ⟨v518, rfl, ho0, hb⟩; have n0_ := Aside0.mk (Kd.R_lower ho0 (below_size bB)); have n1_ := Aside0.mk (below_step bB hb); clear HB; have HO519 := n0_; have HB := n1_; clear n0_ n1_; (try clear hb ho0))))
      go_ret3
      exact ⟨_, by first | rfl | (simp [errW_none, errW_some] <;> rfl) | (simp [*, errW_none, errW_some] <;> rfl), rR HO519.out, bB⟩
     ·rw [if_neg c8] at H
      have c8b0 : decide (16 ≤ (wrap64 (rd l0 0))) = false := decide_eq_false c8
      clear c8
      by_cases c11 : 3 ≤ (l0.length : Int)
      ·rw [if_pos c11] at H
       have c11b0 := eq_true c11
       have c11b1 : decide (3 ≤ (l0.length : Int)) = true := decide_eq_true c11
       clear c11
       replace H := Option.bind_eq_some_iff.mp H
       obtain ⟨⟨t521, t522, t523⟩, A120, H⟩ := H
       replace H : (if t523 = 0 then (if 0 ≤ (wrap64 (3 + t522)) then (if (wrap64 (3 + t522)) ≤ (l0.length : Int) then ((chunk_getValues.f k (l0.drop ((wrap64 (3 + t522)) : Int).toNat) (Go.bits .or .i64 (wrap64 ((wrap64 (rd l0 1)) * 256)) (wrap64 (rd l0 2))) (Int.tmod (wrap64 (rd l0 0)) 4)).bind fun bt532 => (if bt532.2.2 = 0 then (chunk_Decode.l0 k l0 (wrap64 (rd l0 0)) t521 ([] : List (S51)) bt532.1 (bt532.1.length : Int) 0) else ((chunk_refused.f bt532.2.2).bind fun bt537 => (some (bt537.1, bt537.2.1, bt537.2.2))))) else (none)) else (none)) else ((chunk_refused.f t523).bind fun bt526 => (some (bt526.1, bt526.2.1, bt526.2.2)))) = some (r1, r2, r3) := H
       have A12 := Aside0.mk A120
       clear A120
       by_cases c13 : t523 = 0
       ·rw [if_pos c13] at H
        have c13b0 : (t523 == 0) = true := beq_iff_eq.mpr c13
        have c13b1 : (t523 != 0) = false := bne_eq_false_iff_eq.mpr c13
        clear c13
        obtain ⟨ji14, hji14⟩ : ∃ j_ : Int, (wrap64 (3 + t522)) = j_ := ⟨_, rfl⟩
        replace H : (if 0 ≤ (ji14) then (if (ji14) ≤ (l0.length : Int) then ((chunk_getValues.f k (l0.drop ((ji14) : Int).toNat) (Go.bits .or .i64 (wrap64 ((wrap64 (rd l0 1)) * 256)) (wrap64 (rd l0 2))) (Int.tmod (wrap64 (rd l0 0)) 4)).bind fun bt532 => (if bt532.2.2 = 0 then (chunk_Decode.l0 k l0 (wrap64 (rd l0 0)) t521 ([] : List (S51)) bt532.1 (bt532.1.length : Int) 0) else ((chunk_refused.f bt532.2.2).bind fun bt537 => (some (bt537.1, bt537.2.1, bt537.2.2))))) else (none)) else (none)) = some (r1, r2, r3) := by first | (rw [hji14] at H; exact H) | (simp only [hji14] at H ⊢; exact H)
        (try rw [hji14] at A12)
        have hji14w : (IntKind.i64.wrap (3 + t522)) = ji14 := (i64_w _).trans hji14
        by_cases c15 : 0 ≤ (ji14)
        ·rw [if_pos c15] at H
         have c15b0 := eq_true c15
         have c15b1 : decide (0 ≤ (ji14)) = true := decide_eq_true c15
         clear c15
         by_cases c16 : (ji14) ≤ (l0.length : Int)
         ·rw [if_pos c16] at H
          have c16b0 := eq_true c16
          have c16b1 : decide ((ji14) ≤ (l0.length : Int)) = true := decide_eq_true c16
          clear c16
          replace H := Option.bind_eq_some_iff.mp H
          obtain ⟨⟨t532, t533, t534⟩, A170, H⟩ := H
          replace H : (if t534 = 0 then (chunk_Decode.l0 k l0 (wrap64 (rd l0 0)) t521 ([] : List (S51)) t532 (t532.length : Int) 0) else ((chunk_refused.f t534).bind fun bt537 => (some (bt537.1, bt537.2.1, bt537.2.2)))) = some (r1, r2, r3) := H
          have A17 := Aside0.mk A170
          clear A170
          by_cases c18 : t534 = 0
          ·rw [if_pos c18] at H
           have c18b0 : (t534 == 0) = true := beq_iff_eq.mpr c18
           have c18b1 : (t534 != 0) = false := bne_eq_false_iff_eq.mpr c18
           clear c18
           have H' := Aside0.mk H
           clear H
           have p512 : 0 ≤ (0 : Int) := (by omega)
           have q512 : 0 < (l0.length : Int) := of_decide_eq_true (by first | (with_reducible assumption) | assumption)
           obtain ⟨ad512, e512, hx512_0⟩ := Kd.at_int HR0.out 0 p512 q512
           cases e512
           have qi512 : (0 < l0.length) = True := eq_true (by omega)
           (try rw [show ((0 : Int)).toNat = 0 from rfl] at hx512_0)
           (try rw [Addr.add_zero'] at hx512_0)
           replace p512 := eq_true p512
           replace q512 := eq_true q512
           have p513 : 0 ≤ (1 : Int) := (by omega)
           have q513 : 1 < (l0.length : Int) := of_decide_eq_true (by first | (with_reducible assumption) | assumption)
           obtain ⟨ad513, e513, hx513_0⟩ := Kd.at_int HR0.out 1 p513 q513
           obtain rfl : ad512 = ad513 := (by injection e513)
           (try simp only [show (1 : Int).toNat = 1 from rfl, Nat.reduceMul, Nat.reduceEqDiff, Go.Addr.add, ↓reduceIte] at hx513_0)
           have qi513 : (1 < l0.length) = True := eq_true (by omega)
           (try rw [show ((1 : Int)).toNat = 1 from rfl] at hx513_0)
           replace p513 := eq_true p513
           replace q513 := eq_true q513
           have p514 : 0 ≤ (2 : Int) := (by omega)
           have q514 : 2 < (l0.length : Int) := of_decide_eq_true (by first | (with_reducible assumption) | assumption)
           obtain ⟨ad514, e514, hx514_0⟩ := Kd.at_int HR0.out 2 p514 q514
           obtain rfl : ad512 = ad514 := (by injection e514)
           (try simp only [show (2 : Int).toNat = 2 from rfl, Nat.reduceMul, Nat.reduceEqDiff, Go.Addr.add, ↓reduceIte] at hx514_0)
           have qi514 : (2 < l0.length) = True := eq_true (by omega)
           (try rw [show ((2 : Int)).toNat = 2 from rfl] at hx514_0)
           replace p514 := eq_true p514
           replace q514 := eq_true q514
           obtain ⟨i019, hi019, _, hsz19, _⟩ := info_parts info5
           obtain ⟨A19, hcut19, hA19, hC19⟩ := print_drop_of (P := Tryd.prog) (Value.int .u8) 0 23 5 .i64 Tryd.underlying23 hi019 hsz19 (some ad512) c0 l0 3 (by omega) (of_decide_eq_true (by first | (with_reducible assumption) | assumption)) HC0.out
           have HR520 := Aside0.mk (Kd.C_of_reads (h1 := fun _ => rfl) (hA19 _ (Kd.reads_of_C HR0.out)))
           have HC520 := Aside0.mk hC19
           clear hA19 hC19 hi019 hsz19
           obtain ⟨yq19, hyq19⟩ : ∃ y_ : List Int, y_ = l0.drop (3 : Int).toNat := ⟨_, rfl⟩
           rw [← hyq19] at hcut19 HR520 HC520
           have eyq19 : (l0.drop 3) = yq19 := hyq19.symm
           (try rw [eyq19] at H')
           (try rw [eyq19] at c18b1)
           (try rw [eyq19] at c18b0)
           (try rw [eyq19] at A17)
           (try rw [eyq19] at H)
           (try rw [eyq19] at c16b1)
           (try rw [eyq19] at c16b0)
           (try rw [eyq19] at c15b1)
           (try rw [eyq19] at c15b0)
           (try rw [eyq19] at c13b1)
           (try rw [eyq19] at c13b0)
           (try rw [eyq19] at A12)
           (try rw [eyq19] at c11b1)
           (try rw [eyq19] at c11b0)
           (try rw [eyq19] at c8b0)
           (try rw [eyq19] at A9)
           (try rw [eyq19] at c7b1)
           (try rw [eyq19] at c7b0)
           (try rw [eyq19] at c6b1)
           (try rw [eyq19] at c6b0)
           (try rw [eyq19] at c5b1)
           (try rw [eyq19] at c5b0)
           (try rw [eyq19] at c2b1)
           (try rw [eyq19] at c2b0)
           (try rw [eyq19] at A3)
           (try rw [eyq19] at HC0)
           have Nyq19 := Aside0.mk hyq19
           clear eyq19 hyq19
           obtain ⟨i021, hi021, _, hsz21, _⟩ := info_parts info5
           obtain ⟨A21, hcut21, hA21, hC21⟩ := print_drop_of (P := Tryd.prog) (Value.int .u8) 0 23 5 .i64 Tryd.underlying23 hi021 hsz21 (some ad512) c0 l0 (ji14) (of_decide_eq_true (by first | (with_reducible assumption) | assumption)) (of_decide_eq_true (by first | (with_reducible assumption) | assumption)) HC0.out
           have HR531 := Aside0.mk (Kd.C_of_reads (h1 := fun _ => rfl) (hA21 _ (Kd.reads_of_C HR0.out)))
           have HC531 := Aside0.mk hC21
           clear hA21 hC21 hi021 hsz21
           obtain ⟨yq21, hyq21⟩ : ∃ y_ : List Int, y_ = l0.drop ((ji14) : Int).toNat := ⟨_, rfl⟩
           rw [← hyq21] at hcut21 HR531 HC531
           have eyq21 : (l0.drop ((ji14) : Int).toNat) = yq21 := hyq21.symm
           (try rw [eyq21] at HC520)
           (try rw [eyq21] at H')
           (try rw [eyq21] at c18b1)
           (try rw [eyq21] at c18b0)
           (try rw [eyq21] at A17)
           (try rw [eyq21] at H)
           (try rw [eyq21] at c16b1)
           (try rw [eyq21] at c16b0)
           (try rw [eyq21] at c15b1)
           (try rw [eyq21] at c15b0)
           (try rw [eyq21] at c13b1)
           (try rw [eyq21] at c13b0)
           (try rw [eyq21] at A12)
           (try rw [eyq21] at c11b1)
           (try rw [eyq21] at c11b0)
           (try rw [eyq21] at c8b0)
           (try rw [eyq21] at A9)
           (try rw [eyq21] at c7b1)
           (try rw [eyq21] at c7b0)
           (try rw [eyq21] at c6b1)
           (try rw [eyq21] at c6b0)
           (try rw [eyq21] at c5b1)
           (try rw [eyq21] at c5b0)
           (try rw [eyq21] at c2b1)
           (try rw [eyq21] at c2b0)
           (try rw [eyq21] at A3)
           (try rw [eyq21] at HC0)
           have Nyq21 := Aside0.mk hyq21
           clear eyq21 hyq21
           go_enter Tryd.func32, Tryd.ntmps32
           go_wp2_with (first | (go_at_call 42; (with_reducible refine (times_Get.calls k _ _ yq19 (Go.bits .or .i64 (wrap64 ((wrap64 (rd l0 1)) * 256)) (wrap64 (rd l0 2))) (wrap64 (Int.tdiv (wrap64 (rd l0 0)) 4)) t521 t522 t523 _ ?side1 ?side2 A12.out).mono ?_); (case side1 => exact cC HR520.out); (case side2 => exact HC520.out); rintro e w20 ⟨v524, rfl, ho0, hb⟩; have n0_ := Aside0.mk (Kd.R_lower ho0 (below_size bB)); have n1_ := Aside0.mk (below_step bB hb); clear HB; have HO525 := n0_; have HB := n1_; clear n0_ n1_; (try clear hb ho0)) | (go_at_call 43; (with_reducible refine (chunk_getValues.calls k _ _ yq21 (Go.bits .or .i64 (wrap64 ((wrap64 (rd l0 1)) * 256)) (wrap64 (rd l0 2))) (Int.tmod (wrap64 (rd l0 0)) 4) t532 t533 t534 _ ?side1 ?side2 ?sideT A17.out).mono ?_); (case sideT => exact Go.Proofs.YtmlbppfcpejlpaaDoor.W08.Tab.below HTAB.out bB); (case side1 => exact cC (Kd.C_below HR531.out HB.out)); (case side2 => exact HC531.out); rintro e w22 ⟨v535, rfl, ho0, hb⟩; have n0_ := Aside0.mk (Kd.R_below (rR HO525.out) hb); have n1_ := Aside0.mk (Kd.R_lower ho0 (below_size bB)); have n2_ := Aside0.mk (below_step bB hb); clear HO525; clear HB; have HO525 := n0_; have HO536 := n1_; have HB := n2_; clear n0_ n1_ n2_; (try clear hb ho0); obtain ⟨Ao23, co23, eo23⟩ := Kd.R_slice HO536.out; subst eo23))
           repeat (go_quiet (first | (go_at_call 42; (with_reducible refine (times_Get.calls k _ _ yq19 (Go.bits .or .i64 (wrap64 ((wrap64 (rd l0 1)) * 256)) (wrap64 (rd l0 2))) (wrap64 (Int.tdiv (wrap64 (rd l0 0)) 4)) t521 t522 t523 _ ?side1 ?side2 A12.out).mono ?_); (case side1 => exact cC HR520.out); (case side2 => exact HC520.out); rintro e w20 ⟨v524, rfl, ho0, hb⟩; have n0_ := Aside0.mk (Kd.R_lower ho0 (below_size bB)); have n1_ := Aside0.mk (below_step bB hb); clear HB; have HO525 := n0_; have HB := n1_; clear n0_ n1_; (try clear hb ho0)) | (go_at_call 43; (with_reducible refine (chunk_getValues.calls k _ _ yq21 (Go.bits .or .i64 (wrap64 ((wrap64 (rd l0 1)) * 256)) (wrap64 (rd l0 2))) (Int.tmod (wrap64 (rd l0 0)) 4) t532 t533 t534 _ ?side1 ?side2 ?sideT A17.out).mono ?_); (case sideT => exact Go.Proofs.YtmlbppfcpejlpaaDoor.W08.Tab.below HTAB.out bB); (case side1 => exact cC (Kd.C_below HR531.out HB.out)); (case side2 => exact HC531.out); rintro e w22 ⟨v535, rfl, ho0, hb⟩; have n0_ := Aside0.mk (Kd.R_below (rR HO525.out) hb); have n1_ := Aside0.mk (Kd.R_lower ho0 (below_size bB)); have n2_ := Aside0.mk (below_step bB hb); clear HO525; clear HB; have HO525 := n0_; have HO536 := n1_; have HB := n2_; clear n0_ n1_ n2_; (try clear hb ho0); obtain ⟨Ao23, co23, eo23⟩ := Kd.R_slice HO536.out; subst eo23)); try go_wp2_with (first | (go_at_call 42; (with_reducible refine (times_Get.calls k _ _ yq19 (Go.bits .or .i64 (wrap64 ((wrap64 (rd l0 1)) * 256)) (wrap64 (rd l0 2))) (wrap64 (Int.tdiv (wrap64 (rd l0 0)) 4)) t521 t522 t523 _ ?side1 ?side2 A12.out).mono ?_); (case side1 => exact cC HR520.out); (case side2 => exact HC520.out); rintro e w20 ⟨v524, rfl, ho0, hb⟩; have n0_ := Aside0.mk (Kd.R_lower ho0 (below_size bB)); have n1_ := Aside0.mk (below_step bB hb); clear HB; have HO525 := n0_; have HB := n1_; clear n0_ n1_; (try clear hb ho0)) | (go_at_call 43; (with_reducible refine (chunk_getValues.calls k _ _ yq21 (Go.bits .or .i64 (wrap64 ((wrap64 (rd l0 1)) * 256)) (wrap64 (rd l0 2))) (Int.tmod (wrap64 (rd l0 0)) 4) t532 t533 t534 _ ?side1 ?side2 ?sideT A17.out).mono ?_); (case sideT => exact Go.Proofs.YtmlbppfcpejlpaaDoor.W08.Tab.below HTAB.out bB); (case side1 => exact cC (Kd.C_below HR531.out HB.out)); (case side2 => exact HC531.out); rintro e w22 ⟨v535, rfl, ho0, hb⟩; have n0_ := Aside0.mk (Kd.R_below (rR HO525.out) hb); have n1_ := Aside0.mk (Kd.R_lower ho0 (below_size bB)); have n2_ := Aside0.mk (below_step bB hb); clear HO525; clear HB; have HO525 := n0_; have HO536 := n1_; have HB := n2_; clear n0_ n1_ n2_; (try clear hb ho0); obtain ⟨Ao23, co23, eo23⟩ := Kd.R_slice HO536.out; subst eo23)))
           go_loopg [12, 81] k (fun kq v12 v81 w' => ∃ (x12_1 : List (S51)) (x81_1 : Int), v81 = .int .i64 x81_1 ∧ Aside0 (chunk_Decode.l0 kq l0 (wrap64 (rd l0 0)) t521 x12_1 t532 (t532.length : Int) x81_1 = some (r1, r2, r3)) ∧ Aside0 (kq ≤ k) ∧ Aside0 (Kd.R (Kd.int .i64) 2 w' w.heap.size (fun _ => True) v524 t521) ∧ Aside0 (Kd.R k51 51 w' w.heap.size (fun _ => True) v12 x12_1) ∧ Aside0 (Kd.R (Kd.int .u64) 34 w' w.heap.size (fun _ => True) (.slice Ao23 t532.length co23) t532) ∧ Aside0 (Below w.heap.size w w'))
           case atStart => exact ⟨(([] : List (S51))), (0), (by first | rfl | (simp; done) | (simp [*]; done)), H', ⟨Nat.le_refl _⟩, ⟨rR HO525.out⟩, ⟨by first | exact Kd.R_nil _ _ _ _ _ | exact Kd.N_nil _ _ _ _ _ | exact Kd.V_nil _ _ _ _ _ | exact Kd.Q_nil _ _ _ _ _ | exact Kd.S_nil _ _ _ _ _⟩, ⟨rR HO536.out⟩, ⟨bB⟩⟩
           case round =>
            clear H'
            (try clear c1);(try clear c2);(try clear c2b0);(try clear c2b1);(try clear p2);(try clear c3);(try clear c5);(try clear c5b0);(try clear c5b1);(try clear p5);(try clear q5);(try clear hx5);(try clear qi5);(try clear c6);(try clear c6b0);(try clear c6b1);(try clear p6);(try clear c7);(try clear c7b0);(try clear c7b1);(try clear c8);(try clear c8b0);(try clear c11);(try clear c11b0);(try clear c11b1);(try clear c13);(try clear c13b0);(try clear c13b1);(try clear c15);(try clear c15b0);(try clear c15b1);(try clear c16);(try clear c16b0);(try clear c16b1);(try clear c18);(try clear c18b0);(try clear c18b1);(try clear hx512_0);(try clear hx513_0);(try clear hx514_0);(try clear p512);(try clear p513);(try clear p514);(try clear q512);(try clear q513);(try clear q514)
            obtain ⟨x12_1, x81_1, rfl, HA, HK1, HO_7, HO_12, HO_79, HB⟩ := hrel
            cases gk with
            | zero => exact absurd HA.out (by simp [chunk_Decode.l0])
            | succ k1 =>
             have H := HA.out
             clear HA
             simp only [chunk_Decode.l0] at H
             by_cases c24 : x81_1 < (t532.length : Int)
             ·rw [if_pos c24] at H
              have c24b0 : decide (x81_1 < (t532.length : Int)) = true := decide_eq_true c24
              clear c24
              by_cases c25 : 0 ≤ x81_1
              ·rw [if_pos c25] at H
               have c25b0 : decide (0 ≤ x81_1) = true := decide_eq_true c25
               clear c25
               by_cases c26 : x81_1 < (t532.length : Int)
               ·rw [if_pos c26] at H
                have c26b0 : decide (x81_1 < (t532.length : Int)) = true := decide_eq_true c26
                clear c26
                by_cases c27 : x81_1 < (t521.length : Int)
                ·rw [if_pos c27] at H
                 have c27b0 : decide (x81_1 < (t521.length : Int)) = true := decide_eq_true c27
                 clear c27
                 by_cases c28 : x12_1.length < 8796093022208
                 ·rw [if_pos c28] at H
                  have LMc28 := Aside0.mk c28
                  clear c28
                  obtain ⟨y544, hy544⟩ : ∃ y_ : List (S51), y_ = (x12_1 ++ [(⟨rd t521 x81_1, rd t532 x81_1⟩ : S51)]) := ⟨_, rfl⟩
                  replace H : (chunk_Decode.l0 k1 l0 (wrap64 (rd l0 0)) t521 y544 t532 (t532.length : Int) (wrap64 (x81_1 + 1))) = some (r1, r2, r3) := by first | (rw [hy544]; with_reducible exact H) | (have H2_ := (Option.bind_some _ _).symm.trans H; rw [hy544]; with_reducible exact H2_) | (have H2_ := (Option.bind_some _ _).symm.trans H; with_reducible exact H2_) | with_reducible exact H | (rw [hy544]; exact H) | exact H
                  have Ny544 := Aside0.mk hy544
                  clear hy544
                  have H' := Aside0.mk H
                  clear H
                  have p542 : 0 ≤ (x81_1 : Int) := of_decide_eq_true (by first | (with_reducible assumption) | assumption)
                  have q542 : x81_1 < (t532.length : Int) := of_decide_eq_true (by first | (with_reducible assumption) | assumption)
                  obtain ⟨ad542, e542, hx542_0⟩ := Kd.at_int (Kd.R_reads' HO_79.out).2.2 x81_1 p542 q542
                  cases e542
                  replace p542 := eq_true p542
                  replace q542 := eq_true q542
                  obtain ⟨Ao29, co29, eo29⟩ := Kd.R_slice HO_7.out
                  subst eo29
                  have p543 : 0 ≤ (x81_1 : Int) := of_decide_eq_true (by first | (with_reducible assumption) | assumption)
                  have q543 : x81_1 < (t521.length : Int) := of_decide_eq_true (by first | (with_reducible assumption) | assumption)
                  obtain ⟨ad543, e543, hx543_0⟩ := Kd.at_int (Kd.R_reads' HO_7.out).2.2 x81_1 p543 q543
                  cases e543
                  replace p543 := eq_true p543
                  replace q543 := eq_true q543
                  go_wp2_with (first | ((with_reducible refine gate_builtin (b := .append) (xs := #[.tmp 86, .tmp 93]) rfl ?_); at_builtin; refine Kd.R_append k51 (w0 := w) w.heap.size rfl (.tmp 86) (.tmp 93) 41 51 (.agg #[(.int .i64 0), (.int .u64 0)]) 16 rfl Tryd.underlying41 info51 rfl (by decide) (by omega) u12 x12_1 (⟨rd t521 x81_1, rd t532 x81_1⟩ : S51) [.int .i64 (rd t521 x81_1), .int .u64 (rd t532 x81_1)] (fun _ => True) (fun _ => False) rfl rfl ?aP (fun _ hk => hk.elim) ?aF ?aO ?aB ?aS ?aL ?_; (case aP => exact k51_mkM _ _ _ (⟨rd t521 x81_1, rd t532 x81_1⟩ : S51)); (case aB => exact bB); (case aF => exact (fun _ _ => trivial)); (case aO => exact (rR HO_12.out)); (case aS => exact (below_size bB)); (case aL => have := LMc28.out; omega); intro v545 w30 ho hb hg hat; rw [← Ny544.out] at ho; have n0_ := Aside0.mk (Kd.R_over' (rR HO_7.out) (Kd.R_typed (rR HO_12.out)) (by decide) hg); have n1_ := Aside0.mk (Kd.R_over' (rR HO_79.out) (Kd.R_typed (rR HO_12.out)) (by decide) hg); have n2_ := Aside0.mk (hb); have n3_ := Aside0.mk (ho); clear HO_7; clear HO_79; clear HB; clear HO_12; have HO_7 := n0_; have HO_79 := n1_; have HB := n2_; have HO546 := n3_; clear n0_ n1_ n2_ n3_; clear ho hb hg hat))
                  repeat (go_quiet (first | ((with_reducible refine gate_builtin (b := .append) (xs := #[.tmp 86, .tmp 93]) rfl ?_); at_builtin; refine Kd.R_append k51 (w0 := w) w.heap.size rfl (.tmp 86) (.tmp 93) 41 51 (.agg #[(.int .i64 0), (.int .u64 0)]) 16 rfl Tryd.underlying41 info51 rfl (by decide) (by omega) u12 x12_1 (⟨rd t521 x81_1, rd t532 x81_1⟩ : S51) [.int .i64 (rd t521 x81_1), .int .u64 (rd t532 x81_1)] (fun _ => True) (fun _ => False) rfl rfl ?aP (fun _ hk => hk.elim) ?aF ?aO ?aB ?aS ?aL ?_; (case aP => exact k51_mkM _ _ _ (⟨rd t521 x81_1, rd t532 x81_1⟩ : S51)); (case aB => exact bB); (case aF => exact (fun _ _ => trivial)); (case aO => exact (rR HO_12.out)); (case aS => exact (below_size bB)); (case aL => have := LMc28.out; omega); intro v545 w30 ho hb hg hat; rw [← Ny544.out] at ho; have n0_ := Aside0.mk (Kd.R_over' (rR HO_7.out) (Kd.R_typed (rR HO_12.out)) (by decide) hg); have n1_ := Aside0.mk (Kd.R_over' (rR HO_79.out) (Kd.R_typed (rR HO_12.out)) (by decide) hg); have n2_ := Aside0.mk (hb); have n3_ := Aside0.mk (ho); clear HO_7; clear HO_79; clear HB; clear HO_12; have HO_7 := n0_; have HO_79 := n1_; have HB := n2_; have HO546 := n3_; clear n0_ n1_ n2_ n3_; clear ho hb hg hat)); try go_wp2_with (first | ((with_reducible refine gate_builtin (b := .append) (xs := #[.tmp 86, .tmp 93]) rfl ?_); at_builtin; refine Kd.R_append k51 (w0 := w) w.heap.size rfl (.tmp 86) (.tmp 93) 41 51 (.agg #[(.int .i64 0), (.int .u64 0)]) 16 rfl Tryd.underlying41 info51 rfl (by decide) (by omega) u12 x12_1 (⟨rd t521 x81_1, rd t532 x81_1⟩ : S51) [.int .i64 (rd t521 x81_1), .int .u64 (rd t532 x81_1)] (fun _ => True) (fun _ => False) rfl rfl ?aP (fun _ hk => hk.elim) ?aF ?aO ?aB ?aS ?aL ?_; (case aP => exact k51_mkM _ _ _ (⟨rd t521 x81_1, rd t532 x81_1⟩ : S51)); (case aB => exact bB); (case aF => exact (fun _ _ => trivial)); (case aO => exact (rR HO_12.out)); (case aS => exact (below_size bB)); (case aL => have := LMc28.out; omega); intro v545 w30 ho hb hg hat; rw [← Ny544.out] at ho; have n0_ := Aside0.mk (Kd.R_over' (rR HO_7.out) (Kd.R_typed (rR HO_12.out)) (by decide) hg); have n1_ := Aside0.mk (Kd.R_over' (rR HO_79.out) (Kd.R_typed (rR HO_12.out)) (by decide) hg); have n2_ := Aside0.mk (hb); have n3_ := Aside0.mk (ho); clear HO_7; clear HO_79; clear HB; clear HO_12; have HO_7 := n0_; have HO_79 := n1_; have HB := n2_; have HO546 := n3_; clear n0_ n1_ n2_ n3_; clear ho hb hg hat)))
                  go_roundg k1
                  case measure => have := HK1.out; omega
                  case rel => exact ⟨(y544), (wrap64 (x81_1 + 1)), (by first | rfl | (simp; done) | (simp [*]; done)), H', ⟨by have := HK1.out; omega⟩, ⟨rR HO_7.out⟩, ⟨rR HO546.out⟩, ⟨rR HO_79.out⟩, ⟨bB⟩⟩
                 ·rw [if_neg c28] at H
                  exact absurd H (by simp)
                ·rw [if_neg c27] at H
                 exact absurd H (by simp)
               ·rw [if_neg c26] at H
                exact absurd H (by simp)
              ·rw [if_neg c25] at H
               exact absurd H (by simp)
             ·rw [if_neg c24] at H
              have c24b0 : decide (x81_1 < (t532.length : Int)) = false := decide_eq_false c24
              clear c24
              replace H := Option.bind_eq_some_iff.mp H
              obtain ⟨⟨t547, t548⟩, A310, H⟩ := H
              replace H : (if t548 = 0 then ((bytes_Equal.f t547 l0).bind fun t551 => (if t551 = true then (some (x12_1, (wrap64 (rd l0 0)), 0)) else ((chunk_refused.f 3).bind fun bt552 => (some (bt552.1, bt552.2.1, bt552.2.2))))) else ((chunk_refused.f 3).bind fun bt557 => (some (bt557.1, bt557.2.1, bt557.2.2)))) = some (r1, r2, r3) := H
              have A31 := Aside0.mk A310
              clear A310
              by_cases c32 : t548 = 0
              ·rw [if_pos c32] at H
               have c32b0 : (t548 == 0) = true := beq_iff_eq.mpr c32
               have c32b1 : (t548 != 0) = false := bne_eq_false_iff_eq.mpr c32
               clear c32
               replace H := Option.bind_eq_some_iff.mp H
               obtain ⟨t551, A330, H⟩ := H
               replace H : (if t551 = true then (some (x12_1, (wrap64 (rd l0 0)), 0)) else ((chunk_refused.f 3).bind fun bt552 => (some (bt552.1, bt552.2.1, bt552.2.2)))) = some (r1, r2, r3) := H
               have A33 := Aside0.mk A330
               clear A330
               by_cases c34 : t551 = true
               ·subst c34
                have H1 : (some (x12_1, (wrap64 (rd l0 0)), 0)) = some (r1, r2, r3) := by rw [if_pos rfl] at H; exact H
                clear H
                have H := H1
                clear H1
                simp only [Option.some.injEq, Prod.mk.injEq] at H
                obtain ⟨rfl, rfl, rfl⟩ := H
                obtain ⟨Ao35, co35, eo35⟩ := Kd.R_slice HO_12.out
                subst eo35
                go_wp2_with (first | (go_at_call 19; (with_reducible refine (chunk_Encode.calls k1 _ _ x12_1 (wrap64 (rd l0 0)) t547 t548 _ ?side1 ?side2 ?sideT A31.out).mono ?_); (case sideT => exact Go.Proofs.YtmlbppfcpejlpaaDoor.W08.Tab.below HTAB.out bB); (case side1 => exact cC (Kd.R_reads' HO_12.out).2.2); (case side2 => exact (Kd.R_reads' HO_12.out).2.1); rintro e w36 ⟨v549, rfl, ho0, hb⟩; have n0_ := Aside0.mk (Kd.R_below (rR HO_7.out) hb); have n1_ := Aside0.mk (Kd.R_below (rR HO_12.out) hb); have n2_ := Aside0.mk (Kd.R_below (rR HO_79.out) hb); have n3_ := Aside0.mk (Kd.R_lower ho0 (below_size bB)); have n4_ := Aside0.mk (below_step bB hb); clear HO_7; clear HO_12; clear HO_79; clear HB; have HO_7 := n0_; have HO_12 := n1_; have HO_79 := n2_; have HO550 := n3_; have HB := n4_; clear n0_ n1_ n2_ n3_ n4_; (try clear hb ho0); obtain ⟨Ao37, co37, eo37⟩ := Kd.R_slice HO550.out; subst eo37) | (go_at_call 40; (with_reducible refine (bytes_Equal.calls _ _ t547 _ _ l0 true _ ?side1 ?side2 ?side3 ?side4 A33.out).mono ?_); (case side1 => exact cC (Kd.R_reads' HO550.out).2.2); (case side2 => exact (Kd.R_reads' HO550.out).2.1); (case side3 => exact cC (Kd.C_below HR0.out HB.out)); (case side4 => exact HC0.out); rintro e w' ⟨rfl, ⟨nd, rfl⟩⟩; (try first | exact ⟨rfl, _, World.drewN_drewN _ _ _⟩ | exact ⟨rfl, _, Eq.trans (World.drewN_drewN _ _ _) (congrArg (World.drewN _) (Nat.add_assoc _ _ _))⟩)))
                repeat (go_quiet (first | (go_at_call 19; (with_reducible refine (chunk_Encode.calls k1 _ _ x12_1 (wrap64 (rd l0 0)) t547 t548 _ ?side1 ?side2 ?sideT A31.out).mono ?_); (case sideT => exact Go.Proofs.YtmlbppfcpejlpaaDoor.W08.Tab.below HTAB.out bB); (case side1 => exact cC (Kd.R_reads' HO_12.out).2.2); (case side2 => exact (Kd.R_reads' HO_12.out).2.1); rintro e w36 ⟨v549, rfl, ho0, hb⟩; have n0_ := Aside0.mk (Kd.R_below (rR HO_7.out) hb); have n1_ := Aside0.mk (Kd.R_below (rR HO_12.out) hb); have n2_ := Aside0.mk (Kd.R_below (rR HO_79.out) hb); have n3_ := Aside0.mk (Kd.R_lower ho0 (below_size bB)); have n4_ := Aside0.mk (below_step bB hb); clear HO_7; clear HO_12; clear HO_79; clear HB; have HO_7 := n0_; have HO_12 := n1_; have HO_79 := n2_; have HO550 := n3_; have HB := n4_; clear n0_ n1_ n2_ n3_ n4_; (try clear hb ho0); obtain ⟨Ao37, co37, eo37⟩ := Kd.R_slice HO550.out; subst eo37) | (go_at_call 40; (with_reducible refine (bytes_Equal.calls _ _ t547 _ _ l0 true _ ?side1 ?side2 ?side3 ?side4 A33.out).mono ?_); (case side1 => exact cC (Kd.R_reads' HO550.out).2.2); (case side2 => exact (Kd.R_reads' HO550.out).2.1); (case side3 => exact cC (Kd.C_below HR0.out HB.out)); (case side4 => exact HC0.out); rintro e w' ⟨rfl, ⟨nd, rfl⟩⟩; (try first | exact ⟨rfl, _, World.drewN_drewN _ _ _⟩ | exact ⟨rfl, _, Eq.trans (World.drewN_drewN _ _ _) (congrArg (World.drewN _) (Nat.add_assoc _ _ _))⟩))); try go_wp2_with (first | (go_at_call 19; (with_reducible refine (chunk_Encode.calls k1 _ _ x12_1 (wrap64 (rd l0 0)) t547 t548 _ ?side1 ?side2 ?sideT A31.out).mono ?_); (case sideT => exact Go.Proofs.YtmlbppfcpejlpaaDoor.W08.Tab.below HTAB.out bB); (case side1 => exact cC (Kd.R_reads' HO_12.out).2.2); (case side2 => exact (Kd.R_reads' HO_12.out).2.1); rintro e w36 ⟨v549, rfl, ho0, hb⟩; have n0_ := Aside0.mk (Kd.R_below (rR HO_7.out) hb); have n1_ := Aside0.mk (Kd.R_below (rR HO_12.out) hb); have n2_ := Aside0.mk (Kd.R_below (rR HO_79.out) hb); have n3_ := Aside0.mk (Kd.R_lower ho0 (below_size bB)); have n4_ := Aside0.mk (below_step bB hb); clear HO_7; clear HO_12; clear HO_79; clear HB; have HO_7 := n0_; have HO_12 := n1_; have HO_79 := n2_; have HO550 := n3_; have HB := n4_; clear n0_ n1_ n2_ n3_ n4_; (try clear hb ho0); obtain ⟨Ao37, co37, eo37⟩ := Kd.R_slice HO550.out; subst eo37) | (go_at_call 40; (with_reducible refine (bytes_Equal.calls _ _ t547 _ _ l0 true _ ?side1 ?side2 ?side3 ?side4 A33.out).mono ?_); (case side1 => exact cC (Kd.R_reads' HO550.out).2.2); (case side2 => exact (Kd.R_reads' HO550.out).2.1); (case side3 => exact cC (Kd.C_below HR0.out HB.out)); (case side4 => exact HC0.out); rintro e w' ⟨rfl, ⟨nd, rfl⟩⟩; (try first | exact ⟨rfl, _, World.drewN_drewN _ _ _⟩ | exact ⟨rfl, _, Eq.trans (World.drewN_drewN _ _ _) (congrArg (World.drewN _) (Nat.add_assoc _ _ _))⟩))))
                go_ret3
                exact ⟨_, by first | rfl | (simp [errW_none, errW_some] <;> rfl) | (simp only [← hji14]; first | rfl | (simp [errW_none, errW_some] <;> rfl)) | (simp [*, errW_none, errW_some] <;> rfl), rR HO_12.out, bB⟩
               ·replace c34 := Bool.eq_false_iff.mpr c34
                subst c34
                have H1 : ((chunk_refused.f 3).bind fun bt552 => (some (bt552.1, bt552.2.1, bt552.2.2))) = some (r1, r2, r3) := by rw [if_neg (show ¬ (false = true) by decide)] at H; exact H
                clear H
                have H := H1
                clear H1
                replace H := Option.bind_eq_some_iff.mp H
                obtain ⟨⟨t552, t553, t554⟩, A380, H⟩ := H
                replace H : (some (t552, t553, t554)) = some (r1, r2, r3) := H
                have A38 := Aside0.mk A380
                clear A380
                simp only [Option.some.injEq, Prod.mk.injEq] at H
                obtain ⟨rfl, rfl, rfl⟩ := H
                obtain ⟨Ao39, co39, eo39⟩ := Kd.R_slice HO_12.out
                subst eo39
                go_wp2_with (first | (go_at_call 19; (with_reducible refine (chunk_Encode.calls k1 _ _ x12_1 (wrap64 (rd l0 0)) t547 t548 _ ?side1 ?side2 ?sideT A31.out).mono ?_); (case sideT => exact Go.Proofs.YtmlbppfcpejlpaaDoor.W08.Tab.below HTAB.out bB); (case side1 => exact cC (Kd.R_reads' HO_12.out).2.2); (case side2 => exact (Kd.R_reads' HO_12.out).2.1); rintro e w40 ⟨v549, rfl, ho0, hb⟩; have n0_ := Aside0.mk (Kd.R_below (rR HO_7.out) hb); have n1_ := Aside0.mk (Kd.R_below (rR HO_12.out) hb); have n2_ := Aside0.mk (Kd.R_below (rR HO_79.out) hb); have n3_ := Aside0.mk (Kd.R_lower ho0 (below_size bB)); have n4_ := Aside0.mk (below_step bB hb); clear HO_7; clear HO_12; clear HO_79; clear HB; have HO_7 := n0_; have HO_12 := n1_; have HO_79 := n2_; have HO550 := n3_; have HB := n4_; clear n0_ n1_ n2_ n3_ n4_; (try clear hb ho0); obtain ⟨Ao41, co41, eo41⟩ := Kd.R_slice HO550.out; subst eo41) | (go_at_call 40; (with_reducible refine (bytes_Equal.calls _ _ t547 _ _ l0 false _ ?side1 ?side2 ?side3 ?side4 A33.out).mono ?_); (case side1 => exact cC (Kd.R_reads' HO550.out).2.2); (case side2 => exact (Kd.R_reads' HO550.out).2.1); (case side3 => exact cC (Kd.C_below HR0.out HB.out)); (case side4 => exact HC0.out); rintro e w' ⟨rfl, ⟨nd, rfl⟩⟩; (try first | exact ⟨rfl, _, World.drewN_drewN _ _ _⟩ | exact ⟨rfl, _, Eq.trans (World.drewN_drewN _ _ _) (congrArg (World.drewN _) (Nat.add_assoc _ _ _))⟩)) | (go_at_call 41; (with_reducible refine (chunk_refused.calls 3 t552 t553 t554 _ A38.out).mono ?_); rintro e w42 ⟨v555, rfl, ho0, hb⟩; have n0_ := Aside0.mk (Kd.R_below (rR HO_7.out) hb); have n1_ := Aside0.mk (Kd.R_elder' (rR HO_12.out) (Kd.R_base ho0) hb); have n2_ := Aside0.mk (Kd.R_below (rR HO_79.out) hb); have n3_ := Aside0.mk (Kd.R_below (rR HO550.out) hb); have n4_ := Aside0.mk (Kd.R_lower (Kd.R_new' ho0 (Kd.R_lt (rR HO_12.out))) (below_size bB)); have n5_ := Aside0.mk (below_step bB hb); clear HO_7; clear HO_12; clear HO_79; clear HO550; clear HB; have HO_7 := n0_; have HO_12 := n1_; have HO_79 := n2_; have HO550 := n3_; have HO556 := n4_; have HB := n5_; clear n0_ n1_ n2_ n3_ n4_ n5_; (try clear hb ho0)))
                repeat (go_quiet (first | (go_at_call 19; (with_reducible refine (chunk_Encode.calls k1 _ _ x12_1 (wrap64 (rd l0 0)) t547 t548 _ ?side1 ?side2 ?sideT A31.out).mono ?_); (case sideT => exact Go.Proofs.YtmlbppfcpejlpaaDoor.W08.Tab.below HTAB.out bB); (case side1 => exact cC (Kd.R_reads' HO_12.out).2.2); (case side2 => exact (Kd.R_reads' HO_12.out).2.1); rintro e w40 ⟨v549, rfl, ho0, hb⟩; have n0_ := Aside0.mk (Kd.R_below (rR HO_7.out) hb); have n1_ := Aside0.mk (Kd.R_below (rR HO_12.out) hb); have n2_ := Aside0.mk (Kd.R_below (rR HO_79.out) hb); have n3_ := Aside0.mk (Kd.R_lower ho0 (below_size bB)); have n4_ := Aside0.mk (below_step bB hb); clear HO_7; clear HO_12; clear HO_79; clear HB; have HO_7 := n0_; have HO_12 := n1_; have HO_79 := n2_; have HO550 := n3_; have HB := n4_; clear n0_ n1_ n2_ n3_ n4_; (try clear hb ho0); obtain ⟨Ao41, co41, eo41⟩ := Kd.R_slice HO550.out; subst eo41) | (go_at_call 40; (with_reducible refine (bytes_Equal.calls _ _ t547 _ _ l0 false _ ?side1 ?side2 ?side3 ?side4 A33.out).mono ?_); (case side1 => exact cC (Kd.R_reads' HO550.out).2.2); (case side2 => exact (Kd.R_reads' HO550.out).2.1); (case side3 => exact cC (Kd.C_below HR0.out HB.out)); (case side4 => exact HC0.out); rintro e w' ⟨rfl, ⟨nd, rfl⟩⟩; (try first | exact ⟨rfl, _, World.drewN_drewN _ _ _⟩ | exact ⟨rfl, _, Eq.trans (World.drewN_drewN _ _ _) (congrArg (World.drewN _) (Nat.add_assoc _ _ _))⟩)) | (go_at_call 41; (with_reducible refine (chunk_refused.calls 3 t552 t553 t554 _ A38.out).mono ?_); rintro e w42 ⟨v555, rfl, ho0, hb⟩; have n0_ := Aside0.mk (Kd.R_below (rR HO_7.out) hb); have n1_ := Aside0.mk (Kd.R_elder' (rR HO_12.out) (Kd.R_base ho0) hb); have n2_ := Aside0.mk (Kd.R_below (rR HO_79.out) hb); have n3_ := Aside0.mk (Kd.R_below (rR HO550.out) hb); have n4_ := Aside0.mk (Kd.R_lower (Kd.R_new' ho0 (Kd.R_lt (rR HO_12.out))) (below_size bB)); have n5_ := Aside0.mk (below_step bB hb); clear HO_7; clear HO_12; clear HO_79; clear HO550; clear HB; have HO_7 := n0_; have HO_12 := n1_; have HO_79 := n2_; have HO550 := n3_; have HO556 := n4_; have HB := n5_; clear n0_ n1_ n2_ n3_ n4_ n5_; (try clear hb ho0))); try go_wp2_with (first | (go_at_call 19; (with_reducible refine (chunk_Encode.calls k1 _ _ x12_1 (wrap64 (rd l0 0)) t547 t548 _ ?side1 ?side2 ?sideT A31.out).mono ?_); (case sideT => exact Go.Proofs.YtmlbppfcpejlpaaDoor.W08.Tab.below HTAB.out bB); (case side1 => exact cC (Kd.R_reads' HO_12.out).2.2); (case side2 => exact (Kd.R_reads' HO_12.out).2.1); rintro e w40 ⟨v549, rfl, ho0, hb⟩; have n0_ := Aside0.mk (Kd.R_below (rR HO_7.out) hb); have n1_ := Aside0.mk (Kd.R_below (rR HO_12.out) hb); have n2_ := Aside0.mk (Kd.R_below (rR HO_79.out) hb); have n3_ := Aside0.mk (Kd.R_lower ho0 (below_size bB)); have n4_ := Aside0.mk (below_step bB hb); clear HO_7; clear HO_12; clear HO_79; clear HB; have HO_7 := n0_; have HO_12 := n1_; have HO_79 := n2_; have HO550 := n3_; have HB := n4_; clear n0_ n1_ n2_ n3_ n4_; (try clear hb ho0); obtain ⟨Ao41, co41, eo41⟩ := Kd.R_slice HO550.out; subst eo41) | (go_at_call 40; (with_reducible refine (bytes_Equal.calls _ _ t547 _ _ l0 false _ ?side1 ?side2 ?side3 ?side4 A33.out).mono ?_); (case side1 => exact cC (Kd.R_reads' HO550.out).2.2); (case side2 => exact (Kd.R_reads' HO550.out).2.1); (case side3 => exact cC (Kd.C_below HR0.out HB.out)); (case side4 => exact HC0.out); rintro e w' ⟨rfl, ⟨nd, rfl⟩⟩; (try first | exact ⟨rfl, _, World.drewN_drewN _ _ _⟩ | exact ⟨rfl, _, Eq.trans (World.drewN_drewN _ _ _) (congrArg (World.drewN _) (Nat.add_assoc _ _ _))⟩)) | (go_at_call 41; (with_reducible refine (chunk_refused.calls 3 t552 t553 t554 _ A38.out).mono ?_); rintro e w42 ⟨v555, rfl, ho0, hb⟩; have n0_ := Aside0.mk (Kd.R_below (rR HO_7.out) hb); have n1_ := Aside0.mk (Kd.R_elder' (rR HO_12.out) (Kd.R_base ho0) hb); have n2_ := Aside0.mk (Kd.R_below (rR HO_79.out) hb); have n3_ := Aside0.mk (Kd.R_below (rR HO550.out) hb); have n4_ := Aside0.mk (Kd.R_lower (Kd.R_new' ho0 (Kd.R_lt (rR HO_12.out))) (below_size bB)); have n5_ := Aside0.mk (below_step bB hb); clear HO_7; clear HO_12; clear HO_79; clear HO550; clear HB; have HO_7 := n0_; have HO_12 := n1_; have HO_79 := n2_; have HO550 := n3_; have HO556 := n4_; have HB := n5_; clear n0_ n1_ n2_ n3_ n4_ n5_; (try clear hb ho0))))
                go_ret3
                exact ⟨_, by first | rfl | (simp [errW_none, errW_some] <;> rfl) | (simp only [← hji14]; first | rfl | (simp [errW_none, errW_some] <;> rfl)) | (simp [*, errW_none, errW_some] <;> rfl), by (with_reducible repeat (first | apply Kd.R_alloc | apply Kd.R_drewN | apply Kd.R_drew)); exact Kd.R_mono HO556.out (fun _ hk => trivial), bB⟩
              ·rw [if_neg c32] at H
               have c32b0 : (t548 == 0) = false := beq_eq_false_iff_ne.mpr c32
               have c32b1 : (t548 != 0) = true := bne_iff_ne.mpr c32
               replace H := Option.bind_eq_some_iff.mp H
               obtain ⟨⟨t557, t558, t559⟩, A430, H⟩ := H
               replace H : (some (t557, t558, t559)) = some (r1, r2, r3) := H
               have A43 := Aside0.mk A430
               clear A430
               simp only [Option.some.injEq, Prod.mk.injEq] at H
               obtain ⟨rfl, rfl, rfl⟩ := H
               obtain ⟨Ao44, co44, eo44⟩ := Kd.R_slice HO_12.out
               subst eo44
               go_wp2_with (first | (go_at_call 19; (with_reducible refine (chunk_Encode.calls k1 _ _ x12_1 (wrap64 (rd l0 0)) t547 t548 _ ?side1 ?side2 ?sideT A31.out).mono ?_); (case sideT => exact Go.Proofs.YtmlbppfcpejlpaaDoor.W08.Tab.below HTAB.out bB); (case side1 => exact cC (Kd.R_reads' HO_12.out).2.2); (case side2 => exact (Kd.R_reads' HO_12.out).2.1); rintro e w45 ⟨v549, rfl, ho0, hb⟩; have n0_ := Aside0.mk (Kd.R_below (rR HO_7.out) hb); have n1_ := Aside0.mk (Kd.R_below (rR HO_12.out) hb); have n2_ := Aside0.mk (Kd.R_below (rR HO_79.out) hb); have n3_ := Aside0.mk (Kd.R_lower ho0 (below_size bB)); have n4_ := Aside0.mk (below_step bB hb); clear HO_7; clear HO_12; clear HO_79; clear HB; have HO_7 := n0_; have HO_12 := n1_; have HO_79 := n2_; have HO550 := n3_; have HB := n4_; clear n0_ n1_ n2_ n3_ n4_; (try clear hb ho0)) | (go_at_call 41; (with_reducible refine (chunk_refused.calls 3 t557 t558 t559 _ A43.out).mono ?_); rintro e w46 ⟨v560, rfl, ho0, hb⟩; have n0_ := Aside0.mk (Kd.R_below (rR HO_7.out) hb); have n1_ := Aside0.mk (Kd.R_elder' (rR HO_12.out) (Kd.R_base ho0) hb); have n2_ := Aside0.mk (Kd.R_below (rR HO_79.out) hb); have n3_ := Aside0.mk (Kd.R_below (rR HO550.out) hb); have n4_ := Aside0.mk (Kd.R_lower (Kd.R_new' ho0 (Kd.R_lt (rR HO_12.out))) (below_size bB)); have n5_ := Aside0.mk (below_step bB hb); clear HO_7; clear HO_12; clear HO_79; clear HO550; clear HB; have HO_7 := n0_; have HO_12 := n1_; have HO_79 := n2_; have HO550 := n3_; have HO561 := n4_; have HB := n5_; clear n0_ n1_ n2_ n3_ n4_ n5_; (try clear hb ho0)))
               repeat (go_quiet (first | (go_at_call 19; (with_reducible refine (chunk_Encode.calls k1 _ _ x12_1 (wrap64 (rd l0 0)) t547 t548 _ ?side1 ?side2 ?sideT A31.out).mono ?_); (case sideT => exact Go.Proofs.YtmlbppfcpejlpaaDoor.W08.Tab.below HTAB.out bB); (case side1 => exact cC (Kd.R_reads' HO_12.out).2.2); (case side2 => exact (Kd.R_reads' HO_12.out).2.1); rintro e w45 ⟨v549, rfl, ho0, hb⟩; have n0_ := Aside0.mk (Kd.R_below (rR HO_7.out) hb); have n1_ := Aside0.mk (Kd.R_below (rR HO_12.out) hb); have n2_ := Aside0.mk (Kd.R_below (rR HO_79.out) hb); have n3_ := Aside0.mk (Kd.R_lower ho0 (below_size bB)); have n4_ := Aside0.mk (below_step bB hb); clear HO_7; clear HO_12; clear HO_79; clear HB; have HO_7 := n0_; have HO_12 := n1_; have HO_79 := n2_; have HO550 := n3_; have HB := n4_; clear n0_ n1_ n2_ n3_ n4_; (try clear hb ho0)) | (go_at_call 41; (with_reducible refine (chunk_refused.calls 3 t557 t558 t559 _ A43.out).mono ?_); rintro e w46 ⟨v560, rfl, ho0, hb⟩; have n0_ := Aside0.mk (Kd.R_below (rR HO_7.out) hb); have n1_ := Aside0.mk (Kd.R_elder' (rR HO_12.out) (Kd.R_base ho0) hb); have n2_ := Aside0.mk (Kd.R_below (rR HO_79.out) hb); have n3_ := Aside0.mk (Kd.R_below (rR HO550.out) hb); have n4_ := Aside0.mk (Kd.R_lower (Kd.R_new' ho0 (Kd.R_lt (rR HO_12.out))) (below_size bB)); have n5_ := Aside0.mk (below_step bB hb); clear HO_7; clear HO_12; clear HO_79; clear HO550; clear HB; have HO_7 := n0_; have HO_12 := n1_; have HO_79 := n2_; have HO550 := n3_; have HO561 := n4_; have HB := n5_; clear n0_ n1_ n2_ n3_ n4_ n5_; (try clear hb ho0))); try go_wp2_with (first | (go_at_call 19; (with_reducible refine (chunk_Encode.calls k1 _ _ x12_1 (wrap64 (rd l0 0)) t547 t548 _ ?side1 ?side2 ?sideT A31.out).mono ?_); (case sideT => exact Go.Proofs.YtmlbppfcpejlpaaDoor.W08.Tab.below HTAB.out bB); (case side1 => exact cC (Kd.R_reads' HO_12.out).2.2); (case side2 => exact (Kd.R_reads' HO_12.out).2.1); rintro e w45 ⟨v549, rfl, ho0, hb⟩; have n0_ := Aside0.mk (Kd.R_below (rR HO_7.out) hb); have n1_ := Aside0.mk (Kd.R_below (rR HO_12.out) hb); have n2_ := Aside0.mk (Kd.R_below (rR HO_79.out) hb); have n3_ := Aside0.mk (Kd.R_lower ho0 (below_size bB)); have n4_ := Aside0.mk (below_step bB hb); clear HO_7; clear HO_12; clear HO_79; clear HB; have HO_7 := n0_; have HO_12 := n1_; have HO_79 := n2_; have HO550 := n3_; have HB := n4_; clear n0_ n1_ n2_ n3_ n4_; (try clear hb ho0)) | (go_at_call 41; (with_reducible refine (chunk_refused.calls 3 t557 t558 t559 _ A43.out).mono ?_); rintro e w46 ⟨v560, rfl, ho0, hb⟩; have n0_ := Aside0.mk (Kd.R_below (rR HO_7.out) hb); have n1_ := Aside0.mk (Kd.R_elder' (rR HO_12.out) (Kd.R_base ho0) hb); have n2_ := Aside0.mk (Kd.R_below (rR HO_79.out) hb); have n3_ := Aside0.mk (Kd.R_below (rR HO550.out) hb); have n4_ := Aside0.mk (Kd.R_lower (Kd.R_new' ho0 (Kd.R_lt (rR HO_12.out))) (below_size bB)); have n5_ := Aside0.mk (below_step bB hb); clear HO_7; clear HO_12; clear HO_79; clear HO550; clear HB; have HO_7 := n0_; have HO_12 := n1_; have HO_79 := n2_; have HO550 := n3_; have HO561 := n4_; have HB := n5_; clear n0_ n1_ n2_ n3_ n4_ n5_; (try clear hb ho0))))
               go_ret3
               exact ⟨_, by first | rfl | (simp [errW_none, errW_some] <;> rfl) | (simp only [← hji14]; first | rfl | (simp [errW_none, errW_some] <;> rfl)) | (simp [*, errW_none, errW_some] <;> rfl), by (with_reducible repeat (first | apply Kd.R_alloc | apply Kd.R_drewN | apply Kd.R_drew)); exact Kd.R_mono HO561.out (fun _ hk => trivial), bB⟩
          ·rw [if_neg c18] at H
           have c18b0 : (t534 == 0) = false := beq_eq_false_iff_ne.mpr c18
           have c18b1 : (t534 != 0) = true := bne_iff_ne.mpr c18
           replace H := Option.bind_eq_some_iff.mp H
           obtain ⟨⟨t537, t538, t539⟩, A470, H⟩ := H
           replace H : (some (t537, t538, t539)) = some (r1, r2, r3) := H
           have A47 := Aside0.mk A470
           clear A470
           simp only [Option.some.injEq, Prod.mk.injEq] at H
           obtain ⟨rfl, rfl, rfl⟩ := H
           have p512 : 0 ≤ (0 : Int) := (by omega)
           have q512 : 0 < (l0.length : Int) := of_decide_eq_true (by first | (with_reducible assumption) | assumption)
           obtain ⟨ad512, e512, hx512_0⟩ := Kd.at_int HR0.out 0 p512 q512
           cases e512
           have qi512 : (0 < l0.length) = True := eq_true (by omega)
           (try rw [show ((0 : Int)).toNat = 0 from rfl] at hx512_0)
           (try rw [Addr.add_zero'] at hx512_0)
           replace p512 := eq_true p512
           replace q512 := eq_true q512
           have p513 : 0 ≤ (1 : Int) := (by omega)
           have q513 : 1 < (l0.length : Int) := of_decide_eq_true (by first | (with_reducible assumption) | assumption)
           obtain ⟨ad513, e513, hx513_0⟩ := Kd.at_int HR0.out 1 p513 q513
           obtain rfl : ad512 = ad513 := (by injection e513)
           (try simp only [show (1 : Int).toNat = 1 from rfl, Nat.reduceMul, Nat.reduceEqDiff, Go.Addr.add, ↓reduceIte] at hx513_0)
           have qi513 : (1 < l0.length) = True := eq_true (by omega)
           (try rw [show ((1 : Int)).toNat = 1 from rfl] at hx513_0)
           replace p513 := eq_true p513
           replace q513 := eq_true q513
           have p514 : 0 ≤ (2 : Int) := (by omega)
           have q514 : 2 < (l0.length : Int) := of_decide_eq_true (by first | (with_reducible assumption) | assumption)
           obtain ⟨ad514, e514, hx514_0⟩ := Kd.at_int HR0.out 2 p514 q514
           obtain rfl : ad512 = ad514 := (by injection e514)
           (try simp only [show (2 : Int).toNat = 2 from rfl, Nat.reduceMul, Nat.reduceEqDiff, Go.Addr.add, ↓reduceIte] at hx514_0)
           have qi514 : (2 < l0.length) = True := eq_true (by omega)
           (try rw [show ((2 : Int)).toNat = 2 from rfl] at hx514_0)
           replace p514 := eq_true p514
           replace q514 := eq_true q514
           obtain ⟨i048, hi048, _, hsz48, _⟩ := info_parts info5
           obtain ⟨A48, hcut48, hA48, hC48⟩ := print_drop_of (P := Tryd.prog) (Value.int .u8) 0 23 5 .i64 Tryd.underlying23 hi048 hsz48 (some ad512) c0 l0 3 (by omega) (of_decide_eq_true (by first | (with_reducible assumption) | assumption)) HC0.out
           have HR520 := Aside0.mk (Kd.C_of_reads (h1 := fun _ => rfl) (hA48 _ (Kd.reads_of_C HR0.out)))
           have HC520 := Aside0.mk hC48
           clear hA48 hC48 hi048 hsz48
           obtain ⟨yq48, hyq48⟩ : ∃ y_ : List Int, y_ = l0.drop (3 : Int).toNat := ⟨_, rfl⟩
           rw [← hyq48] at hcut48 HR520 HC520
           have eyq48 : (l0.drop 3) = yq48 := hyq48.symm
           (try rw [eyq48] at A47)
           (try rw [eyq48] at H)
           (try rw [eyq48] at c18b1)
           (try rw [eyq48] at c18b0)
           (try rw [eyq48] at HC531)
           (try rw [eyq48] at HC520)
           (try rw [eyq48] at H')
           (try rw [eyq48] at A17)
           (try rw [eyq48] at c16b1)
           (try rw [eyq48] at c16b0)
           (try rw [eyq48] at c15b1)
           (try rw [eyq48] at c15b0)
           (try rw [eyq48] at c13b1)
           (try rw [eyq48] at c13b0)
           (try rw [eyq48] at A12)
           (try rw [eyq48] at c11b1)
           (try rw [eyq48] at c11b0)
           (try rw [eyq48] at c8b0)
           (try rw [eyq48] at A9)
           (try rw [eyq48] at c7b1)
           (try rw [eyq48] at c7b0)
           (try rw [eyq48] at c6b1)
           (try rw [eyq48] at c6b0)
           (try rw [eyq48] at c5b1)
           (try rw [eyq48] at c5b0)
           (try rw [eyq48] at c2b1)
           (try rw [eyq48] at c2b0)
           (try rw [eyq48] at A3)
           (try rw [eyq48] at HC0)
           have Nyq48 := Aside0.mk hyq48
           clear eyq48 hyq48
           obtain ⟨i050, hi050, _, hsz50, _⟩ := info_parts info5
           obtain ⟨A50, hcut50, hA50, hC50⟩ := print_drop_of (P := Tryd.prog) (Value.int .u8) 0 23 5 .i64 Tryd.underlying23 hi050 hsz50 (some ad512) c0 l0 (ji14) (of_decide_eq_true (by first | (with_reducible assumption) | assumption)) (of_decide_eq_true (by first | (with_reducible assumption) | assumption)) HC0.out
           have HR531 := Aside0.mk (Kd.C_of_reads (h1 := fun _ => rfl) (hA50 _ (Kd.reads_of_C HR0.out)))
           have HC531 := Aside0.mk hC50
           clear hA50 hC50 hi050 hsz50
           obtain ⟨yq50, hyq50⟩ : ∃ y_ : List Int, y_ = l0.drop ((ji14) : Int).toNat := ⟨_, rfl⟩
           rw [← hyq50] at hcut50 HR531 HC531
           have eyq50 : (l0.drop ((ji14) : Int).toNat) = yq50 := hyq50.symm
           (try rw [eyq50] at HC520)
           (try rw [eyq50] at A47)
           (try rw [eyq50] at H)
           (try rw [eyq50] at c18b1)
           (try rw [eyq50] at c18b0)
           (try rw [eyq50] at HC531)
           (try rw [eyq50] at H')
           (try rw [eyq50] at A17)
           (try rw [eyq50] at c16b1)
           (try rw [eyq50] at c16b0)
           (try rw [eyq50] at c15b1)
           (try rw [eyq50] at c15b0)
           (try rw [eyq50] at c13b1)
           (try rw [eyq50] at c13b0)
           (try rw [eyq50] at A12)
           (try rw [eyq50] at c11b1)
           (try rw [eyq50] at c11b0)
           (try rw [eyq50] at c8b0)
           (try rw [eyq50] at A9)
           (try rw [eyq50] at c7b1)
           (try rw [eyq50] at c7b0)
           (try rw [eyq50] at c6b1)
           (try rw [eyq50] at c6b0)
           (try rw [eyq50] at c5b1)
           (try rw [eyq50] at c5b0)
           (try rw [eyq50] at c2b1)
           (try rw [eyq50] at c2b0)
           (try rw [eyq50] at A3)
           (try rw [eyq50] at HC0)
           have Nyq50 := Aside0.mk hyq50
           clear eyq50 hyq50
           go_enter Tryd.func32, Tryd.ntmps32
           go_wp2_with (first | (go_at_call 42; (with_reducible refine (times_Get.calls k _ _ yq48 (Go.bits .or .i64 (wrap64 ((wrap64 (rd l0 1)) * 256)) (wrap64 (rd l0 2))) (wrap64 (Int.tdiv (wrap64 (rd l0 0)) 4)) t521 t522 t523 _ ?side1 ?side2 A12.out).mono ?_); (case side1 => exact cC HR520.out); (case side2 => exact HC520.out); rintro e w49 ⟨v524, rfl, ho0, hb⟩; have n0_ := Aside0.mk (Kd.R_lower ho0 (below_size bB)); have n1_ := Aside0.mk (below_step bB hb); clear HB; have HO525 := n0_; have HB := n1_; clear n0_ n1_; (try clear hb ho0)) | (go_at_call 43; (with_reducible refine (chunk_getValues.calls k _ _ yq50 (Go.bits .or .i64 (wrap64 ((wrap64 (rd l0 1)) * 256)) (wrap64 (rd l0 2))) (Int.tmod (wrap64 (rd l0 0)) 4) t532 t533 t534 _ ?side1 ?side2 ?sideT A17.out).mono ?_); (case sideT => exact Go.Proofs.YtmlbppfcpejlpaaDoor.W08.Tab.below HTAB.out bB); (case side1 => exact cC (Kd.C_below HR531.out HB.out)); (case side2 => exact HC531.out); rintro e w51 ⟨v535, rfl, ho0, hb⟩; have n0_ := Aside0.mk (Kd.R_below (rR HO525.out) hb); have n1_ := Aside0.mk (Kd.R_lower ho0 (below_size bB)); have n2_ := Aside0.mk (below_step bB hb); clear HO525; clear HB; have HO525 := n0_; have HO536 := n1_; have HB := n2_; clear n0_ n1_ n2_; (try clear hb ho0)) | (go_at_call 41; (with_reducible refine (chunk_refused.calls t534 t537 t538 t539 _ A47.out).mono ?_); rintro e w52 ⟨v540, rfl, ho0, hb⟩; have n0_ := Aside0.mk (Kd.R_below (rR HO525.out) hb); have n1_ := Aside0.mk (Kd.R_below (rR HO536.out) hb); have n2_ := Aside0.mk (Kd.R_lower ho0 (below_size bB)); have n3_ := Aside0.mk (below_step bB hb); clear HO525; clear HO536; clear HB; have HO525 := n0_; have HO536 := n1_; have HO541 := n2_; have HB := n3_; clear n0_ n1_ n2_ n3_; (try clear hb ho0)))
           repeat (go_quiet (first | (go_at_call 42; (with_reducible refine (times_Get.calls k _ _ yq48 (Go.bits .or .i64 (wrap64 ((wrap64 (rd l0 1)) * 256)) (wrap64 (rd l0 2))) (wrap64 (Int.tdiv (wrap64 (rd l0 0)) 4)) t521 t522 t523 _ ?side1 ?side2 A12.out).mono ?_); (case side1 => exact cC HR520.out); (case side2 => exact HC520.out); rintro e w49 ⟨v524, rfl, ho0, hb⟩; have n0_ := Aside0.mk (Kd.R_lower ho0 (below_size bB)); have n1_ := Aside0.mk (below_step bB hb); clear HB; have HO525 := n0_; have HB := n1_; clear n0_ n1_; (try clear hb ho0)) | (go_at_call 43; (with_reducible refine (chunk_getValues.calls k _ _ yq50 (Go.bits .or .i64 (wrap64 ((wrap64 (rd l0 1)) * 256)) (wrap64 (rd l0 2))) (Int.tmod (wrap64 (rd l0 0)) 4) t532 t533 t534 _ ?side1 ?side2 ?sideT A17.out).mono ?_); (case sideT => exact Go.Proofs.YtmlbppfcpejlpaaDoor.W08.Tab.below HTAB.out bB); (case side1 => exact cC (Kd.C_below HR531.out HB.out)); (case side2 => exact HC531.out); rintro e w51 ⟨v535, rfl, ho0, hb⟩; have n0_ := Aside0.mk (Kd.R_below (rR HO525.out) hb); have n1_ := Aside0.mk (Kd.R_lower ho0 (below_size bB)); have n2_ := Aside0.mk (below_step bB hb); clear HO525; clear HB; have HO525 := n0_; have HO536 := n1_; have HB := n2_; clear n0_ n1_ n2_; (try clear hb ho0)) | (go_at_call 41; (with_reducible refine (chunk_refused.calls t534 t537 t538 t539 _ A47.out).mono ?_); rintro e w52 ⟨v540, rfl, ho0, hb⟩; have n0_ := Aside0.mk (Kd.R_below (rR HO525.out) hb); have n1_ := Aside0.mk (Kd.R_below (rR HO536.out) hb); have n2_ := Aside0.mk (Kd.R_lower ho0 (below_size bB)); have n3_ := Aside0.mk (below_step bB hb); clear HO525; clear HO536; clear HB; have HO525 := n0_; have HO536 := n1_; have HO541 := n2_; have HB := n3_; clear n0_ n1_ n2_ n3_; (try clear hb ho0))); try go_wp2_with (first | (go_at_call 42; (with_reducible refine (times_Get.calls k _ _ yq48 (Go.bits .or .i64 (wrap64 ((wrap64 (rd l0 1)) * 256)) (wrap64 (rd l0 2))) (wrap64 (Int.tdiv (wrap64 (rd l0 0)) 4)) t521 t522 t523 _ ?side1 ?side2 A12.out).mono ?_); (case side1 => exact cC HR520.out); (case side2 => exact HC520.out); rintro e w49 ⟨v524, rfl, ho0, hb⟩; have n0_ := Aside0.mk (Kd.R_lower ho0 (below_size bB)); have n1_ := Aside0.mk (below_step bB hb); clear HB; have HO525 := n0_; have HB := n1_; clear n0_ n1_; (try clear hb ho0)) | (go_at_call 43; (with_reducible refine (chunk_getValues.calls k _ _ yq50 (Go.bits .or .i64 (wrap64 ((wrap64 (rd l0 1)) * 256)) (wrap64 (rd l0 2))) (Int.tmod (wrap64 (rd l0 0)) 4) t532 t533 t534 _ ?side1 ?side2 ?sideT A17.out).mono ?_); (case sideT => exact Go.Proofs.YtmlbppfcpejlpaaDoor.W08.Tab.below HTAB.out bB); (case side1 => exact cC (Kd.C_below HR531.out HB.out)); (case side2 => exact HC531.out); rintro e w51 ⟨v535, rfl, ho0, hb⟩; have n0_ := Aside0.mk (Kd.R_below (rR HO525.out) hb); have n1_ := Aside0.mk (Kd.R_lower ho0 (below_size bB)); have n2_ := Aside0.mk (below_step bB hb); clear HO525; clear HB; have HO525 := n0_; have HO536 := n1_; have HB := n2_; clear n0_ n1_ n2_; (try clear hb ho0)) | (go_at_call 41; (with_reducible refine (chunk_refused.calls t534 t537 t538 t539 _ A47.out).mono ?_); rintro e w52 ⟨v540, rfl, ho0, hb⟩; have n0_ := Aside0.mk (Kd.R_below (rR HO525.out) hb); have n1_ := Aside0.mk (Kd.R_below (rR HO536.out) hb); have n2_ := Aside0.mk (Kd.R_lower ho0 (below_size bB)); have n3_ := Aside0.mk (below_step bB hb); clear HO525; clear HO536; clear HB; have HO525 := n0_; have HO536 := n1_; have HO541 := n2_; have HB := n3_; clear n0_ n1_ n2_ n3_; (try clear hb ho0))))
           go_ret3
           exact ⟨_, by first | rfl | (simp [errW_none, errW_some] <;> rfl) | (simp only [← hji14]; first | rfl | (simp [errW_none, errW_some] <;> rfl)) | (simp [*, errW_none, errW_some] <;> rfl), rR HO541.out, bB⟩
         ·rw [if_neg c16] at H
          exact absurd H (by simp)
        ·rw [if_neg c15] at H
         exact absurd H (by simp)
       ·rw [if_neg c13] at H
        have c13b0 : (t523 == 0) = false := beq_eq_false_iff_ne.mpr c13
        have c13b1 : (t523 != 0) = true := bne_iff_ne.mpr c13
        replace H := Option.bind_eq_some_iff.mp H
        obtain ⟨⟨t526, t527, t528⟩, A530, H⟩ := H
        replace H : (some (t526, t527, t528)) = some (r1, r2, r3) := H
        have A53 := Aside0.mk A530
        clear A530
        simp only [Option.some.injEq, Prod.mk.injEq] at H
        obtain ⟨rfl, rfl, rfl⟩ := H
        have p512 : 0 ≤ (0 : Int) := (by omega)
        have q512 : 0 < (l0.length : Int) := of_decide_eq_true (by first | (with_reducible assumption) | assumption)
        obtain ⟨ad512, e512, hx512_0⟩ := Kd.at_int HR0.out 0 p512 q512
        cases e512
        have qi512 : (0 < l0.length) = True := eq_true (by omega)
        (try rw [show ((0 : Int)).toNat = 0 from rfl] at hx512_0)
        (try rw [Addr.add_zero'] at hx512_0)
        replace p512 := eq_true p512
        replace q512 := eq_true q512
        have p513 : 0 ≤ (1 : Int) := (by omega)
        have q513 : 1 < (l0.length : Int) := of_decide_eq_true (by first | (with_reducible assumption) | assumption)
        obtain ⟨ad513, e513, hx513_0⟩ := Kd.at_int HR0.out 1 p513 q513
        obtain rfl : ad512 = ad513 := (by injection e513)
        (try simp only [show (1 : Int).toNat = 1 from rfl, Nat.reduceMul, Nat.reduceEqDiff, Go.Addr.add, ↓reduceIte] at hx513_0)
        have qi513 : (1 < l0.length) = True := eq_true (by omega)
        (try rw [show ((1 : Int)).toNat = 1 from rfl] at hx513_0)
        replace p513 := eq_true p513
        replace q513 := eq_true q513
        have p514 : 0 ≤ (2 : Int) := (by omega)
        have q514 : 2 < (l0.length : Int) := of_decide_eq_true (by first | (with_reducible assumption) | assumption)
        obtain ⟨ad514, e514, hx514_0⟩ := Kd.at_int HR0.out 2 p514 q514
        obtain rfl : ad512 = ad514 := (by injection e514)
        (try simp only [show (2 : Int).toNat = 2 from rfl, Nat.reduceMul, Nat.reduceEqDiff, Go.Addr.add, ↓reduceIte] at hx514_0)
        have qi514 : (2 < l0.length) = True := eq_true (by omega)
        (try rw [show ((2 : Int)).toNat = 2 from rfl] at hx514_0)
        replace p514 := eq_true p514
        replace q514 := eq_true q514
        obtain ⟨i054, hi054, _, hsz54, _⟩ := info_parts info5
        obtain ⟨A54, hcut54, hA54, hC54⟩ := print_drop_of (P := Tryd.prog) (Value.int .u8) 0 23 5 .i64 Tryd.underlying23 hi054 hsz54 (some ad512) c0 l0 3 (by omega) (of_decide_eq_true (by first | (with_reducible assumption) | assumption)) HC0.out
        have HR520 := Aside0.mk (Kd.C_of_reads (h1 := fun _ => rfl) (hA54 _ (Kd.reads_of_C HR0.out)))
        have HC520 := Aside0.mk hC54
        clear hA54 hC54 hi054 hsz54
        obtain ⟨yq54, hyq54⟩ : ∃ y_ : List Int, y_ = l0.drop (3 : Int).toNat := ⟨_, rfl⟩
        rw [← hyq54] at hcut54 HR520 HC520
        have eyq54 : (l0.drop 3) = yq54 := hyq54.symm
        (try rw [eyq54] at A53)
        (try rw [eyq54] at H)
        (try rw [eyq54] at c13b1)
        (try rw [eyq54] at c13b0)
        (try rw [eyq54] at A12)
        (try rw [eyq54] at c11b1)
        (try rw [eyq54] at c11b0)
        (try rw [eyq54] at c8b0)
        (try rw [eyq54] at A9)
        (try rw [eyq54] at c7b1)
        (try rw [eyq54] at c7b0)
        (try rw [eyq54] at c6b1)
        (try rw [eyq54] at c6b0)
        (try rw [eyq54] at c5b1)
        (try rw [eyq54] at c5b0)
        (try rw [eyq54] at c2b1)
        (try rw [eyq54] at c2b0)
        (try rw [eyq54] at A3)
        (try rw [eyq54] at HC0)
        have Nyq54 := Aside0.mk hyq54
        clear eyq54 hyq54
        go_enter Tryd.func32, Tryd.ntmps32
        go_wp2_with (first | (go_at_call 42; (with_reducible refine (times_Get.calls k _ _ yq54 (Go.bits .or .i64 (wrap64 ((wrap64 (rd l0 1)) * 256)) (wrap64 (rd l0 2))) (wrap64 (Int.tdiv (wrap64 (rd l0 0)) 4)) t521 t522 t523 _ ?side1 ?side2 A12.out).mono ?_); (case side1 => exact cC HR520.out); (case side2 => exact HC520.out); rintro e w55 ⟨v524, rfl, ho0, hb⟩; have n0_ := Aside0.mk (Kd.R_lower ho0 (below_size bB)); have n1_ := Aside0.mk (below_step bB hb); clear HB; have HO525 := n0_; have HB := n1_; clear n0_ n1_; (try clear hb ho0)) | (go_at_call 41; (with_reducible refine (chunk_refused.calls t523 t526 t527 t528 _ A53.out).mono ?_); rintro e w56 ⟨v529, rfl, ho0, hb⟩; have n0_ := Aside0.mk (Kd.R_below (rR HO525.out) hb); have n1_ := Aside0.mk (Kd.R_lower ho0 (below_size bB)); have n2_ := Aside0.mk (below_step bB hb); clear HO525; clear HB; have HO525 := n0_; have HO530 := n1_; have HB := n2_; clear n0_ n1_ n2_; (try clear hb ho0)))
        repeat (go_quiet (first | (go_at_call 42; (with_reducible refine (times_Get.calls k _ _ yq54 (Go.bits .or .i64 (wrap64 ((wrap64 (rd l0 1)) * 256)) (wrap64 (rd l0 2))) (wrap64 (Int.tdiv (wrap64 (rd l0 0)) 4)) t521 t522 t523 _ ?side1 ?side2 A12.out).mono ?_); (case side1 => exact cC HR520.out); (case side2 => exact HC520.out); rintro e w55 ⟨v524, rfl, ho0, hb⟩; have n0_ := Aside0.mk (Kd.R_lower ho0 (below_size bB)); have n1_ := Aside0.mk (below_step bB hb); clear HB; have HO525 := n0_; have HB := n1_; clear n0_ n1_; (try clear hb ho0)) | (go_at_call 41; (with_reducible refine (chunk_refused.calls t523 t526 t527 t528 _ A53.out).mono ?_); rintro e w56 ⟨v529, rfl, ho0, hb⟩; have n0_ := Aside0.mk (Kd.R_below (rR HO525.out) hb); have n1_ := Aside0.mk (Kd.R_lower ho0 (below_size bB)); have n2_ := Aside0.mk (below_step bB hb); clear HO525; clear HB; have HO525 := n0_; have HO530 := n1_; have HB := n2_; clear n0_ n1_ n2_; (try clear hb ho0))); try go_wp2_with (first | (go_at_call 42; (with_reducible refine (times_Get.calls k _ _ yq54 (Go.bits .or .i64 (wrap64 ((wrap64 (rd l0 1)) * 256)) (wrap64 (rd l0 2))) (wrap64 (Int.tdiv (wrap64 (rd l0 0)) 4)) t521 t522 t523 _ ?side1 ?side2 A12.out).mono ?_); (case side1 => exact cC HR520.out); (case side2 => exact HC520.out); rintro e w55 ⟨v524, rfl, ho0, hb⟩; have n0_ := Aside0.mk (Kd.R_lower ho0 (below_size bB)); have n1_ := Aside0.mk (below_step bB hb); clear HB; have HO525 := n0_; have HB := n1_; clear n0_ n1_; (try clear hb ho0)) | (go_at_call 41; (with_reducible refine (chunk_refused.calls t523 t526 t527 t528 _ A53.out).mono ?_); rintro e w56 ⟨v529, rfl, ho0, hb⟩; have n0_ := Aside0.mk (Kd.R_below (rR HO525.out) hb); have n1_ := Aside0.mk (Kd.R_lower ho0 (below_size bB)); have n2_ := Aside0.mk (below_step bB hb); clear HO525; clear HB; have HO525 := n0_; have HO530 := n1_; have HB := n2_; clear n0_ n1_ n2_; (try clear hb ho0))))
        go_ret3
        exact ⟨_, by first | rfl | (simp [errW_none, errW_some] <;> rfl) | (simp [*, errW_none, errW_some] <;> rfl), rR HO530.out, bB⟩
      ·rw [if_neg c11] at H
       exact absurd H (by simp)
    ·rw [if_neg c7] at H
     exact absurd H (by simp)
   ·rw [if_neg c6] at H
    exact absurd H (by simp)
  ·rw [if_neg c5] at H
   exact absurd H (by simp)


/-! ### ricklaw10_codes: function 16 -/
def ricklaw10_codes.f (k : Nat)  : Option (Bool) := (chunk_Encode.f k (([(⟨10, 7⟩ : S51), (⟨13, 7⟩ : S51)] : List (S51))) 6).bind fun bt565 => ((chunk_Decode.f k bt565.1).bind fun bt569 => (if bt565.2 = 0 then (if bt569.2.2 = 0 then (if (strOfNums bt565.1).toList = ([6, 0, 2, 20, 3, 2, 7] : List UInt8) then (if bt569.2.1 = 6 then (if (bt569.1.length : Int) = 2 then (if 1 < (bt569.1.length : Int) then (if ((rd_T51 bt569.1 1).f0) = 13 then ((chunk_Codec.f 1 2).bind fun t575 => (some (t575 == 6))) else (some false)) else (none)) else (some false)) else (some false)) else (some false)) else (some false)) else (some false)))
theorem ricklaw10_codes.mono : ∀ k, LeO (ricklaw10_codes.f k ) (ricklaw10_codes.f (k + 1) ) := by
 intro  k
 unfold ricklaw10_codes.f
 repeat' first
   | (with_reducible exact chunk_Decode.mono _ _)
   | (with_reducible exact chunk_Encode.mono _ _ _)
   | (with_reducible exact LeO.refl _)
   | (with_reducible exact LeO.none _)
   | (with_reducible refine LeO.ite ?_ ?_)
   | (with_reducible refine LeO.bind ?_ (fun _ => ?_))
   | exact chunk_Decode.mono _ _
   | exact chunk_Encode.mono _ _ _
   | exact LeO.none _
   | refine LeO.ite ?_ ?_
   | refine LeO.bind ?_ (fun _ => ?_)
set_option maxHeartbeats 8000000 in
set_option maxRecDepth 100000 in
theorem ricklaw10_codes.calls (k : Nat)  (r : Bool) (w : World) (hT_ : Go.Proofs.YtmlbppfcpejlpaaDoor.W08.Tab w) (h : ricklaw10_codes.f k  = some r) (hrt : r = true) :
  Calls Tryd.prog 16 #[] w fun e w' => e = .returned (.bool r) ∧ Below w.heap.size w w' := by
 have HTAB := Aside0.mk hT_
 clear hT_
 have HRT := Aside0.mk hrt
 clear hrt
 have hu51 := Tryd.underlying51
 have HB := Aside0.mk (Below.refl w.heap.size w)
 have H : ((chunk_Encode.f k (([(⟨10, 7⟩ : S51), (⟨13, 7⟩ : S51)] : List (S51))) 6).bind fun bt565 => ((chunk_Decode.f k bt565.1).bind fun bt569 => (if bt565.2 = 0 then (if bt569.2.2 = 0 then (if (strOfNums bt565.1).toList = ([6, 0, 2, 20, 3, 2, 7] : List UInt8) then (if bt569.2.1 = 6 then (if (bt569.1.length : Int) = 2 then (if 1 < (bt569.1.length : Int) then (if ((rd_T51 bt569.1 1).f0) = 13 then ((chunk_Codec.f 1 2).bind fun t575 => (some (t575 == 6))) else (some false)) else (none)) else (some false)) else (some false)) else (some false)) else (some false)) else (some false)))) = some r := h
 clear h
 obtain ⟨y562, hy562⟩ : ∃ y_ : List (S51), y_ = (([(⟨10, 7⟩ : S51), (⟨13, 7⟩ : S51)] : List (S51))) := ⟨_, rfl⟩
 replace H : ((chunk_Encode.f k y562 6).bind fun bt565 => ((chunk_Decode.f k bt565.1).bind fun bt569 => (if bt565.2 = 0 then (if bt569.2.2 = 0 then (if (strOfNums bt565.1).toList = ([6, 0, 2, 20, 3, 2, 7] : List UInt8) then (if bt569.2.1 = 6 then (if (bt569.1.length : Int) = 2 then (if 1 < (bt569.1.length : Int) then (if ((rd_T51 bt569.1 1).f0) = 13 then ((chunk_Codec.f 1 2).bind fun t575 => (some (t575 == 6))) else (some false)) else (none)) else (some false)) else (some false)) else (some false)) else (some false)) else (some false)))) = some r := by first | (rw [hy562]; with_reducible exact H) | (have H2_ := (Option.bind_some _ _).symm.trans H; rw [hy562]; with_reducible exact H2_) | (have H2_ := (Option.bind_some _ _).symm.trans H; with_reducible exact H2_) | with_reducible exact H | (rw [hy562]; exact H) | exact H
 have Ny562 := Aside0.mk hy562
 clear hy562
 replace H := Option.bind_eq_some_iff.mp H
 obtain ⟨⟨t565, t566⟩, A10, H⟩ := H
 replace H : ((chunk_Decode.f k t565).bind fun bt569 => (if t566 = 0 then (if bt569.2.2 = 0 then (if (strOfNums t565).toList = ([6, 0, 2, 20, 3, 2, 7] : List UInt8) then (if bt569.2.1 = 6 then (if (bt569.1.length : Int) = 2 then (if 1 < (bt569.1.length : Int) then (if ((rd_T51 bt569.1 1).f0) = 13 then ((chunk_Codec.f 1 2).bind fun t575 => (some (t575 == 6))) else (some false)) else (none)) else (some false)) else (some false)) else (some false)) else (some false)) else (some false))) = some r := H
 have A1 := Aside0.mk A10
 clear A10
 replace H := Option.bind_eq_some_iff.mp H
 obtain ⟨⟨t569, t570, t571⟩, A20, H⟩ := H
 replace H : (if t566 = 0 then (if t571 = 0 then (if (strOfNums t565).toList = ([6, 0, 2, 20, 3, 2, 7] : List UInt8) then (if t570 = 6 then (if (t569.length : Int) = 2 then (if 1 < (t569.length : Int) then (if ((rd_T51 t569 1).f0) = 13 then ((chunk_Codec.f 1 2).bind fun t575 => (some (t575 == 6))) else (some false)) else (none)) else (some false)) else (some false)) else (some false)) else (some false)) else (some false)) = some r := H
 have A2 := Aside0.mk A20
 clear A20
 by_cases c3 : t566 = 0
 ·rw [if_pos c3] at H
  have c3b0 : (t566 == 0) = true := beq_iff_eq.mpr c3
  have c3b1 : (t566 != 0) = false := bne_eq_false_iff_eq.mpr c3
  clear c3
  by_cases c4 : t571 = 0
  ·rw [if_pos c4] at H
   have c4b0 : (t571 == 0) = true := beq_iff_eq.mpr c4
   have c4b1 : (t571 != 0) = false := bne_eq_false_iff_eq.mpr c4
   clear c4
   by_cases c5 : (strOfNums t565).toList = ([6, 0, 2, 20, 3, 2, 7] : List UInt8)
   ·rw [if_pos c5] at H
    have c5b0 : ((strOfNums t565).toList == ([6, 0, 2, 20, 3, 2, 7] : List UInt8)) = true := beq_iff_eq.mpr c5
    have c5b1 : ((strOfNums t565).toList != ([6, 0, 2, 20, 3, 2, 7] : List UInt8)) = false := bne_eq_false_iff_eq.mpr c5
    clear c5
    by_cases c6 : t570 = 6
    ·rw [if_pos c6] at H
     have c6b0 : (t570 == 6) = true := beq_iff_eq.mpr c6
     have c6b1 : (t570 != 6) = false := bne_eq_false_iff_eq.mpr c6
     clear c6
     by_cases c7 : (t569.length : Int) = 2
     ·rw [if_pos c7] at H
      have c7b0 : ((t569.length : Int) == 2) = true := beq_iff_eq.mpr c7
      have c7b1 : ((t569.length : Int) != 2) = false := bne_eq_false_iff_eq.mpr c7
      clear c7
      by_cases c8 : 1 < (t569.length : Int)
      ·rw [if_pos c8] at H
       have c8b0 : decide (1 < (t569.length : Int)) = true := decide_eq_true c8
       have c8b1 : decide (1 < t569.length) = true := decide_eq_true (by omega)
       clear c8
       by_cases c9 : ((rd_T51 t569 1).f0) = 13
       ·rw [if_pos c9] at H
        have c9b0 : (((rd_T51 t569 1).f0) == 13) = true := beq_iff_eq.mpr c9
        have c9b1 : (((rd_T51 t569 1).f0) != 13) = false := bne_eq_false_iff_eq.mpr c9
        clear c9
        replace H := Option.bind_eq_some_iff.mp H
        obtain ⟨t575, A100, H⟩ := H
        replace H : (some (t575 == 6)) = some r := H
        have A10 := Aside0.mk A100
        clear A100
        obtain rfl := Option.some.inj H
        go_enter Tryd.func16, Tryd.ntmps16
        go_wp2_with (first | ((with_reducible refine gate_dst (N := 9) rfl ?_); (try (refine gate_guard (by rfl) ?_; dsimp only)); refine Kd.R_lit k51 _ 51 ?hg (N := 9) ?hd (xs := ([(⟨10, 7⟩ : S51), (⟨13, 7⟩ : S51)] : List (S51))) (inner := [.int .i64 10, .int .u64 7, .int .i64 13, .int .u64 7]) (ok := fun _ => True) (okp := fun _ => True) ?hr ?hp (fun _ hk => hk) trivial (Below.refl _ _) (Nat.le_refl _) (by simp) ?_; (case hd => rfl); (case hg => rfl); (case hr => first | (go_simp; done) | (go_simp; rfl)); (case hp => exact (Reps.c2 (show Kd.M k51 _ _ _ (⟨10, 7⟩ : S51) [.int .i64 10, .int .u64 7] from (k51_mkM _ _ _ (⟨10, 7⟩ : S51) )) (Reps.c2 (show Kd.M k51 _ _ _ (⟨13, 7⟩ : S51) [.int .i64 13, .int .u64 7] from (k51_mkM _ _ _ (⟨13, 7⟩ : S51) )) (Reps.none _ _)))); intro v563 w11 ho12 hb hg_ hnew_; clear hg_ hnew_; (first | rw [← Ny562.out] at ho12 | (simp only [Int.reduceToNat] at ho12; rw [← Ny562.out] at ho12)); have n0_ := Aside0.mk (Kd.R_lower ho12 (below_size bB)); have n1_ := Aside0.mk (below_step bB hb); clear HB; have HO564 := n0_; have HB := n1_; clear n0_ n1_; clear hb ho12; obtain ⟨Ao13, co13, eo13⟩ := Kd.R_slice HO564.out; subst eo13) | ((with_reducible refine gate_callee (f := 19) rfl ?_); refine goesL_ (some 10) rfl rfl Tryd.func19 (by kernel_rfl) rfl #[.slice Ao13 y562.length co13, .int .i64 6] rfl (by (try simp only [List.map_toArray, List.map_cons, List.map_nil]); first | done | rfl | (simp only [List.length_drop, List.length_take]; rfl)) ?_; (with_reducible refine (chunk_Encode.calls k _ _ y562 6 t565 t566 _ ?side1 ?side2 ?sideT A1.out).mono ?_); (case sideT => exact Go.Proofs.YtmlbppfcpejlpaaDoor.W08.Tab.below HTAB.out bB); (case side1 => exact cC (Kd.R_reads' HO564.out).2.2); (case side2 => exact (Kd.R_reads' HO564.out).2.1); rintro e w14 ⟨v567, rfl, ho0, hb⟩; refine ⟨_, rfl, ?_⟩; have n0_ := Aside0.mk (Kd.R_below (rR HO564.out) hb); have n1_ := Aside0.mk (Kd.R_lower ho0 (below_size bB)); have n2_ := Aside0.mk (below_step bB hb); clear HO564; clear HB; have HO564 := n0_; have HO568 := n1_; have HB := n2_; clear n0_ n1_ n2_; (try clear hb ho0); obtain ⟨Ao15, co15, eo15⟩ := Kd.R_slice HO568.out; subst eo15) | ((with_reducible refine gate_callee (f := 32) rfl ?_); refine goesL_ (some 15) rfl rfl Tryd.func32 (by kernel_rfl) rfl #[.slice Ao15 t565.length co15] rfl (by (try simp only [List.map_toArray, List.map_cons, List.map_nil]); first | done | rfl | (simp only [List.length_drop, List.length_take]; rfl)) ?_; (with_reducible refine (chunk_Decode.calls k _ _ t565 t569 t570 t571 _ ?side1 ?side2 ?sideT A2.out).mono ?_); (case sideT => exact Go.Proofs.YtmlbppfcpejlpaaDoor.W08.Tab.below HTAB.out bB); (case side1 => exact cC (Kd.R_reads' HO568.out).2.2); (case side2 => exact (Kd.R_reads' HO568.out).2.1); rintro e w16 ⟨v572, rfl, ho0, hb⟩; refine ⟨_, rfl, ?_⟩; have n0_ := Aside0.mk (Kd.R_elder' (rR HO564.out) (Kd.R_base ho0) hb); have n1_ := Aside0.mk (Kd.R_below (rR HO568.out) hb); have n2_ := Aside0.mk (Kd.R_lower (Kd.R_new' ho0 (Kd.R_lt (rR HO564.out))) (below_size bB)); have n3_ := Aside0.mk (below_step bB hb); clear HO564; clear HO568; clear HB; have HO564 := n0_; have HO568 := n1_; have HO573 := n2_; have HB := n3_; clear n0_ n1_ n2_ n3_; (try clear hb ho0); have hcv17 := own_string (P := Tryd.prog) Tryd.underlying23 Tryd.underlying5 Tryd.underlying9 (Kd.own_of_R HO568.out); obtain ⟨Ao18, co18, eo18⟩ := Kd.R_slice HO573.out; subst eo18; have p574 : 0 ≤ (1 : Int) := (by omega); have q574 : 1 < (t569.length : Int) := of_decide_eq_true (by first | (with_reducible assumption) | assumption); obtain ⟨ad574, e574, hx574_0, hx574_1⟩ := at_T51 (Kd.R_reads' HO573.out).2.2 1 p574 q574; cases e574; (try simp only [show (1 : Int).toNat = 1 from rfl, Nat.reduceMul, Nat.reduceEqDiff, Go.Addr.add, ↓reduceIte] at hx574_0); (try simp only [show (1 : Int).toNat = 1 from rfl, Nat.reduceMul, Nat.reduceEqDiff, Go.Addr.add, ↓reduceIte] at hx574_1); have qi574 : (1 < t569.length) = True := eq_true (by omega); (try rw [show ((1 : Int)).toNat = 1 from rfl] at hx574_0); (try rw [show 1 * 2 = 2 from rfl] at hx574_0); (try rw [show ((1 : Int)).toNat = 1 from rfl] at hx574_1); (try rw [show 1 * 2 = 2 from rfl] at hx574_1); replace p574 := eq_true p574; replace q574 := eq_true q574) | (go_at_call 15; (with_reducible refine (chunk_Codec.calls 1 2 t575 _ A10.out).mono ?_); rintro e w' ⟨rfl, ⟨nd, rfl⟩⟩))
        go_ret
        exact ⟨by first | rfl | (simp [errW_none, errW_some] <;> rfl) | (simp [*, errW_none, errW_some] <;> rfl), bB⟩
       ·rw [if_neg c9] at H
        exact absurd (Option.some.inj (H.trans (congrArg some HRT.out))) (by decide)
      ·rw [if_neg c8] at H
       exact absurd H (by simp)
     ·rw [if_neg c7] at H
      exact absurd (Option.some.inj (H.trans (congrArg some HRT.out))) (by decide)
    ·rw [if_neg c6] at H
     exact absurd (Option.some.inj (H.trans (congrArg some HRT.out))) (by decide)
   ·rw [if_neg c5] at H
    exact absurd (Option.some.inj (H.trans (congrArg some HRT.out))) (by decide)
  ·rw [if_neg c4] at H
   exact absurd (Option.some.inj (H.trans (congrArg some HRT.out))) (by decide)
 ·rw [if_neg c3] at H
  exact absurd (Option.some.inj (H.trans (congrArg some HRT.out))) (by decide)

end Go.Proofs.YtmlbppfcpejlpaaDoor.X

/- What the printed functions of layer 5 (varint) tell: the bytes of a number, and back. No conditions. -/
namespace Go.Proofs.YtmlbppfcpejlpaaDoor.Q05
open Go Go.RowKit Go.Proofs.YtmlbppfcpejlpaaDoorW.PrintWords Go.Proofs.YtmlbppfcpejlpaaDoorW.PrintMore Go.Proofs.YtmlbppfcpejlpaaDoor.S Go.Proofs.YtmlbppfcpejlpaaDoor.X
set_option linter.unusedVariables false
set_option linter.unusedSimpArgs false

/-- The bytes of a number; ten at the most. -/
def vbF : Nat → Int → List Int
 | 0, _ => []
 | f + 1, n => if n < 128 then [n] else (n % 128 + 128) :: vbF f (n / 128)
def vb (n : Int) : List Int := vbF 10 n
theorem vbF_len : ∀ (f : Nat) (n : Int), (vbF f n).length ≤ f
 | 0, _ => by simp [vbF]
 | f + 1, n => by
  unfold vbF
  split
  ·simp
  ·have := vbF_len f (n / 128); simp; omega
theorem vb_len (n : Int) : (vb n).length ≤ 10 := vbF_len 10 n
theorem vb_pos (n : Int) : 1 ≤ (vb n).length := by unfold vb vbF; split <;> simp
theorem vbF_bs : ∀ (f : Nat) (n : Int), 0 ≤ n → Bs (vbF f n)
 | 0, _, _ => by simp [vbF, Bs]
 | f + 1, n, h => by
  unfold vbF
  split
  ·intro x hx; simp at hx; omega
  ·intro x hx
   rcases List.mem_cons.1 hx with rfl | hx
   ·omega
   ·exact vbF_bs f (n / 128) (by omega) x hx
theorem vb_bs {n : Int} (h : 0 ≤ n) : Bs (vb n) := vbF_bs 10 n h

theorem vbF_more : ∀ (f : Nat) (n : Int), 0 ≤ n → n < 128 ^ f → vbF f n = if f = 0 then [] else vbF (f + 1) n
 | 0, n, _, _ => by simp [vbF]
 | f + 1, n, h0, h1 => by
  rw [if_neg (by omega)]
  conv => lhs; unfold vbF
  conv => rhs; unfold vbF
  by_cases hs : n < 128
  ·rw [if_pos hs, if_pos hs]
  ·rw [if_neg hs, if_neg hs]
   have hf : f ≠ 0 := by rintro rfl; simp at h1; omega
   rw [vbF_more f (n / 128) (by omega) (Int.ediv_lt_of_lt_mul (by omega) (by rw [Int.pow_succ] at h1; omega)), if_neg hf]
theorem put_l0 (f : Nat) : ∀ (k : Nat) (n : Int) (l : List Int), 0 ≤ n → n < 128 ^ f → f < k → l.length + f < 140737488355328 → f ≠ 0 →
  varint_Put.l0 k n l = some (l ++ vbF f n) := by
 induction f with
 | zero => intro k n l h0 h1 hk hl hf; exact absurd rfl hf
 | succ f ih =>
  intro k n l h0 h1 hk hl _
  obtain ⟨k, rfl⟩ : ∃ m, k = m + 1 := ⟨k - 1, by omega⟩
  simp only [varint_Put.l0, vbF]
  by_cases hn : n < 128
  ·rw [if_neg (by omega), if_pos (by omega), if_pos hn]
   congr 3
   omega
  ·rw [if_pos (by omega), if_pos (by omega), if_neg hn, or128 (by omega) (by omega)]
   have hf : f ≠ 0 := by rintro rfl; simp at h1; omega
   have hp : n / 128 < 128 ^ f := Int.ediv_lt_of_lt_mul (by omega) (by rw [Int.pow_succ] at h1; omega)
   rw [ih k (n / 128) _ (by omega) hp (by omega) (by simp; omega) hf]
   rw [List.append_assoc, show n % 256 % 128 = n % 128 by omega]
   rfl
theorem put_spec {k : Nat} {n : Int} {l : List Int} (h0 : 0 ≤ n) (h1 : n < 18446744073709551616) (hk : 10 < k) (hl : l.length + 10 < 140737488355328) :
  varint_Put.f k l n = some (l ++ vb n) := by
 unfold varint_Put.f bytes_Clone.f
 rw [if_pos (by omega)]
 simp only [Option.bind_some]
 exact put_l0 10 k n l h0 (by omega) hk hl (by decide)

/-- The first number of bytes, from place i on, acc being what is known of it. -/
def vg : Nat → Int → List Int → Int × Int × Int
 | _, _, [] => (0, 0, 4)
 | i, acc, c :: cs =>
  if i = 10 then (0, 0, 3) else if i = 9 ∧ 1 < c then (0, 0, 3)
  else if 128 ≤ c then vg (i + 1) (acc + c % 128 * 2 ^ (7 * i)) cs
  else if c = 0 ∧ 0 < i then (0, 0, 3) else (acc + c % 128 * 2 ^ (7 * i), (i : Int) + 1, 0)

theorem shl_u64 {x : Int} {n : Nat} (h0 : 0 ≤ x) (hn : n ≤ 64) (h : x * 2 ^ n < 18446744073709551616) : shl .u64 x (n : Int) = x * 2 ^ n := by
 unfold shl
 have : min ((n : Int).toNat) IntKind.u64.bits = n := by simp [IntKind.bits]; omega
 rw [this]
 exact wrap_u64_id (Int.mul_nonneg h0 (Int.pow_nonneg (by omega))) h
theorem pow7 {i : Nat} (h : i < 10) : (2 : Int) ^ (7 * i) ≤ 9223372036854775808 ∧ 0 < (2 : Int) ^ (7 * i) ∧ (i < 9 → 128 * (2 : Int) ^ (7 * i) ≤ 9223372036854775808) ∧ (2 : Int) ^ (7 * (i + 1)) = 128 * 2 ^ (7 * i) := by
 have : i = 0 ∨ i = 1 ∨ i = 2 ∨ i = 3 ∨ i = 4 ∨ i = 5 ∨ i = 6 ∨ i = 7 ∨ i = 8 ∨ i = 9 := by omega
 rcases this with rfl | rfl | rfl | rfl | rfl | rfl | rfl | rfl | rfl | rfl <;> decide

/-- One step of what is known: the new bits lie above the old ones. -/
theorem step_acc {i : Nat} {acc c : Int} (hi : i < 10) (ha : 0 ≤ acc) (ha1 : acc < 2 ^ (7 * i)) (c0 : 0 ≤ c) (c1 : c < 256) (h9 : i = 9 → c ≤ 1) :
  Go.bits .or .u64 acc (shl .u64 (IntKind.u64.wrap (Go.bits .andNot .u8 c 128)) (wrap64 (7 * (i : Int)))) = acc + c % 128 * 2 ^ (7 * i) := by
 obtain ⟨p1, p2, p3, p4⟩ := pow7 hi
 rw [andNot128 c0 c1, wrap_u64_id (by omega) (by omega), wrap64_id (by omega) (by omega), show (7 : Int) * (i : Int) = ((7 * i : Nat) : Int) by simp]
 have hc : c % 128 * 2 ^ (7 * i) < 18446744073709551616 := by
  by_cases h : i = 9
  ·subst h; have := h9 rfl; have : c % 128 ≤ 1 := by omega
   have := Int.mul_le_mul_of_nonneg_right this (show (0 : Int) ≤ 2 ^ (7 * 9) by decide)
   omega
  ·have := p3 (by omega)
   have := Int.mul_le_mul_of_nonneg_right (show c % 128 ≤ 127 by omega) (Int.le_of_lt p2)
   omega
 rw [shl_u64 (by omega) (by omega) hc]
 have hy0 : 0 ≤ c % 128 * 2 ^ (7 * i) := Int.mul_nonneg (by omega) (Int.le_of_lt p2)
 rw [or_comm64 ha (by omega) hy0 hc, or_join (7 * i) hy0 (Int.mul_emod_left _ _) hc ha ha1 (by omega), Int.add_comm]

theorem get_l0 (b : List Int) (hb : Bs b) (hl : b.length < 1000000000000) (d : Nat) : ∀ (i k : Nat) (acc : Int), i + d = b.length → i ≤ 10 → 2 * d < k → 0 ≤ acc → (i < 10 → acc < 2 ^ (7 * i)) →
  varint_Get.l0 k acc b (b.length : Int) (i : Int) = some (vg i acc (b.drop i)) := by
 induction d with
 | zero =>
  intro i k acc hd hi hk h0 h1
  obtain ⟨k, rfl⟩ : ∃ m, k = m + 1 := ⟨k - 1, by omega⟩
  simp only [varint_Get.l0]
  rw [if_neg (by omega), List.drop_eq_nil_of_le (by omega)]
  simp [vg]
 | succ d ih =>
  intro i k acc hd hi hk h0 h1
  obtain ⟨k, rfl⟩ : ∃ m, k = m + 2 := ⟨k - 2, by omega⟩
  have hlt : i < b.length := by omega
  have hc := hb _ (List.getElem_mem hlt)
  simp only [varint_Get.l0]
  rw [if_pos (by omega), if_pos (by omega), if_pos (by omega), rd_get hlt, List.drop_eq_getElem_cons hlt]
  simp only [vg]
  by_cases h10 : i = 10
  ·rw [if_pos (by omega), if_pos h10]
   simp [varint_Get.j1]
  rw [if_neg (by omega), if_neg h10]
  have hacc := h1 (by omega)
  have key : (i = 9 → b[i] ≤ 1) → varint_Get.j1 (k + 1) acc (i : Int) b[i] b (b.length : Int) (i : Int) false = some (if 128 ≤ b[i] then vg (i + 1) (acc + b[i] % 128 * 2 ^ (7 * i)) (b.drop (i + 1)) else if b[i] = 0 ∧ 0 < i then (0, 0, 3) else (acc + b[i] % 128 * 2 ^ (7 * i), (i : Int) + 1, 0)) := by
   intro h9
   have hst := step_acc (show i < 10 by omega) h0 hacc hc.1 hc.2 h9
   obtain ⟨p1, p2, p3, p4⟩ := pow7 (show i < 10 by omega)
   simp only [varint_Get.j1, Bool.false_eq_true, if_false]
   rw [if_pos (by rw [wrap64_id] <;> omega), and128 hc.1 hc.2, hst]
   have hy0 : 0 ≤ b[i] % 128 * 2 ^ (7 * i) := Int.mul_nonneg (by omega) (Int.le_of_lt p2)
   by_cases hbig : 128 ≤ b[i]
   ·rw [if_neg (by rw [if_neg (by omega)]; decide), if_pos hbig, show wrap64 ((i : Int) + 1) = ((i + 1 : Nat) : Int) by rw [wrap64_id] <;> omega]
    refine ih (i + 1) k _ (by omega) (by omega) (by omega) (by omega) (fun h => ?_)
    rw [p4]
    have := Int.mul_le_mul_of_nonneg_right (show b[i] % 128 ≤ 127 by omega) (Int.le_of_lt p2)
    omega
   ·rw [if_pos (by rw [if_pos (by omega)]), if_neg hbig, show wrap64 ((i : Int) + 1) = (i : Int) + 1 by rw [wrap64_id] <;> omega]
    by_cases hz : b[i] = 0
    ·rw [if_pos hz]
     by_cases hi0 : 0 < i
     ·rw [if_pos (by omega), if_pos ⟨hz, hi0⟩]
     ·rw [if_neg (by omega), if_neg (fun h => hi0 h.2)]
    ·rw [if_neg hz, if_neg (fun h => hz h.1)]
  by_cases h9 : i = 9
  ·rw [if_pos (by omega)]
   by_cases hc1 : b[i] > 1
   ·rw [if_pos ⟨h9, hc1⟩]
    simp [varint_Get.j1, hc1]
   ·rw [if_neg (fun h => hc1 h.2), show decide (b[i] > 1) = false by simpa using hc1]
    exact key (fun _ => by omega)
  ·rw [if_neg (by omega), if_neg (fun h => h9 h.1)]
   exact key (fun h => absurd h h9)
theorem get_spec {k : Nat} {b : List Int} (hb : Bs b) (hl : b.length < 1000000000000) (hk : 2 * b.length < k) : varint_Get.f k b = some (vg 0 0 b) := by
 unfold varint_Get.f
 have := get_l0 b hb hl b.length 0 k 0 (by omega) (by omega) hk (by omega) (fun _ => by simp)
 simpa using this

/-- A number's bytes tell it, whatever stands behind. -/
theorem vg_vb (f : Nat) : ∀ (i : Nat) (n acc : Int) (more : List Int), i + f = 10 → 0 ≤ n → n * 2 ^ (7 * i) < 18446744073709551616 → (0 < i → n ≠ 0) → 0 < f →
  vg i acc (vbF f n ++ more) = (acc + n * 2 ^ (7 * i), (i : Int) + (vbF f n).length, 0) := by
 induction f with
 | zero => intro i n acc more _ _ _ _ hf; omega
 | succ f ih =>
  intro i n acc more hif h0 h1 hz _
  obtain ⟨p1, p2, p3, p4⟩ := pow7 (show i < 10 by omega)
  have h9 : i = 9 → n ≤ 1 := by
   rintro rfl
   simp at h1; omega
  unfold vbF
  by_cases hn : n < 128
  ·rw [if_pos hn]
   simp only [List.singleton_append, vg]
   rw [if_neg (by omega), if_neg (fun h => by have := h9 h.1; omega), if_neg (by omega), if_neg (fun h => (hz h.2) h.1), Int.emod_eq_of_lt h0 hn]
   simp
  ·rw [if_neg hn]
   simp only [List.cons_append, vg]
   rw [if_neg (by omega), if_neg (fun h => by have := h9 h.1; omega), if_pos (by omega)]
   have hf0 : 0 < f := by
    rcases Nat.eq_zero_or_pos f with h | h
    ·have := h9 (by omega); omega
    ·exact h
   have e : acc + (n % 128 + 128) % 128 * 2 ^ (7 * i) + n / 128 * 2 ^ (7 * (i + 1)) = acc + n * 2 ^ (7 * i) := by
    rw [p4, show (n % 128 + 128) % 128 = n % 128 by omega, show n / 128 * (128 * (2 : Int) ^ (7 * i)) = (n / 128 * 128) * 2 ^ (7 * i) by rw [Int.mul_assoc], Int.add_assoc, ← Int.add_mul]
    congr 2; omega
   have hle : n / 128 * 2 ^ (7 * (i + 1)) ≤ n * 2 ^ (7 * i) := by
    rw [p4, ← Int.mul_assoc]
    exact Int.mul_le_mul_of_nonneg_right (by omega) (Int.le_of_lt p2)
   rw [ih (i + 1) (n / 128) _ more (by omega) (by omega) (by omega) (fun _ => by omega) hf0, e]
   simp only [List.length_cons, Prod.mk.injEq, and_true, true_and]
   omega
theorem vg_put {n : Int} (h0 : 0 ≤ n) (h1 : n < 18446744073709551616) (more : List Int) : vg 0 0 (vb n ++ more) = (n, ((vb n).length : Int), 0) := by
 have := vg_vb 10 0 n 0 more (by omega) h0 (by simpa using h1) (by omega) (by omega)
 simpa [vb] using this
/-- Of a number's bytes but the last one nothing is told. -/
theorem vg_cut (f : Nat) : ∀ (i m : Nat) (n acc : Int), i + f = 10 → 0 ≤ n → n * 2 ^ (7 * i) < 18446744073709551616 → m < (vbF f n).length → vg i acc ((vbF f n).take m) = (0, 0, 4) := by
 induction f with
 | zero => intro i m n acc _ _ _ hm; simp [vbF] at hm
 | succ f ih =>
  intro i m n acc hif h0 h1 hm
  obtain ⟨p1, p2, p3, p4⟩ := pow7 (show i < 10 by omega)
  cases m with
  | zero => simp [vg]
  | succ m =>
   have h9 : i = 9 → n ≤ 1 := by
    rintro rfl
    simp at h1; omega
   unfold vbF at hm ⊢
   by_cases hn : n < 128
   ·rw [if_pos hn] at hm; simp at hm
   ·rw [if_neg hn] at hm ⊢
    simp only [List.take_succ_cons, vg]
    rw [if_neg (by omega), if_neg (fun h => by have := h9 h.1; omega), if_pos (by omega)]
    have hle : n / 128 * 2 ^ (7 * (i + 1)) ≤ n * 2 ^ (7 * i) := by
     rw [p4, ← Int.mul_assoc]
     exact Int.mul_le_mul_of_nonneg_right (by omega) (Int.le_of_lt p2)
    exact ih (i + 1) m (n / 128) _ (by omega) (by omega) (by omega) (by simp at hm; omega)
end Go.Proofs.YtmlbppfcpejlpaaDoor.Q05

/- What runs.Put tells. No conditions. -/
namespace Go.Proofs.YtmlbppfcpejlpaaDoor.Q09
open Go Go.RowKit Go.Proofs.YtmlbppfcpejlpaaDoorW.PrintWords Go.Proofs.YtmlbppfcpejlpaaDoorW.PrintMore Go.Proofs.YtmlbppfcpejlpaaDoor.S Go.Proofs.YtmlbppfcpejlpaaDoor.B Go.Proofs.YtmlbppfcpejlpaaDoor.X Go.Proofs.YtmlbppfcpejlpaaDoor.Q05
set_option linter.unusedVariables false
set_option linter.unusedSimpArgs false

/-- The bytes of values, run by run. -/
def runB : Nat → List Int → List Int
 | 0, _ => []
 | q + 1, l => if l.length = 0 then [] else vb (runs_Put.lead l : Int) ++ vb (rd l 0) ++ runB q (l.drop (runs_Put.lead l))
theorem runB_len (q : Nat) : ∀ l, (runB q l).length ≤ 20 * q := by
 induction q with
 | zero => intro l; simp [runB]
 | succ q ih =>
  intro l
  rw [runB]
  split
  ·simp
  ·rw [List.length_append, List.length_append]
   have h1 := vb_len (runs_Put.lead l : Int); have h2 := vb_len (rd l 0); have := ih (l.drop (runs_Put.lead l))
   omega
theorem rd0_u {l : List Int} (hu : Us l) (h : 0 < l.length) : 0 ≤ rd l 0 ∧ rd l 0 < 18446744073709551616 := by
 have := rd_get (l := l) (i := 0) h
 rw [show ((0 : Nat) : Int) = 0 from rfl] at this
 rw [this]; exact hu _ (List.getElem_mem h)
theorem runB_bs (q : Nat) : ∀ l, Us l → Bs (runB q l) := by
 induction q with
 | zero => intro l _ x hx; simp [runB] at hx
 | succ q ih =>
  intro l hu
  rw [runB]
  split
  ·intro x hx; simp at hx
  ·exact ((vb_bs (by omega)).append (vb_bs (rd0_u hu (by omega)).1)).append (ih _ (hu.drop _))
theorem put9_l0 (q : Nat) : ∀ (l out : List Int), Us l → l.length ≤ q → l.length ≤ 200 → out.length + 20 * q < 1000000 → runs_Put.l0 (q + 1) l out = some (out ++ runB q l) := by
 induction q with
 | zero =>
  intro l out hu hl _ _
  rw [runs_Put.l0, if_pos (by omega), runB, List.append_nil]
 | succ q ih =>
  intro l out hu hl h200 hout
  rw [runs_Put.l0, runB]
  by_cases h : l.length = 0
  ·rw [if_pos h, if_pos h, List.append_nil]
  ·rw [if_neg h, if_neg h]
   have hp := runs_Put.lead_pos (l := l) (by omega)
   have hle := runs_Put.lead_le l
   have hr := rd0_u hu (by omega)
   have h1 := vb_len (runs_Put.lead l : Int)
   have h2 := vb_len (rd l 0)
   rw [put_spec (by omega) (by omega) (by omega) (by omega), Option.bind_some, put_spec hr.1 hr.2 (by omega) (by rw [List.length_append]; omega), Option.bind_some]
   rw [ih _ _ (hu.drop _) (by rw [List.length_drop]; omega) (by rw [List.length_drop]; omega) (by rw [List.length_append, List.length_append]; omega)]
   simp only [List.append_assoc]
theorem put9_spec {l : List Int} (hu : Us l) (hl : l.length ≤ 200) : runs_Put.f l = some (runB 200 l, 0) := by
 unfold runs_Put.f
 rw [if_neg (by omega), put9_l0 200 l [] hu hl hl (by simp), Option.bind_some, List.nil_append]
theorem put9_long {l : List Int} (hl : 200 < l.length) : runs_Put.f l = some ([], 1) := by
 unfold runs_Put.f
 rw [if_pos hl]
end Go.Proofs.YtmlbppfcpejlpaaDoor.Q09
