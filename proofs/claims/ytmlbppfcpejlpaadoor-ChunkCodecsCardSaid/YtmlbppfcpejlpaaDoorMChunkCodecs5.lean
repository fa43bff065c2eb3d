/- Texts of this claim, laid together (wip/merge.py): XRicklaw10Chunkcodecs, PureChunkCodecs, T08. No conditions. -/
import Derived.Test.YtmlbppfcpejlpaaDoorMChunkCodecs1
import Derived.Test.YtmlbppfcpejlpaaDoorMChunkCodecs4
import Derived.Test.YtmlbppfcpejlpaaDoorRows
import Derived.LaidMore
import Derived.Lib.LaidTab
import Derived.Stop.Joined
namespace Go.Proofs.YtmlbppfcpejlpaaDoor.X
open Go.RowKit Go.Proofs.YtmlbppfcpejlpaaDoorW.PrintWords Go.Proofs.YtmlbppfcpejlpaaDoorW.PrintLast Go.Proofs.YtmlbppfcpejlpaaDoorW.PrintMore
attribute [local go_sem] max2_int min2_int max_two min_two max_three min_three max_four min_four   -- for this text's walks alone
set_option linter.unusedVariables false
set_option linter.unusedSimpArgs false

/-! ### ricklaw10_ChunkCodecs: function 7 -/
def ricklaw10_ChunkCodecs.j0 : Nat → Int → Int → Int → Bool → Option (Bool)
 | 0, _, _, _, _ => none
 | k + 1, x0, x1, x5, x22 => if x22 = true then ((ricklaw10_codes.f k).bind fun t577 => (if t577 = true then (some (x5 == (-1))) else (some false))) else ((ricklaw10_codes.f k).bind fun t578 => (if t578 = true then (if x5 = (wrap64 ((wrap64 (4 * x0)) + x1)) then (some true) else (some false)) else (some false)))
def ricklaw10_ChunkCodecs.f (k : Nat) (a0 : Int) (a1 : Int) : Option (Bool) := (chunk_Codec.f a0 a1).bind fun t576 => (if a0 < 0 then (ricklaw10_ChunkCodecs.j0 k a0 a1 t576 true) else (if a0 > 3 then (ricklaw10_ChunkCodecs.j0 k a0 a1 t576 true) else (if a1 < 0 then (ricklaw10_ChunkCodecs.j0 k a0 a1 t576 true) else (ricklaw10_ChunkCodecs.j0 k a0 a1 t576 (decide (a1 > 3))))))
theorem ricklaw10_ChunkCodecs.mono_l : ∀ k, (∀ y0 y1 y2 y3, LeO (ricklaw10_ChunkCodecs.j0 k y0 y1 y2 y3) (ricklaw10_ChunkCodecs.j0 (k + 1) y0 y1 y2 y3))
 | 0 => fun _ _ _ _ r h => by simp [ricklaw10_ChunkCodecs.j0] at h
 | k + 1 => by
  have ih0 := ricklaw10_ChunkCodecs.mono_l k
  ·intro y0 y1 y2 y3
   unfold ricklaw10_ChunkCodecs.j0
   repeat' first
   | (with_reducible exact ih0 _ _ _ _)
   | (with_reducible exact ricklaw10_codes.mono _)
   | (with_reducible exact LeO.refl _)
   | (with_reducible exact LeO.none _)
   | (with_reducible refine LeO.ite ?_ ?_)
   | (with_reducible refine LeO.bind ?_ (fun _ => ?_))
   | exact ih0 _ _ _ _
   | exact ricklaw10_codes.mono _
   | exact LeO.none _
   | refine LeO.ite ?_ ?_
   | refine LeO.bind ?_ (fun _ => ?_)
theorem ricklaw10_ChunkCodecs.mono : ∀ a0 a1 k, LeO (ricklaw10_ChunkCodecs.f k a0 a1) (ricklaw10_ChunkCodecs.f (k + 1) a0 a1) := by
 intro a0 a1 k
 have ih0 := ricklaw10_ChunkCodecs.mono_l k
 unfold ricklaw10_ChunkCodecs.f
 repeat' first
   | (with_reducible exact ih0 _ _ _ _)
   | (with_reducible exact ricklaw10_codes.mono _)
   | (with_reducible exact LeO.refl _)
   | (with_reducible exact LeO.none _)
   | (with_reducible refine LeO.ite ?_ ?_)
   | (with_reducible refine LeO.bind ?_ (fun _ => ?_))
   | exact ih0 _ _ _ _
   | exact ricklaw10_codes.mono _
   | exact LeO.none _
   | refine LeO.ite ?_ ?_
   | refine LeO.bind ?_ (fun _ => ?_)
set_option maxHeartbeats 8000000 in
set_option maxRecDepth 100000 in
theorem ricklaw10_ChunkCodecs.calls (k : Nat) (a0 : Int) (a1 : Int) (r : Bool) (w : World) (hT_ : Go.Proofs.YtmlbppfcpejlpaaDoor.W08.Tab w) (h : ricklaw10_ChunkCodecs.f k a0 a1 = some r) :
  Calls Tryd.prog 7 #[.int .i64 a0, .int .i64 a1] w fun e w' => e = .returned (.bool r) ∧ Below w.heap.size w w' := by
 have HTAB := Aside0.mk hT_
 clear hT_
 have HB := Aside0.mk (Below.refl w.heap.size w)
 have H : ((chunk_Codec.f a0 a1).bind fun t576 => (if a0 < 0 then (ricklaw10_ChunkCodecs.j0 k a0 a1 t576 true) else (if a0 > 3 then (ricklaw10_ChunkCodecs.j0 k a0 a1 t576 true) else (if a1 < 0 then (ricklaw10_ChunkCodecs.j0 k a0 a1 t576 true) else (ricklaw10_ChunkCodecs.j0 k a0 a1 t576 (decide (a1 > 3))))))) = some r := h
 clear h
 replace H := Option.bind_eq_some_iff.mp H
 obtain ⟨t576, A30, H⟩ := H
 replace H : (if a0 < 0 then (ricklaw10_ChunkCodecs.j0 k a0 a1 t576 true) else (if a0 > 3 then (ricklaw10_ChunkCodecs.j0 k a0 a1 t576 true) else (if a1 < 0 then (ricklaw10_ChunkCodecs.j0 k a0 a1 t576 true) else (ricklaw10_ChunkCodecs.j0 k a0 a1 t576 (decide (a1 > 3)))))) = some r := H
 have A3 := Aside0.mk A30
 clear A30
 have HC4 := Aside0.mk H
 clear H
 go_enter Tryd.func7, Tryd.ntmps7
 go_upto_region 2 with (first | ((with_reducible refine gate_callee (f := 15) rfl ?_); refine goesL_ (some 8) rfl rfl Tryd.func15 (by kernel_rfl) rfl #[.int .i64 a0, .int .i64 a1] rfl (by (try simp only [List.map_toArray, List.map_cons, List.map_nil]); first | done | rfl | (simp only [List.length_drop, List.length_take]; rfl)) ?_; (with_reducible refine (chunk_Codec.calls a0 a1 t576 _ A3.out).mono ?_); rintro e w' ⟨rfl, ⟨nd, rfl⟩⟩; refine ⟨_, rfl, ?_⟩))
 (try simp only [Act.put, List.setIfInBounds_toArray, List.set_cons_zero, List.set_cons_succ])
 go_cut [22] (fun v22 wc => ∃ (kq : Nat) (x22_3 : Bool), v22 = .bool x22_3 ∧ Aside0 (ricklaw10_ChunkCodecs.j0 kq a0 a1 t576 x22_3 = some r) ∧ Aside0 (kq ≤ k) ∧ Aside0 (Below w.heap.size w wc))
 case first =>
  have H := HC4.out
  clear HC4
  by_cases c5 : a0 < 0
  ·rw [if_pos c5] at H
   have c5b0 : decide (a0 < 0) = true := decide_eq_true c5
   clear c5
   (first | rw [c5b0] | (simp only [i64_w, i32_w]; rw [c5b0]) | skip)
   have H' := Aside0.mk H
   clear H
   go_wp2
   go_meet
   case rel => exact ⟨_, (true), (by first | rfl | (simp; done) | (simp [*]; done)), H', ⟨by first | omega | exact Nat.le_refl _⟩, ⟨bB⟩⟩
  ·rw [if_neg c5] at H
   have c5b0 : decide (a0 < 0) = false := decide_eq_false c5
   clear c5
   (first | rw [c5b0] | (simp only [i64_w, i32_w]; rw [c5b0]) | skip)
   by_cases c6 : a0 > 3
   ·rw [if_pos c6] at H
    have c6b0 : decide (3 < a0) = true := decide_eq_true c6
    clear c6
    have H' := Aside0.mk H
    clear H
    go_wp2
    go_meet
    case rel => exact ⟨_, (true), (by first | rfl | (simp; done) | (simp [*]; done)), H', ⟨by first | omega | exact Nat.le_refl _⟩, ⟨bB⟩⟩
   ·rw [if_neg c6] at H
    have c6b0 : decide (3 < a0) = false := decide_eq_false c6
    clear c6
    by_cases c7 : a1 < 0
    ·rw [if_pos c7] at H
     have c7b0 : decide (a1 < 0) = true := decide_eq_true c7
     clear c7
     have H' := Aside0.mk H
     clear H
     go_wp2
     go_meet
     case rel => exact ⟨_, (true), (by first | rfl | (simp; done) | (simp [*]; done)), H', ⟨by first | omega | exact Nat.le_refl _⟩, ⟨bB⟩⟩
    ·rw [if_neg c7] at H
     have c7b0 : decide (a1 < 0) = false := decide_eq_false c7
     clear c7
     have H' := Aside0.mk H
     clear H
     go_wp2
     go_meet
     case rel => exact ⟨_, (decide (a1 > 3)), (by first | rfl | (simp; done) | (simp [*]; done)), H', ⟨by first | omega | exact Nat.le_refl _⟩, ⟨bB⟩⟩
 case rest =>
  clear HC4
  (try clear c1);(try clear p2);(try clear c5);(try clear c5b0);(try clear c6);(try clear c6b0);(try clear c7);(try clear c7b0)
  obtain ⟨kq, x22_3, rfl, HA, HJ3, HB⟩ := hcut
  cases kq with
  | zero => exact absurd HA.out (by simp [ricklaw10_ChunkCodecs.j0])
  | succ kj3 =>
   have H := HA.out
   clear HA
   simp only [ricklaw10_ChunkCodecs.j0] at H
   by_cases c8 : x22_3 = true
   ·subst c8
    have H1 : ((ricklaw10_codes.f kj3).bind fun t577 => (if t577 = true then (some (t576 == (-1))) else (some false))) = some r := by rw [if_pos rfl] at H; exact H
    clear H
    have H := H1
    clear H1
    replace H := Option.bind_eq_some_iff.mp H
    obtain ⟨t577, A90, H⟩ := H
    replace H : (if t577 = true then (some (t576 == (-1))) else (some false)) = some r := H
    have A9 := Aside0.mk A90
    clear A90
    by_cases c10 : t577 = true
    ·subst c10
     have H1 : (some (t576 == (-1))) = some r := by rw [if_pos rfl] at H; exact H
     clear H
     have H := H1
     clear H1
     obtain rfl := Option.some.inj H
     go_wp2_with (first | ((with_reducible refine gate_callee (f := 16) rfl ?_); refine goesL_ (some 23) rfl rfl Tryd.func16 (by kernel_rfl) rfl #[] rfl (by (try simp only [List.map_toArray, List.map_cons, List.map_nil]); first | done | rfl | (simp only [List.length_drop, List.length_take]; rfl)) ?_; (with_reducible refine (ricklaw10_codes.calls kj3  true _ ?sideT A9.out).mono ?_); (case sideT => exact Go.Proofs.YtmlbppfcpejlpaaDoor.W08.Tab.below HTAB.out bB); rintro e w11 ⟨rfl, hb⟩; refine ⟨_, rfl, ?_⟩; have n0_ := Aside0.mk (below_step bB hb); clear HB; have HB := n0_; clear n0_; (try clear hb)))
     go_ret
     exact ⟨by first | rfl | (simp [errW_none, errW_some] <;> rfl) | (simp [*, errW_none, errW_some] <;> rfl), bB⟩
    ·replace c10 := Bool.eq_false_iff.mpr c10
     subst c10
     have H1 : (some false) = some r := by rw [if_neg (show ¬ (false = true) by decide)] at H; exact H
     clear H
     have H := H1
     clear H1
     obtain rfl := Option.some.inj H
     go_wp2_with (first | ((with_reducible refine gate_callee (f := 16) rfl ?_); refine goesL_ (some 23) rfl rfl Tryd.func16 (by kernel_rfl) rfl #[] rfl (by (try simp only [List.map_toArray, List.map_cons, List.map_nil]); first | done | rfl | (simp only [List.length_drop, List.length_take]; rfl)) ?_; (with_reducible refine (ricklaw10_codes.calls kj3  false _ ?sideT A9.out).mono ?_); (case sideT => exact Go.Proofs.YtmlbppfcpejlpaaDoor.W08.Tab.below HTAB.out bB); rintro e w12 ⟨rfl, hb⟩; refine ⟨_, rfl, ?_⟩; have n0_ := Aside0.mk (below_step bB hb); clear HB; have HB := n0_; clear n0_; (try clear hb)))
     go_ret
     exact ⟨by first | rfl | (simp [errW_none, errW_some] <;> rfl) | (simp [*, errW_none, errW_some] <;> rfl), bB⟩
   ·replace c8 := Bool.eq_false_iff.mpr c8
    subst c8
    have H1 : ((ricklaw10_codes.f kj3).bind fun t578 => (if t578 = true then (if t576 = (wrap64 ((wrap64 (4 * a0)) + a1)) then (some true) else (some false)) else (some false))) = some r := by rw [if_neg (show ¬ (false = true) by decide)] at H; exact H
    clear H
    have H := H1
    clear H1
    replace H := Option.bind_eq_some_iff.mp H
    obtain ⟨t578, A130, H⟩ := H
    replace H : (if t578 = true then (if t576 = (wrap64 ((wrap64 (4 * a0)) + a1)) then (some true) else (some false)) else (some false)) = some r := H
    have A13 := Aside0.mk A130
    clear A130
    by_cases c14 : t578 = true
    ·subst c14
     have H1 : (if t576 = (wrap64 ((wrap64 (4 * a0)) + a1)) then (some true) else (some false)) = some r := by rw [if_pos rfl] at H; exact H
     clear H
     have H := H1
     clear H1
     by_cases c15 : t576 = (wrap64 ((wrap64 (4 * a0)) + a1))
     ·rw [if_pos c15] at H
      have c15b0 : (t576 == (wrap64 ((wrap64 (4 * a0)) + a1))) = true := beq_iff_eq.mpr c15
      have c15b1 : (t576 != (wrap64 ((wrap64 (4 * a0)) + a1))) = false := bne_eq_false_iff_eq.mpr c15
      clear c15
      obtain rfl := Option.some.inj H
      go_wp2_with (first | ((with_reducible refine gate_callee (f := 16) rfl ?_); refine goesL_ (some 28) rfl rfl Tryd.func16 (by kernel_rfl) rfl #[] rfl (by (try simp only [List.map_toArray, List.map_cons, List.map_nil]); first | done | rfl | (simp only [List.length_drop, List.length_take]; rfl)) ?_; (with_reducible refine (ricklaw10_codes.calls kj3  true _ ?sideT A13.out).mono ?_); (case sideT => exact Go.Proofs.YtmlbppfcpejlpaaDoor.W08.Tab.below HTAB.out bB); rintro e w16 ⟨rfl, hb⟩; refine ⟨_, rfl, ?_⟩; have n0_ := Aside0.mk (below_step bB hb); clear HB; have HB := n0_; clear n0_; (try clear hb)))
      go_ret
      exact ⟨by first | rfl | (simp [errW_none, errW_some] <;> rfl) | (simp [*, errW_none, errW_some] <;> rfl), bB⟩
     ·rw [if_neg c15] at H
      have c15b0 : (t576 == (wrap64 ((wrap64 (4 * a0)) + a1))) = false := beq_eq_false_iff_ne.mpr c15
      have c15b1 : (t576 != (wrap64 ((wrap64 (4 * a0)) + a1))) = true := bne_iff_ne.mpr c15
      obtain rfl := Option.some.inj H
      go_wp2_with (first | ((with_reducible refine gate_callee (f := 16) rfl ?_); refine goesL_ (some 28) rfl rfl Tryd.func16 (by kernel_rfl) rfl #[] rfl (by (try simp only [List.map_toArray, List.map_cons, List.map_nil]); first | done | rfl | (simp only [List.length_drop, List.length_take]; rfl)) ?_; (with_reducible refine (ricklaw10_codes.calls kj3  true _ ?sideT A13.out).mono ?_); (case sideT => exact Go.Proofs.YtmlbppfcpejlpaaDoor.W08.Tab.below HTAB.out bB); rintro e w17 ⟨rfl, hb⟩; refine ⟨_, rfl, ?_⟩; have n0_ := Aside0.mk (below_step bB hb); clear HB; have HB := n0_; clear n0_; (try clear hb)))
      go_ret
      exact ⟨by first | rfl | (simp [errW_none, errW_some] <;> rfl) | (simp [*, errW_none, errW_some] <;> rfl), bB⟩
    ·replace c14 := Bool.eq_false_iff.mpr c14
     subst c14
     have H1 : (some false) = some r := by rw [if_neg (show ¬ (false = true) by decide)] at H; exact H
     clear H
     have H := H1
     clear H1
     obtain rfl := Option.some.inj H
     go_wp2_with (first | ((with_reducible refine gate_callee (f := 16) rfl ?_); refine goesL_ (some 28) rfl rfl Tryd.func16 (by kernel_rfl) rfl #[] rfl (by (try simp only [List.map_toArray, List.map_cons, List.map_nil]); first | done | rfl | (simp only [List.length_drop, List.length_take]; rfl)) ?_; (with_reducible refine (ricklaw10_codes.calls kj3  false _ ?sideT A13.out).mono ?_); (case sideT => exact Go.Proofs.YtmlbppfcpejlpaaDoor.W08.Tab.below HTAB.out bB); rintro e w18 ⟨rfl, hb⟩; refine ⟨_, rfl, ?_⟩; have n0_ := Aside0.mk (below_step bB hb); clear HB; have HB := n0_; clear n0_; (try clear hb)))
     go_ret
     exact ⟨by first | rfl | (simp [errW_none, errW_some] <;> rfl) | (simp [*, errW_none, errW_some] <;> rfl), bB⟩

/-- THE ONE PURE STATEMENT of ricklaw10_ChunkCodecs: yours. -/
def ricklaw10_ChunkCodecs.Pure : Prop := ∀ (a0 : Int) (a1 : Int), (Lit.int .i64 a0).wf = true → (Lit.int .i64 a1).wf = true → ∃ k, ricklaw10_ChunkCodecs.f k a0 a1 = some true
theorem ricklaw10_ChunkCodecs.walk (P : ricklaw10_ChunkCodecs.Pure) (a0 : Int) (a1 : Int) (w : World) (hT_ : Go.Proofs.YtmlbppfcpejlpaaDoor.W08.Tab w) (w0 : (Lit.int .i64 a0).wf = true) (w1 : (Lit.int .i64 a1).wf = true) :
  Calls Tryd.prog 7 #[.int .i64 a0, .int .i64 a1] w fun e w' => e = .returned (.bool true) ∧ Below w.heap.size w w' := by
 obtain ⟨k, h⟩ := P a0 a1 w0 w1
 refine (ricklaw10_ChunkCodecs.calls k a0 a1 true w hT_ h).mono ?_
 rintro e w' ⟨rfl, hd⟩
 exact ⟨rfl, hd⟩

end Go.Proofs.YtmlbppfcpejlpaaDoor.X

/- ChunkCodecs: of two ways the codec is told; what is said beside it of one chunk is reckoned. No conditions. -/
namespace Go.Proofs.YtmlbppfcpejlpaaDoor.Pure
open Go Go.RowKit Go.Proofs.YtmlbppfcpejlpaaDoorW.PrintWords Go.Proofs.YtmlbppfcpejlpaaDoorW.PrintMore Go.Proofs.YtmlbppfcpejlpaaDoor.S Go.Proofs.YtmlbppfcpejlpaaDoor.X
set_option linter.unusedVariables false
set_option linter.unusedSimpArgs false

set_option maxRecDepth 100000 in
theorem codes10 : ricklaw10_codes.f 299 = some true := by decide +kernel
theorem ChunkCodecs : ricklaw10_ChunkCodecs.Pure := by
 intro a b ha hb
 refine ⟨300, ?_⟩
 unfold ricklaw10_ChunkCodecs.f chunk_Codec.f
 by_cases a0 : a < 0
 ·rw [if_pos a0, Option.bind_some, if_pos a0, ricklaw10_ChunkCodecs.j0, if_pos rfl, codes10]; rfl
 by_cases a3 : a > 3
 ·rw [if_neg a0, if_pos (by omega), Option.bind_some, if_neg a0, if_pos a3, ricklaw10_ChunkCodecs.j0, if_pos rfl, codes10]; rfl
 by_cases b0 : b < 0
 ·rw [if_neg a0, if_neg (by omega), if_pos b0, Option.bind_some, if_neg a0, if_neg a3, if_pos b0, ricklaw10_ChunkCodecs.j0, if_pos rfl, codes10]; rfl
 by_cases b3 : b > 3
 ·rw [if_neg a0, if_neg (by omega), if_neg b0, if_pos (by omega), Option.bind_some, if_neg a0, if_neg a3, if_neg b0, show decide (b > 3) = true by simpa using b3, ricklaw10_ChunkCodecs.j0, if_pos rfl, codes10]; rfl
 ·rw [if_neg a0, if_neg (by omega), if_neg b0, if_neg (by omega), Option.bind_some, if_neg a0, if_neg a3, if_neg b0, show decide (b > 3) = false by simpa using b3, ricklaw10_ChunkCodecs.j0, if_neg (by decide), codes10, Option.bind_some, if_pos rfl]
  simp
end Go.Proofs.YtmlbppfcpejlpaaDoor.Pure

/- The row's condition 'the table reads as listed' gives the walks their premise; the heap that the door leaves meets it. -/
namespace Go.Proofs.YtmlbppfcpejlpaaDoor.T08
open Go Go.RowKit Go.Proofs.YtmlbppfcpejlpaaDoor.W08
def laid1 : List (String × DataW Unit) := [("math/bits.deBruijn64tab", Rows.laid_math_bits_deBruijn64tab)]
def zs : List Int := Lib.deBruijn64tab.map (fun n => ((n : Nat) : Int))
theorem laid_zs : laid1 = [("math/bits.deBruijn64tab", Lib.tabData .u8 zs)] := by rfl
theorem gn : Tryd.prog.globalNamed "math/bits.deBruijn64tab" = some 0 := by kernel_rfl
theorem zs_at : ∀ j, j < 64 → zs.getD j 0 = ((Lib.deBruijn64tab.getD j 0 : Nat) : Int) := by decide +kernel
theorem zs_len : zs.length = 64 := by rfl
theorem tab_of {W : World} (h : laidMetH Tryd.prog laid1 W) : Tab W := by
 have h1 : laidMet Tryd.prog laid1 W := h
 rw [laid_zs] at h1
 have ht : Lib.TabIs Tryd.prog W "math/bits.deBruijn64tab" .u8 zs := Lib.tabIs_of_head (n := 64) (t := 84) (e := 5) gn (by kernel_rfl) (by kernel_rfl) (by kernel_rfl) (by kernel_rfl) (by kernel_rfl) h1
 intro j hj
 rw [← zs_at j hj]
 exact ht.cell gn j (by rw [zs_len]; exact hj)
theorem door_met (os : Os) (args : Array Value) : laidMetH Tryd.prog laid1 ((World.doorLaid Tryd.prog 600 os).forCall (fun _ _ => 0) ⟨#[], args, []⟩).memory :=
 laidMetH_of_parts3 (fuel := 8) (laidMet_of_run' 8 (by kernel_rfl) (by kernel_rfl)) (by kernel_rfl) (by kernel_rfl)
end Go.Proofs.YtmlbppfcpejlpaaDoor.T08
