-- Printed by this session's own program (wip/xprint.py) over the translation; its external functions are hand-written. Lean checks it.
import Derived.Test.YtmlbppfcpejlpaaX0
import Derived.Test.YtmlbppfcpejlpaaXRicklaw05Puts
import Derived.Test.YtmlbppfcpejlpaaXRickref05Zig
import Derived.Test.YtmlbppfcpejlpaaXVarintZag
import Derived.Test.YtmlbppfcpejlpaaXVarintZig
namespace Go.Proofs.Ytmlbppfcpejlpaa.X
open Go.RowKit Go.Proofs.YtmlbppfcpejlpaaW.PrintWords Go.Proofs.YtmlbppfcpejlpaaW.PrintLast Go.Proofs.YtmlbppfcpejlpaaW.PrintMore
attribute [local go_sem] max2_int min2_int max_two min_two max_three min_three max_four min_four   -- for this text's walks alone
set_option linter.unusedVariables false
set_option linter.unusedSimpArgs false

/-! ### ricklaw05_VarintZigs: function 4 -/
def ricklaw05_VarintZigs.f (k : Nat) (a0 : Int) (a1 : Int) : Option (Bool) := (ricklaw05_puts.f k).bind fun t149 => (if t149 = true then ((varint_Zig.f a0).bind fun t150 => ((rickref05_Zig.f a0).bind fun t151 => (if t150 = t151 then ((varint_Zig.f a0).bind fun t152 => ((varint_Zag.f t152).bind fun t153 => (if t153 = a0 then ((varint_Zag.f a1).bind fun t154 => ((varint_Zig.f t154).bind fun t155 => (some (t155 == a1)))) else (some false)))) else (some false)))) else (some false))
theorem ricklaw05_VarintZigs.mono : ∀ a0 a1 k, LeO (ricklaw05_VarintZigs.f k a0 a1) (ricklaw05_VarintZigs.f (k + 1) a0 a1) := by
  intro a0 a1 k
  unfold ricklaw05_VarintZigs.f
  repeat' first
      | (with_reducible exact ricklaw05_puts.mono _)
      | (with_reducible exact LeO.refl _)
      | (with_reducible exact LeO.none _)
      | (with_reducible refine LeO.ite ?_ ?_)
      | (with_reducible refine LeO.bind ?_ (fun _ => ?_))
      | exact ricklaw05_puts.mono _
      | exact LeO.none _
      | refine LeO.ite ?_ ?_
      | refine LeO.bind ?_ (fun _ => ?_)
set_option maxHeartbeats 8000000 in
set_option maxRecDepth 100000 in
theorem ricklaw05_VarintZigs.calls (k : Nat) (a0 : Int) (a1 : Int) (r : Bool) (w : World) (h : ricklaw05_VarintZigs.f k a0 a1 = some r) :
    Calls Try.prog 4 #[.int .i64 a0, .int .u64 a1] w fun e w' => e = .returned (.bool r) ∧ Below w.heap.size w w' := by
  have HB := Aside0.mk (Below.refl w.heap.size w)
  have H : ((ricklaw05_puts.f k).bind fun t149 => (if t149 = true then ((varint_Zig.f a0).bind fun t150 => ((rickref05_Zig.f a0).bind fun t151 => (if t150 = t151 then ((varint_Zig.f a0).bind fun t152 => ((varint_Zag.f t152).bind fun t153 => (if t153 = a0 then ((varint_Zag.f a1).bind fun t154 => ((varint_Zig.f t154).bind fun t155 => (some (t155 == a1)))) else (some false)))) else (some false)))) else (some false))) = some r := h
  clear h
  replace H := Option.bind_eq_some_iff.mp H
  obtain ⟨t149, A30, H⟩ := H
  replace H : (if t149 = true then ((varint_Zig.f a0).bind fun t150 => ((rickref05_Zig.f a0).bind fun t151 => (if t150 = t151 then ((varint_Zig.f a0).bind fun t152 => ((varint_Zag.f t152).bind fun t153 => (if t153 = a0 then ((varint_Zag.f a1).bind fun t154 => ((varint_Zig.f t154).bind fun t155 => (some (t155 == a1)))) else (some false)))) else (some false)))) else (some false)) = some r := H
  have A3 := Aside0.mk A30
  clear A30
  by_cases c4 : t149 = true
  · subst c4
    have H1 : ((varint_Zig.f a0).bind fun t150 => ((rickref05_Zig.f a0).bind fun t151 => (if t150 = t151 then ((varint_Zig.f a0).bind fun t152 => ((varint_Zag.f t152).bind fun t153 => (if t153 = a0 then ((varint_Zag.f a1).bind fun t154 => ((varint_Zig.f t154).bind fun t155 => (some (t155 == a1)))) else (some false)))) else (some false)))) = some r := by rw [if_pos rfl] at H; exact H
    clear H
    have H := H1
    clear H1
    replace H := Option.bind_eq_some_iff.mp H
    obtain ⟨t150, A50, H⟩ := H
    replace H : ((rickref05_Zig.f a0).bind fun t151 => (if t150 = t151 then ((varint_Zig.f a0).bind fun t152 => ((varint_Zag.f t152).bind fun t153 => (if t153 = a0 then ((varint_Zag.f a1).bind fun t154 => ((varint_Zig.f t154).bind fun t155 => (some (t155 == a1)))) else (some false)))) else (some false))) = some r := H
    have A5 := Aside0.mk A50
    clear A50
    replace H := Option.bind_eq_some_iff.mp H
    obtain ⟨t151, A60, H⟩ := H
    replace H : (if t150 = t151 then ((varint_Zig.f a0).bind fun t152 => ((varint_Zag.f t152).bind fun t153 => (if t153 = a0 then ((varint_Zag.f a1).bind fun t154 => ((varint_Zig.f t154).bind fun t155 => (some (t155 == a1)))) else (some false)))) else (some false)) = some r := H
    have A6 := Aside0.mk A60
    clear A60
    by_cases c7 : t150 = t151
    · rw [if_pos c7] at H
      have c7b0 : (t150 == t151) = true := beq_iff_eq.mpr c7
      have c7b1 : (t150 != t151) = false := bne_eq_false_iff_eq.mpr c7
      clear c7
      replace H := Option.bind_eq_some_iff.mp H
      obtain ⟨t152, A80, H⟩ := H
      replace H : ((varint_Zag.f t152).bind fun t153 => (if t153 = a0 then ((varint_Zag.f a1).bind fun t154 => ((varint_Zig.f t154).bind fun t155 => (some (t155 == a1)))) else (some false))) = some r := H
      have A8 := Aside0.mk A80
      clear A80
      obtain rfl : t150 = t152 := Option.some.inj (A5.out.symm.trans A8.out)
      replace H := Option.bind_eq_some_iff.mp H
      obtain ⟨t153, A90, H⟩ := H
      replace H : (if t153 = a0 then ((varint_Zag.f a1).bind fun t154 => ((varint_Zig.f t154).bind fun t155 => (some (t155 == a1)))) else (some false)) = some r := H
      have A9 := Aside0.mk A90
      clear A90
      by_cases c10 : t153 = a0
      · rw [if_pos c10] at H
        have c10b0 : (t153 == a0) = true := beq_iff_eq.mpr c10
        have c10b1 : (t153 != a0) = false := bne_eq_false_iff_eq.mpr c10
        clear c10
        replace H := Option.bind_eq_some_iff.mp H
        obtain ⟨t154, A110, H⟩ := H
        replace H : ((varint_Zig.f t154).bind fun t155 => (some (t155 == a1))) = some r := H
        have A11 := Aside0.mk A110
        clear A110
        replace H := Option.bind_eq_some_iff.mp H
        obtain ⟨t155, A120, H⟩ := H
        replace H : (some (t155 == a1)) = some r := H
        have A12 := Aside0.mk A120
        clear A120
        obtain rfl := Option.some.inj H
        go_enter Try.func4, Try.ntmps4
        go_wp2_with (first | ((with_reducible refine gate_callee (f := 19) rfl ?_); refine goesL_ (some 5) rfl rfl Try.func19 (by kernel_rfl) rfl #[] rfl (by (try simp only [List.map_toArray, List.map_cons, List.map_nil]); first | done | rfl | (simp only [List.length_drop, List.length_take]; rfl)) ?_; (with_reducible refine (ricklaw05_puts.calls k  true _ A3.out).mono ?_); rintro e w13 ⟨rfl, hb⟩; refine ⟨_, rfl, ?_⟩; have n0_ := Aside0.mk (below_step (by repeat (first | (with_reducible first | exact HB.out | apply below_alloc | apply pw_below_drewN | apply below_drew1) | exact HB.out)) hb); clear HB; have HB := n0_; clear n0_; (try clear hb); (try clear hb2); (try clear hk); (try clear hi)) | (go_at_call 21; (with_reducible refine (varint_Zig.calls a0 t150 _ A5.out).mono ?_); rintro e w' ⟨rfl, ⟨nd, rfl⟩⟩) | (go_at_call 22; (with_reducible refine (rickref05_Zig.calls a0 t151 _ A6.out).mono ?_); rintro e w' ⟨rfl, ⟨nd, rfl⟩⟩) | (go_at_call 21; (with_reducible refine (varint_Zig.calls a0 t150 _ A8.out).mono ?_); rintro e w' ⟨rfl, ⟨nd, rfl⟩⟩) | (go_at_call 23; (with_reducible refine (varint_Zag.calls t150 t153 _ A9.out).mono ?_); rintro e w' ⟨rfl, ⟨nd, rfl⟩⟩) | (go_at_call 23; (with_reducible refine (varint_Zag.calls a1 t154 _ A11.out).mono ?_); rintro e w' ⟨rfl, ⟨nd, rfl⟩⟩) | (go_at_call 21; (with_reducible refine (varint_Zig.calls t154 t155 _ A12.out).mono ?_); rintro e w' ⟨rfl, ⟨nd, rfl⟩⟩))
        go_ret
        exact ⟨by first | rfl | (simp [errW_none, errW_some] <;> rfl) | (simp [*, errW_none, errW_some] <;> rfl), by repeat (first | (with_reducible first | exact HB.out | apply below_alloc | apply pw_below_drewN | apply below_drew1) | exact HB.out)⟩
      · rw [if_neg c10] at H
        have c10b0 : (t153 == a0) = false := beq_eq_false_iff_ne.mpr c10
        have c10b1 : (t153 != a0) = true := bne_iff_ne.mpr c10
        obtain rfl := Option.some.inj H
        go_enter Try.func4, Try.ntmps4
        go_wp2_with (first | ((with_reducible refine gate_callee (f := 19) rfl ?_); refine goesL_ (some 5) rfl rfl Try.func19 (by kernel_rfl) rfl #[] rfl (by (try simp only [List.map_toArray, List.map_cons, List.map_nil]); first | done | rfl | (simp only [List.length_drop, List.length_take]; rfl)) ?_; (with_reducible refine (ricklaw05_puts.calls k  true _ A3.out).mono ?_); rintro e w14 ⟨rfl, hb⟩; refine ⟨_, rfl, ?_⟩; have n0_ := Aside0.mk (below_step (by repeat (first | (with_reducible first | exact HB.out | apply below_alloc | apply pw_below_drewN | apply below_drew1) | exact HB.out)) hb); clear HB; have HB := n0_; clear n0_; (try clear hb); (try clear hb2); (try clear hk); (try clear hi)) | (go_at_call 21; (with_reducible refine (varint_Zig.calls a0 t150 _ A5.out).mono ?_); rintro e w' ⟨rfl, ⟨nd, rfl⟩⟩) | (go_at_call 22; (with_reducible refine (rickref05_Zig.calls a0 t151 _ A6.out).mono ?_); rintro e w' ⟨rfl, ⟨nd, rfl⟩⟩) | (go_at_call 21; (with_reducible refine (varint_Zig.calls a0 t150 _ A8.out).mono ?_); rintro e w' ⟨rfl, ⟨nd, rfl⟩⟩) | (go_at_call 23; (with_reducible refine (varint_Zag.calls t150 t153 _ A9.out).mono ?_); rintro e w' ⟨rfl, ⟨nd, rfl⟩⟩))
        go_ret
        exact ⟨by first | rfl | (simp [errW_none, errW_some] <;> rfl) | (simp [*, errW_none, errW_some] <;> rfl), by repeat (first | (with_reducible first | exact HB.out | apply below_alloc | apply pw_below_drewN | apply below_drew1) | exact HB.out)⟩
    · rw [if_neg c7] at H
      have c7b0 : (t150 == t151) = false := beq_eq_false_iff_ne.mpr c7
      have c7b1 : (t150 != t151) = true := bne_iff_ne.mpr c7
      obtain rfl := Option.some.inj H
      go_enter Try.func4, Try.ntmps4
      go_wp2_with (first | ((with_reducible refine gate_callee (f := 19) rfl ?_); refine goesL_ (some 5) rfl rfl Try.func19 (by kernel_rfl) rfl #[] rfl (by (try simp only [List.map_toArray, List.map_cons, List.map_nil]); first | done | rfl | (simp only [List.length_drop, List.length_take]; rfl)) ?_; (with_reducible refine (ricklaw05_puts.calls k  true _ A3.out).mono ?_); rintro e w15 ⟨rfl, hb⟩; refine ⟨_, rfl, ?_⟩; have n0_ := Aside0.mk (below_step (by repeat (first | (with_reducible first | exact HB.out | apply below_alloc | apply pw_below_drewN | apply below_drew1) | exact HB.out)) hb); clear HB; have HB := n0_; clear n0_; (try clear hb); (try clear hb2); (try clear hk); (try clear hi)) | (go_at_call 21; (with_reducible refine (varint_Zig.calls a0 t150 _ A5.out).mono ?_); rintro e w' ⟨rfl, ⟨nd, rfl⟩⟩) | (go_at_call 22; (with_reducible refine (rickref05_Zig.calls a0 t151 _ A6.out).mono ?_); rintro e w' ⟨rfl, ⟨nd, rfl⟩⟩))
      go_ret
      exact ⟨by first | rfl | (simp [errW_none, errW_some] <;> rfl) | (simp [*, errW_none, errW_some] <;> rfl), by repeat (first | (with_reducible first | exact HB.out | apply below_alloc | apply pw_below_drewN | apply below_drew1) | exact HB.out)⟩
  · replace c4 := Bool.eq_false_iff.mpr c4
    subst c4
    have H1 : (some false) = some r := by rw [if_neg (show ¬ (false = true) by decide)] at H; exact H
    clear H
    have H := H1
    clear H1
    obtain rfl := Option.some.inj H
    go_enter Try.func4, Try.ntmps4
    go_wp2_with (first | ((with_reducible refine gate_callee (f := 19) rfl ?_); refine goesL_ (some 5) rfl rfl Try.func19 (by kernel_rfl) rfl #[] rfl (by (try simp only [List.map_toArray, List.map_cons, List.map_nil]); first | done | rfl | (simp only [List.length_drop, List.length_take]; rfl)) ?_; (with_reducible refine (ricklaw05_puts.calls k  false _ A3.out).mono ?_); rintro e w16 ⟨rfl, hb⟩; refine ⟨_, rfl, ?_⟩; have n0_ := Aside0.mk (below_step (by repeat (first | (with_reducible first | exact HB.out | apply below_alloc | apply pw_below_drewN | apply below_drew1) | exact HB.out)) hb); clear HB; have HB := n0_; clear n0_; (try clear hb); (try clear hb2); (try clear hk); (try clear hi)))
    go_ret
    exact ⟨by first | rfl | (simp [errW_none, errW_some] <;> rfl) | (simp [*, errW_none, errW_some] <;> rfl), by repeat (first | (with_reducible first | exact HB.out | apply below_alloc | apply pw_below_drewN | apply below_drew1) | exact HB.out)⟩

/-- THE ONE PURE STATEMENT of ricklaw05_VarintZigs: yours. -/
def ricklaw05_VarintZigs.Pure : Prop := ∀ (a0 : Int) (a1 : Int), (Lit.int .i64 a0).wf = true → (Lit.int .u64 a1).wf = true → ∃ k, ricklaw05_VarintZigs.f k a0 a1 = some true
theorem ricklaw05_VarintZigs.walk (P : ricklaw05_VarintZigs.Pure) (a0 : Int) (a1 : Int) (w : World) (w0 : (Lit.int .i64 a0).wf = true) (w1 : (Lit.int .u64 a1).wf = true) :
    Calls Try.prog 4 #[.int .i64 a0, .int .u64 a1] w fun e w' => e = .returned (.bool true) ∧ Below w.heap.size w w' := by
  obtain ⟨k, h⟩ := P a0 a1 w0 w1
  refine (ricklaw05_VarintZigs.calls k a0 a1 true w h).mono ?_
  rintro e w' ⟨rfl, hd⟩
  exact ⟨rfl, hd⟩

end Go.Proofs.Ytmlbppfcpejlpaa.X
