/- Texts of this claim, laid together (wip/merge.py): X0, XVarintGet, XRunsPair, XBitsMul64, XBitsMul, XBitsHeld, S, B, W04, XBytesClone, XBitsReaderLeft, XBitsReaderTake, XBitsReaderBad, W04b, W04d, XSlicesRepeatUint64Uint64, XRunsGet, XVarintPut, XRunsPut, XRicklaw09Puts. No conditions. -/
import Derived.Test.YtmlbppfcpejlpaaProg
import Derived.Below
import Derived.Deep.Draws
import Derived.Deep.AppendLies
import Derived.Maps.AppendAt
import Derived.OwnWalk
import Derived.Laws.BytesArg
import Derived.Laws.MakeOwn
import Derived.Laws.OwnMore
import Derived.Deep.OwnRows
import Derived.Tactics
import Derived.Lib.ConvBytes
import Derived.Laws.Slices
import Derived.WalkKit
import Derived.KernelRfl
import Derived.RowKit3
import Derived.Deep.LoopGhost
import Derived.Deep.QuietTactic
import Derived.BigQuiet
import Derived.WideLaws
import Derived.Deep.DeepCutAuto
import Derived.Deep.CutBlock
import Derived.Deep.RegionHeld3
import Derived.Laws.Rows
import Derived.Lib.AppendStr
import Derived.ArgAppend
import Derived.Laws.IdiomCopy
import Derived.OrdersHeld
import Derived.Laws.BitsLemmas
import Derived.RowKit
import Derived.Test.YtmlbppfcpejlpaaWWords
import Derived.Test.YtmlbppfcpejlpaaWLast
import Derived.Test.YtmlbppfcpejlpaaWTab
import Derived.Test.YtmlbppfcpejlpaaWFour
import Derived.Test.YtmlbppfcpejlpaaWQPut
import Derived.Test.YtmlbppfcpejlpaaWApart
import Derived.Test.YtmlbppfcpejlpaaWArr
import Derived.Test.YtmlbppfcpejlpaaWZeros
import Derived.Test.YtmlbppfcpejlpaaWFoot
import Derived.Test.YtmlbppfcpejlpaaWKept
import Derived.Test.YtmlbppfcpejlpaaWShare
import Derived.Test.YtmlbppfcpejlpaaWN
import Derived.Test.YtmlbppfcpejlpaaWFootNe
import Derived.Test.YtmlbppfcpejlpaaWAt
import Derived.Test.YtmlbppfcpejlpaaWEqStruct
import Derived.Test.YtmlbppfcpejlpaaWRepsOne
import Derived.Test.YtmlbppfcpejlpaaWInv
import Derived.Test.YtmlbppfcpejlpaaWInvWords
import Derived.Test.YtmlbppfcpejlpaaWGuard
import Derived.Test.YtmlbppfcpejlpaaWNEv
import Derived.Test.YtmlbppfcpejlpaaWMore
import Derived.StillTailTactics
import Derived.Outline
import Derived.Lib.SliceRun
import Derived.Deep.DrawnRows
import Derived.Laws.CopyOwn
import Derived.FnLit
import Derived.Scope
-- Printed by this session's own program (wip/xprint.py) over the translation; its external functions are hand-written. Lean checks it.
namespace Go.Proofs.Ytmlbppfcpejlpaa.X
open Go.RowKit Go.Proofs.YtmlbppfcpejlpaaW.PrintWords Go.Proofs.YtmlbppfcpejlpaaW.PrintLast Go.Proofs.YtmlbppfcpejlpaaW.PrintMore
attribute [local go_sem] max2_int min2_int max_two min_two max_three min_three max_four min_four   -- for this text's walks alone
set_option linter.unusedVariables false
set_option linter.unusedSimpArgs false



def errW : Option Int → Value
  | none => .nilIface
  | some c => .iface 0 (.int .i64 c)
theorem errW_none : errW none = .nilIface := rfl
theorem errW_some (c : Int) : errW (some c) = .iface 0 (.int .i64 c) := rfl

theorem info2 : (Try.prog.info? 2).map (fun i => (i.zero, i.size, i.bytes)) = some (some (.int .i64 0), 1, 8) := by kernel_rfl
theorem info5 : (Try.prog.info? 5).map (fun i => (i.zero, i.size, i.bytes)) = some (some (.int .u8 0), 1, 1) := by kernel_rfl
theorem info23 : (Try.prog.info? 23).map (fun i => (i.zero, i.size, i.bytes)) = some (some (.int .u64 0), 1, 8) := by kernel_rfl
theorem info105 : (Try.prog.info? 105).map (fun i => (i.zero, i.size, i.bytes)) = some (some (.agg #[(.int .u64 0), (.int .i64 0), (.int .i64 0)]), 3, 24) := by kernel_rfl
-- the values' own types
def rd_L1 (xs : List (List Int)) (i : Int) : (List Int) := xs.getD i.toNat ([] : List Int)
theorem at_L1 {w : World} {A : Option Addr} {n : Nat} {xs : List (List Int)} (h : Kd.C (Kd.slice 5 (Kd.int .u8)) w A n xs) (i : Int) (h0 : 0 ≤ i) (h1 : i < n) : ∃ ad A0 c0, A = some ad ∧ w.cell? (ad.add i.toNat) = some (.slice A0 (rd_L1 xs i).length c0) ∧ (rd_L1 xs i).length ≤ c0 ∧ (Kd.int .u8).C w A0 (rd_L1 xs i).length (rd_L1 xs i) := by
  obtain ⟨ad, c, e, _, hK, hc0⟩ := Kd.C_get h ([] : List Int) i h0 h1
  have hc : ∀ j u, c[j]? = some u → w.cell? (ad.add (i.toNat * 1 + j)) = some u := hc0
  obtain ⟨A0, c0, rfl, l0, g0⟩ := hK
  exact ⟨ad, A0, c0, e, by have hq := hc 0 _ rfl; rwa [Nat.mul_one, Nat.add_zero] at hq, l0, g0⟩

def rd_L4 (xs : List (List Int)) (i : Int) : (List Int) := xs.getD i.toNat ([] : List Int)
theorem at_L4 {w : World} {A : Option Addr} {n : Nat} {xs : List (List Int)} (h : Kd.C (Kd.slice 3 (Kd.int .i64)) w A n xs) (i : Int) (h0 : 0 ≤ i) (h1 : i < n) : ∃ ad A0 c0, A = some ad ∧ w.cell? (ad.add i.toNat) = some (.slice A0 (rd_L4 xs i).length c0) ∧ (rd_L4 xs i).length ≤ c0 ∧ (Kd.int .i64).C w A0 (rd_L4 xs i).length (rd_L4 xs i) := by
  obtain ⟨ad, c, e, _, hK, hc0⟩ := Kd.C_get h ([] : List Int) i h0 h1
  have hc : ∀ j u, c[j]? = some u → w.cell? (ad.add (i.toNat * 1 + j)) = some u := hc0
  obtain ⟨A0, c0, rfl, l0, g0⟩ := hK
  exact ⟨ad, A0, c0, e, by have hq := hc 0 _ rfl; rwa [Nat.mul_one, Nat.add_zero] at hq, l0, g0⟩

def rd_L5 (xs : List (List Int)) (i : Int) : (List Int) := xs.getD i.toNat ([] : List Int)
theorem at_L5 {w : World} {A : Option Addr} {n : Nat} {xs : List (List Int)} (h : Kd.C (Kd.slice 23 (Kd.int .u64)) w A n xs) (i : Int) (h0 : 0 ≤ i) (h1 : i < n) : ∃ ad A0 c0, A = some ad ∧ w.cell? (ad.add i.toNat) = some (.slice A0 (rd_L5 xs i).length c0) ∧ (rd_L5 xs i).length ≤ c0 ∧ (Kd.int .u64).C w A0 (rd_L5 xs i).length (rd_L5 xs i) := by
  obtain ⟨ad, c, e, _, hK, hc0⟩ := Kd.C_get h ([] : List Int) i h0 h1
  have hc : ∀ j u, c[j]? = some u → w.cell? (ad.add (i.toNat * 1 + j)) = some u := hc0
  obtain ⟨A0, c0, rfl, l0, g0⟩ := hK
  exact ⟨ad, A0, c0, e, by have hq := hc 0 _ rfl; rwa [Nat.mul_one, Nat.add_zero] at hq, l0, g0⟩

/-! #### struct type 105 -/
structure S105 where
  f0 : Int
  f1 : Int
  f2 : Int
def z105 : S105 := ⟨(0 : Int), (0 : Int), (0 : Int)⟩
def k105 : Kd S105 := Kd.iso (Kd.pair (Kd.int .u64) (Kd.pair (Kd.int .i64) (Kd.int .i64))) (fun x : S105 => (x.f0, x.f1, x.f2))
theorem k105_heap : Kd.Heap k105 := Kd.heap_iso _ (Kd.heap_pair (Kd.heap_int .u64) (Kd.heap_pair (Kd.heap_int .i64) (Kd.heap_int .i64)))
theorem k105_open {w : World} {x : S105} {cs : List Value} (h : k105.K w x cs) : cs = [.int .u64 x.f0, .int .i64 x.f1, .int .i64 x.f2] := by
  obtain ⟨_, _, rfl, rfl, ⟨_, _, rfl, rfl, rfl⟩⟩ := h
  exact rfl
theorem k105_openM {w : World} {base : Nat} {ok : Nat → Prop} {x : S105} {cs : List Value} (h : k105.M w base ok x cs) : cs = [.int .u64 x.f0, .int .i64 x.f1, .int .i64 x.f2] := by
  obtain ⟨_, _, rfl, rfl, ⟨_, _, rfl, rfl, rfl⟩⟩ := h
  exact rfl
theorem k105_mk (w : World) (x : S105)  : k105.K w x [.int .u64 x.f0, .int .i64 x.f1, .int .i64 x.f2] := ⟨[.int .u64 x.f0], [.int .i64 x.f1, .int .i64 x.f2], rfl, rfl, ⟨[.int .i64 x.f1], [.int .i64 x.f2], rfl, rfl, rfl⟩⟩
theorem k105_mkM (w : World) (base : Nat) (ok : Nat → Prop) (x : S105)  : k105.M w base ok x [.int .u64 x.f0, .int .i64 x.f1, .int .i64 x.f2] := ⟨[.int .u64 x.f0], [.int .i64 x.f1, .int .i64 x.f2], rfl, rfl, ⟨[.int .i64 x.f1], [.int .i64 x.f2], rfl, rfl, rfl⟩⟩
theorem k105_mkF (W : World) (ok : Nat → Prop) (x : S105) : Kd.FK k105 W ok x [.int .u64 x.f0, .int .i64 x.f1, .int .i64 x.f2] := fun W2 _ => k105_mk W2 x
def rd_T105 (xs : List S105) (i : Int) : S105 := xs.getD i.toNat z105
theorem at_T105 {w : World} {A : Option Addr} {n : Nat} {xs : List S105} (h : Kd.C k105 w A n xs) (i : Int) (h0 : 0 ≤ i) (h1 : i < n) : ∃ ad , A = some ad ∧ w.cell? (ad.add (i.toNat * 3)) = some (.int .u64 (rd_T105 xs i).f0) ∧ w.cell? ⟨(ad.add (i.toNat * 3)).block, (ad.add (i.toNat * 3)).off + 1, none⟩ = some (.int .i64 (rd_T105 xs i).f1) ∧ w.cell? ⟨(ad.add (i.toNat * 3)).block, (ad.add (i.toNat * 3)).off + 2, none⟩ = some (.int .i64 (rd_T105 xs i).f2) := by
  obtain ⟨ad, c, e, _, hK, hc0⟩ := Kd.C_get h z105 i h0 h1
  have hc : ∀ j u, c[j]? = some u → w.cell? (ad.add (i.toNat * 3 + j)) = some u := hc0
  obtain rfl := k105_open hK
  exact ⟨ad, e, hc 0 _ rfl, by rw [← add_field _ _ 1 (by omega)]; exact hc 1 _ rfl, by rw [← add_field _ _ 2 (by omega)]; exact hc 2 _ rfl⟩

def rd_L7 (xs : List (List Int)) (i : Int) : (List Int) := xs.getD i.toNat ([] : List Int)
theorem at_L7 {w : World} {A : Option Addr} {n : Nat} {xs : List (List Int)} (h : Kd.C (Kd.slice 2 (Kd.int .i64)) w A n xs) (i : Int) (h0 : 0 ≤ i) (h1 : i < n) : ∃ ad A0 c0, A = some ad ∧ w.cell? (ad.add i.toNat) = some (.slice A0 (rd_L7 xs i).length c0) ∧ (rd_L7 xs i).length ≤ c0 ∧ (Kd.int .i64).C w A0 (rd_L7 xs i).length (rd_L7 xs i) := by
  obtain ⟨ad, c, e, _, hK, hc0⟩ := Kd.C_get h ([] : List Int) i h0 h1
  have hc : ∀ j u, c[j]? = some u → w.cell? (ad.add (i.toNat * 1 + j)) = some u := hc0
  obtain ⟨A0, c0, rfl, l0, g0⟩ := hK
  exact ⟨ad, A0, c0, e, by have hq := hc 0 _ rfl; rwa [Nat.mul_one, Nat.add_zero] at hq, l0, g0⟩

end Go.Proofs.Ytmlbppfcpejlpaa.X

-- Printed by this session's own program (wip/xprint.py) over the translation; its external functions are hand-written. Lean checks it.
namespace Go.Proofs.Ytmlbppfcpejlpaa.X
open Go.RowKit Go.Proofs.YtmlbppfcpejlpaaW.PrintWords Go.Proofs.YtmlbppfcpejlpaaW.PrintLast Go.Proofs.YtmlbppfcpejlpaaW.PrintMore
attribute [local go_sem] max2_int min2_int max_two min_two max_three min_three max_four min_four   -- for this text's walks alone
set_option linter.unusedVariables false
set_option linter.unusedSimpArgs false

/-! ### varint_Get: function 20 -/
mutual
def varint_Get.l0 : Nat → Int → List Int → Int → Int → Option (Int × Int × Int)
  | 0, _, _, _, _ => none
  | k + 1, x5, x8, x9, x10 => if x10 < x9 then (if 0 ≤ x10 then (if x10 < (x8.length : Int) then (if x10 = 10 then (varint_Get.j1 k x5 x10 (rd x8 x10) x8 x9 x10 true) else (if x10 = 9 then (varint_Get.j1 k x5 x10 (rd x8 x10) x8 x9 x10 (decide ((rd x8 x10) > 1))) else (varint_Get.j1 k x5 x10 (rd x8 x10) x8 x9 x10 false))) else (none)) else (none)) else (some (0, 0, 4))
def varint_Get.j1 : Nat → Int → Int → Int → List Int → Int → Int → Bool → Option (Int × Int × Int)
  | 0, _, _, _, _, _, _, _ => none
  | k + 1, x5, x6, x7, x8, x9, x10, x24 => if x24 = true then (some (0, 0, 3)) else (if 0 ≤ (wrap64 (7 * x6)) then (if (Go.bits .and .u8 x7 128) = 0 then (if x7 = 0 then (if x6 > 0 then (some (0, 0, 3)) else (some (Go.bits .or .u64 x5 (shl .u64 (IntKind.u64.wrap (Go.bits .andNot .u8 x7 128)) (wrap64 (7 * x6))), wrap64 (x6 + 1), 0))) else (some (Go.bits .or .u64 x5 (shl .u64 (IntKind.u64.wrap (Go.bits .andNot .u8 x7 128)) (wrap64 (7 * x6))), wrap64 (x6 + 1), 0))) else (varint_Get.l0 k (Go.bits .or .u64 x5 (shl .u64 (IntKind.u64.wrap (Go.bits .andNot .u8 x7 128)) (wrap64 (7 * x6)))) x8 x9 (wrap64 (x10 + 1)))) else (none))
end
def varint_Get.f (k : Nat) (l0 : List Int) : Option (Int × Int × Int) := varint_Get.l0 k 0 l0 (l0.length : Int) 0
theorem varint_Get.mono_l : ∀ k, (∀ y0 y1 y2 y3, LeO (varint_Get.l0 k y0 y1 y2 y3) (varint_Get.l0 (k + 1) y0 y1 y2 y3)) ∧ (∀ y0 y1 y2 y3 y4 y5 y6, LeO (varint_Get.j1 k y0 y1 y2 y3 y4 y5 y6) (varint_Get.j1 (k + 1) y0 y1 y2 y3 y4 y5 y6))
  | 0 => ⟨fun _ _ _ _ r h => by simp [varint_Get.l0] at h, fun _ _ _ _ _ _ _ r h => by simp [varint_Get.j1] at h⟩
  | k + 1 => by
    obtain ⟨ih0, ih1⟩ := varint_Get.mono_l k
    refine ⟨?_, ?_⟩
    · intro y0 y1 y2 y3
      unfold varint_Get.l0
      repeat' first
      | (with_reducible exact ih0 _ _ _ _)
      | (with_reducible exact ih1 _ _ _ _ _ _ _)
      | (with_reducible exact LeO.refl _)
      | (with_reducible exact LeO.none _)
      | (with_reducible refine LeO.ite ?_ ?_)
      | (with_reducible refine LeO.bind ?_ (fun _ => ?_))
      | exact ih0 _ _ _ _
      | exact ih1 _ _ _ _ _ _ _
      | exact LeO.none _
      | refine LeO.ite ?_ ?_
      | refine LeO.bind ?_ (fun _ => ?_)
    · intro y0 y1 y2 y3 y4 y5 y6
      unfold varint_Get.j1
      repeat' first
      | (with_reducible exact ih0 _ _ _ _)
      | (with_reducible exact ih1 _ _ _ _ _ _ _)
      | (with_reducible exact LeO.refl _)
      | (with_reducible exact LeO.none _)
      | (with_reducible refine LeO.ite ?_ ?_)
      | (with_reducible refine LeO.bind ?_ (fun _ => ?_))
      | exact ih0 _ _ _ _
      | exact ih1 _ _ _ _ _ _ _
      | exact LeO.none _
      | refine LeO.ite ?_ ?_
      | refine LeO.bind ?_ (fun _ => ?_)
theorem varint_Get.mono : ∀ a0 k, LeO (varint_Get.f k a0) (varint_Get.f (k + 1) a0) := by
  intro a0 k
  obtain ⟨ih0, ih1⟩ := varint_Get.mono_l k
  unfold varint_Get.f
  repeat' first
      | (with_reducible exact ih0 _ _ _ _)
      | (with_reducible exact ih1 _ _ _ _ _ _ _)
      | (with_reducible exact LeO.refl _)
      | (with_reducible exact LeO.none _)
      | (with_reducible refine LeO.ite ?_ ?_)
      | (with_reducible refine LeO.bind ?_ (fun _ => ?_))
      | exact ih0 _ _ _ _
      | exact ih1 _ _ _ _ _ _ _
      | exact LeO.none _
      | refine LeO.ite ?_ ?_
      | refine LeO.bind ?_ (fun _ => ?_)
set_option maxHeartbeats 8000000 in
set_option maxRecDepth 100000 in
theorem varint_Get.calls (k : Nat) (A0 : Option Addr) (c0 : Nat) (l0 : List Int) (r1 : Int) (r2 : Int) (r3 : Int) (w : World) (hr0 : Kd.C (Kd.int .u8) w A0 l0.length l0) (hc0 : l0.length ≤ c0) (h : varint_Get.f k l0 = some (r1, r2, r3)) :
    Calls Try.prog 20 #[.slice A0 l0.length c0] w fun e w' => e = .returned (.tuple #[.int .u64 r1, .int .i64 r2, .int .i64 r3]) ∧ Drawn0 w w' := by
  have HR0 := Aside0.mk hr0
  have HC0 := Aside0.mk hc0
  clear hr0 hc0
  have H : (varint_Get.l0 k 0 l0 (l0.length : Int) 0) = some (r1, r2, r3) := h
  clear h
  have H' := Aside0.mk H
  clear H
  go_enter Try.func20, Try.ntmps20
  go_wp2
  go_loopg [5, 10] k (fun kq v5 v10 w' => ∃ (x5_1 : Int) (x10_1 : Int), v5 = .int .u64 x5_1 ∧ v10 = .int .i64 x10_1 ∧ Aside0 (varint_Get.l0 kq x5_1 l0 (l0.length : Int) x10_1 = some (r1, r2, r3)) ∧ Aside0 (kq ≤ k) ∧ Drawn0 w w')
  case atStart => exact ⟨(0), (0), (by first | rfl | (simp; done) | (simp [*]; done)), (by first | rfl | (simp; done) | (simp [*]; done)), H', ⟨Nat.le_refl _⟩, by repeat (first | exact Drawn0.refl _ | apply Drawn0.step)⟩
  case round =>
    clear H'
    obtain ⟨x5_1, x10_1, rfl, rfl, HA, HK1, ⟨m1, rfl⟩⟩ := hrel
    cases gk with
    | zero => exact absurd HA.out (by simp [varint_Get.l0])
    | succ k1 =>
      have H := HA.out
      clear HA
      simp only [varint_Get.l0] at H
      by_cases c2 : x10_1 < (l0.length : Int)
      · rw [if_pos c2] at H
        have c2b0 : decide (x10_1 < (l0.length : Int)) = true := decide_eq_true c2
        clear c2
        by_cases c3 : 0 ≤ x10_1
        · rw [if_pos c3] at H
          have c3b0 : decide (0 ≤ x10_1) = true := decide_eq_true c3
          clear c3
          by_cases c4 : x10_1 < (l0.length : Int)
          · rw [if_pos c4] at H
            have c4b0 : decide (x10_1 < (l0.length : Int)) = true := decide_eq_true c4
            clear c4
            have HC5 := Aside0.mk H
            clear H
            have p116 : 0 ≤ (x10_1 : Int) := of_decide_eq_true (by first | (with_reducible assumption) | assumption)
            have q116 : x10_1 < (l0.length : Int) := of_decide_eq_true (by first | (with_reducible assumption) | assumption)
            obtain ⟨ad116, e116, hx116_0⟩ := Kd.at_int HR0.out x10_1 p116 q116
            cases e116
            replace p116 := eq_true p116
            replace q116 := eq_true q116
            go_upto_region 5 with (fail)
            go_cut [24] (fun v24 wc => ∃ (kq : Nat) (x24_4 : Bool), v24 = .bool x24_4 ∧ Aside0 (varint_Get.j1 kq x5_1 x10_1 (rd l0 x10_1) l0 (l0.length : Int) x10_1 x24_4 = some (r1, r2, r3)) ∧ Aside0 (kq ≤ k1) ∧ Drawn0 w wc)
            case first =>
              have H := HC5.out
              clear HC5
              by_cases c6 : x10_1 = 10
              · rw [if_pos c6] at H
                have c6b0 : (x10_1 == 10) = true := beq_iff_eq.mpr c6
                have c6b1 : (x10_1 != 10) = false := bne_eq_false_iff_eq.mpr c6
                clear c6
                (first | rw [c6b0] | (simp only [i64_w, i32_w]; rw [c6b0]) | skip)
                have H' := Aside0.mk H
                clear H
                go_wp2
                go_meet
                case rel => exact ⟨_, (true), (by first | rfl | (simp; done) | (simp [*]; done)), H', ⟨by have := HK1.out; first | omega | exact Nat.le_refl _⟩, by repeat (first | exact Drawn0.refl _ | apply Drawn0.step)⟩
              · rw [if_neg c6] at H
                have c6b0 : (x10_1 == 10) = false := beq_eq_false_iff_ne.mpr c6
                have c6b1 : (x10_1 != 10) = true := bne_iff_ne.mpr c6
                (first | rw [c6b0] | (simp only [i64_w, i32_w]; rw [c6b0]) | skip)
                by_cases c7 : x10_1 = 9
                · rw [if_pos c7] at H
                  have c7b0 : (x10_1 == 9) = true := beq_iff_eq.mpr c7
                  have c7b1 : (x10_1 != 9) = false := bne_eq_false_iff_eq.mpr c7
                  clear c7
                  have H' := Aside0.mk H
                  clear H
                  go_wp2
                  go_meet
                  case rel => exact ⟨_, (decide ((rd l0 x10_1) > 1)), (by first | rfl | (simp; done) | (simp [*]; done)), H', ⟨by have := HK1.out; first | omega | exact Nat.le_refl _⟩, by repeat (first | exact Drawn0.refl _ | apply Drawn0.step)⟩
                · rw [if_neg c7] at H
                  have c7b0 : (x10_1 == 9) = false := beq_eq_false_iff_ne.mpr c7
                  have c7b1 : (x10_1 != 9) = true := bne_iff_ne.mpr c7
                  have H' := Aside0.mk H
                  clear H
                  go_wp2
                  go_meet
                  case rel => exact ⟨_, (false), (by first | rfl | (simp; done) | (simp [*]; done)), H', ⟨by have := HK1.out; first | omega | exact Nat.le_refl _⟩, by repeat (first | exact Drawn0.refl _ | apply Drawn0.step)⟩
            case rest =>
              clear HC5
              try clear p1
              try clear q1
              try clear hx1
              try clear c2
              try clear c2b0
              try clear p2
              try clear c3
              try clear c3b0
              try clear c4
              try clear c4b0
              try clear c6
              try clear c6b0
              try clear c6b1
              try clear c7
              try clear c7b0
              try clear c7b1
              try clear hx116_0
              try clear p116
              try clear q116
              obtain ⟨kq, x24_4, rfl, HA, HJ4, ⟨mc4, rfl⟩⟩ := hcut
              cases kq with
              | zero => exact absurd HA.out (by simp [varint_Get.j1])
              | succ kj4 =>
                have H := HA.out
                clear HA
                simp only [varint_Get.j1] at H
                by_cases c8 : x24_4 = true
                · subst c8
                  have H1 : (some (0, 0, 3)) = some (r1, r2, r3) := by rw [if_pos rfl] at H; exact H
                  clear H
                  have H := H1
                  clear H1
                  simp only [Option.some.injEq, Prod.mk.injEq] at H
                  obtain ⟨rfl, rfl, rfl⟩ := H
                  go_wp2
                  go_ret3
                  exact ⟨by first | rfl | (simp; done) | (simp [*]; done), by repeat (first | exact Drawn0.refl _ | apply Drawn0.step)⟩
                · replace c8 := Bool.eq_false_iff.mpr c8
                  subst c8
                  have H1 : (if 0 ≤ (wrap64 (7 * x10_1)) then (if (Go.bits .and .u8 (rd l0 x10_1) 128) = 0 then (if (rd l0 x10_1) = 0 then (if x10_1 > 0 then (some (0, 0, 3)) else (some (Go.bits .or .u64 x5_1 (shl .u64 (IntKind.u64.wrap (Go.bits .andNot .u8 (rd l0 x10_1) 128)) (wrap64 (7 * x10_1))), wrap64 (x10_1 + 1), 0))) else (some (Go.bits .or .u64 x5_1 (shl .u64 (IntKind.u64.wrap (Go.bits .andNot .u8 (rd l0 x10_1) 128)) (wrap64 (7 * x10_1))), wrap64 (x10_1 + 1), 0))) else (varint_Get.l0 kj4 (Go.bits .or .u64 x5_1 (shl .u64 (IntKind.u64.wrap (Go.bits .andNot .u8 (rd l0 x10_1) 128)) (wrap64 (7 * x10_1)))) l0 (l0.length : Int) (wrap64 (x10_1 + 1)))) else (none)) = some (r1, r2, r3) := by rw [if_neg (show ¬ (false = true) by decide)] at H; exact H
                  clear H
                  have H := H1
                  clear H1
                  obtain ⟨ji9, hji9⟩ : ∃ j_ : Int, (wrap64 (7 * x10_1)) = j_ := ⟨_, rfl⟩
                  replace H : (if 0 ≤ (ji9) then (if (Go.bits .and .u8 (rd l0 x10_1) 128) = 0 then (if (rd l0 x10_1) = 0 then (if x10_1 > 0 then (some (0, 0, 3)) else (some (Go.bits .or .u64 x5_1 (shl .u64 (IntKind.u64.wrap (Go.bits .andNot .u8 (rd l0 x10_1) 128)) (ji9)), wrap64 (x10_1 + 1), 0))) else (some (Go.bits .or .u64 x5_1 (shl .u64 (IntKind.u64.wrap (Go.bits .andNot .u8 (rd l0 x10_1) 128)) (ji9)), wrap64 (x10_1 + 1), 0))) else (varint_Get.l0 kj4 (Go.bits .or .u64 x5_1 (shl .u64 (IntKind.u64.wrap (Go.bits .andNot .u8 (rd l0 x10_1) 128)) (ji9))) l0 (l0.length : Int) (wrap64 (x10_1 + 1)))) else (none)) = some (r1, r2, r3) := by first | (rw [hji9] at H; exact H) | (simp only [hji9] at H ⊢; exact H)
                  have hji9w : (IntKind.i64.wrap (7 * x10_1)) = ji9 := (i64_w _).trans hji9
                  by_cases c10 : 0 ≤ (ji9)
                  · rw [if_pos c10] at H
                    have c10b0 := eq_true c10
                    have c10b1 : decide (0 ≤ (ji9)) = true := decide_eq_true c10
                    clear c10
                    obtain ⟨ji11, hji11⟩ : ∃ j_ : Int, (shl .u64 (IntKind.u64.wrap (Go.bits .andNot .u8 (rd l0 x10_1) 128)) (ji9)) = j_ := ⟨_, rfl⟩
                    replace H : (if (Go.bits .and .u8 (rd l0 x10_1) 128) = 0 then (if (rd l0 x10_1) = 0 then (if x10_1 > 0 then (some (0, 0, 3)) else (some (Go.bits .or .u64 x5_1 (ji11), wrap64 (x10_1 + 1), 0))) else (some (Go.bits .or .u64 x5_1 (ji11), wrap64 (x10_1 + 1), 0))) else (varint_Get.l0 kj4 (Go.bits .or .u64 x5_1 (ji11)) l0 (l0.length : Int) (wrap64 (x10_1 + 1)))) = some (r1, r2, r3) := by first | (rw [hji11] at H; exact H) | (simp only [hji11] at H ⊢; exact H)
                    have hji11_ : (IntKind.u64.wrap ((IntKind.u64.wrap (Go.bits .andNot .u8 (rd l0 x10_1) 128)) * 2 ^ min (ji9).toNat 64)) = ji11 := hji11
                    have hji11z : (ji9) ≤ 64 → (IntKind.u64.wrap ((IntKind.u64.wrap (Go.bits .andNot .u8 (rd l0 x10_1) 128)) * 2 ^ (ji9).toNat)) = ji11 := shl_small hji11
                    by_cases c12 : (Go.bits .and .u8 (rd l0 x10_1) 128) = 0
                    · rw [if_pos c12] at H
                      have c12b0 : ((Go.bits .and .u8 (rd l0 x10_1) 128) == 0) = true := beq_iff_eq.mpr c12
                      have c12b1 : ((Go.bits .and .u8 (rd l0 x10_1) 128) != 0) = false := bne_eq_false_iff_eq.mpr c12
                      clear c12
                      by_cases c13 : (rd l0 x10_1) = 0
                      · rw [if_pos c13] at H
                        have c13b0 : ((rd l0 x10_1) == 0) = true := beq_iff_eq.mpr c13
                        have c13b1 : ((rd l0 x10_1) != 0) = false := bne_eq_false_iff_eq.mpr c13
                        clear c13
                        by_cases c14 : x10_1 > 0
                        · rw [if_pos c14] at H
                          have c14b0 : decide (0 < x10_1) = true := decide_eq_true c14
                          clear c14
                          simp only [Option.some.injEq, Prod.mk.injEq] at H
                          obtain ⟨rfl, rfl, rfl⟩ := H
                          go_wp2
                          go_ret3
                          exact ⟨by first | rfl | (simp; done) | (simp only [← hji9, ← hji11] <;> (first | rfl | simp)) | (simp [*]; done), by repeat (first | exact Drawn0.refl _ | apply Drawn0.step)⟩
                        · rw [if_neg c14] at H
                          have c14b0 : decide (0 < x10_1) = false := decide_eq_false c14
                          clear c14
                          simp only [Option.some.injEq, Prod.mk.injEq] at H
                          obtain ⟨rfl, rfl, rfl⟩ := H
                          go_wp2
                          go_ret3
                          exact ⟨by first | rfl | (simp; done) | (simp only [← hji9, ← hji11] <;> (first | rfl | simp)) | (simp [*]; done), by repeat (first | exact Drawn0.refl _ | apply Drawn0.step)⟩
                      · rw [if_neg c13] at H
                        have c13b0 : ((rd l0 x10_1) == 0) = false := beq_eq_false_iff_ne.mpr c13
                        have c13b1 : ((rd l0 x10_1) != 0) = true := bne_iff_ne.mpr c13
                        simp only [Option.some.injEq, Prod.mk.injEq] at H
                        obtain ⟨rfl, rfl, rfl⟩ := H
                        go_wp2
                        go_ret3
                        exact ⟨by first | rfl | (simp; done) | (simp only [← hji9, ← hji11] <;> (first | rfl | simp)) | (simp [*]; done), by repeat (first | exact Drawn0.refl _ | apply Drawn0.step)⟩
                    · rw [if_neg c12] at H
                      have c12b0 : ((Go.bits .and .u8 (rd l0 x10_1) 128) == 0) = false := beq_eq_false_iff_ne.mpr c12
                      have c12b1 : ((Go.bits .and .u8 (rd l0 x10_1) 128) != 0) = true := bne_iff_ne.mpr c12
                      have H' := Aside0.mk H
                      clear H
                      go_wp2
                      go_roundg kj4
                      case measure => have := HK1.out; have := HJ4.out; omega
                      case rel => exact ⟨(Go.bits .or .u64 x5_1 (ji11)), (wrap64 (x10_1 + 1)), (by first | rfl | (simp; done) | (simp only [← hji11] <;> (first | rfl | simp)) | (simp [*]; done)), (by first | rfl | (simp; done) | (simp [*]; done)), H', ⟨by have := HK1.out; have := HJ4.out; omega⟩, by repeat (first | exact Drawn0.refl _ | apply Drawn0.step)⟩
                  · rw [if_neg c10] at H
                    exact absurd H (by simp)
          · rw [if_neg c4] at H
            exact absurd H (by simp)
        · rw [if_neg c3] at H
          exact absurd H (by simp)
      · rw [if_neg c2] at H
        have c2b0 : decide (x10_1 < (l0.length : Int)) = false := decide_eq_false c2
        clear c2
        simp only [Option.some.injEq, Prod.mk.injEq] at H
        obtain ⟨rfl, rfl, rfl⟩ := H
        go_wp2
        go_ret3
        exact ⟨by first | rfl | (simp; done) | (simp [*]; done), by repeat (first | exact Drawn0.refl _ | apply Drawn0.step)⟩

end Go.Proofs.Ytmlbppfcpejlpaa.X

-- Printed by this session's own program (wip/xprint.py) over the translation; its external functions are hand-written. Lean checks it.
namespace Go.Proofs.Ytmlbppfcpejlpaa.X
open Go.RowKit Go.Proofs.YtmlbppfcpejlpaaW.PrintWords Go.Proofs.YtmlbppfcpejlpaaW.PrintLast Go.Proofs.YtmlbppfcpejlpaaW.PrintMore
attribute [local go_sem] max2_int min2_int max_two min_two max_three min_three max_four min_four   -- for this text's walks alone
set_option linter.unusedVariables false
set_option linter.unusedSimpArgs false

/-! ### runs_pair: function 54 -/
def runs_pair.f (k : Nat) (l0 : List Int) : Option (Int × Int × Int × Int) := (varint_Get.f k l0).bind fun bt240 => (if bt240.2.2 = 0 then (if 0 ≤ bt240.2.1 then (if bt240.2.1 ≤ (l0.length : Int) then ((varint_Get.f k (l0.drop (bt240.2.1 : Int).toNat)).bind fun bt244 => (some (bt240.1, bt244.1, wrap64 (bt240.2.1 + bt244.2.1), bt244.2.2))) else (none)) else (none)) else (some (0, 0, 0, bt240.2.2)))
theorem runs_pair.mono : ∀ a0 k, LeO (runs_pair.f k a0) (runs_pair.f (k + 1) a0) := by
  intro a0 k
  unfold runs_pair.f
  repeat' first
      | (with_reducible exact varint_Get.mono _ _)
      | (with_reducible exact LeO.refl _)
      | (with_reducible exact LeO.none _)
      | (with_reducible refine LeO.ite ?_ ?_)
      | (with_reducible refine LeO.bind ?_ (fun _ => ?_))
      | exact varint_Get.mono _ _
      | exact LeO.none _
      | refine LeO.ite ?_ ?_
      | refine LeO.bind ?_ (fun _ => ?_)
set_option maxHeartbeats 8000000 in
set_option maxRecDepth 100000 in
theorem runs_pair.calls (k : Nat) (A0 : Option Addr) (c0 : Nat) (l0 : List Int) (r1 : Int) (r2 : Int) (r3 : Int) (r4 : Int) (w : World) (hr0 : Kd.C (Kd.int .u8) w A0 l0.length l0) (hc0 : l0.length ≤ c0) (h : runs_pair.f k l0 = some (r1, r2, r3, r4)) :
    Calls Try.prog 54 #[.slice A0 l0.length c0] w fun e w' => e = .returned (.tuple #[.int .u64 r1, .int .u64 r2, .int .i64 r3, .int .i64 r4]) ∧ Drawn0 w w' := by
  have HR0 := Aside0.mk hr0
  have HC0 := Aside0.mk hc0
  clear hr0 hc0
  have H : ((varint_Get.f k l0).bind fun bt240 => (if bt240.2.2 = 0 then (if 0 ≤ bt240.2.1 then (if bt240.2.1 ≤ (l0.length : Int) then ((varint_Get.f k (l0.drop (bt240.2.1 : Int).toNat)).bind fun bt244 => (some (bt240.1, bt244.1, wrap64 (bt240.2.1 + bt244.2.1), bt244.2.2))) else (none)) else (none)) else (some (0, 0, 0, bt240.2.2)))) = some (r1, r2, r3, r4) := h
  clear h
  replace H := Option.bind_eq_some_iff.mp H
  obtain ⟨⟨t240, t241, t242⟩, A20, H⟩ := H
  replace H : (if t242 = 0 then (if 0 ≤ t241 then (if t241 ≤ (l0.length : Int) then ((varint_Get.f k (l0.drop (t241 : Int).toNat)).bind fun bt244 => (some (t240, bt244.1, wrap64 (t241 + bt244.2.1), bt244.2.2))) else (none)) else (none)) else (some (0, 0, 0, t242))) = some (r1, r2, r3, r4) := H
  have A2 := Aside0.mk A20
  clear A20
  by_cases c3 : t242 = 0
  · rw [if_pos c3] at H
    have c3b0 : (t242 == 0) = true := beq_iff_eq.mpr c3
    have c3b1 : (t242 != 0) = false := bne_eq_false_iff_eq.mpr c3
    clear c3
    by_cases c4 : 0 ≤ t241
    · rw [if_pos c4] at H
      have c4b0 := eq_true c4
      have c4b1 : decide (0 ≤ t241) = true := decide_eq_true c4
      clear c4
      by_cases c5 : t241 ≤ (l0.length : Int)
      · rw [if_pos c5] at H
        have c5b0 := eq_true c5
        have c5b1 : decide (t241 ≤ (l0.length : Int)) = true := decide_eq_true c5
        clear c5
        replace H := Option.bind_eq_some_iff.mp H
        obtain ⟨⟨t244, t245, t246⟩, A60, H⟩ := H
        replace H : (some (t240, t244, wrap64 (t241 + t245), t246)) = some (r1, r2, r3, r4) := H
        have A6 := Aside0.mk A60
        clear A60
        simp only [Option.some.injEq, Prod.mk.injEq] at H
        obtain ⟨rfl, rfl, rfl, rfl⟩ := H
        go_enter Try.func54, Try.ntmps54
        go_wp2_with (first | ((with_reducible refine gate_callee (f := 20) rfl ?_); refine goesL_ (some 13) rfl rfl Try.func20 (by kernel_rfl) rfl #[.slice A0 l0.length c0] rfl (by (try simp only [List.map_toArray, List.map_cons, List.map_nil]); first | done | rfl | (simp only [List.length_drop, List.length_take]; rfl)) ?_; (with_reducible refine (varint_Get.calls k _ _ l0 t240 t241 t242 _ ?side1 ?side2 A2.out).mono ?_); (case side1 => repeat (first | exact HR0.out | (with_reducible refine Kd.C_alloc ?_ _) | (with_reducible refine Kd.C_drewN ?_ _) | (with_reducible refine Kd.C_drew ?_))); (case side2 => exact HC0.out); rintro e w' ⟨rfl, ⟨nd, rfl⟩⟩; refine ⟨_, rfl, ?_⟩; obtain ⟨i07, hi07, _, hsz7, _⟩ := info_parts info5; obtain ⟨A7, hcut7, hA7, hC7⟩ := print_drop_of (P := Try.prog) (Value.int .u8) 0 22 5 .i64 Try.underlying22 hi07 hsz7 A0 c0 l0 t241 (of_decide_eq_true (by first | (with_reducible assumption) | assumption)) (of_decide_eq_true (by first | (with_reducible assumption) | assumption)) HC0.out; have HR243 := Aside0.mk (Kd.C_of_reads (h1 := fun _ => rfl) (hA7 _ (Kd.reads_of_C HR0.out))); have HC243 := Aside0.mk hC7; clear hA7 hC7 hi07 hsz7) | ((with_reducible refine gate_callee (f := 20) rfl ?_); refine goesL_ (some 24) rfl rfl Try.func20 (by kernel_rfl) rfl #[.slice A7 (l0.drop (t241 : Int).toNat).length (c0 - t241.toNat)] rfl (by (try simp only [List.map_toArray, List.map_cons, List.map_nil]); first | done | (rw [show (l0.drop (t241 : Int).toNat).length = (l0.length - t241.toNat) from List.length_drop] <;> rfl) | rfl | (simp only [List.length_drop, List.length_take]; rfl)) ?_; (with_reducible refine (varint_Get.calls k _ _ (l0.drop (t241 : Int).toNat) t244 t245 t246 _ ?side1 ?side2 A6.out).mono ?_); (case side1 => repeat (first | exact HR243.out | (with_reducible refine Kd.C_alloc ?_ _) | (with_reducible refine Kd.C_drewN ?_ _) | (with_reducible refine Kd.C_drew ?_))); (case side2 => exact HC243.out); rintro e w' ⟨rfl, ⟨nd, rfl⟩⟩; refine ⟨_, rfl, ?_⟩))
        refine bodyPost_ret (results_list (rs := [.tmp 2, .tmp 3, .tmp 4, .tmp 5]) rfl (by simp) (.tmp (.tmp (.tmp (.tmp .nil))))) rfl ?_
        exact ⟨by first | rfl | (simp; done) | (simp [*]; done), by repeat (first | exact Drawn0.refl _ | apply Drawn0.step)⟩
      · rw [if_neg c5] at H
        exact absurd H (by simp)
    · rw [if_neg c4] at H
      exact absurd H (by simp)
  · rw [if_neg c3] at H
    have c3b0 : (t242 == 0) = false := beq_eq_false_iff_ne.mpr c3
    have c3b1 : (t242 != 0) = true := bne_iff_ne.mpr c3
    simp only [Option.some.injEq, Prod.mk.injEq] at H
    obtain ⟨rfl, rfl, rfl, rfl⟩ := H
    go_enter Try.func54, Try.ntmps54
    go_wp2_with (first | ((with_reducible refine gate_callee (f := 20) rfl ?_); refine goesL_ (some 13) rfl rfl Try.func20 (by kernel_rfl) rfl #[.slice A0 l0.length c0] rfl (by (try simp only [List.map_toArray, List.map_cons, List.map_nil]); first | done | rfl | (simp only [List.length_drop, List.length_take]; rfl)) ?_; (with_reducible refine (varint_Get.calls k _ _ l0 t240 t241 t242 _ ?side1 ?side2 A2.out).mono ?_); (case side1 => repeat (first | exact HR0.out | (with_reducible refine Kd.C_alloc ?_ _) | (with_reducible refine Kd.C_drewN ?_ _) | (with_reducible refine Kd.C_drew ?_))); (case side2 => exact HC0.out); rintro e w' ⟨rfl, ⟨nd, rfl⟩⟩; refine ⟨_, rfl, ?_⟩))
    refine bodyPost_ret (results_list (rs := [.tmp 2, .tmp 3, .tmp 4, .tmp 5]) rfl (by simp) (.tmp (.tmp (.tmp (.tmp .nil))))) rfl ?_
    exact ⟨by first | rfl | (simp; done) | (simp [*]; done), by repeat (first | exact Drawn0.refl _ | apply Drawn0.step)⟩

end Go.Proofs.Ytmlbppfcpejlpaa.X

-- Printed by this session's own program (wip/xprint.py) over the translation; its external functions are hand-written. Lean checks it.
namespace Go.Proofs.Ytmlbppfcpejlpaa.X
open Go.RowKit Go.Proofs.YtmlbppfcpejlpaaW.PrintWords Go.Proofs.YtmlbppfcpejlpaaW.PrintLast Go.Proofs.YtmlbppfcpejlpaaW.PrintMore
attribute [local go_sem] max2_int min2_int max_two min_two max_three min_three max_four min_four   -- for this text's walks alone
set_option linter.unusedVariables false
set_option linter.unusedSimpArgs false

/-! ### bits_Mul64: function 74 -/
def bits_Mul64.f (a0 : Int) (a1 : Int) : Option (Int × Int) := some (IntKind.u64.wrap ((IntKind.u64.wrap ((IntKind.u64.wrap ((a0 / 4294967296) * (a1 / 4294967296))) + ((IntKind.u64.wrap ((IntKind.u64.wrap ((a0 / 4294967296) * (Go.bits .and .u64 a1 4294967295))) + ((IntKind.u64.wrap ((Go.bits .and .u64 a0 4294967295) * (Go.bits .and .u64 a1 4294967295))) / 4294967296))) / 4294967296))) + ((IntKind.u64.wrap ((Go.bits .and .u64 (IntKind.u64.wrap ((IntKind.u64.wrap ((a0 / 4294967296) * (Go.bits .and .u64 a1 4294967295))) + ((IntKind.u64.wrap ((Go.bits .and .u64 a0 4294967295) * (Go.bits .and .u64 a1 4294967295))) / 4294967296))) 4294967295) + (IntKind.u64.wrap ((Go.bits .and .u64 a0 4294967295) * (a1 / 4294967296))))) / 4294967296)), IntKind.u64.wrap (a0 * a1))
set_option maxHeartbeats 8000000 in
set_option maxRecDepth 100000 in
theorem bits_Mul64.calls (a0 : Int) (a1 : Int) (r1 : Int) (r2 : Int) (w : World) (h : bits_Mul64.f a0 a1 = some (r1, r2)) :
    Calls Try.prog 74 #[.int .u64 a0, .int .u64 a1] w fun e w' => e = .returned (.tuple #[.int .u64 r1, .int .u64 r2]) ∧ Drawn0 w w' := by
  have H : (some (IntKind.u64.wrap ((IntKind.u64.wrap ((IntKind.u64.wrap ((a0 / 4294967296) * (a1 / 4294967296))) + ((IntKind.u64.wrap ((IntKind.u64.wrap ((a0 / 4294967296) * (Go.bits .and .u64 a1 4294967295))) + ((IntKind.u64.wrap ((Go.bits .and .u64 a0 4294967295) * (Go.bits .and .u64 a1 4294967295))) / 4294967296))) / 4294967296))) + ((IntKind.u64.wrap ((Go.bits .and .u64 (IntKind.u64.wrap ((IntKind.u64.wrap ((a0 / 4294967296) * (Go.bits .and .u64 a1 4294967295))) + ((IntKind.u64.wrap ((Go.bits .and .u64 a0 4294967295) * (Go.bits .and .u64 a1 4294967295))) / 4294967296))) 4294967295) + (IntKind.u64.wrap ((Go.bits .and .u64 a0 4294967295) * (a1 / 4294967296))))) / 4294967296)), IntKind.u64.wrap (a0 * a1))) = some (r1, r2) := h
  clear h
  simp only [Option.some.injEq, Prod.mk.injEq] at H
  obtain ⟨rfl, rfl⟩ := H
  go_enter Try.func74, Try.ntmps74
  go_wp2
  go_ret2
  exact ⟨by first | rfl | (simp; done) | (simp [*]; done), by repeat (first | exact Drawn0.refl _ | apply Drawn0.step)⟩

end Go.Proofs.Ytmlbppfcpejlpaa.X

-- Printed by this session's own program (wip/xprint.py) over the translation; its external functions are hand-written. Lean checks it.
namespace Go.Proofs.Ytmlbppfcpejlpaa.X
open Go.RowKit Go.Proofs.YtmlbppfcpejlpaaW.PrintWords Go.Proofs.YtmlbppfcpejlpaaW.PrintLast Go.Proofs.YtmlbppfcpejlpaaW.PrintMore
attribute [local go_sem] max2_int min2_int max_two min_two max_three min_three max_four min_four   -- for this text's walks alone
set_option linter.unusedVariables false
set_option linter.unusedSimpArgs false

/-! ### bits_Mul: function 65 -/
def bits_Mul.f (a0 : Int) (a1 : Int) : Option (Int × Int) := (bits_Mul64.f a0 a1).bind fun bt247 => (some (bt247.1, bt247.2))
set_option maxHeartbeats 8000000 in
set_option maxRecDepth 100000 in
theorem bits_Mul.calls (a0 : Int) (a1 : Int) (r1 : Int) (r2 : Int) (w : World) (h : bits_Mul.f a0 a1 = some (r1, r2)) :
    Calls Try.prog 65 #[.int .u64 a0, .int .u64 a1] w fun e w' => e = .returned (.tuple #[.int .u64 r1, .int .u64 r2]) ∧ Drawn0 w w' := by
  have H : ((bits_Mul64.f a0 a1).bind fun bt247 => (some (bt247.1, bt247.2))) = some (r1, r2) := h
  clear h
  replace H := Option.bind_eq_some_iff.mp H
  obtain ⟨⟨t247, t248⟩, A30, H⟩ := H
  replace H : (some (t247, t248)) = some (r1, r2) := H
  have A3 := Aside0.mk A30
  clear A30
  simp only [Option.some.injEq, Prod.mk.injEq] at H
  obtain ⟨rfl, rfl⟩ := H
  go_enter Try.func65, Try.ntmps65
  go_wp2_with (first | ((with_reducible refine gate_callee (f := 74) rfl ?_); refine goesL_ (some 25) rfl rfl Try.func74 (by kernel_rfl) rfl #[.int .u64 a0, .int .u64 a1] rfl (by (try simp only [List.map_toArray, List.map_cons, List.map_nil]); first | done | rfl | (simp only [List.length_drop, List.length_take]; rfl)) ?_; (with_reducible refine (bits_Mul64.calls a0 a1 t247 t248 _ A3.out).mono ?_); rintro e w' ⟨rfl, ⟨nd, rfl⟩⟩; refine ⟨_, rfl, ?_⟩))
  go_ret2
  exact ⟨by first | rfl | (simp; done) | (simp [*]; done), by repeat (first | exact Drawn0.refl _ | apply Drawn0.step)⟩

end Go.Proofs.Ytmlbppfcpejlpaa.X

-- Printed by this session's own program (wip/xprint.py) over the translation; its external functions are hand-written. Lean checks it.
namespace Go.Proofs.Ytmlbppfcpejlpaa.X
open Go.RowKit Go.Proofs.YtmlbppfcpejlpaaW.PrintWords Go.Proofs.YtmlbppfcpejlpaaW.PrintLast Go.Proofs.YtmlbppfcpejlpaaW.PrintMore
attribute [local go_sem] max2_int min2_int max_two min_two max_three min_three max_four min_four   -- for this text's walks alone
set_option linter.unusedVariables false
set_option linter.unusedSimpArgs false

/-! ### bits_held: function 51 -/
def bits_held.f (a0 : Int) : Option (Int) := some (mn (mx a0 0) 64)
set_option maxHeartbeats 8000000 in
set_option maxRecDepth 100000 in
theorem bits_held.calls (a0 : Int) (r : Int) (w : World) (h : bits_held.f a0 = some r) :
    Calls Try.prog 51 #[.int .i64 a0] w fun e w' => e = .returned (.int .i64 r) ∧ Below w.heap.size w w' := by
  have HB := Aside0.mk (Below.refl w.heap.size w)
  have H : (some (mn (mx a0 0) 64)) = some r := h
  clear h
  obtain ⟨ji2, hji2⟩ : ∃ j_ : Int, (mx a0 0) = j_ := ⟨_, rfl⟩
  replace H : (some (mn (ji2) 64)) = some r := by first | (rw [hji2] at H; exact H) | (simp only [hji2] at H ⊢; exact H)
  (try (have hji2l : 0 ≤ ji2 := by (rw [← hji2]; unfold mx; (repeat' split) <;> omega)))
  (try (have hji2m : 0 ≤ ji2 := by omega))
  have hji2_ : (if a0 < 0 then 0 else a0) = ji2 := hji2
  obtain ⟨ji3, hji3⟩ : ∃ j_ : Int, (mn (ji2) 64) = j_ := ⟨_, rfl⟩
  replace H : (some ji3) = some r := by first | (rw [hji3] at H; exact H) | (simp only [hji3] at H ⊢; exact H)
  have hji3_ : (if 64 < (ji2) then 64 else (ji2)) = ji3 := hji3
  obtain rfl := Option.some.inj H
  go_enter Try.func51, Try.ntmps51
  go_wp2
  go_ret
  exact ⟨by first | rfl | (simp [errW_none, errW_some] <;> rfl) | (simp only [← hji2, ← hji3]; first | rfl | (simp [errW_none, errW_some] <;> rfl)) | (simp [*, errW_none, errW_some] <;> rfl), by repeat (first | (with_reducible first | exact HB.out | apply below_alloc | apply pw_below_drewN | apply below_drew1) | exact HB.out)⟩

end Go.Proofs.Ytmlbppfcpejlpaa.X

/- Plain lemmas on whole numbers, bits and lists of bytes; no program in sight. No conditions. -/
namespace Go.Proofs.Ytmlbppfcpejlpaa.S
open Go Go.RowKit Go.Proofs.YtmlbppfcpejlpaaW.PrintWords Go.Proofs.YtmlbppfcpejlpaaW.PrintMore
set_option linter.unusedVariables false
set_option linter.unusedSimpArgs false

theorem wrap_u64 (n : Int) : IntKind.u64.wrap n = n % 18446744073709551616 := by simp [IntKind.wrap, IntKind.bits, IntKind.signed]
theorem wrap_u64_id {n : Int} (h0 : 0 ≤ n) (h1 : n < 18446744073709551616) : IntKind.u64.wrap n = n := by rw [wrap_u64]; omega
theorem wrap64_eq (n : Int) : wrap64 n = (n + 9223372036854775808) % 18446744073709551616 - 9223372036854775808 := by unfold wrap64; omega
theorem wrap64_id {n : Int} (h0 : -9223372036854775808 ≤ n) (h1 : n < 9223372036854775808) : wrap64 n = n := by unfold wrap64; omega
theorem wf_u8 {x : Int} (h : (Lit.int .u8 x).wf = true) : 0 ≤ x ∧ x < 256 := by
  simp [Lit.wf, IntKind.min, IntKind.max, IntKind.bits, IntKind.signed] at h; omega
theorem wf_u64 {x : Int} (h : (Lit.int .u64 x).wf = true) : 0 ≤ x ∧ x < 18446744073709551616 := by
  simp [Lit.wf, IntKind.min, IntKind.max, IntKind.bits, IntKind.signed] at h; omega
theorem wf_i64 {x : Int} (h : (Lit.int .i64 x).wf = true) : -9223372036854775808 ≤ x ∧ x < 9223372036854775808 := by
  simp [Lit.wf, IntKind.min, IntKind.max, IntKind.bits, IntKind.signed] at h; omega

/-- Bytes: all of them are. -/
def Bs (l : List Int) : Prop := ∀ x ∈ l, 0 ≤ x ∧ x < 256
def Us (l : List Int) : Prop := ∀ x ∈ l, 0 ≤ x ∧ x < 18446744073709551616
theorem Bs.append {a b : List Int} (h : Bs a) (k : Bs b) : Bs (a ++ b) := fun x hx => (List.mem_append.1 hx).elim (h x) (k x)
theorem Bs.take {a : List Int} (h : Bs a) (n : Nat) : Bs (a.take n) := fun x hx => h x (List.mem_of_mem_take hx)
theorem Bs.drop {a : List Int} (h : Bs a) (n : Nat) : Bs (a.drop n) := fun x hx => h x (List.mem_of_mem_drop hx)
theorem Us.take {a : List Int} (h : Us a) (n : Nat) : Us (a.take n) := fun x hx => h x (List.mem_of_mem_take hx)
theorem Us.drop {a : List Int} (h : Us a) (n : Nat) : Us (a.drop n) := fun x hx => h x (List.mem_of_mem_drop hx)
theorem rd_get {l : List Int} {i : Nat} (h : i < l.length) : rd l (i : Int) = l[i] := by
  simp [rd, List.getD_eq_getElem?_getD, List.getElem?_eq_getElem h]

/-! ### bits of bytes -/
theorem or128 {x : Int} (h0 : 0 ≤ x) (h1 : x < 256) : Go.bits .or .u8 x 128 = x % 128 + 128 := by
  have key : ∀ y : Fin 256, Go.bits .or .u8 ((y.val : Nat) : Int) 128 = ((y.val : Nat) : Int) % 128 + 128 := by decide +kernel
  have := key ⟨x.toNat, by omega⟩
  simpa [Int.toNat_of_nonneg h0] using this
theorem and128 {x : Int} (h0 : 0 ≤ x) (h1 : x < 256) : Go.bits .and .u8 x 128 = if x < 128 then 0 else 128 := by
  have key : ∀ y : Fin 256, Go.bits .and .u8 ((y.val : Nat) : Int) 128 = if ((y.val : Nat) : Int) < 128 then 0 else 128 := by decide +kernel
  have := key ⟨x.toNat, by omega⟩
  simpa [Int.toNat_of_nonneg h0] using this
theorem andNot128 {x : Int} (h0 : 0 ≤ x) (h1 : x < 256) : Go.bits .andNot .u8 x 128 = x % 128 := by
  have key : ∀ y : Fin 256, Go.bits .andNot .u8 ((y.val : Nat) : Int) 128 = ((y.val : Nat) : Int) % 128 := by decide +kernel
  have := key ⟨x.toNat, by omega⟩
  simpa [Int.toNat_of_nonneg h0] using this
theorem wraps_u64 (n : Int) (h₀ : 0 ≤ n) (h₁ : n < 2 ^ 64) : IntKind.u64.wrap n = n := by rw [wrap_u64]; omega
/-- Bits that don't meet: together they are the sum. -/
theorem or_join (i : Nat) {x y : Int} (hx0 : 0 ≤ x) (hx : x % 2 ^ i = 0) (hx1 : x < 18446744073709551616) (hy0 : 0 ≤ y) (hy : y < 2 ^ i) (hy1 : y < 18446744073709551616) : Go.bits .or .u64 x y = x + y :=
  bits_join .u64 64 (by decide) wraps_u64 i x y hx0 hx (by omega) hy0 hy (by omega)
theorem or_comm64 {x y : Int} (hx0 : 0 ≤ x) (hx1 : x < 18446744073709551616) (hy0 : 0 ≤ y) (hy1 : y < 18446744073709551616) : Go.bits .or .u64 x y = Go.bits .or .u64 y x := by
  obtain ⟨a, rfl⟩ := Int.eq_ofNat_of_zero_le hx0
  obtain ⟨b, rfl⟩ := Int.eq_ofNat_of_zero_le hy0
  rw [(bits_nat .u64 64 (by decide) wraps_u64 a b (by omega) (by omega)).2, (bits_nat .u64 64 (by decide) wraps_u64 b a (by omega) (by omega)).2, Nat.or_comm]

/-! ### strings of bytes -/
theorem strOf_toList (l : List Int) : (strOfNums l).toList = l.map (fun x => UInt8.ofNat x.toNat) := by
  simp [strOfNums, ByteArray.toList_eq]
end Go.Proofs.Ytmlbppfcpejlpaa.S

/- Plain lemmas on rows of bits and the bytes that they make; no program in sight. No conditions. -/
namespace Go.Proofs.Ytmlbppfcpejlpaa.B
open Go Go.RowKit Go.Proofs.YtmlbppfcpejlpaaW.PrintWords Go.Proofs.YtmlbppfcpejlpaaW.PrintMore Go.Proofs.Ytmlbppfcpejlpaa.S
set_option linter.unusedVariables false
set_option linter.unusedSimpArgs false

/-- The lowest n bits of a number, the highest first. -/
def bitsN : Nat → Int → List Int
  | 0, _ => []
  | n + 1, v => (v / 2 ^ n % 2) :: bitsN n v
theorem bitsN_len (n : Nat) (v : Int) : (bitsN n v).length = n := by induction n with | zero => rfl | succ n ih => simp [bitsN, ih]
def Bits (l : List Int) : Prop := ∀ x ∈ l, x = 0 ∨ x = 1
theorem Bits.nil : Bits [] := fun x hx => by simp at hx
theorem Bits.append {a b : List Int} (h : Bits a) (k : Bits b) : Bits (a ++ b) := fun x hx => (List.mem_append.1 hx).elim (h x) (k x)
theorem Bits.one {b : Int} (h : b = 0 ∨ b = 1) : Bits [b] := fun x hx => by rw [List.mem_singleton.1 hx]; exact h
theorem bitsN_bits (n : Nat) (v : Int) : Bits (bitsN n v) := by
  induction n with
  | zero => exact Bits.nil
  | succ n ih =>
    intro x hx
    rcases List.mem_cons.1 hx with rfl | hx
    · omega
    · exact ih x hx
theorem getD_out (l : List Int) {i : Nat} (h : l.length ≤ i) : l.getD i 0 = 0 := by rw [List.getD_eq_getElem?_getD, List.getElem?_eq_none h]; rfl
theorem getD_bit {l : List Int} (h : Bits l) (i : Nat) : l.getD i 0 = 0 ∨ l.getD i 0 = 1 := by
  by_cases hi : i < l.length
  · rw [List.getD_eq_getElem?_getD, List.getElem?_eq_getElem hi]; exact h _ (List.getElem_mem hi)
  · rw [getD_out l (by omega)]; exact .inl rfl
/-- The byte that begins at bit 8 * i; noughts behind the end. -/
def byteAt (l : List Int) (i : Nat) : Int :=
  l.getD (8 * i) 0 * 128 + l.getD (8 * i + 1) 0 * 64 + l.getD (8 * i + 2) 0 * 32 + l.getD (8 * i + 3) 0 * 16 + l.getD (8 * i + 4) 0 * 8 + l.getD (8 * i + 5) 0 * 4 + l.getD (8 * i + 6) 0 * 2 + l.getD (8 * i + 7) 0
def rows (l : List Int) (n : Nat) : List Int := (List.range n).map (byteAt l)
/-- The bytes of bits. -/
def packB (l : List Int) : List Int := rows l ((l.length + 7) / 8)
theorem rows_len (l : List Int) (n : Nat) : (rows l n).length = n := by simp [rows]
theorem packB_len (l : List Int) : (packB l).length = (l.length + 7) / 8 := rows_len _ _
theorem byteAt_range {l : List Int} (h : Bits l) (i : Nat) : 0 ≤ byteAt l i ∧ byteAt l i < 256 := by
  have h0 := getD_bit h (8 * i); have h1 := getD_bit h (8 * i + 1); have h2 := getD_bit h (8 * i + 2); have h3 := getD_bit h (8 * i + 3)
  have h4 := getD_bit h (8 * i + 4); have h5 := getD_bit h (8 * i + 5); have h6 := getD_bit h (8 * i + 6); have h7 := getD_bit h (8 * i + 7)
  unfold byteAt
  omega
theorem packB_bs {l : List Int} (h : Bits l) : Bs (packB l) := by
  intro x hx
  obtain ⟨i, _, rfl⟩ := List.mem_map.1 hx
  exact byteAt_range h i
theorem rd_rows (l : List Int) {n i : Nat} (h : i < n) : rd (rows l n) (i : Int) = byteAt l i := by
  rw [rd_get (by rw [rows_len]; exact h)]; simp [rows]
theorem packB_full {l : List Int} (h : l.length % 8 = 0) : packB l ++ [0] = rows l (l.length / 8 + 1) := by
  have e : byteAt l (l.length / 8) = 0 := by
    unfold byteAt
    simp [List.getD_eq_getElem?_getD, List.getElem?_eq_none (show l.length ≤ 8 * (l.length / 8) by omega), List.getElem?_eq_none (show l.length ≤ 8 * (l.length / 8) + 1 by omega), List.getElem?_eq_none (show l.length ≤ 8 * (l.length / 8) + 2 by omega), List.getElem?_eq_none (show l.length ≤ 8 * (l.length / 8) + 3 by omega), List.getElem?_eq_none (show l.length ≤ 8 * (l.length / 8) + 4 by omega), List.getElem?_eq_none (show l.length ≤ 8 * (l.length / 8) + 5 by omega), List.getElem?_eq_none (show l.length ≤ 8 * (l.length / 8) + 6 by omega), List.getElem?_eq_none (show l.length ≤ 8 * (l.length / 8) + 7 by omega)]
  unfold packB rows
  rw [show (l.length + 7) / 8 = l.length / 8 by omega, List.range_succ, List.map_append, List.map_singleton, e]
theorem packB_part {l : List Int} (h : l.length % 8 ≠ 0) : packB l = rows l (l.length / 8 + 1) := by
  unfold packB
  rw [show (l.length + 7) / 8 = l.length / 8 + 1 by omega]
theorem getD_snoc (l : List Int) (b : Int) (i : Nat) : (l ++ [b]).getD i 0 = if i = l.length then b else l.getD i 0 := by
  simp only [List.getD_eq_getElem?_getD, List.getElem?_append]
  split
  · rw [if_neg (by omega)]
  · by_cases h : i = l.length
    · subst h; simp
    · rw [if_neg h, List.getElem?_eq_none (show l.length ≤ i by omega), List.getElem?_eq_none (by simp; omega)]
theorem byteAt_snoc_lt (l : List Int) (b : Int) {i : Nat} (h : i < l.length / 8) : byteAt (l ++ [b]) i = byteAt l i := by
  unfold byteAt
  simp only [getD_snoc]
  repeat rw [if_neg (by omega)]
theorem pow_r {r : Nat} (h : r < 8) : r = 0 ∨ r = 1 ∨ r = 2 ∨ r = 3 ∨ r = 4 ∨ r = 5 ∨ r = 6 ∨ r = 7 := by omega
/-- The last byte: what the new bit adds to it, and that its place was free. -/
theorem byteAt_snoc (l : List Int) (hl : Bits l) (b : Int) (hb : b = 0 ∨ b = 1) :
    byteAt (l ++ [b]) (l.length / 8) = byteAt l (l.length / 8) + b * 2 ^ (7 - l.length % 8) ∧ byteAt l (l.length / 8) % 2 ^ (8 - l.length % 8) = 0 := by
  have hq : l.length = 8 * (l.length / 8) + l.length % 8 := by omega
  generalize l.length / 8 = q at *
  have g0 := getD_bit hl (8 * q); have g1 := getD_bit hl (8 * q + 1); have g2 := getD_bit hl (8 * q + 2); have g3 := getD_bit hl (8 * q + 3)
  have g4 := getD_bit hl (8 * q + 4); have g5 := getD_bit hl (8 * q + 5); have g6 := getD_bit hl (8 * q + 6); have g7 := getD_bit hl (8 * q + 7)
  have o : ∀ j, l.length % 8 ≤ j → l.getD (8 * q + j) 0 = 0 := fun j hj => getD_out l (by omega)
  have s : ∀ j, (l ++ [b]).getD (8 * q + j) 0 = if j = l.length % 8 then b else l.getD (8 * q + j) 0 := fun j => by
    rw [getD_snoc]
    by_cases h : j = l.length % 8
    · rw [if_pos (by omega), if_pos h]
    · rw [if_neg (by omega), if_neg h]
  have s0 := s 0; have s1 := s 1; have s2 := s 2; have s3 := s 3; have s4 := s 4; have s5 := s 5; have s6 := s 6; have s7 := s 7
  have o0 := o 0; have o1 := o 1; have o2 := o 2; have o3 := o 3; have o4 := o 4; have o5 := o 5; have o6 := o 6; have o7 := o 7
  clear s o
  simp only [Nat.add_zero] at *
  unfold byteAt
  rw [s0, s1, s2, s3, s4, s5, s6, s7]
  have hr : l.length % 8 < 8 := Nat.mod_lt _ (by decide)
  generalize l.length % 8 = r at *
  clear s0 s1 s2 s3 s4 s5 s6 s7 hq
  generalize l.getD (8 * q) 0 = x0 at *
  generalize l.getD (8 * q + 1) 0 = x1 at *
  generalize l.getD (8 * q + 2) 0 = x2 at *
  generalize l.getD (8 * q + 3) 0 = x3 at *
  generalize l.getD (8 * q + 4) 0 = x4 at *
  generalize l.getD (8 * q + 5) 0 = x5 at *
  generalize l.getD (8 * q + 6) 0 = x6 at *
  generalize l.getD (8 * q + 7) 0 = x7 at *
  rcases pow_r hr with rfl | rfl | rfl | rfl | rfl | rfl | rfl | rfl <;> simp at * <;> omega
theorem or_u8 (l : List Int) (hl : Bits l) (b : Int) (hb : b = 0 ∨ b = 1) :
    Go.bits .or .u8 (byteAt l (l.length / 8)) (b * 2 ^ (7 - l.length % 8)) = byteAt (l ++ [b]) (l.length / 8) := by
  obtain ⟨h1, h2⟩ := byteAt_snoc l hl b hb
  obtain ⟨r0, r1⟩ := byteAt_range hl (l.length / 8)
  have hr : l.length % 8 < 8 := Nat.mod_lt _ (by decide)
  rw [h1]
  generalize byteAt l (l.length / 8) = y at *
  generalize l.length % 8 = r at *
  refine bits_join .u8 8 (by decide) wraps_u8 (8 - r) y _ r0 h2 (by omega) ?_ ?_ ?_ <;>
  rcases pow_r hr with rfl | rfl | rfl | rfl | rfl | rfl | rfl | rfl <;> simp <;> omega
/-- One more bit, as a writer lays it. -/
theorem packB_push (l : List Int) (hl : Bits l) (b : Int) (hb : b = 0 ∨ b = 1) :
    (rows l (l.length / 8 + 1)).set (l.length / 8) (Go.bits .or .u8 (byteAt l (l.length / 8)) (b * 2 ^ (7 - l.length % 8))) = packB (l ++ [b]) := by
  rw [or_u8 l hl b hb]
  unfold packB
  rw [show ((l ++ [b]).length + 7) / 8 = l.length / 8 + 1 by simp; omega]
  apply List.ext_getElem
  · simp [rows_len]
  · intro i h1 h2
    rw [rows_len] at h2
    rw [List.getElem_set]
    simp only [rows, List.getElem_map, List.getElem_range]
    split
    · rename_i h; rw [h]
    · rw [byteAt_snoc_lt l b (by omega)]
/-- How many bits a count stands for. -/
def cl (m : Int) : Nat := (mn (mx m 0) 64).toNat
theorem cl_eq (m : Int) : mn (mx m 0) 64 = (cl m : Int) := by unfold cl mn mx; split <;> split <;> omega
theorem cl_le (m : Int) : cl m ≤ 64 := by unfold cl mn mx; split <;> split <;> omega
theorem byteAt_snoc_ne (l : List Int) (b : Int) {i : Nat} (h : i ≠ l.length / 8) : byteAt (l ++ [b]) i = byteAt l i := by
  unfold byteAt
  simp only [getD_snoc]
  repeat rw [if_neg (by omega)]
theorem rows_push (l : List Int) (hl : Bits l) (b : Int) (hb : b = 0 ∨ b = 1) (N : Nat) (hN : l.length / 8 < N) :
    (rows l N).set (l.length / 8) (Go.bits .or .u8 (byteAt l (l.length / 8)) (b * 2 ^ (7 - l.length % 8))) = rows (l ++ [b]) N := by
  rw [or_u8 l hl b hb]
  apply List.ext_getElem
  · simp [rows_len]
  · intro i h1 h2
    rw [rows_len] at h2
    rw [List.getElem_set]
    simp only [rows, List.getElem_map, List.getElem_range]
    split
    · rename_i h; rw [h]
    · rename_i h; rw [byteAt_snoc_ne l b (fun e => h e.symm)]
theorem rows_nil (N : Nat) : rows [] N = List.replicate N 0 := by
  apply List.ext_getElem
  · simp [rows_len]
  · intro i h1 h2
    simp [rows, byteAt]
/-- The bit at place i of bytes. -/
def bitAt (b : List Int) (i : Nat) : Int := b.getD (i / 8) 0 / 2 ^ (7 - i % 8) % 2
def bitsOf (b : List Int) : List Int := (List.range (8 * b.length)).map (bitAt b)
theorem bitsOf_len (b : List Int) : (bitsOf b).length = 8 * b.length := by simp [bitsOf]
theorem bitsOf_bits (b : List Int) : Bits (bitsOf b) := by
  intro x hx
  obtain ⟨i, _, rfl⟩ := List.mem_map.1 hx
  unfold bitAt
  omega
theorem bitsOf_get (b : List Int) {i : Nat} (h : i < (bitsOf b).length) : (bitsOf b)[i] = bitAt b i := by simp [bitsOf]
/-- A byte's bits are those that it was made of. -/
theorem getD_rng {l : List Int} (h : Bits l) (i : Nat) : 0 ≤ l.getD i 0 ∧ l.getD i 0 ≤ 1 := by
  have := getD_bit h i; omega
theorem byteAt_bit {l : List Int} (hl : Bits l) (q r : Nat) (hr : r < 8) : byteAt l q / 2 ^ (7 - r) % 2 = l.getD (8 * q + r) 0 := by
  have g0 := getD_rng hl (8 * q); have g1 := getD_rng hl (8 * q + 1); have g2 := getD_rng hl (8 * q + 2); have g3 := getD_rng hl (8 * q + 3)
  have g4 := getD_rng hl (8 * q + 4); have g5 := getD_rng hl (8 * q + 5); have g6 := getD_rng hl (8 * q + 6); have g7 := getD_rng hl (8 * q + 7)
  unfold byteAt
  have e0 : l.getD (8 * q + 0) 0 = l.getD (8 * q) 0 := rfl
  have key : ∀ x0 x1 x2 x3 x4 x5 x6 x7 : Int, (0 ≤ x0 ∧ x0 ≤ 1) → (0 ≤ x1 ∧ x1 ≤ 1) → (0 ≤ x2 ∧ x2 ≤ 1) → (0 ≤ x3 ∧ x3 ≤ 1) → (0 ≤ x4 ∧ x4 ≤ 1) → (0 ≤ x5 ∧ x5 ≤ 1) → (0 ≤ x6 ∧ x6 ≤ 1) → (0 ≤ x7 ∧ x7 ≤ 1) →
      let y := x0 * 128 + x1 * 64 + x2 * 32 + x3 * 16 + x4 * 8 + x5 * 4 + x6 * 2 + x7
      y / 128 % 2 = x0 ∧ y / 64 % 2 = x1 ∧ y / 32 % 2 = x2 ∧ y / 16 % 2 = x3 ∧ y / 8 % 2 = x4 ∧ y / 4 % 2 = x5 ∧ y / 2 % 2 = x6 ∧ y / 1 % 2 = x7 := by
    intro x0 x1 x2 x3 x4 x5 x6 x7 h0 h1 h2 h3 h4 h5 h6 h7
    refine ⟨?_, ?_, ?_, ?_, ?_, ?_, ?_, ?_⟩ <;> omega
  obtain ⟨k0, k1, k2, k3, k4, k5, k6, k7⟩ := key _ _ _ _ _ _ _ _ g0 g1 g2 g3 g4 g5 g6 g7
  rcases pow_r hr with rfl | rfl | rfl | rfl | rfl | rfl | rfl | rfl
  · exact k0
  · exact k1
  · exact k2
  · exact k3
  · exact k4
  · exact k5
  · exact k6
  · exact k7
theorem bitAt_packB {l : List Int} (hl : Bits l) {i : Nat} (h : i < 8 * (packB l).length) : bitAt (packB l) i = l.getD i 0 := by
  unfold bitAt
  rw [packB_len] at h
  have hq : i / 8 < (packB l).length := by rw [packB_len]; omega
  rw [List.getD_eq_getElem?_getD, List.getElem?_eq_getElem hq]
  have e : (packB l)[i / 8] = byteAt l (i / 8) := by simp [packB, rows]
  rw [Option.getD_some, e, byteAt_bit hl _ _ (Nat.mod_lt _ (by decide)), show 8 * (i / 8) + i % 8 = i by omega]
theorem bitsOf_packB {l : List Int} (hl : Bits l) : bitsOf (packB l) = l ++ List.replicate (8 * (packB l).length - l.length) 0 := by
  apply List.ext_getElem
  · rw [bitsOf_len, List.length_append, List.length_replicate, packB_len]; omega
  · intro i h1 h2
    rw [bitsOf_get, bitAt_packB hl (by rw [bitsOf_len] at h1; exact h1), List.getElem_append]
    split
    · rename_i h; rw [List.getD_eq_getElem?_getD, List.getElem?_eq_getElem h]; rfl
    · rename_i h; rw [getD_out l (by omega)]; simp
/-- The number that bits tell. -/
def valB (l : List Int) : Int := l.foldl (fun v x => v * 2 + x) 0
theorem valB_snoc (l : List Int) (x : Int) : valB (l ++ [x]) = valB l * 2 + x := by simp [valB]
theorem valB_range {l : List Int} (hl : Bits l) : 0 ≤ valB l ∧ valB l < 2 ^ l.length := by
  suffices h : ∀ (l : List Int) (a : Int) (n : Nat), Bits l → 0 ≤ a → a < 2 ^ n → 0 ≤ l.foldl (fun v x => v * 2 + x) a ∧ l.foldl (fun v x => v * 2 + x) a < 2 ^ (n + l.length) by
    have := h l 0 0 hl (by omega) (by decide)
    simpa [valB] using this
  intro l
  induction l with
  | nil => intro a n _ h0 h1; exact ⟨h0, by simpa using h1⟩
  | cons y l ih =>
    intro a n hb h0 h1
    have hy := hb y List.mem_cons_self
    have := ih (a * 2 + y) (n + 1) (fun x hx => hb x (List.mem_cons_of_mem _ hx)) (by omega) (by rw [Int.pow_succ]; omega)
    rw [List.foldl_cons, List.length_cons, show n + (l.length + 1) = n + 1 + l.length by omega]
    exact this
theorem valB_bitsN (n : Nat) {v : Int} (h0 : 0 ≤ v) : valB (bitsN n v) = v % 2 ^ n := by
  suffices h : ∀ (n : Nat) (a : Int), (bitsN n v).foldl (fun v x => v * 2 + x) a = a * 2 ^ n + v % 2 ^ n by
    have := h n 0
    simpa [valB] using this
  intro n
  induction n with
  | zero => intro a; simp [bitsN, Int.emod_one]
  | succ n ih =>
    intro a
    rw [bitsN, List.foldl_cons, ih]
    have hp : (0 : Int) < 2 ^ n := Int.pow_pos (by decide)
    have e : v % 2 ^ (n + 1) = v / 2 ^ n % 2 * 2 ^ n + v % 2 ^ n := by
      have h1 := Int.emod_add_mul_ediv v (2 ^ (n + 1))
      have h2 := Int.emod_add_mul_ediv v (2 ^ n)
      have h3 := Int.emod_add_mul_ediv (v / 2 ^ n) 2
      have h4 : v / 2 ^ n / 2 = v / 2 ^ (n + 1) := by rw [Int.pow_succ, Int.ediv_ediv_of_nonneg (by omega)]
      rw [← h4] at h1
      generalize v / 2 ^ n / 2 = q at *
      generalize v / 2 ^ n = p at *
      rw [Int.pow_succ] at *
      have e1 : p = p % 2 + 2 * q := h3.symm
      have e2 : 2 ^ n * p = p % 2 * 2 ^ n + 2 ^ n * 2 * q := by
        conv => lhs; rw [e1]
        rw [Int.mul_add, Int.mul_comm (2 ^ n) (p % 2), Int.mul_assoc]
      omega
    rw [e, Int.pow_succ, Int.add_mul, Int.mul_assoc, Int.mul_comm 2 (2 ^ n)]
    omega
theorem bitsN_append (l : List Int) (n : Nat) (v : Int) : (l ++ bitsN n v).length = l.length + n := by rw [List.length_append, bitsN_len]
end Go.Proofs.Ytmlbppfcpejlpaa.B

/- The walks of layer 4's writer: bits put behind each other. No conditions. -/
namespace Go.Proofs.Ytmlbppfcpejlpaa.W04
open Go Go.RowKit Go.Proofs.YtmlbppfcpejlpaaW.PrintWords Go.Proofs.YtmlbppfcpejlpaaW.PrintLast Go.Proofs.YtmlbppfcpejlpaaW.PrintMore Go.Proofs.Ytmlbppfcpejlpaa.S Go.Proofs.Ytmlbppfcpejlpaa.B Go.Proofs.Ytmlbppfcpejlpaa.X
attribute [local go_sem] max2_int min2_int max_two min_two max_three min_three max_four min_four
set_option linter.unusedVariables false
set_option linter.unusedSimpArgs false

/-- A writer at block g: its bytes (the value v) are those of the bits l. -/
def WAt (w0 W : World) (g : Nat) (v : Value) (l : List Int) : Prop :=
  W.heap[g]? = some (.cells #[v, .int .i64 (l.length : Int)] 48 (0, 0)) ∧ w0.heap.size ≤ g ∧ Kd.R (Kd.int .u8) 5 W w0.heap.size (fun _ => True) v (packB l) ∧ Bits l
/-- What may have turned: the writer's block, and the block of its bytes. -/
def Mine (g : Nat) (v : Value) (k : Nat) : Prop := k = g ∨ some k = v.ownBlock
def Put4 (w0 w : World) (g : Nat) (v : Value) (l : List Int) (e : Ending) (w' : World) : Prop :=
  e = .returned (.tuple #[]) ∧ ∃ v', WAt w0 w' g v' l ∧ Below w0.heap.size w0 w' ∧ Kept w w' (Mine g v) ∧ (v'.ownBlock = v.ownBlock ∨ ∃ b, v'.ownBlock = some b ∧ w.heap.size ≤ b)
theorem held_cl (m : Int) : bits_held.f m = some (cl m : Int) := by unfold bits_held.f; rw [cl_eq]

theorem WAt.cell0 {w0 W g v l} (h : WAt w0 W g v l) : W.cell? ⟨g, 0, none⟩ = some v := (blk_cell h.1 0).trans rfl
theorem WAt.cell1 {w0 W g v l} (h : WAt w0 W g v l) : W.cell? ⟨g, 1, none⟩ = some (.int .i64 (l.length : Int)) := (blk_cell h.1 1).trans rfl
theorem WAt.fr {w0 W g v l} (h : WAt w0 W g v l) (i : Nat) : W.frozen? ⟨g, i, none⟩ = false := blk_frozen h.1 i

theorem WAt.below {w0 W W1 g v l} (h : WAt w0 W g v l) (hb : Below W.heap.size W W1) : WAt w0 W1 g v l := ⟨blk_below h.1 hb, h.2.1, Kd.R_below h.2.2.1 hb, h.2.2.2⟩
theorem Kept.below_ {w W W1 : World} {S} (h : Kept w W S) (hb : Below W.heap.size W W1) : Kept w W1 S :=
  ⟨Nat.le_trans h.1 hb.size, fun i hi hs => (hb.block i (Nat.lt_of_lt_of_le hi h.1)).trans (h.2 i hi hs)⟩
/-- What holds at a round's head: j bits are still to come. -/
def Rel (w0 w : World) (g : Nat) (v : Value) (l : List Int) (x : Int) (m : Int) (j : Nat) (wr : World) : Prop :=
  ∃ v' P, WAt w0 wr g v' P ∧ P ++ bitsN j x = l ++ bitsN (cl m) x ∧ Below w0.heap.size w0 wr ∧ Kept w wr (Mine g v) ∧ (v'.ownBlock = v.ownBlock ∨ ∃ b, v'.ownBlock = some b ∧ w.heap.size ≤ b)
theorem own_g {W : World} {g : Nat} {v : Value} {l xs : List Int} (hg : W.heap[g]? = some (.cells #[v, .int .i64 (l.length : Int)] 48 (0, 0))) {v' : Value} {base : Nat} {ok : Nat → Prop} (h : Kd.R (Kd.int .u8) 5 W base ok v' xs) : some g ≠ v'.ownBlock :=
  Kd.R_ne h hg (by decide)

/-- Ahead of a bit's store: there is a byte for it. -/
def Mid (w0 w : World) (g : Nat) (v : Value) (P : List Int) (b2 n2 cap2 : Nat) (W : World) : Prop :=
  W.heap[g]? = some (.cells #[.slice (some ⟨b2, 0, none⟩) n2 cap2, .int .i64 (P.length : Int)] 48 (0, 0)) ∧ w0.heap.size ≤ g ∧ n2 = P.length / 8 + 1 ∧
  Kd.R (Kd.int .u8) 5 W w0.heap.size (fun _ => True) (.slice (some ⟨b2, 0, none⟩) n2 cap2) (rows P (P.length / 8 + 1)) ∧ Below w0.heap.size w0 W ∧ Kept w W (Mine g v) ∧ (some b2 = v.ownBlock ∨ w.heap.size ≤ b2)
theorem mid_full {w0 w wr w5 : World} {g : Nat} {v v1 : Value} {P : List Int} {b2 n2 cap2 : Nat} (hG : wr.heap[g]? = some (.cells #[v1, .int .i64 (P.length : Int)] 48 (0, 0))) (hge : w0.heap.size ≤ g)
    (hR : Kd.R (Kd.int .u8) 5 wr w0.heap.size (fun _ => True) v1 (packB P)) (hk : Kept w wr (Mine g v)) (hv : v1.ownBlock = v.ownBlock ∨ ∃ b, v1.ownBlock = some b ∧ w.heap.size ≤ b)
    (ho : Kd.R (Kd.int .u8) 5 w5 w0.heap.size (fun _ => True) (.slice (some ⟨b2, 0, none⟩) n2 cap2) (rows P (P.length / 8 + 1))) (hb : Below w0.heap.size w0 w5) (hg : wr.grownBy w5 v1.ownBlock)
    (hat : (Value.slice (some ⟨b2, 0, none⟩) n2 cap2).ownBlock = v1.ownBlock ∨ ∃ b, (Value.slice (some ⟨b2, 0, none⟩) n2 cap2).ownBlock = some b ∧ wr.heap.size ≤ b) (hn : n2 = (rows P (P.length / 8 + 1)).length) :
    Mid w0 w g v P b2 n2 cap2 (w5.setCell ⟨g, 0, none⟩ (.slice (some ⟨b2, 0, none⟩) n2 cap2)) := by
  have hG5 := blk_grown hG hg (own_g hG hR)
  refine ⟨by simpa using blk_set hG5 0 (.slice (some ⟨b2, 0, none⟩) n2 cap2), hge, by rw [hn, rows_len], Kd.R_set ho hG5 (by decide) 0 _, hb.setCell (by simpa using hge) _, ?_, ?_⟩
  · refine Kept.setCell (Kept.of_grown hg hk (fun k hk' => ?_)) (.inl (.inl rfl)) _
    rcases hv with hv | ⟨b, hb1, hb2⟩
    · exact .inl (.inr (by rw [← hk', hv]))
    · rw [hk'] at hb1; injection hb1 with hb1; exact .inr (by omega)
  · have e : (Value.slice (some ⟨b2, 0, none⟩) n2 cap2).ownBlock = some b2 := rfl
    rw [e] at hat
    rcases hat with hat | ⟨b, hb1, hb2⟩
    · rcases hv with hv | ⟨b, hb1, hb2⟩
      · exact .inl (hat.trans hv)
      · rw [hb1] at hat; injection hat with hat; exact .inr (by omega)
    · injection hb1 with hb1; have := hk.1; exact .inr (by omega)
theorem mid_part {w0 w wr : World} {g : Nat} {v : Value} {P : List Int} {b2 n2 cap2 : Nat} (hG : wr.heap[g]? = some (.cells #[.slice (some ⟨b2, 0, none⟩) n2 cap2, .int .i64 (P.length : Int)] 48 (0, 0))) (hge : w0.heap.size ≤ g)
    (hR : Kd.R (Kd.int .u8) 5 wr w0.heap.size (fun _ => True) (.slice (some ⟨b2, 0, none⟩) n2 cap2) (rows P (P.length / 8 + 1))) (hb : Below w0.heap.size w0 wr) (hk : Kept w wr (Mine g v)) (hv : (Value.slice (some ⟨b2, 0, none⟩) n2 cap2).ownBlock = v.ownBlock ∨ ∃ b, (Value.slice (some ⟨b2, 0, none⟩) n2 cap2).ownBlock = some b ∧ w.heap.size ≤ b) (hn : n2 = (rows P (P.length / 8 + 1)).length) :
    Mid w0 w g v P b2 n2 cap2 wr := by
  refine ⟨hG, hge, by rw [hn, rows_len], hR, hb, hk, ?_⟩
  have e : (Value.slice (some ⟨b2, 0, none⟩) n2 cap2).ownBlock = some b2 := rfl
  rw [e] at hv
  rcases hv with hv | ⟨b, hb1, hb2⟩
  · exact .inl hv
  · injection hb1 with hb1; exact .inr (by omega)
theorem Mid.drew {w0 w g v P b2 n2 cap2 W} (h : Mid w0 w g v P b2 n2 cap2 W) : Mid w0 w g v P b2 n2 cap2 W.drew :=
  ⟨h.1, h.2.1, h.2.2.1, Kd.R_drew h.2.2.2.1, below_drew h.2.2.2.2.1, h.2.2.2.2.2.1, h.2.2.2.2.2.2⟩
/-- Reads ahead of one store, under a name for the world behind the draw. -/
theorem region_tail {P : Program} {id : Nat} {Q : Exit → Act → World → Prop} {a : Act} {w : World} {l : List Oper} (n : Nat) (hm : P.follows .mixedOrders = true) (hB : Region.lexTailB .any l.toArray n = true)
    (h : ∀ w', w' = w.drew → wpStill P l.toArray w' (fun a' => wpList P l.toArray Q (l.drop n) a' w') (l.take n) a) : (Code.region id l.toArray true).wp P Q a w := wp_region_still_tail n hm hB (h _ rfl)
theorem Mid.byte {w0 w g v P b2 n2 cap2 W} (h : Mid w0 w g v P b2 n2 cap2 W) : W.cell? ⟨b2, ((P.length / 8 : Nat) : Int).toNat, none⟩ = some (.int .u8 (byteAt P (P.length / 8))) ∧ W.frozen? ⟨b2, ((P.length / 8 : Nat) : Int).toNat, none⟩ = false := by
  obtain ⟨hG, hge, hn, hR, hb, hk, hv⟩ := h
  have := Kd.R_celln 0 hR ((P.length / 8 : Nat) : Int) (by omega) (by omega)
  rw [show rdOf (0 : Int) (rows P (P.length / 8 + 1)) ((P.length / 8 : Nat) : Int) = byteAt P (P.length / 8) from rd_rows P (by omega)] at this
  exact this

theorem Mid.ne {w0 w g v P b2 n2 cap2 W} (h : Mid w0 w g v P b2 n2 cap2 W) : g ≠ b2 := fun e => own_g h.1 h.2.2.2.1 (by rw [e]; rfl)
theorem mid_done {w0 w W : World} {g : Nat} {v : Value} {P : List Int} {b2 n2 cap2 : Nat} (h : Mid w0 w g v P b2 n2 cap2 W) (hP : Bits P) {b nb qi : Int} (hb : b = 0 ∨ b = 1) (hq : qi = ((P.length / 8 : Nat) : Int)) (hnb : nb = Go.bits .or .u8 (byteAt P (P.length / 8)) (b * 2 ^ (7 - P.length % 8))) :
    ∃ v', WAt w0 ((W.setCell ⟨b2, qi.toNat, none⟩ (.int .u8 nb)).setCell ⟨g, 1, none⟩ (.int .i64 ((P.length : Int) + 1))) g v' (P ++ [b]) ∧ Below w0.heap.size w0 ((W.setCell ⟨b2, qi.toNat, none⟩ (.int .u8 nb)).setCell ⟨g, 1, none⟩ (.int .i64 ((P.length : Int) + 1))) ∧
      Kept w ((W.setCell ⟨b2, qi.toNat, none⟩ (.int .u8 nb)).setCell ⟨g, 1, none⟩ (.int .i64 ((P.length : Int) + 1))) (Mine g v) ∧ (v'.ownBlock = v.ownBlock ∨ ∃ b, v'.ownBlock = some b ∧ w.heap.size ≤ b) := by
  have hne := h.ne
  obtain ⟨hG, hge, hn, hR, hB, hk, hv⟩ := h
  have hb2 : w0.heap.size ≤ b2 := by
    obtain ⟨inner, ho⟩ := Kd.R_own hR
    exact own_base ho b2 rfl
  have hG2 := blk_far hG (p := ⟨b2, qi.toNat, none⟩) hne (.int .u8 nb)
  have hR2 := Kd.R_putn hR qi nb
  rw [hq, Int.toNat_natCast, hnb, packB_push P hP b hb] at hR2
  refine ⟨.slice (some ⟨b2, 0, none⟩) n2 cap2, ⟨?_, hge, ?_, hP.append (Bits.one hb)⟩, ?_, ?_, ?_⟩
  · have := blk_set hG2 1 (.int .i64 ((P.length : Int) + 1))
    simpa using this
  · rw [hq, Int.toNat_natCast, hnb]
    rw [hq, Int.toNat_natCast, hnb] at hG2
    exact Kd.R_set hR2 hG2 (by decide) 1 _
  · exact (hB.setCell (by simpa using hb2) _).setCell (by simpa using hge) _
  · refine Kept.setCell (Kept.setCell hk ?_ _) (.inl (.inl rfl)) _
    rcases hv with hv | hv
    · exact .inl (.inr hv)
    · exact .inr hv
  · rcases hv with hv | hv
    · exact .inl hv
    · exact .inr ⟨b2, rfl, hv⟩

set_option maxHeartbeats 4000000 in
set_option maxRecDepth 100000 in
theorem put_calls (g : Nat) (v : Value) (l : List Int) (x m : Int) (w0 w : World) (hI : WAt w0 w g v l) (hB : Below w0.heap.size w0 w) (x0 : 0 ≤ x) (x1 : x < 18446744073709551616) (hl : l.length < 1000000000) :
    Calls Try.prog 25 #[.pointer (some ⟨g, 0, none⟩), .int .u64 x, .int .i64 m] w (Put4 w0 w g v (l ++ bitsN (cl m) x)) := by
  have HI := Aside0.mk hI
  have HB := Aside0.mk hB
  have hcl := cl_le m
  clear hI hB
  go_enter Try.func25, Try.ntmps25
  go_wp2_with (go_at_call 51; (with_reducible refine (bits_held.calls m (cl m : Int) _ (held_cl m)).mono ?_); rintro e w1 ⟨rfl, hb⟩; have HI1 := Aside0.mk hb; clear hb)
  have HR : Aside0 (Rel w0 w g v l x m (cl m) w1) := ⟨⟨v, l, HI.out.below HI1.out, rfl, below_step HB.out HI1.out, Kept.below_ (Kept.refl _ _) HI1.out, .inl rfl⟩⟩
  clear HI1
  go_loopw [6] (fun v6 wr => ∃ (j : Nat) (i : Int), v6 = .int .i64 i ∧ Aside0 (i = (j : Int) - 1) ∧ Aside0 (j ≤ 64) ∧ Aside0 (Rel w0 w g v l x m j wr)) (fun v6 _ => (intOf v6 + 1).toNat)
  case atStart => exact ⟨cl m, _, rfl, ⟨rfl⟩, ⟨hcl⟩, HR⟩
  case round =>
    clear HR hcl
    obtain ⟨j, i, rfl, HI6, HJ, HR⟩ := hrel
    cases j with
    | zero =>
      have hi0 : decide (0 ≤ i) = false := by have := HI6.out; simp; omega
      go_wp2
      go_end0
      obtain ⟨v', P, k1, k2, k3, k4, k5⟩ := HR.out
      rw [show bitsN 0 x = [] from rfl, List.append_nil] at k2
      rw [k2] at k1
      exact ⟨rfl, v', k1, k3, k4, k5⟩
    | succ j =>
      obtain ⟨v1, P, hW, hP, hb, hk, hv⟩ := HR.out
      have HJ' := HJ.out
      have hi1 : 0 ≤ i := by have := HI6.out; omega
      have hi2 : i ≤ 63 := by have := HI6.out; omega
      have hi0 : decide (0 ≤ i) = true := by simpa using hi1
      have hP2 : (l ++ bitsN (cl m) x).length < 1000000100 := by rw [List.length_append, bitsN_len]; have := cl_le m; omega
      rw [← hP, List.length_append, bitsN_len] at hP2
      have hc1 := hW.cell1
      have hf0 := hW.fr 0
      obtain ⟨hg, hge, hR, hbits⟩ := hW
      have HHB := Aside0.mk hb
      have HHK := Aside0.mk hk
      have HP := Aside0.mk hP
      have Hbits := Aside0.mk hbits
      clear hb hk hP hbits HR
      by_cases h8 : P.length % 8 = 0
      have hc0 : wr.cell? ⟨g, 0, none⟩ = some v1 := (blk_cell hg 0).trans rfl
      have HG := Aside0.mk hg
      have HRR := Aside0.mk hR
      have HV := Aside0.mk hv
      clear hg hR hv
      have t8 : (((P.length : Int) % 8) == 0) = true := by rw [beq_iff_eq]; omega
      go_wp2_with ((with_reducible refine gate_builtin (b := .append) (xs := #[.tmp 26, .tmp 27]) rfl ?_); at_builtin; refine Kd.R_append (Kd.int .u8) (w0 := w0) w0.heap.size rfl (.tmp 26) (.tmp 27) 22 5 (.int .u8 0) 1 rfl Try.underlying22 info5 rfl (by decide) (by omega) v1 (packB P) 0 [.int .u8 0] (fun _ => True) (fun _ => False) rfl rfl ?aP (fun _ hk => hk.elim) ?aF ?aO ?aB ?aS ?aL ?_; (case aP => exact rfl); (case aB => exact HHB.out); (case aF => exact (fun _ _ => trivial)); (case aO => exact HRR.out); (case aS => exact (below_size HHB.out)); (case aL => rw [packB_len]; omega); intro v2 w5 ho hb hg hat; rw [packB_full h8] at ho; obtain ⟨b2, cap2, rfl, hb2, hl2, cells2, hcells2⟩ := Kd.R_form ho (by rw [rows_len]; omega); obtain ⟨n2, hn2⟩ : ∃ n2, n2 = (rows P (P.length / 8 + 1)).length := ⟨_, rfl⟩; rw [← hn2] at ho hat; (try rw [← hn2]); have HM := Aside0.mk (mid_full HG.out hge HRR.out HHK.out HV.out ho hb hg hat hn2); have hf0' : w5.frozen? ⟨g, 0, none⟩ = false := blk_frozen (blk_grown HG.out hg (own_g HG.out HRR.out)) 0; have hc0' : w5.cell? ⟨g, 0, none⟩ = some v1 := (blk_cell (blk_grown HG.out hg (own_g HG.out HRR.out)) 0).trans rfl; clear hb2 hl2 hcells2 hn2 ho hb hg hat)
      clear hf0' hc0' HG HRR HV hc0
      generalize w5.setCell ⟨g, 0, none⟩ (.slice (some ⟨b2, 0, none⟩) n2 cap2) = w6 at HM ⊢
      rotate_left
      rw [packB_part h8] at hR
      obtain ⟨b2, cap2, rfl, hb2, hl2, cells2, hcells2⟩ := Kd.R_form hR (by rw [rows_len]; omega)
      obtain ⟨n2, hn2⟩ : ∃ n2, n2 = (rows P (P.length / 8 + 1)).length := ⟨_, rfl⟩
      rw [← hn2] at hR hv hg
      have HM := Aside0.mk (mid_part hg hge hR HHB.out HHK.out hv hn2)
      clear hb2 hl2 hcells2 hn2 hg hR hv
      have t8 : (((P.length : Int) % 8) == 0) = false := by rw [beq_eq_false_iff_ne]; omega
      go_wp2
      generalize wr = w6 at HM ⊢
      all_goals
        clear t8 hc1 hf0 HHB HHK
        refine region_tail 24 (by kernel_rfl) (by kernel_rfl) (fun w7 hw7 => ?_)
        have hm := HM.out.drew
        rw [← hw7] at hm
        have HM7 := Aside0.mk hm
        clear HM hw7
        obtain ⟨qi, hqi⟩ : ∃ qi : Int, qi = ((P.length / 8 : Nat) : Int) := ⟨_, rfl⟩
        obtain ⟨kv, hkv⟩ : ∃ kv : Int, kv = 7 - (P.length : Int) % 8 := ⟨_, rfl⟩
        obtain ⟨sv, hsv⟩ : ∃ sv : Int, sv = x / 2 ^ i.toNat := ⟨_, rfl⟩
        obtain ⟨bv, hbv⟩ : ∃ bv : Int, bv = Go.bits .and .u64 sv 1 := ⟨_, rfl⟩
        obtain ⟨hx6, hf6⟩ := hm.byte
        rw [← hqi] at hx6 hf6
        have hc0 : w7.cell? ⟨g, 0, none⟩ = some (.slice (some ⟨b2, 0, none⟩) n2 cap2) := (blk_cell hm.1 0).trans rfl
        have hc1 : w7.cell? ⟨g, 1, none⟩ = some (.int .i64 (P.length : Int)) := (blk_cell hm.1 1).trans rfl
        have hf1 := blk_frozen hm.1 1
        have hq1 : (P.length : Int) / 8 = qi := by rw [hqi]; omega
        have hn2 := hm.2.2.1
        have hq2 : 0 ≤ qi := by omega
        have hq3 : decide (qi < (n2 : Int)) = true := by simp; omega
        have hq4 : qi < (n2 : Int) := by omega
        have hq5 : IntKind.i64.wrap qi = qi := by rw [IntKind.wrap_i64]; omega
        have hk0 : 0 ≤ kv := by omega
        have hk3 : IntKind.i64.wrap kv = kv := by rw [IntKind.wrap_i64]; omega
        have hk7 : kv ≤ 7 := by omega
        have hk1 : IntKind.i64.wrap (7 - (P.length : Int) % 8) = kv := by rw [IntKind.wrap_i64]; omega
        have hk4 : IntKind.i64.wrap (7 - Int.tmod (P.length : Int) 8) = kv := by rw [Int.tmod_eq_emod_of_nonneg (by omega)]; exact hk1
        have hk5 : 7 - Int.tmod (P.length : Int) 8 = kv := by rw [Int.tmod_eq_emod_of_nonneg (by omega)]; omega
        have hk2 : 7 - (P.length : Int) % 8 = kv := hkv.symm
        have hs1 : x / 2 ^ i.toNat = sv := hsv.symm
        have hs2 : x / 2 ^ (min i.toNat 64) = sv := by rw [show min i.toNat 64 = i.toNat by omega]; exact hsv.symm
        have hsb : 0 ≤ sv ∧ sv < 18446744073709551616 := by rw [hsv]; exact ⟨Int.ediv_nonneg x0 (Int.pow_nonneg (by omega)), by have := Int.ediv_le_self (2 ^ i.toNat) x0; omega⟩
        have hb1 : Go.bits .and .u64 sv 1 = bv := hbv.symm
        have hbb : bv = sv % 2 := by rw [hbv]; simpa using bits_mask .u64 64 (by decide) wraps_u64 1 (by decide) sv hsb.1 (by omega)
        have hb2 : 0 ≤ bv := by omega
        have hb3 : bv ≤ 1 := by omega
        have hb4 : IntKind.u8.wrap bv = bv := by rw [IntKind.wrap_u8]; omega
        have hka : decide (kv < 0) = false := by simp; omega
        have hkb : decide (0 ≤ kv) = true := by simp; omega
        have hkt : kv.toNat = 7 - P.length % 8 := by omega
        obtain ⟨shv, hshv⟩ : ∃ shv : Int, shv = bv * 2 ^ kv.toNat := ⟨_, rfl⟩
        have hpw : (2 : Int) ^ kv.toNat ≤ 128 ∧ 0 < (2 : Int) ^ kv.toNat := by
          have : kv.toNat = 0 ∨ kv.toNat = 1 ∨ kv.toNat = 2 ∨ kv.toNat = 3 ∨ kv.toNat = 4 ∨ kv.toNat = 5 ∨ kv.toNat = 6 ∨ kv.toNat = 7 := by omega
          rcases this with h | h | h | h | h | h | h | h <;> rw [h] <;> decide
        have hshb : 0 ≤ shv ∧ shv ≤ 128 := by
          have : bv = 0 ∨ bv = 1 := by omega
          rcases this with h | h <;> rw [hshv, h] <;> omega
        have hsh2 : IntKind.u8.wrap (bv * 2 ^ kv.toNat) = shv := by rw [← hshv, IntKind.wrap_u8]; omega
        have hsh1 : IntKind.u8.wrap (bv * 2 ^ min kv.toNat 8) = shv := by rw [show min kv.toNat 8 = kv.toNat by omega]; exact hsh2
        obtain ⟨nb, hnb⟩ : ∃ nb : Int, nb = Go.bits .or .u8 (byteAt P (P.length / 8)) shv := ⟨_, rfl⟩
        have hor : Go.bits .or .u8 (byteAt P (P.length / 8)) shv = nb := hnb.symm
        have hcx : (w7.setCell ⟨b2, qi.toNat, none⟩ (.int .u8 nb)).cell? ⟨g, 1, none⟩ = some (.int .i64 (P.length : Int)) := (blk_cell (blk_far hm.1 (p := ⟨b2, qi.toNat, none⟩) hm.ne _) 1).trans rfl
        have hfx : (w7.setCell ⟨b2, qi.toNat, none⟩ (.int .u8 nb)).frozen? ⟨g, 1, none⟩ = false := blk_frozen (blk_far hm.1 (p := ⟨b2, qi.toNat, none⟩) hm.ne _) 1
        have HSH := Aside0.mk (show shv = bv * 2 ^ (7 - P.length % 8) by rw [hshv, hkt])
        have HNB := Aside0.mk hnb
        clear hkt hshv hpw hshb hnb
        have HQ := Aside0.mk hqi
        have HKV := Aside0.mk hkv
        have HSV := Aside0.mk hsv
        have HBB := Aside0.mk hbb
        have HN2 := Aside0.mk hn2
        clear hqi hkv hsv hbv hbb hm hsb hn2
        simp only [List.take_succ_cons, List.take_zero, List.drop_succ_cons, List.drop_zero]
        repeat still_step
        refine wpStill_nil ?_
        go_wp2
        go_roundw
        case rel => exact ⟨j, _, rfl, ⟨by have := HI6.out; omega⟩, ⟨by have := HJ.out; omega⟩, ⟨by
          obtain ⟨v', k1, k2, k3, k4⟩ := mid_done HM7.out Hbits.out (b := bv) (nb := nb) (by omega) HQ.out (by rw [HNB.out, HSH.out])
          refine ⟨v', P ++ [bv], k1, ?_, k2, k3, k4⟩
          rw [← HP.out, List.append_assoc]
          congr 1
          show bv :: bitsN j x = bitsN (j + 1) x
          have e : i.toNat = j := by have := HI6.out; omega
          rw [HBB.out, HSV.out, e]; rfl⟩⟩
        case measure => simp [intOf]; have := HI6.out; omega
end Go.Proofs.Ytmlbppfcpejlpaa.W04

-- Printed by this session's own program (wip/xprint.py) over the translation; its external functions are hand-written. Lean checks it.
namespace Go.Proofs.Ytmlbppfcpejlpaa.X
open Go.RowKit Go.Proofs.YtmlbppfcpejlpaaW.PrintWords Go.Proofs.YtmlbppfcpejlpaaW.PrintLast Go.Proofs.YtmlbppfcpejlpaaW.PrintMore
attribute [local go_sem] max2_int min2_int max_two min_two max_three min_three max_four min_four   -- for this text's walks alone
set_option linter.unusedVariables false
set_option linter.unusedSimpArgs false

/-! ### bytes_Clone: function 50 -/
def bytes_Clone.f (l0 : List Int) : Option (List Int) := if l0.length < 140737488355328 then some l0 else none
set_option maxHeartbeats 8000000 in
set_option maxRecDepth 100000 in
theorem bytes_Clone.calls_some (ad : Addr) (c0 : Nat) (l0 : List Int) (w : World) (hr0 : Kd.C (Kd.int .u8) w (some ad) l0.length l0) (hc0 : l0.length ≤ c0) (h : l0.length < 140737488355328) :
    Calls Try.prog 50 #[.slice (some ad) l0.length c0] w fun e w' => ∃ v0_ : Value, e = .returned (v0_) ∧ Kd.R (Kd.int .u8) 5 w' w.heap.size (fun _ => True) v0_ l0 ∧ Below w.heap.size w w' := by
  have HR0 := Aside0.mk hr0
  have HC0 := Aside0.mk hc0
  clear hr0 hc0
  have HB := Aside0.mk (Below.refl w.heap.size w)
  obtain ⟨y101, hy101⟩ : ∃ y_ : List Int, y_ = (([] : List Int)) := ⟨_, rfl⟩
  have LMc2 := Aside0.mk (show y101.length + l0.length < 140737488355328 by rw [hy101]; simpa using h)
  have Ny104 := Aside0.mk (show l0 = y101 ++ l0 by rw [hy101]; rfl)
  have Ny101 := Aside0.mk hy101
  clear hy101 h
  have hq : ∀ (w : World), (binOp .eql 22 (.slice (some ad) l0.length c0) (.slice none 0 0)).run Try.prog w = .ok (.bool false) w := fun w => Lib.run_eql_slice_nil w _ _ (some ad) l0.length c0 0 0 Try.underlying22
  go_enter Try.func50, Try.ntmps50
  go_wp2_with (first | ((with_reducible refine gate_dst (N := 5) rfl ?_); refine Kd.R_lit (Kd.int .u8) _ 5 ?hg (N := 5) ?hd (xs := ([] : List Int)) (inner := []) (ok := fun _ => True) (okp := fun _ => True) ?hr ?hp (fun _ hk => hk) trivial (Below.refl _ _) (Nat.le_refl _) (by simp) ?_; (case hd => rfl); (case hg => rfl); (case hr => first | (go_simp; done) | (go_simp; rfl)); (case hp => exact (Reps.none _ _)); intro v102 w3 ho4 hb hg_ hnew_; clear hg_ hnew_; (first | rw [← Ny101.out] at ho4 | (simp only [Int.reduceToNat] at ho4; rw [← Ny101.out] at ho4)); have n0_ := Aside0.mk (Kd.R_lower ho4 (below_size (by repeat (first | (with_reducible first | exact HB.out | apply below_alloc | apply pw_below_drewN | apply below_drew1) | exact HB.out)))); have n1_ := Aside0.mk (below_step (by repeat (first | (with_reducible first | exact HB.out | apply below_alloc | apply pw_below_drewN | apply below_drew1) | exact HB.out)) hb); clear HB; have HO103 := n0_; have HB := n1_; clear n0_ n1_; clear hb ho4) | ((with_reducible refine gate_builtin (b := .append) (xs := #[.tmp 5, .tmp 6]) rfl ?_); at_builtin; refine Kd.R_append_rows (Kd.int .u8) (w0 := w) w.heap.size rfl (.tmp 5) (.tmp 6) 22 5 (.int .u8 0) 1 rfl Try.underlying22 info5 rfl (by decide) (by omega) v102 y101 l0 _ _ _ (fun _ => True) (fun _ => False) rfl rfl ?aO ?aR (fun _ _ h => h) (fun _ h => h.elim) ?aF ?aB ?aS ?aL ?_; (case aR => repeat (first | exact (Kd.C_below HR0.out HB.out) | (with_reducible refine Kd.C_alloc ?_ _) | (with_reducible refine Kd.C_drewN ?_ _) | (with_reducible refine Kd.C_drew ?_))); (case aB => exact (by repeat (first | (with_reducible first | exact HB.out | apply below_alloc | apply pw_below_drewN | apply below_drew1) | exact HB.out))); (case aF => exact (fun _ _ => trivial)); (case aO => exact (by (with_reducible repeat (first | apply Kd.R_alloc | apply Kd.R_drewN | apply Kd.R_drew)); exact HO103.out)); (case aS => exact (below_size (by repeat (first | (with_reducible first | exact HB.out | apply below_alloc | apply pw_below_drewN | apply below_drew1) | exact HB.out)))); (case aL => have := LMc2.out; omega); intro v105 w5 ho hb hg hat; rw [← Ny104.out] at ho; have n0_ := Aside0.mk (hb); have n1_ := Aside0.mk (ho); clear HB; clear HO103; have HB := n0_; have HO106 := n1_; clear n0_ n1_; clear ho hb hg hat))
  go_ret
  exact ⟨_, by first | rfl | (simp [errW_none, errW_some] <;> rfl) | (simp [*, errW_none, errW_some] <;> rfl), by (with_reducible repeat (first | apply Kd.R_alloc | apply Kd.R_drewN | apply Kd.R_drew)); exact HO106.out, by repeat (first | (with_reducible first | exact HB.out | apply below_alloc | apply pw_below_drewN | apply below_drew1) | exact HB.out)⟩
theorem bytes_Clone.calls (A0 : Option Addr) (c0 : Nat) (l0 : List Int) (r : List Int) (w : World) (hr0 : Kd.C (Kd.int .u8) w A0 l0.length l0) (hc0 : l0.length ≤ c0) (h : bytes_Clone.f l0 = some r) :
    Calls Try.prog 50 #[.slice A0 l0.length c0] w fun e w' => ∃ v0_ : Value, e = .returned (v0_) ∧ Kd.R (Kd.int .u8) 5 w' w.heap.size (fun _ => True) v0_ r ∧ Below w.heap.size w w' := by
  unfold bytes_Clone.f at h
  by_cases hl : l0.length < 140737488355328
  · rw [if_pos hl] at h
    obtain rfl := Option.some.inj h
    cases A0 with
    | some ad => exact bytes_Clone.calls_some ad c0 l0 w hr0 hc0 hl
    | none =>
      have h0 : l0 = [] := by
        cases l0 with
        | nil => rfl
        | cons a l => obtain ⟨ad, e, _⟩ := hr0.2.2 (by simp); cases e
      subst h0
      have hq : ∀ (w : World), (binOp .eql 22 (.slice none 0 c0) (.slice none 0 0)).run Try.prog w = .ok (.bool true) w := fun w => Lib.run_eql_slice_nil w _ _ none 0 c0 0 0 Try.underlying22
      clear hr0 hc0 hl h
      simp only [List.length_nil]
      go_enter Try.func50, Try.ntmps50
      go_wp2
      go_ret
      exact ⟨_, rfl, Kd.R_nil _ _ _ _ _, Below.refl _ _⟩
  · rw [if_neg hl] at h; cases h

end Go.Proofs.Ytmlbppfcpejlpaa.X

-- Printed by this session's own program (wip/xprint.py) over the translation; its external functions are hand-written. Lean checks it.
namespace Go.Proofs.Ytmlbppfcpejlpaa.X
open Go.RowKit Go.Proofs.YtmlbppfcpejlpaaW.PrintWords Go.Proofs.YtmlbppfcpejlpaaW.PrintLast Go.Proofs.YtmlbppfcpejlpaaW.PrintMore
attribute [local go_sem] max2_int min2_int max_two min_two max_three min_three max_four min_four   -- for this text's walks alone
set_option linter.unusedVariables false
set_option linter.unusedSimpArgs false

/-- A state of type 81 at block g of W; what its slices lead to came in by w0. -/
def IsS81 (w0 W : World) (g : Nat) (f0 : List Int) (f1 : Int) (f2 : Bool) : Prop := ∃ A0 c0, W.heap[g]? = some (.cells #[.slice A0 f0.length c0, .int .i64 f1, .bool f2] 81 (0, 0)) ∧ w0.heap.size ≤ g ∧ Kd.C (Kd.int .u8) w0 A0 f0.length f0
theorem IsS81.grown {w0 W : World} {g : Nat} {f0 : List Int} {f1 : Int} {f2 : Bool} {W1 : World} {row : Option Nat} (h : IsS81 w0 W g f0 f1 f2) (hw : W.grownBy W1 row) (hne : some g ≠ row) : IsS81 w0 W1 g f0 f1 f2 := by
  obtain ⟨A0, c0, hb, hg, hr0⟩ := h
  exact ⟨A0, c0, blk_grown hb hw hne, hg, hr0⟩
theorem IsS81.own_neN {w0 W : World} {g : Nat} {f0 : List Int} {f1 : Int} {f2 : Bool} {α : Type} {d : Kd α} {e : Nat} {base : Nat} {ok : Nat → Prop} {v : Value} {xs : List α} (h : IsS81 w0 W g f0 f1 f2) (ho : Kd.N d e W base ok v xs) (ht : e ≠ 81) : some g ≠ v.ownBlock := by
  obtain ⟨A0, c0, hb, hg, hr0⟩ := h
  exact Kd.N_ne ho hb ht
theorem IsS81.fresh {w0 W : World} {g : Nat} {f0 : List Int} {f1 : Int} {f2 : Bool} (h : IsS81 w0 W g f0 f1 f2) : ∀ k, W.heap.size ≤ k → k ≠ g := by
  obtain ⟨A0, c0, hb, hg, hr0⟩ := h
  exact Kd.freshB hb
theorem IsS81.kept {w0 W : World} {g : Nat} {f0 : List Int} {f1 : Int} {f2 : Bool} {W1 : World} {S : Nat → Prop} (h : IsS81 w0 W g f0 f1 f2) (hk : Kept W W1 S) (hne : ¬ S g) : IsS81 w0 W1 g f0 f1 f2 := by
  obtain ⟨A0, c0, hb, hg, hr0⟩ := h
  exact ⟨A0, c0, blk_kept hb hk hne, hg, hr0⟩
theorem IsS81.below {w0 W : World} {g : Nat} {f0 : List Int} {f1 : Int} {f2 : Bool} {W1 : World} (h : IsS81 w0 W g f0 f1 f2) (hw : Below W.heap.size W W1) : IsS81 w0 W1 g f0 f1 f2 := h.grown (grown_of_below hw none) (by simp)
theorem IsS81.alloc {w0 W : World} {g : Nat} {f0 : List Int} {f1 : Int} {f2 : Bool} (h : IsS81 w0 W g f0 f1 f2) (o : Obj) : IsS81 w0 (W.alloc o) g f0 f1 f2 := h.below (below_alloc (Below.refl _ _) o)
theorem IsS81.drewN {w0 W : World} {g : Nat} {f0 : List Int} {f1 : Int} {f2 : Bool} (h : IsS81 w0 W g f0 f1 f2) (m : Nat) : IsS81 w0 (W.drewN m) g f0 f1 f2 := h
theorem IsS81.drew {w0 W : World} {g : Nat} {f0 : List Int} {f1 : Int} {f2 : Bool} (h : IsS81 w0 W g f0 f1 f2) : IsS81 w0 W.drew g f0 f1 f2 := h
theorem IsS81.at_ {w0 W : World} {g : Nat} {f0 : List Int} {f1 : Int} {f2 : Bool} {w' : World} {m : Nat} (hq : W.drewN m = w') (h : IsS81 w0 W g f0 f1 f2) : IsS81 w0 w' g f0 f1 f2 := by subst hq; exact IsS81.drewN h m
theorem IsS81.apart {w0 W : World} {g : Nat} {f0 : List Int} {f1 : Int} {f2 : Bool} {α : Type} {d : Kd α} {e : Nat} {base : Nat} {ok : Nat → Prop} {v : Value} {xs : List α} (h : IsS81 w0 W g f0 f1 f2) (ho : d.R e W base ok v xs) (ht : ∀ q, q ∈ e :: d.E → q ≠ 81) : d.R e W base (fun k => ok k ∧ k ≠ g) v xs := by
  obtain ⟨A0, c0, hb, hg, hr0⟩ := h
  exact Kd.R_types ho hb ht
theorem IsS81.own_ne {w0 W : World} {g : Nat} {f0 : List Int} {f1 : Int} {f2 : Bool} {α : Type} {d : Kd α} {e : Nat} {base : Nat} {ok : Nat → Prop} {v : Value} {xs : List α} (h : IsS81 w0 W g f0 f1 f2) (ho : d.R e W base ok v xs) (ht : e ≠ 81) : some g ≠ v.ownBlock := by
  obtain ⟨A0, c0, hb, hg, hr0⟩ := h
  exact Kd.R_ne ho hb ht
theorem IsS81.apartQ {w0 W : World} {g : Nat} {f0 : List Int} {f1 : Int} {f2 : Bool} {α : Type} {d : Kd α} {e : Nat} {base : Nat} {ok : Nat → Prop} {v : Value} {xs : List α} (h : IsS81 w0 W g f0 f1 f2) (ho : d.Q e W base ok v xs) (ht : ∀ q, q ∈ e :: d.E → q ≠ 81) : d.Q e W base (fun k => ok k ∧ k ≠ g) v xs := by
  obtain ⟨A0, c0, hb, hg, hr0⟩ := h
  exact Kd.Q_types ho hb ht
theorem IsS81.own_neQ {w0 W : World} {g : Nat} {f0 : List Int} {f1 : Int} {f2 : Bool} {α : Type} {d : Kd α} {e : Nat} {base : Nat} {ok : Nat → Prop} {v : Value} {xs : List α} (h : IsS81 w0 W g f0 f1 f2) (ho : d.Q e W base ok v xs) (ht : e ≠ 81) : some g ≠ v.ownBlock := by
  obtain ⟨A0, c0, hb, hg, hr0⟩ := h
  exact Kd.Q_ne ho hb ht
theorem IsS81.apartS {w0 W : World} {g : Nat} {f0 : List Int} {f1 : Int} {f2 : Bool} {α : Type} {d : Kd α} {e : Nat} {base : Nat} {ok : Nat → Prop} {v : Value} {xs : List α} (h : IsS81 w0 W g f0 f1 f2) (ho : d.S e W base ok v xs) (ht : ∀ q, q ∈ e :: d.E → q ≠ 81) : d.S e W base (fun k => ok k ∧ k ≠ g) v xs := by
  obtain ⟨A0, c0, hb, hg, hr0⟩ := h
  exact Kd.S_types ho hb ht
theorem IsS81.own_neS {w0 W : World} {g : Nat} {f0 : List Int} {f1 : Int} {f2 : Bool} {α : Type} {d : Kd α} {e : Nat} {base : Nat} {ok : Nat → Prop} {v : Value} {xs : List α} (h : IsS81 w0 W g f0 f1 f2) (ho : d.S e W base ok v xs) (ht : e ≠ 81) : some g ≠ v.ownBlock := by
  obtain ⟨A0, c0, hb, hg, hr0⟩ := h
  exact Kd.S_ne ho hb ht
theorem IsS81.lt {w0 W : World} {g : Nat} {f0 : List Int} {f1 : Int} {f2 : Bool} (h : IsS81 w0 W g f0 f1 f2) : g < W.heap.size := by
  obtain ⟨A0, c0, hb, hg, hr0⟩ := h
  exact blk_lt hb
theorem IsS81.ge {w0 W : World} {g : Nat} {f0 : List Int} {f1 : Int} {f2 : Bool} (h : IsS81 w0 W g f0 f1 f2) : w0.heap.size ≤ g := by
  obtain ⟨A0, c0, hb, hg, hr0⟩ := h
  exact hg
theorem IsS81.ne_blk {w0 W : World} {g : Nat} {f0 : List Int} {f1 : Int} {f2 : Bool} {a : Nat} {cs : Array Value} {t : TypeId} {fr : Nat × Nat} (h : IsS81 w0 W g f0 f1 f2) (hb2 : W.heap[a]? = some (.cells cs t fr)) (ht : t ≠ 81) : g ≠ a := by
  obtain ⟨A0, c0, hb, hg, hr0⟩ := h
  rintro rfl
  rw [hb] at hb2
  injection hb2 with hb2
  injection hb2 with _ ht2
  exact ht ht2.symm
theorem IsS81.far {w0 W : World} {g : Nat} {f0 : List Int} {f1 : Int} {f2 : Bool} {p : Addr} (h : IsS81 w0 W g f0 f1 f2) (hne : g ≠ p.block) (u : Value) : IsS81 w0 (W.setCell p u) g f0 f1 f2 := by
  obtain ⟨A0, c0, hb, hg, hr0⟩ := h
  exact ⟨A0, c0, blk_far hb hne u, hg, hr0⟩
theorem cellS81_0 {W : World} {g : Nat} {A0 : Option Addr} {c0 : Nat} {f0 : List Int} {f1 : Int} {f2 : Bool} (h : W.heap[g]? = some (.cells #[.slice A0 f0.length c0, .int .i64 f1, .bool f2] 81 (0, 0))) : W.cell? ⟨g, 0, none⟩ = some (.slice A0 f0.length c0) := (blk_cell h 0).trans rfl
theorem cellS81_1 {W : World} {g : Nat} {A0 : Option Addr} {c0 : Nat} {f0 : List Int} {f1 : Int} {f2 : Bool} (h : W.heap[g]? = some (.cells #[.slice A0 f0.length c0, .int .i64 f1, .bool f2] 81 (0, 0))) : W.cell? ⟨g, 1, none⟩ = some (.int .i64 f1) := (blk_cell h 1).trans rfl
theorem IsS81.set_1 {w0 W : World} {g : Nat} {f0 : List Int} {f1 : Int} {f2 : Bool} (h : IsS81 w0 W g f0 f1 f2) (x : Int) : IsS81 w0 (W.setCell ⟨g, 1, none⟩ (.int .i64 x)) g f0 x f2 := by
  obtain ⟨A0, c0, hb, hg, hr0⟩ := h
  exact ⟨A0, c0, by simpa using blk_set hb 1 (.int .i64 x), hg, hr0⟩
theorem cellS81_2 {W : World} {g : Nat} {A0 : Option Addr} {c0 : Nat} {f0 : List Int} {f1 : Int} {f2 : Bool} (h : W.heap[g]? = some (.cells #[.slice A0 f0.length c0, .int .i64 f1, .bool f2] 81 (0, 0))) : W.cell? ⟨g, 2, none⟩ = some (.bool f2) := (blk_cell h 2).trans rfl
theorem IsS81.set_2 {w0 W : World} {g : Nat} {f0 : List Int} {f1 : Int} {f2 : Bool} (h : IsS81 w0 W g f0 f1 f2) (x : Bool) : IsS81 w0 (W.setCell ⟨g, 2, none⟩ (.bool x)) g f0 f1 x := by
  obtain ⟨A0, c0, hb, hg, hr0⟩ := h
  exact ⟨A0, c0, by simpa using blk_set hb 2 (.bool x), hg, hr0⟩
theorem IsS81.new (w0 W : World) (A0 : Option Addr) (c0 : Nat) (f0 : List Int) (f1 : Int) (f2 : Bool) (hB : Below w0.heap.size w0 W) (hr0 : Kd.C (Kd.int .u8) w0 A0 f0.length f0) : IsS81 w0 (W.alloc (.cells #[.slice A0 f0.length c0, .int .i64 f1, .bool f2] 81)) W.heap.size f0 f1 f2 := ⟨A0, c0, by simpa using heap_alloc_new W _, hB.size, hr0⟩

/-! ### bits_Reader_Left: function 30 -/
def bits_Reader_Left.f (s0_0 : List Int) (s0_1 : Int) (s0_2 : Bool) : Option (Int × Int × Bool) := some (wrap64 ((wrap64 (8 * (s0_0.length : Int))) - s0_1), s0_1, s0_2)
set_option maxHeartbeats 8000000 in
set_option maxRecDepth 100000 in
theorem bits_Reader_Left.calls (g : Nat) (s0_0 : List Int) (s0_1 : Int) (s0_2 : Bool) (r1 : Int) (r2 : Int) (r3 : Bool) (w0 w : World) (hI : IsS81 w0 w g s0_0 s0_1 s0_2) (hB : Below w0.heap.size w0 w) (h : bits_Reader_Left.f s0_0 s0_1 s0_2 = some (r1, r2, r3)) :
    Calls Try.prog 30 #[.pointer (some ⟨g, 0, none⟩)] w fun e w' => e = .returned (.int .i64 r1) ∧ IsS81 w0 w' g s0_0 r2 r3 ∧ Below w0.heap.size w0 w' ∧ KeepBut w w' g none := by
  have HI0 := Aside0.mk hI
  have HK := Aside0.mk (KeepBut.refl w g none)
  have HL := Aside0.mk hB.size
  clear hI
  have HW0 := Aside0.mk hB.size
  have HB := Aside0.mk hB
  clear hB
  have H : (some (wrap64 ((wrap64 (8 * (s0_0.length : Int))) - s0_1), s0_1, s0_2)) = some (r1, r2, r3) := h
  clear h
  simp only [Option.some.injEq, Prod.mk.injEq] at H
  obtain ⟨rfl, rfl, rfl⟩ := H
  obtain ⟨ASz2_0, cSz2_0, HGz2, hgz2, HSz2_0⟩ := HI0.out
  have hcz2_0 := cellS81_0 HGz2
  have hcz2_1 := cellS81_1 HGz2
  have hcz2_2 := cellS81_2 HGz2
  have hfz2_1 := blk_frozen HGz2 1
  have hfz2_2 := blk_frozen HGz2 2
  clear HGz2 hgz2
  go_enter Try.func30, Try.ntmps30
  go_wp2
  repeat (go_quiet (fail); try go_wp2)
  go_ret
  exact ⟨by first | rfl | (simp [errW_none, errW_some] <;> rfl) | (simp [*, errW_none, errW_some] <;> rfl), by repeat (first | (with_reducible first | exact HI0.out | apply IsS81.alloc | apply IsS81.drewN | apply IsS81.drew | apply IsS81.set_1 | apply IsS81.set_2) | exact HI0.out), by repeat (first | (with_reducible first | exact HB.out | apply below_alloc | apply pw_below_drewN | apply below_drew1 | refine below_set ?_ (IsS81.ge HI0.out)) | exact HB.out), by repeat (first | (with_reducible first | exact HK.out | apply KeepBut.set_ | apply keep_drewN | apply keep_drew | apply keep_alloc) | exact HK.out)⟩

end Go.Proofs.Ytmlbppfcpejlpaa.X

-- Printed by this session's own program (wip/xprint.py) over the translation; its external functions are hand-written. Lean checks it.
namespace Go.Proofs.Ytmlbppfcpejlpaa.X
open Go.RowKit Go.Proofs.YtmlbppfcpejlpaaW.PrintWords Go.Proofs.YtmlbppfcpejlpaaW.PrintLast Go.Proofs.YtmlbppfcpejlpaaW.PrintMore
attribute [local go_sem] max2_int min2_int max_two min_two max_three min_three max_four min_four   -- for this text's walks alone
set_option linter.unusedVariables false
set_option linter.unusedSimpArgs false

/-! ### bits_Reader_Take: function 28 -/
def bits_Reader_Take.l0 : Nat → Int → Int → Int → List Int → Int → Bool → Option (Int × Int × Bool)
  | 0, _, _, _, _, _, _ => none
  | k + 1, x5, x23, x24, x1000, x1001, x1002 => if x24 < x23 then (if 0 ≤ (wrap64 (Int.tdiv x1001 8)) then (if (wrap64 (Int.tdiv x1001 8)) < (x1000.length : Int) then (if 0 ≤ (wrap64 (7 - (Int.tmod x1001 8))) then (bits_Reader_Take.l0 k (Go.bits .or .u64 (IntKind.u64.wrap (x5 * 2)) (IntKind.u64.wrap (Go.bits .and .u8 (shr .u8 (rd x1000 (wrap64 (Int.tdiv x1001 8))) (wrap64 (7 - (Int.tmod x1001 8)))) 1))) x23 (wrap64 (x24 + 1)) x1000 (wrap64 (x1001 + 1)) x1002) else (none)) else (none)) else (none)) else (some (x5, x1001, x1002))
def bits_Reader_Take.f (k : Nat) (s0_0 : List Int) (s0_1 : Int) (s0_2 : Bool) (a1 : Int) : Option (Int × Int × Bool) := if s0_2 = true then (some (0, s0_1, s0_2)) else ((bits_held.f a1).bind fun t183 => ((bits_Reader_Left.f s0_0 s0_1 s0_2).bind fun bt184 => (if t183 > bt184.1 then (some (0, bt184.2.1, true)) else ((bits_held.f a1).bind fun t187 => (bits_Reader_Take.l0 k 0 t187 0 s0_0 bt184.2.1 bt184.2.2)))))
theorem bits_Reader_Take.mono_l : ∀ k, (∀ y0 y1 y2 y3 y4 y5, LeO (bits_Reader_Take.l0 k y0 y1 y2 y3 y4 y5) (bits_Reader_Take.l0 (k + 1) y0 y1 y2 y3 y4 y5))
  | 0 => fun _ _ _ _ _ _ r h => by simp [bits_Reader_Take.l0] at h
  | k + 1 => by
    have ih0 := bits_Reader_Take.mono_l k
    · intro y0 y1 y2 y3 y4 y5
      unfold bits_Reader_Take.l0
      repeat' first
      | (with_reducible exact ih0 _ _ _ _ _ _)
      | (with_reducible exact LeO.refl _)
      | (with_reducible exact LeO.none _)
      | (with_reducible refine LeO.ite ?_ ?_)
      | (with_reducible refine LeO.bind ?_ (fun _ => ?_))
      | exact ih0 _ _ _ _ _ _
      | exact LeO.none _
      | refine LeO.ite ?_ ?_
      | refine LeO.bind ?_ (fun _ => ?_)
theorem bits_Reader_Take.mono : ∀ a0 a1 a2 a3 k, LeO (bits_Reader_Take.f k a0 a1 a2 a3) (bits_Reader_Take.f (k + 1) a0 a1 a2 a3) := by
  intro a0 a1 a2 a3 k
  have ih0 := bits_Reader_Take.mono_l k
  unfold bits_Reader_Take.f
  repeat' first
      | (with_reducible exact ih0 _ _ _ _ _ _)
      | (with_reducible exact LeO.refl _)
      | (with_reducible exact LeO.none _)
      | (with_reducible refine LeO.ite ?_ ?_)
      | (with_reducible refine LeO.bind ?_ (fun _ => ?_))
      | exact ih0 _ _ _ _ _ _
      | exact LeO.none _
      | refine LeO.ite ?_ ?_
      | refine LeO.bind ?_ (fun _ => ?_)
set_option maxHeartbeats 8000000 in
set_option maxRecDepth 100000 in
theorem bits_Reader_Take.calls (k : Nat) (g : Nat) (s0_0 : List Int) (s0_1 : Int) (s0_2 : Bool) (a1 : Int) (r1 : Int) (r2 : Int) (r3 : Bool) (w0 w : World) (hI : IsS81 w0 w g s0_0 s0_1 s0_2) (hB : Below w0.heap.size w0 w) (h : bits_Reader_Take.f k s0_0 s0_1 s0_2 a1 = some (r1, r2, r3)) :
    Calls Try.prog 28 #[.pointer (some ⟨g, 0, none⟩), .int .i64 a1] w fun e w' => e = .returned (.int .u64 r1) ∧ IsS81 w0 w' g s0_0 r2 r3 ∧ Below w0.heap.size w0 w' ∧ KeepBut w w' g none := by
  have HI0 := Aside0.mk hI
  have HK := Aside0.mk (KeepBut.refl w g none)
  have HL := Aside0.mk hB.size
  clear hI
  have HW0 := Aside0.mk hB.size
  have HB := Aside0.mk hB
  clear hB
  have H : (if s0_2 = true then (some (0, s0_1, s0_2)) else ((bits_held.f a1).bind fun t183 => ((bits_Reader_Left.f s0_0 s0_1 s0_2).bind fun bt184 => (if t183 > bt184.1 then (some (0, bt184.2.1, true)) else ((bits_held.f a1).bind fun t187 => (bits_Reader_Take.l0 k 0 t187 0 s0_0 bt184.2.1 bt184.2.2)))))) = some (r1, r2, r3) := h
  clear h
  by_cases c3 : s0_2 = true
  · subst c3
    have H1 : (some (0, s0_1, true)) = some (r1, r2, r3) := by rw [if_pos rfl] at H; exact H
    clear H
    have H := H1
    clear H1
    simp only [Option.some.injEq, Prod.mk.injEq] at H
    obtain ⟨rfl, rfl, rfl⟩ := H
    obtain ⟨ASz4_0, cSz4_0, HGz4, hgz4, HSz4_0⟩ := HI0.out
    have hcz4_0 := cellS81_0 HGz4
    have hcz4_1 := cellS81_1 HGz4
    have hcz4_2 := cellS81_2 HGz4
    have hfz4_1 := blk_frozen HGz4 1
    have hfz4_2 := blk_frozen HGz4 2
    clear HGz4 hgz4
    go_enter Try.func28, Try.ntmps28
    go_wp2
    repeat (go_quiet (fail); try go_wp2)
    go_ret
    exact ⟨by first | rfl | (simp [errW_none, errW_some] <;> rfl) | (simp [*, errW_none, errW_some] <;> rfl), by repeat (first | (with_reducible first | exact HI0.out | apply IsS81.alloc | apply IsS81.drewN | apply IsS81.drew | apply IsS81.set_1 | apply IsS81.set_2) | exact HI0.out), by repeat (first | (with_reducible first | exact HB.out | apply below_alloc | apply pw_below_drewN | apply below_drew1 | refine below_set ?_ (IsS81.ge HI0.out)) | exact HB.out), by repeat (first | (with_reducible first | exact HK.out | apply KeepBut.set_ | apply keep_drewN | apply keep_drew | apply keep_alloc) | exact HK.out)⟩
  · replace c3 := Bool.eq_false_iff.mpr c3
    subst c3
    have H1 : ((bits_held.f a1).bind fun t183 => ((bits_Reader_Left.f s0_0 s0_1 false).bind fun bt184 => (if t183 > bt184.1 then (some (0, bt184.2.1, true)) else ((bits_held.f a1).bind fun t187 => (bits_Reader_Take.l0 k 0 t187 0 s0_0 bt184.2.1 bt184.2.2))))) = some (r1, r2, r3) := by rw [if_neg (show ¬ (false = true) by decide)] at H; exact H
    clear H
    have H := H1
    clear H1
    replace H := Option.bind_eq_some_iff.mp H
    obtain ⟨t183, A50, H⟩ := H
    replace H : ((bits_Reader_Left.f s0_0 s0_1 false).bind fun bt184 => (if t183 > bt184.1 then (some (0, bt184.2.1, true)) else ((bits_held.f a1).bind fun t187 => (bits_Reader_Take.l0 k 0 t187 0 s0_0 bt184.2.1 bt184.2.2)))) = some (r1, r2, r3) := H
    have A5 := Aside0.mk A50
    clear A50
    replace H := Option.bind_eq_some_iff.mp H
    obtain ⟨⟨t184, t185, t186⟩, A60, H⟩ := H
    replace H : (if t183 > t184 then (some (0, t185, true)) else ((bits_held.f a1).bind fun t187 => (bits_Reader_Take.l0 k 0 t187 0 s0_0 t185 t186))) = some (r1, r2, r3) := H
    have A6 := Aside0.mk A60
    clear A60
    by_cases c7 : t183 > t184
    · rw [if_pos c7] at H
      have c7b0 : decide (t184 < t183) = true := decide_eq_true c7
      clear c7
      simp only [Option.some.injEq, Prod.mk.injEq] at H
      obtain ⟨rfl, rfl, rfl⟩ := H
      obtain ⟨ASz8_0, cSz8_0, HGz8, hgz8, HSz8_0⟩ := HI0.out
      have hcz8_0 := cellS81_0 HGz8
      have hcz8_1 := cellS81_1 HGz8
      have hcz8_2 := cellS81_2 HGz8
      have hfz8_1 := blk_frozen HGz8 1
      have hfz8_2 := blk_frozen HGz8 2
      clear HGz8 hgz8
      go_enter Try.func28, Try.ntmps28
      go_wp2_with (first | (go_at_call 51; (with_reducible refine (bits_held.calls a1 t183 _ A5.out).mono ?_); rintro e w9 ⟨rfl, hb⟩; have n0_ := Aside0.mk (IsS81.below (by repeat (first | (with_reducible first | exact HI0.out | apply IsS81.alloc | apply IsS81.drewN | apply IsS81.drew | apply IsS81.set_1 | apply IsS81.set_2) | exact HI0.out)) hb); have n1_ := Aside0.mk (KeepBut.trans (by repeat (first | (with_reducible first | exact HK.out | apply KeepBut.set_ | apply keep_drewN | apply keep_drew | apply keep_alloc) | exact HK.out)) (KeepBut.of_below hb g none) (.inl rfl)); have n2_ := Aside0.mk (below_step (by repeat (first | (with_reducible first | exact HB.out | apply below_alloc | apply pw_below_drewN | apply below_drew1 | refine below_set ?_ (IsS81.ge HI0.out)) | exact HB.out)) hb); clear HI0; clear HK; clear HB; have HI0 := n0_; have HK := n1_; have HB := n2_; clear n0_ n1_ n2_; (try clear hb); (try clear hb2); (try clear hk); (try clear hi)) | (go_at_call 30; (with_reducible refine (bits_Reader_Left.calls g s0_0 s0_1 false t184 t185 t186 w0 _ ?side1 ?side2 A6.out).mono ?_); (case side1 => repeat (first | (with_reducible first | exact HI0.out | apply IsS81.alloc | apply IsS81.drewN | apply IsS81.drew | apply IsS81.set_1 | apply IsS81.set_2) | exact HI0.out)); (case side2 => repeat (first | (with_reducible first | exact HB.out | apply below_alloc | apply pw_below_drewN | apply below_drew1 | refine below_set ?_ (IsS81.ge HI0.out)) | exact HB.out)); rintro e w10 ⟨rfl, hi, hb, hk⟩; have n0_ := Aside0.mk (KeepBut.trans (by repeat (first | (with_reducible first | exact HK.out | apply KeepBut.set_ | apply keep_drewN | apply keep_drew | apply keep_alloc) | exact HK.out)) hk (.inl rfl)); have n1_ := Aside0.mk (hb); have n2_ := Aside0.mk (hi); clear HK; clear HB; clear HI0; have HK := n0_; have HB := n1_; have HI0 := n2_; clear n0_ n1_ n2_; (try clear hb); (try clear hb2); (try clear hk); (try clear hi); obtain ⟨ASz11_0, cSz11_0, HGz11, hgz11, HSz11_0⟩ := HI0.out; have hcz11_0 := cellS81_0 HGz11; have hcz11_1 := cellS81_1 HGz11; have hcz11_2 := cellS81_2 HGz11; have hfz11_1 := blk_frozen HGz11 1; have hfz11_2 := blk_frozen HGz11 2; clear HGz11 hgz11))
      repeat (go_quiet (first | (go_at_call 51; (with_reducible refine (bits_held.calls a1 t183 _ A5.out).mono ?_); rintro e w9 ⟨rfl, hb⟩; have n0_ := Aside0.mk (IsS81.below (by repeat (first | (with_reducible first | exact HI0.out | apply IsS81.alloc | apply IsS81.drewN | apply IsS81.drew | apply IsS81.set_1 | apply IsS81.set_2) | exact HI0.out)) hb); have n1_ := Aside0.mk (KeepBut.trans (by repeat (first | (with_reducible first | exact HK.out | apply KeepBut.set_ | apply keep_drewN | apply keep_drew | apply keep_alloc) | exact HK.out)) (KeepBut.of_below hb g none) (.inl rfl)); have n2_ := Aside0.mk (below_step (by repeat (first | (with_reducible first | exact HB.out | apply below_alloc | apply pw_below_drewN | apply below_drew1 | refine below_set ?_ (IsS81.ge HI0.out)) | exact HB.out)) hb); clear HI0; clear HK; clear HB; have HI0 := n0_; have HK := n1_; have HB := n2_; clear n0_ n1_ n2_; (try clear hb); (try clear hb2); (try clear hk); (try clear hi)) | (go_at_call 30; (with_reducible refine (bits_Reader_Left.calls g s0_0 s0_1 false t184 t185 t186 w0 _ ?side1 ?side2 A6.out).mono ?_); (case side1 => repeat (first | (with_reducible first | exact HI0.out | apply IsS81.alloc | apply IsS81.drewN | apply IsS81.drew | apply IsS81.set_1 | apply IsS81.set_2) | exact HI0.out)); (case side2 => repeat (first | (with_reducible first | exact HB.out | apply below_alloc | apply pw_below_drewN | apply below_drew1 | refine below_set ?_ (IsS81.ge HI0.out)) | exact HB.out)); rintro e w10 ⟨rfl, hi, hb, hk⟩; have n0_ := Aside0.mk (KeepBut.trans (by repeat (first | (with_reducible first | exact HK.out | apply KeepBut.set_ | apply keep_drewN | apply keep_drew | apply keep_alloc) | exact HK.out)) hk (.inl rfl)); have n1_ := Aside0.mk (hb); have n2_ := Aside0.mk (hi); clear HK; clear HB; clear HI0; have HK := n0_; have HB := n1_; have HI0 := n2_; clear n0_ n1_ n2_; (try clear hb); (try clear hb2); (try clear hk); (try clear hi); obtain ⟨ASz11_0, cSz11_0, HGz11, hgz11, HSz11_0⟩ := HI0.out; have hcz11_0 := cellS81_0 HGz11; have hcz11_1 := cellS81_1 HGz11; have hcz11_2 := cellS81_2 HGz11; have hfz11_1 := blk_frozen HGz11 1; have hfz11_2 := blk_frozen HGz11 2; clear HGz11 hgz11)); try go_wp2_with (first | (go_at_call 51; (with_reducible refine (bits_held.calls a1 t183 _ A5.out).mono ?_); rintro e w9 ⟨rfl, hb⟩; have n0_ := Aside0.mk (IsS81.below (by repeat (first | (with_reducible first | exact HI0.out | apply IsS81.alloc | apply IsS81.drewN | apply IsS81.drew | apply IsS81.set_1 | apply IsS81.set_2) | exact HI0.out)) hb); have n1_ := Aside0.mk (KeepBut.trans (by repeat (first | (with_reducible first | exact HK.out | apply KeepBut.set_ | apply keep_drewN | apply keep_drew | apply keep_alloc) | exact HK.out)) (KeepBut.of_below hb g none) (.inl rfl)); have n2_ := Aside0.mk (below_step (by repeat (first | (with_reducible first | exact HB.out | apply below_alloc | apply pw_below_drewN | apply below_drew1 | refine below_set ?_ (IsS81.ge HI0.out)) | exact HB.out)) hb); clear HI0; clear HK; clear HB; have HI0 := n0_; have HK := n1_; have HB := n2_; clear n0_ n1_ n2_; (try clear hb); (try clear hb2); (try clear hk); (try clear hi)) | (go_at_call 30; (with_reducible refine (bits_Reader_Left.calls g s0_0 s0_1 false t184 t185 t186 w0 _ ?side1 ?side2 A6.out).mono ?_); (case side1 => repeat (first | (with_reducible first | exact HI0.out | apply IsS81.alloc | apply IsS81.drewN | apply IsS81.drew | apply IsS81.set_1 | apply IsS81.set_2) | exact HI0.out)); (case side2 => repeat (first | (with_reducible first | exact HB.out | apply below_alloc | apply pw_below_drewN | apply below_drew1 | refine below_set ?_ (IsS81.ge HI0.out)) | exact HB.out)); rintro e w10 ⟨rfl, hi, hb, hk⟩; have n0_ := Aside0.mk (KeepBut.trans (by repeat (first | (with_reducible first | exact HK.out | apply KeepBut.set_ | apply keep_drewN | apply keep_drew | apply keep_alloc) | exact HK.out)) hk (.inl rfl)); have n1_ := Aside0.mk (hb); have n2_ := Aside0.mk (hi); clear HK; clear HB; clear HI0; have HK := n0_; have HB := n1_; have HI0 := n2_; clear n0_ n1_ n2_; (try clear hb); (try clear hb2); (try clear hk); (try clear hi); obtain ⟨ASz11_0, cSz11_0, HGz11, hgz11, HSz11_0⟩ := HI0.out; have hcz11_0 := cellS81_0 HGz11; have hcz11_1 := cellS81_1 HGz11; have hcz11_2 := cellS81_2 HGz11; have hfz11_1 := blk_frozen HGz11 1; have hfz11_2 := blk_frozen HGz11 2; clear HGz11 hgz11)))
      go_ret
      exact ⟨by first | rfl | (simp [errW_none, errW_some] <;> rfl) | (simp [*, errW_none, errW_some] <;> rfl), by repeat (first | (with_reducible first | exact HI0.out | apply IsS81.alloc | apply IsS81.drewN | apply IsS81.drew | apply IsS81.set_1 | apply IsS81.set_2) | exact HI0.out), by repeat (first | (with_reducible first | exact HB.out | apply below_alloc | apply pw_below_drewN | apply below_drew1 | refine below_set ?_ (IsS81.ge HI0.out)) | exact HB.out), by repeat (first | (with_reducible first | exact HK.out | apply KeepBut.set_ | apply keep_drewN | apply keep_drew | apply keep_alloc) | exact HK.out)⟩
    · rw [if_neg c7] at H
      have c7b0 : decide (t184 < t183) = false := decide_eq_false c7
      clear c7
      replace H := Option.bind_eq_some_iff.mp H
      obtain ⟨t187, A120, H⟩ := H
      replace H : (bits_Reader_Take.l0 k 0 t187 0 s0_0 t185 t186) = some (r1, r2, r3) := H
      have A12 := Aside0.mk A120
      clear A120
      obtain rfl : t183 = t187 := Option.some.inj (A5.out.symm.trans A12.out)
      have H' := Aside0.mk H
      clear H
      obtain ⟨ASz13_0, cSz13_0, HGz13, hgz13, HSz13_0⟩ := HI0.out
      have hcz13_0 := cellS81_0 HGz13
      have hcz13_1 := cellS81_1 HGz13
      have hcz13_2 := cellS81_2 HGz13
      have hfz13_1 := blk_frozen HGz13 1
      have hfz13_2 := blk_frozen HGz13 2
      clear HGz13 hgz13
      go_enter Try.func28, Try.ntmps28
      go_wp2_with (first | (go_at_call 51; (with_reducible refine (bits_held.calls a1 t183 _ A5.out).mono ?_); rintro e w14 ⟨rfl, hb⟩; have n0_ := Aside0.mk (IsS81.below (by repeat (first | (with_reducible first | exact HI0.out | apply IsS81.alloc | apply IsS81.drewN | apply IsS81.drew | apply IsS81.set_1 | apply IsS81.set_2) | exact HI0.out)) hb); have n1_ := Aside0.mk (KeepBut.trans (by repeat (first | (with_reducible first | exact HK.out | apply KeepBut.set_ | apply keep_drewN | apply keep_drew | apply keep_alloc) | exact HK.out)) (KeepBut.of_below hb g none) (.inl rfl)); have n2_ := Aside0.mk (below_step (by repeat (first | (with_reducible first | exact HB.out | apply below_alloc | apply pw_below_drewN | apply below_drew1 | refine below_set ?_ (IsS81.ge HI0.out)) | exact HB.out)) hb); clear HI0; clear HK; clear HB; have HI0 := n0_; have HK := n1_; have HB := n2_; clear n0_ n1_ n2_; (try clear hb); (try clear hb2); (try clear hk); (try clear hi)) | (go_at_call 30; (with_reducible refine (bits_Reader_Left.calls g s0_0 s0_1 false t184 t185 t186 w0 _ ?side1 ?side2 A6.out).mono ?_); (case side1 => repeat (first | (with_reducible first | exact HI0.out | apply IsS81.alloc | apply IsS81.drewN | apply IsS81.drew | apply IsS81.set_1 | apply IsS81.set_2) | exact HI0.out)); (case side2 => repeat (first | (with_reducible first | exact HB.out | apply below_alloc | apply pw_below_drewN | apply below_drew1 | refine below_set ?_ (IsS81.ge HI0.out)) | exact HB.out)); rintro e w15 ⟨rfl, hi, hb, hk⟩; have n0_ := Aside0.mk (KeepBut.trans (by repeat (first | (with_reducible first | exact HK.out | apply KeepBut.set_ | apply keep_drewN | apply keep_drew | apply keep_alloc) | exact HK.out)) hk (.inl rfl)); have n1_ := Aside0.mk (hb); have n2_ := Aside0.mk (hi); clear HK; clear HB; clear HI0; have HK := n0_; have HB := n1_; have HI0 := n2_; clear n0_ n1_ n2_; (try clear hb); (try clear hb2); (try clear hk); (try clear hi)) | (go_at_call 51; (with_reducible refine (bits_held.calls a1 t183 _ A12.out).mono ?_); rintro e w16 ⟨rfl, hb⟩; have n0_ := Aside0.mk (IsS81.below (by repeat (first | (with_reducible first | exact HI0.out | apply IsS81.alloc | apply IsS81.drewN | apply IsS81.drew | apply IsS81.set_1 | apply IsS81.set_2) | exact HI0.out)) hb); have n1_ := Aside0.mk (KeepBut.trans (by repeat (first | (with_reducible first | exact HK.out | apply KeepBut.set_ | apply keep_drewN | apply keep_drew | apply keep_alloc) | exact HK.out)) (KeepBut.of_below hb g none) (.inl rfl)); have n2_ := Aside0.mk (below_step (by repeat (first | (with_reducible first | exact HB.out | apply below_alloc | apply pw_below_drewN | apply below_drew1 | refine below_set ?_ (IsS81.ge HI0.out)) | exact HB.out)) hb); clear HI0; clear HK; clear HB; have HI0 := n0_; have HK := n1_; have HB := n2_; clear n0_ n1_ n2_; (try clear hb); (try clear hb2); (try clear hk); (try clear hi)))
      repeat (go_quiet (first | (go_at_call 51; (with_reducible refine (bits_held.calls a1 t183 _ A5.out).mono ?_); rintro e w14 ⟨rfl, hb⟩; have n0_ := Aside0.mk (IsS81.below (by repeat (first | (with_reducible first | exact HI0.out | apply IsS81.alloc | apply IsS81.drewN | apply IsS81.drew | apply IsS81.set_1 | apply IsS81.set_2) | exact HI0.out)) hb); have n1_ := Aside0.mk (KeepBut.trans (by repeat (first | (with_reducible first | exact HK.out | apply KeepBut.set_ | apply keep_drewN | apply keep_drew | apply keep_alloc) | exact HK.out)) (KeepBut.of_below hb g none) (.inl rfl)); have n2_ := Aside0.mk (below_step (by repeat (first | (with_reducible first | exact HB.out | apply below_alloc | apply pw_below_drewN | apply below_drew1 | refine below_set ?_ (IsS81.ge HI0.out)) | exact HB.out)) hb); clear HI0; clear HK; clear HB; have HI0 := n0_; have HK := n1_; have HB := n2_; clear n0_ n1_ n2_; (try clear hb); (try clear hb2); (try clear hk); (try clear hi)) | (go_at_call 30; (with_reducible refine (bits_Reader_Left.calls g s0_0 s0_1 false t184 t185 t186 w0 _ ?side1 ?side2 A6.out).mono ?_); (case side1 => repeat (first | (with_reducible first | exact HI0.out | apply IsS81.alloc | apply IsS81.drewN | apply IsS81.drew | apply IsS81.set_1 | apply IsS81.set_2) | exact HI0.out)); (case side2 => repeat (first | (with_reducible first | exact HB.out | apply below_alloc | apply pw_below_drewN | apply below_drew1 | refine below_set ?_ (IsS81.ge HI0.out)) | exact HB.out)); rintro e w15 ⟨rfl, hi, hb, hk⟩; have n0_ := Aside0.mk (KeepBut.trans (by repeat (first | (with_reducible first | exact HK.out | apply KeepBut.set_ | apply keep_drewN | apply keep_drew | apply keep_alloc) | exact HK.out)) hk (.inl rfl)); have n1_ := Aside0.mk (hb); have n2_ := Aside0.mk (hi); clear HK; clear HB; clear HI0; have HK := n0_; have HB := n1_; have HI0 := n2_; clear n0_ n1_ n2_; (try clear hb); (try clear hb2); (try clear hk); (try clear hi)) | (go_at_call 51; (with_reducible refine (bits_held.calls a1 t183 _ A12.out).mono ?_); rintro e w16 ⟨rfl, hb⟩; have n0_ := Aside0.mk (IsS81.below (by repeat (first | (with_reducible first | exact HI0.out | apply IsS81.alloc | apply IsS81.drewN | apply IsS81.drew | apply IsS81.set_1 | apply IsS81.set_2) | exact HI0.out)) hb); have n1_ := Aside0.mk (KeepBut.trans (by repeat (first | (with_reducible first | exact HK.out | apply KeepBut.set_ | apply keep_drewN | apply keep_drew | apply keep_alloc) | exact HK.out)) (KeepBut.of_below hb g none) (.inl rfl)); have n2_ := Aside0.mk (below_step (by repeat (first | (with_reducible first | exact HB.out | apply below_alloc | apply pw_below_drewN | apply below_drew1 | refine below_set ?_ (IsS81.ge HI0.out)) | exact HB.out)) hb); clear HI0; clear HK; clear HB; have HI0 := n0_; have HK := n1_; have HB := n2_; clear n0_ n1_ n2_; (try clear hb); (try clear hb2); (try clear hk); (try clear hi))); try go_wp2_with (first | (go_at_call 51; (with_reducible refine (bits_held.calls a1 t183 _ A5.out).mono ?_); rintro e w14 ⟨rfl, hb⟩; have n0_ := Aside0.mk (IsS81.below (by repeat (first | (with_reducible first | exact HI0.out | apply IsS81.alloc | apply IsS81.drewN | apply IsS81.drew | apply IsS81.set_1 | apply IsS81.set_2) | exact HI0.out)) hb); have n1_ := Aside0.mk (KeepBut.trans (by repeat (first | (with_reducible first | exact HK.out | apply KeepBut.set_ | apply keep_drewN | apply keep_drew | apply keep_alloc) | exact HK.out)) (KeepBut.of_below hb g none) (.inl rfl)); have n2_ := Aside0.mk (below_step (by repeat (first | (with_reducible first | exact HB.out | apply below_alloc | apply pw_below_drewN | apply below_drew1 | refine below_set ?_ (IsS81.ge HI0.out)) | exact HB.out)) hb); clear HI0; clear HK; clear HB; have HI0 := n0_; have HK := n1_; have HB := n2_; clear n0_ n1_ n2_; (try clear hb); (try clear hb2); (try clear hk); (try clear hi)) | (go_at_call 30; (with_reducible refine (bits_Reader_Left.calls g s0_0 s0_1 false t184 t185 t186 w0 _ ?side1 ?side2 A6.out).mono ?_); (case side1 => repeat (first | (with_reducible first | exact HI0.out | apply IsS81.alloc | apply IsS81.drewN | apply IsS81.drew | apply IsS81.set_1 | apply IsS81.set_2) | exact HI0.out)); (case side2 => repeat (first | (with_reducible first | exact HB.out | apply below_alloc | apply pw_below_drewN | apply below_drew1 | refine below_set ?_ (IsS81.ge HI0.out)) | exact HB.out)); rintro e w15 ⟨rfl, hi, hb, hk⟩; have n0_ := Aside0.mk (KeepBut.trans (by repeat (first | (with_reducible first | exact HK.out | apply KeepBut.set_ | apply keep_drewN | apply keep_drew | apply keep_alloc) | exact HK.out)) hk (.inl rfl)); have n1_ := Aside0.mk (hb); have n2_ := Aside0.mk (hi); clear HK; clear HB; clear HI0; have HK := n0_; have HB := n1_; have HI0 := n2_; clear n0_ n1_ n2_; (try clear hb); (try clear hb2); (try clear hk); (try clear hi)) | (go_at_call 51; (with_reducible refine (bits_held.calls a1 t183 _ A12.out).mono ?_); rintro e w16 ⟨rfl, hb⟩; have n0_ := Aside0.mk (IsS81.below (by repeat (first | (with_reducible first | exact HI0.out | apply IsS81.alloc | apply IsS81.drewN | apply IsS81.drew | apply IsS81.set_1 | apply IsS81.set_2) | exact HI0.out)) hb); have n1_ := Aside0.mk (KeepBut.trans (by repeat (first | (with_reducible first | exact HK.out | apply KeepBut.set_ | apply keep_drewN | apply keep_drew | apply keep_alloc) | exact HK.out)) (KeepBut.of_below hb g none) (.inl rfl)); have n2_ := Aside0.mk (below_step (by repeat (first | (with_reducible first | exact HB.out | apply below_alloc | apply pw_below_drewN | apply below_drew1 | refine below_set ?_ (IsS81.ge HI0.out)) | exact HB.out)) hb); clear HI0; clear HK; clear HB; have HI0 := n0_; have HK := n1_; have HB := n2_; clear n0_ n1_ n2_; (try clear hb); (try clear hb2); (try clear hk); (try clear hi))))
      go_loopg [5, 24] k (fun kq v5 v24 w' => ∃ (x5_1 : Int) (x24_1 : Int) (x1001_1 : Int), v5 = .int .u64 x5_1 ∧ v24 = .int .i64 x24_1 ∧ Aside0 (bits_Reader_Take.l0 kq x5_1 t183 x24_1 s0_0 x1001_1 t186 = some (r1, r2, r3)) ∧ Aside0 (kq ≤ k) ∧ Aside0 (IsS81 w0 w' g s0_0 x1001_1 t186) ∧ Aside0 (KeepBut w w' g none) ∧ Aside0 (Below w0.heap.size w0 w'))
      case atStart => exact ⟨(0), (0), (t185), (by first | rfl | (simp; done) | (simp [*]; done)), (by first | rfl | (simp; done) | (simp [*]; done)), H', ⟨Nat.le_refl _⟩, ⟨by repeat (first | (with_reducible first | exact HI0.out | apply IsS81.alloc | apply IsS81.drewN | apply IsS81.drew | apply IsS81.set_1 | apply IsS81.set_2) | exact HI0.out)⟩, ⟨by repeat (first | (with_reducible first | exact HK.out | apply KeepBut.set_ | apply keep_drewN | apply keep_drew | apply keep_alloc) | exact HK.out)⟩, ⟨by repeat (first | (with_reducible first | exact HB.out | apply below_alloc | apply pw_below_drewN | apply below_drew1 | refine below_set ?_ (IsS81.ge HI0.out)) | exact HB.out)⟩⟩
      case round =>
        clear H'
        try clear c2
        try clear p2
        try clear c3
        try clear c7
        try clear c7b0
        try clear hcz11_0
        try clear hcz11_1
        try clear hcz11_2
        try clear hcz13_0
        try clear hcz13_1
        try clear hcz13_2
        try clear hcz4_0
        try clear hcz4_1
        try clear hcz4_2
        try clear hcz8_0
        try clear hcz8_1
        try clear hcz8_2
        try clear hfz11_1
        try clear hfz11_2
        try clear hfz13_1
        try clear hfz13_2
        try clear hfz4_1
        try clear hfz4_2
        try clear hfz8_1
        try clear hfz8_2
        obtain ⟨x5_1, x24_1, x1001_1, rfl, rfl, HA, HK1, HI0, HK, HB⟩ := hrel
        cases gk with
        | zero => exact absurd HA.out (by simp [bits_Reader_Take.l0])
        | succ k1 =>
          have H := HA.out
          clear HA
          simp only [bits_Reader_Take.l0] at H
          by_cases c17 : x24_1 < t183
          · rw [if_pos c17] at H
            have c17b0 : decide (x24_1 < t183) = true := decide_eq_true c17
            clear c17
            obtain ⟨ji18, hji18⟩ : ∃ j_ : Int, (wrap64 (Int.tdiv x1001_1 8)) = j_ := ⟨_, rfl⟩
            replace H : (if 0 ≤ (ji18) then (if (ji18) < (s0_0.length : Int) then (if 0 ≤ (wrap64 (7 - (Int.tmod x1001_1 8))) then (bits_Reader_Take.l0 k1 (Go.bits .or .u64 (IntKind.u64.wrap (x5_1 * 2)) (IntKind.u64.wrap (Go.bits .and .u8 (shr .u8 (rd s0_0 (ji18)) (wrap64 (7 - (Int.tmod x1001_1 8)))) 1))) t183 (wrap64 (x24_1 + 1)) s0_0 (wrap64 (x1001_1 + 1)) t186) else (none)) else (none)) else (none)) = some (r1, r2, r3) := by first | (rw [hji18] at H; exact H) | (simp only [hji18] at H ⊢; exact H)
            have hji18w : (IntKind.i64.wrap (Int.tdiv x1001_1 8)) = ji18 := (i64_w _).trans hji18
            by_cases c19 : 0 ≤ (ji18)
            · rw [if_pos c19] at H
              have c19b0 : decide (0 ≤ (ji18)) = true := decide_eq_true c19
              clear c19
              by_cases c20 : (ji18) < (s0_0.length : Int)
              · rw [if_pos c20] at H
                have c20b0 : decide ((ji18) < (s0_0.length : Int)) = true := decide_eq_true c20
                clear c20
                obtain ⟨ji21, hji21⟩ : ∃ j_ : Int, (wrap64 (7 - (Int.tmod x1001_1 8))) = j_ := ⟨_, rfl⟩
                replace H : (if 0 ≤ (ji21) then (bits_Reader_Take.l0 k1 (Go.bits .or .u64 (IntKind.u64.wrap (x5_1 * 2)) (IntKind.u64.wrap (Go.bits .and .u8 (shr .u8 (rd s0_0 (ji18)) (ji21)) 1))) t183 (wrap64 (x24_1 + 1)) s0_0 (wrap64 (x1001_1 + 1)) t186) else (none)) = some (r1, r2, r3) := by first | (rw [hji21] at H; exact H) | (simp only [hji21] at H ⊢; exact H)
                have hji21w : (IntKind.i64.wrap (7 - (Int.tmod x1001_1 8))) = ji21 := (i64_w _).trans hji21
                by_cases c22 : 0 ≤ (ji21)
                · rw [if_pos c22] at H
                  have c22b0 := eq_true c22
                  have c22b1 : decide (0 ≤ (ji21)) = true := decide_eq_true c22
                  clear c22
                  obtain ⟨ji23, hji23⟩ : ∃ j_ : Int, (shr .u8 (rd s0_0 (ji18)) (ji21)) = j_ := ⟨_, rfl⟩
                  replace H : (bits_Reader_Take.l0 k1 (Go.bits .or .u64 (IntKind.u64.wrap (x5_1 * 2)) (IntKind.u64.wrap (Go.bits .and .u8 (ji23) 1))) t183 (wrap64 (x24_1 + 1)) s0_0 (wrap64 (x1001_1 + 1)) t186) = some (r1, r2, r3) := by first | (rw [hji23] at H; exact H) | (simp only [hji23] at H ⊢; exact H)
                  have hji23_ : ((rd s0_0 (ji18)) / 2 ^ min (ji21).toNat 8) = ji23 := hji23
                  have hji23z : (ji21) ≤ 8 → ((rd s0_0 (ji18)) / 2 ^ (ji21).toNat) = ji23 := shr_small hji23
                  have H' := Aside0.mk H
                  clear H
                  obtain ⟨ASz24_0, cSz24_0, HGz24, hgz24, HSz24_0⟩ := HI0.out
                  have hcz24_0 := cellS81_0 HGz24
                  have hcz24_1 := cellS81_1 HGz24
                  have hcz24_2 := cellS81_2 HGz24
                  have hfz24_1 := blk_frozen HGz24 1
                  have hfz24_2 := blk_frozen HGz24 2
                  clear HGz24 hgz24
                  have p188 : 0 ≤ ((ji18) : Int) := of_decide_eq_true (by first | (with_reducible assumption) | assumption)
                  have q188 : (ji18) < (s0_0.length : Int) := of_decide_eq_true (by first | (with_reducible assumption) | assumption)
                  obtain ⟨ad188, e188, hx188_0⟩ := Kd.at_int HSz24_0 (ji18) p188 q188
                  cases e188
                  replace hx188_0 := pw_cell_below HB.out hx188_0
                  replace p188 := eq_true p188
                  replace q188 := eq_true q188
                  go_wp2
                  repeat (go_quiet (fail); try go_wp2)
                  go_roundg k1
                  case measure => have := HK1.out; omega
                  case rel => exact ⟨(Go.bits .or .u64 (IntKind.u64.wrap (x5_1 * 2)) (IntKind.u64.wrap (Go.bits .and .u8 (ji23) 1))), (wrap64 (x24_1 + 1)), (wrap64 (x1001_1 + 1)), (by first | rfl | (simp; done) | (simp only [← hji23] <;> (first | rfl | simp)) | (simp [*]; done)), (by first | rfl | (simp; done) | (simp [*]; done)), H', ⟨by have := HK1.out; omega⟩, ⟨by repeat (first | (with_reducible first | exact HI0.out | apply IsS81.alloc | apply IsS81.drewN | apply IsS81.drew | apply IsS81.set_1 | apply IsS81.set_2) | exact HI0.out)⟩, ⟨by repeat (first | (with_reducible first | exact HK.out | apply KeepBut.set_ | apply keep_drewN | apply keep_drew | apply keep_alloc) | exact HK.out)⟩, ⟨by repeat (first | (with_reducible first | exact HB.out | apply below_alloc | apply pw_below_drewN | apply below_drew1 | refine below_set ?_ (IsS81.ge HI0.out)) | exact HB.out)⟩⟩
                · rw [if_neg c22] at H
                  exact absurd H (by simp)
              · rw [if_neg c20] at H
                exact absurd H (by simp)
            · rw [if_neg c19] at H
              exact absurd H (by simp)
          · rw [if_neg c17] at H
            have c17b0 : decide (x24_1 < t183) = false := decide_eq_false c17
            clear c17
            simp only [Option.some.injEq, Prod.mk.injEq] at H
            obtain ⟨rfl, rfl, rfl⟩ := H
            go_wp2
            repeat (go_quiet (fail); try go_wp2)
            go_ret
            exact ⟨by first | rfl | (simp [errW_none, errW_some] <;> rfl) | (simp [*, errW_none, errW_some] <;> rfl), by repeat (first | (with_reducible first | exact HI0.out | apply IsS81.alloc | apply IsS81.drewN | apply IsS81.drew | apply IsS81.set_1 | apply IsS81.set_2) | exact HI0.out), by repeat (first | (with_reducible first | exact HB.out | apply below_alloc | apply pw_below_drewN | apply below_drew1 | refine below_set ?_ (IsS81.ge HI0.out)) | exact HB.out), by repeat (first | (with_reducible first | exact HK.out | apply KeepBut.set_ | apply keep_drewN | apply keep_drew | apply keep_alloc) | exact HK.out)⟩

end Go.Proofs.Ytmlbppfcpejlpaa.X

-- Printed by this session's own program (wip/xprint.py) over the translation; its external functions are hand-written. Lean checks it.
namespace Go.Proofs.Ytmlbppfcpejlpaa.X
open Go.RowKit Go.Proofs.YtmlbppfcpejlpaaW.PrintWords Go.Proofs.YtmlbppfcpejlpaaW.PrintLast Go.Proofs.YtmlbppfcpejlpaaW.PrintMore
attribute [local go_sem] max2_int min2_int max_two min_two max_three min_three max_four min_four   -- for this text's walks alone
set_option linter.unusedVariables false
set_option linter.unusedSimpArgs false

/-! ### bits_Reader_Bad: function 29 -/
def bits_Reader_Bad.f (s0_0 : List Int) (s0_1 : Int) (s0_2 : Bool) : Option (Bool × Int × Bool) := some (s0_2, s0_1, s0_2)
set_option maxHeartbeats 8000000 in
set_option maxRecDepth 100000 in
theorem bits_Reader_Bad.calls (g : Nat) (s0_0 : List Int) (s0_1 : Int) (s0_2 : Bool) (r1 : Bool) (r2 : Int) (r3 : Bool) (w0 w : World) (hI : IsS81 w0 w g s0_0 s0_1 s0_2) (hB : Below w0.heap.size w0 w) (h : bits_Reader_Bad.f s0_0 s0_1 s0_2 = some (r1, r2, r3)) :
    Calls Try.prog 29 #[.pointer (some ⟨g, 0, none⟩)] w fun e w' => e = .returned (.bool r1) ∧ IsS81 w0 w' g s0_0 r2 r3 ∧ Below w0.heap.size w0 w' ∧ KeepBut w w' g none := by
  have HI0 := Aside0.mk hI
  have HK := Aside0.mk (KeepBut.refl w g none)
  have HL := Aside0.mk hB.size
  clear hI
  have HW0 := Aside0.mk hB.size
  have HB := Aside0.mk hB
  clear hB
  have H : (some (s0_2, s0_1, s0_2)) = some (r1, r2, r3) := h
  clear h
  simp only [Option.some.injEq, Prod.mk.injEq] at H
  obtain ⟨rfl, rfl, rfl⟩ := H
  obtain ⟨ASz2_0, cSz2_0, HGz2, hgz2, HSz2_0⟩ := HI0.out
  have hcz2_0 := cellS81_0 HGz2
  have hcz2_1 := cellS81_1 HGz2
  have hcz2_2 := cellS81_2 HGz2
  have hfz2_1 := blk_frozen HGz2 1
  have hfz2_2 := blk_frozen HGz2 2
  clear HGz2 hgz2
  go_enter Try.func29, Try.ntmps29
  go_wp2
  go_ret
  exact ⟨by first | rfl | (simp [errW_none, errW_some] <;> rfl) | (simp [*, errW_none, errW_some] <;> rfl), by repeat (first | (with_reducible first | exact HI0.out | apply IsS81.alloc | apply IsS81.drewN | apply IsS81.drew | apply IsS81.set_1 | apply IsS81.set_2) | exact HI0.out), by repeat (first | (with_reducible first | exact HB.out | apply below_alloc | apply pw_below_drewN | apply below_drew1 | refine below_set ?_ (IsS81.ge HI0.out)) | exact HB.out), by repeat (first | (with_reducible first | exact HK.out | apply KeepBut.set_ | apply keep_drewN | apply keep_drew | apply keep_alloc) | exact HK.out)⟩

end Go.Proofs.Ytmlbppfcpejlpaa.X

/- The walks of layer 4: a writer's bytes, and a new reader. No conditions. -/
namespace Go.Proofs.Ytmlbppfcpejlpaa.W04
open Go Go.RowKit Go.Proofs.YtmlbppfcpejlpaaW.PrintWords Go.Proofs.YtmlbppfcpejlpaaW.PrintLast Go.Proofs.YtmlbppfcpejlpaaW.PrintMore Go.Proofs.Ytmlbppfcpejlpaa.S Go.Proofs.Ytmlbppfcpejlpaa.B Go.Proofs.Ytmlbppfcpejlpaa.X
attribute [local go_sem] max2_int min2_int max_two min_two max_three min_three max_four min_four
set_option linter.unusedVariables false
set_option linter.unusedSimpArgs false

theorem packB_small {l : List Int} (h : l.length < 1000000000000) : bytes_Clone.f (packB l) = some (packB l) := by
  unfold bytes_Clone.f
  rw [if_pos (by rw [packB_len]; omega)]

def Gives (B : Nat) (xs : List Int) (w : World) (e : Ending) (w' : World) : Prop :=
  ∃ v0 : Value, e = .returned v0 ∧ Kd.R (Kd.int .u8) 5 w' B (fun _ => True) v0 xs ∧ Below w.heap.size w w'
set_option maxHeartbeats 4000000 in
theorem bytes_calls (g : Nat) (v : Value) (l : List Int) (w0 w : World) (hI : WAt w0 w g v l) (hl : l.length < 1000000000000) :
    Calls Try.prog 27 #[.pointer (some ⟨g, 0, none⟩)] w (Gives w.heap.size (packB l) w) := by
  obtain ⟨A, c, rfl, hc, hr⟩ := Kd.R_reads hI.2.2.1
  have hc0 := hI.cell0
  have HC := Aside0.mk hc
  have HR := Aside0.mk hr
  have HP := Aside0.mk (packB_small hl)
  clear hI hc hr hl
  go_enter Try.func27, Try.ntmps27
  go_wp2_with (go_at_call 50; (with_reducible refine (bytes_Clone.calls _ _ (packB l) (packB l) _ HR.out HC.out HP.out).mono ?_); rintro e w1 ⟨v0, rfl, hR, hB⟩; have HRR := Aside0.mk hR; have HBB := Aside0.mk hB; clear hR hB)
  go_ret
  exact ⟨_, rfl, HRR.out, HBB.out⟩

/-- A new reader: its own copy of the bytes, made behind the old world and ahead of the one that is told. -/
def NewAt (l : List Int) (w : World) (e : Ending) (w' : World) : Prop :=
  ∃ (g : Nat) (w1 : World), e = .returned (.pointer (some ⟨g, 0, none⟩)) ∧ Below w.heap.size w w1 ∧ IsS81 w1 w' g l 0 false ∧ Below w1.heap.size w1 w'
set_option maxHeartbeats 4000000 in
theorem new_calls (A0 : Option Addr) (c0 : Nat) (l : List Int) (w : World) (hr0 : Kd.C (Kd.int .u8) w A0 l.length l) (hc0 : l.length ≤ c0) (hl : l.length < 140737488355328) :
    Calls Try.prog 33 #[.slice A0 l.length c0] w (NewAt l w) := by
  have HR := Aside0.mk hr0
  have HC := Aside0.mk hc0
  have HP : Aside0 (bytes_Clone.f l = some l) := ⟨by unfold bytes_Clone.f; rw [if_pos hl]⟩
  clear hr0 hc0 hl
  go_enter Try.func33, Try.ntmps33
  go_wp2_with (go_at_call 50; (with_reducible refine (bytes_Clone.calls _ _ l l _ HR.out HC.out HP.out).mono ?_); rintro e w1 ⟨v0, rfl, hR, hB⟩; obtain ⟨A1, c1, rfl, hc1, hr1⟩ := Kd.R_reads hR; have HRR := Aside0.mk hr1; have HBB := Aside0.mk hB; clear hR hB hc1 hr1)
  go_ret
  exact ⟨_, w1, rfl, HBB.out, IsS81.new w1 w1 A1 c1 l 0 false (Below.refl _ _) HRR.out, (Below.refl _ _).alloc (Nat.le_refl _) _⟩
end Go.Proofs.Ytmlbppfcpejlpaa.W04

/- A new writer, and words for walks that hold a writer and a reader. No conditions. -/
namespace Go.Proofs.Ytmlbppfcpejlpaa.W04
open Go Go.RowKit Go.Proofs.YtmlbppfcpejlpaaW.PrintWords Go.Proofs.YtmlbppfcpejlpaaW.PrintLast Go.Proofs.YtmlbppfcpejlpaaW.PrintMore Go.Proofs.Ytmlbppfcpejlpaa.S Go.Proofs.Ytmlbppfcpejlpaa.B Go.Proofs.Ytmlbppfcpejlpaa.X
set_option linter.unusedVariables false
set_option linter.unusedSimpArgs false
theorem wat_new (w0 W : World) (hB : Below w0.heap.size w0 W) : WAt w0 (W.alloc (.cells #[.slice none 0 0, .int .i64 0] 48)) W.heap.size (.slice none 0 0) [] :=
  ⟨by simpa using heap_alloc_new W _, hB.size, Kd.R_nil _ _ _ _ _, Bits.nil⟩
end Go.Proofs.Ytmlbppfcpejlpaa.W04

-- Printed by this session's own program (wip/xprint.py) over the translation; its external functions are hand-written. Lean checks it.
namespace Go.Proofs.Ytmlbppfcpejlpaa.X
open Go.RowKit Go.Proofs.YtmlbppfcpejlpaaW.PrintWords Go.Proofs.YtmlbppfcpejlpaaW.PrintLast Go.Proofs.YtmlbppfcpejlpaaW.PrintMore
attribute [local go_sem] max2_int min2_int max_two min_two max_three min_three max_four min_four   -- for this text's walks alone
set_option linter.unusedVariables false
set_option linter.unusedSimpArgs false

/-! ### slices_Repeat_uint64_uint64: function 55 -/
open Go.Proofs.Ytmlbppfcpejlpaa.S Go.Proofs.Ytmlbppfcpejlpaa.W04
attribute [local go_sem ↓] Go.wp_at_zero Go.wp_at_succ
/-- One value, so often: up to the greatest count of samples. -/
def slices_Repeat_uint64_uint64.f (l0 : List Int) (a1 : Int) : Option (List Int) := if l0.length = 1 ∧ 1 ≤ a1 ∧ a1 ≤ 200 then some (List.replicate a1.toNat (rd l0 0)) else none
def slices_Repeat_uint64_uint64.blk (x : Int) (j n : Nat) : List Value := List.replicate j (.int .u64 x) ++ List.replicate (n - j) (.int .u64 0)
theorem slices_Repeat_uint64_uint64.blk_len (x : Int) {j n : Nat} (h : j ≤ n) : (slices_Repeat_uint64_uint64.blk x j n).length = n := by simp [slices_Repeat_uint64_uint64.blk]; omega
theorem slices_Repeat_uint64_uint64.mul_all : ∀ k : Fin 201, bits_Mul.f 1 ((k.val : Nat) : Int) = some (0, ((k.val : Nat) : Int)) := by decide +kernel
theorem slices_Repeat_uint64_uint64.mul (k : Int) (h0 : 0 ≤ k) (h1 : k ≤ 200) : bits_Mul.f 1 k = some (0, k) := by
  have := slices_Repeat_uint64_uint64.mul_all ⟨k.toNat, by omega⟩
  simpa [show ((k.toNat : Nat) : Int) = k by omega] using this
theorem slices_Repeat_uint64_uint64.made (n : Nat) : madeCells #[.int .u64 0] n = (List.replicate n (.int .u64 0)).toArray := by
  unfold madeCells
  apply Array.ext
  · simp
  · intro i h1 h2
    simp [Nat.mod_one]
theorem slices_Repeat_uint64_uint64.first (x : Int) {n : Nat} (hn : 1 ≤ n) : splice (List.replicate n (.int .u64 0)) 0 [Value.int .u64 x] = slices_Repeat_uint64_uint64.blk x 1 n := by
  simp [splice, slices_Repeat_uint64_uint64.blk]
theorem slices_Repeat_uint64_uint64.next (x : Int) {j m n : Nat} (h : j + m ≤ n) : splice (slices_Repeat_uint64_uint64.blk x j n) j (List.replicate m (.int .u64 x)) = slices_Repeat_uint64_uint64.blk x (j + m) n := by
  unfold splice slices_Repeat_uint64_uint64.blk
  rw [List.take_left' (by simp), List.length_replicate, ← List.drop_drop, List.drop_left' (by simp), List.drop_replicate, ← List.append_assoc, List.replicate_append_replicate, Nat.sub_sub]
theorem slices_Repeat_uint64_uint64.cut1 (W : World) (g kn j : Nat) (hj : j < kn) : (Instr.slice 34 (.slice (some ⟨g, 0, none⟩) kn kn) (some (.int .i64 (j : Int))) none none).run Try.prog W = .ok (.slice (some ⟨g, j, none⟩) (kn - j) (kn - j)) W := by
  have h1 : (0 : Int) ≤ (j : Int) := by omega
  have h2 : (j : Int) ≤ (kn : Int) := by omega
  obtain ⟨i0, hi0, hz0, hsz0, hby0⟩ := info_parts info23
  rw [run_slice_l (t := 34) (len := kn) (cap := kn) (ht := by kernel_rfl) (kl := .i64) (h0 := h1) (h1 := h2)]
  simp [sizeOf, typeInfo, hi0, hsz0, sliced, go_sem, Addr.add]
  rw [if_neg (by omega)]
  split
  · rename_i e; subst e; rfl
  · rfl
theorem slices_Repeat_uint64_uint64.cut2 (W : World) (g kn j : Nat) (hj : j < kn) : (Instr.slice 34 (.slice (some ⟨g, 0, none⟩) kn kn) none (some (.int .i64 (j : Int))) none).run Try.prog W = .ok (.slice (some ⟨g, 0, none⟩) j kn) W := by
  have h1 : (0 : Int) ≤ (j : Int) := by omega
  have h2 : (j : Int) ≤ (kn : Int) := by omega
  obtain ⟨i0, hi0, hz0, hsz0, hby0⟩ := info_parts info23
  rw [run_slice_h (t := 34) (len := kn) (cap := kn) (ht := by kernel_rfl) (kh := .i64) (h0 := h1) (h2 := h2)]
  simp [sizeOf, typeInfo, hi0, hsz0, sliced, go_sem, Addr.add]
theorem slices_Repeat_uint64_uint64.src (x : Int) {w : World} {g j kn : Nat} (hj : j ≤ kn) (hg : w.heap[g]? = some (.cells (slices_Repeat_uint64_uint64.blk x j kn).toArray 23 (0, 0))) {m : Nat} (hm : m ≤ j) : ∀ i v, (List.replicate m (Value.int .u64 x))[i]? = some v → w.cell? ((⟨g, 0, none⟩ : Addr).add i) = some v := by
  intro i v hv
  have hi : i < m := by
    have := (List.getElem?_eq_some_iff.1 hv).1
    simpa using this
  have e : v = .int .u64 x := by
    rw [List.getElem?_replicate, if_pos hi] at hv
    exact (Option.some.inj hv).symm
  have ha : (⟨g, 0, none⟩ : Addr).add i = ⟨g, i, none⟩ := by unfold Addr.add; split <;> simp_all
  rw [ha, blk_cell hg i, e]
  have : i < j := by omega
  simp [slices_Repeat_uint64_uint64.blk, List.getElem?_append_left, this]
def slices_Repeat_uint64_uint64.Gives (B : Nat) (xs : List Int) (w : World) (e : Ending) (w' : World) : Prop :=
  ∃ v0_ : Value, e = .returned (v0_) ∧ Kd.R (Kd.int .u64) 23 w' B (fun _ => True) v0_ xs ∧ Below w.heap.size w w'
set_option maxHeartbeats 8000000 in
set_option maxRecDepth 100000 in
theorem slices_Repeat_uint64_uint64.calls_main (A0 : Option Addr) (c0 : Nat) (l0 : List Int) (k : Int) (w : World) (hr0 : Kd.C (Kd.int .u64) w A0 l0.length l0) (hc0 : l0.length ≤ c0) (hl : l0.length = 1) (k0 : 1 ≤ k) (k1 : k ≤ 200) :
    Calls Try.prog 55 #[.slice A0 l0.length c0, .int .i64 k] w (slices_Repeat_uint64_uint64.Gives w.heap.size (List.replicate k.toNat (rd l0 0)) w) := by
  obtain ⟨kn, hkn⟩ : ∃ kn : Nat, (kn : Int) = k := ⟨k.toNat, by omega⟩
  have HKN := Aside0.mk hkn
  have hkt : k.toNat = kn := by omega
  rw [hkt]
  clear hkt
  obtain ⟨i0, hi0, hz0, hsz0, hby0⟩ := info_parts info23
  obtain ⟨ad, hA, hx⟩ := Kd.at_int hr0 0 (Int.le_refl 0) (by rw [hl]; decide)
  obtain ⟨xv, hxv⟩ : ∃ x, rd l0 0 = x := ⟨_, rfl⟩
  rw [hxv] at hx ⊢
  cases hA
  have hm := slices_Repeat_uint64_uint64.mul k (by omega) k1
  have HM := Aside0.mk hm
  have hu : IntKind.u64.wrap k = k := wrap_u64_id (by omega) (by omega)
  rw [hl] at hc0 ⊢
  have hk0 : decide (k < 0) = false := by simp; omega
  have hk2 : decide (9223372036854775807 < k) = false := by simp; omega
  have HX := Aside0.mk hx
  clear hr0 hxv hm hl hx hkn
  go_enter Try.func55, Try.ntmps55
  go_wp2_with (first
    | (go_at_call 65; (with_reducible refine (bits_Mul.calls _ _ _ _ _ HM.out).mono ?_); rintro e w1 ⟨rfl, hd⟩; have HB1 := Aside0.mk (Drawn0.below hd); clear hd)
    | ((with_reducible refine gate_dst (N := 30) rfl ?_); refine wpList_make_row _ rfl (.tmp 29) (.tmp 29) 34 rfl 23 i0 (.int .u64 0) Try.underlying34 hi0 hz0 hsz0 rfl .i64 .i64 kn (by show Value.int .i64 k = _; rw [HKN.out]) (by show Value.int .i64 k = _; rw [HKN.out]) (by rw [hby0]; have := HKN.out; omega) (by have := HKN.out; omega) ?_; have hg2 : (w1.alloc (.cells (madeCells #[.int .u64 0] kn) 23)).heap[w1.heap.size]? = some (.cells (List.replicate kn (.int .u64 0)).toArray 23 (0, 0)) := (heap_alloc_new w1 _).trans (by rw [slices_Repeat_uint64_uint64.made]); have hb2 := below_alloc HB1.out (.cells (madeCells #[.int .u64 0] kn) 23); have hge := HB1.out.size; obtain ⟨g, hgq⟩ : ∃ g, w1.heap.size = g := ⟨_, rfl⟩; rw [hgq] at hg2 hge ⊢; clear hgq; generalize w1.alloc (.cells (madeCells #[.int .u64 0] kn) 23) = w2 at hg2 hb2 ⊢; have HG2 := Aside0.mk hg2; have HB2 := Aside0.mk hb2; clear hg2 hb2 HB1)
    | ((with_reducible refine gate_builtin (b := .copy) (xs := #[.tmp 31, .tmp 32]) rfl ?_); refine wpList_copy_splice rfl (.tmp 31) (.tmp 32) 34 34 rfl 23 Try.underlying34 (by rw [hi0]; simp [hsz0]) _ _ _ _ _ _ rfl rfl g 0 (List.replicate kn (.int .u64 0)) 23 HG2.out [.int .u64 xv] ?hn ?hpos ?hfit ?h1 w.heap.size w HB2.out hge ?_; (case hn => have := HKN.out; simp [Nat.min_def]; omega); (case hpos => exact fun _ => ⟨rfl, ad, rfl, fun j v hj => by
        cases j with
        | zero => simp at hj; subst hj; exact pw_cell_below HB2.out HX.out
        | succ j => simp at hj⟩); (case hfit => have := HKN.out; simp; omega); (case h1 => intro v hv; simp at hv; subst hv; rfl); intro w3 hg3 hb3; have HG3 : Aside0 (w3.heap[g]? = some (.cells (slices_Repeat_uint64_uint64.blk xv 1 kn).toArray 23 (0, 0))) := ⟨by have := hg3.out; rwa [slices_Repeat_uint64_uint64.first xv (by have := HKN.out; omega)] at this⟩; have HB3 := Aside0.mk hb3; clear hg3 hb3 HG2 HB2))
  go_loopw [8] (fun v8 wr => ∃ (j : Nat) (jj : Int), v8 = .int .i64 jj ∧ Aside0 (jj = (j : Int)) ∧ Aside0 (1 ≤ j ∧ j ≤ kn) ∧ Aside0 (wr.heap[g]? = some (.cells (slices_Repeat_uint64_uint64.blk xv j kn).toArray 23 (0, 0))) ∧ Aside0 (Below w.heap.size w wr)) (fun v8 _ => ((kn : Int) - intOf v8).toNat)
  case atStart => exact ⟨1, 1, rfl, ⟨rfl⟩, ⟨Nat.le_refl _, by have := HKN.out; omega⟩, HG3, HB3⟩
  case round =>
    clear HG3 HB3
    obtain ⟨j, jj, rfl, HJ, HJ1, HG, HB⟩ := hrel
    have hj0 : 0 ≤ jj := by have := HJ.out; omega
    have hj1 : jj ≤ 200 := by have := HJ.out; have := HJ1.out; have := HKN.out; omega
    by_cases hlt : j < kn
    · have hj2 : decide (jj < (kn : Int)) = true := by have := HJ.out; simp; omega
      have hs1 : ∀ W, (Instr.slice 34 (.slice (some ⟨g, 0, none⟩) kn kn) (some (.int .i64 jj)) none none).run Try.prog W = .ok (.slice (some ⟨g, j, none⟩) (kn - j) (kn - j)) W := by rw [HJ.out]; exact fun W => slices_Repeat_uint64_uint64.cut1 W g kn j hlt
      have hs2 : ∀ W, (Instr.slice 34 (.slice (some ⟨g, 0, none⟩) kn kn) none (some (.int .i64 jj)) none).run Try.prog W = .ok (.slice (some ⟨g, 0, none⟩) j kn) W := by rw [HJ.out]; exact fun W => slices_Repeat_uint64_uint64.cut2 W g kn j hlt
      obtain ⟨m, hm⟩ : ∃ m, m = Nat.min j (kn - j) := ⟨_, rfl⟩
      obtain ⟨mm, hmm⟩ : ∃ mm : Int, mm = (m : Int) := ⟨_, rfl⟩
      have hm1 : m ≤ j ∧ m ≤ kn - j ∧ 1 ≤ m := by have := HJ1.out; rw [hm]; simp [Nat.min_def]; split <;> omega
      have hmm0 : 0 ≤ mm := by omega
      have hmm1 : mm ≤ 200 := by have := HKN.out; omega
      have HM' := Aside0.mk hm
      have HMM := Aside0.mk hmm
      have HM1 := Aside0.mk hm1
      obtain ⟨sm, hsm⟩ : ∃ sm : Int, sm = jj + mm := ⟨_, rfl⟩
      have hsw : IntKind.i64.wrap (jj + mm) = sm := by rw [IntKind.wrap_i64]; omega
      have HSM := Aside0.mk hsm
      clear hm hmm hm1 hsm
      go_wp2
      have HG7 : Aside0 (wr.drew.heap[g]? = some (.cells (slices_Repeat_uint64_uint64.blk xv j kn).toArray 23 (0, 0))) := ⟨HG.out⟩
      have HB7 : Aside0 (Below w.heap.size w wr.drew) := ⟨below_drew1 HB.out⟩
      clear HG HB
      have hszm : (Try.prog.info? 23).map (·.size) = some 1 := by rw [hi0]; simp [hsz0]
      have HSZ := Aside0.mk hszm
      clear hszm
      go_region_held3 (fun w' => True) (trivial) ((refine step_copy_splice (by rfl) (.tmp 41) (.tmp 44) 34 34 (by rfl) 23 Try.underlying34 HSZ.out _ _ _ _ _ _ (by rfl) (by rfl) g j (slices_Repeat_uint64_uint64.blk xv j kn) 23 HG7.out (List.replicate m (.int .u64 xv)) ?hn ?hpos ?hfit ?h1 w.heap.size w HB7.out hge ?_; (case hn => rw [List.length_replicate]; exact HM'.out); (case hpos => exact fun _ => ⟨rfl, ⟨g, 0, none⟩, rfl, slices_Repeat_uint64_uint64.src xv HJ1.out.2 HG7.out HM1.out.1⟩); (case hfit => rw [slices_Repeat_uint64_uint64.blk_len xv HJ1.out.2, List.length_replicate]; have := HM1.out; omega); (case h1 => intro v hv; rw [List.eq_of_mem_replicate hv]; rfl); intro w8 hg8 hb8; rw [show goInt ((List.replicate m (Value.int .u64 xv)).length : Int) = Value.int .i64 mm by rw [List.length_replicate, HMM.out]; rfl]; have HG8 : Aside0 (w8.heap[g]? = some (.cells (slices_Repeat_uint64_uint64.blk xv (j + m) kn).toArray 23 (0, 0))) := ⟨by have := hg8.out; rwa [slices_Repeat_uint64_uint64.next xv (by have := HM1.out; omega)] at this⟩; have HB8 := Aside0.mk hb8; clear hg8 hb8 HG7 HB7))
      go_wp2
      go_roundw
      case rel => exact ⟨j + m, _, rfl, ⟨by have := HJ.out; have := HMM.out; have := HSM.out; omega⟩, ⟨by have := HM1.out; omega⟩, HG8, HB8⟩
      case measure => simp [intOf]; have := HM1.out; have := HMM.out; have := HJ.out; have := HSM.out; omega
    · have hj2 : decide (jj < (kn : Int)) = false := by have := HJ.out; simp; omega
      obtain rfl : j = kn := by have := HJ1.out; omega
      go_wp2
      go_ret
      refine ⟨.slice (some ⟨g, 0, none⟩) j j, rfl, ?_, HB.out⟩
      refine Kd.R_of_own ?_ (fun _ _ => trivial)
      refine ⟨by simp [encs], .inr ⟨g, j, (slices_Repeat_uint64_uint64.blk xv j j).toArray, by rw [List.length_replicate], hge, HG.out, by rw [List.length_replicate]; exact Nat.le_refl _, by unfold maxLen; have := HKN.out; omega, by rw [List.size_toArray, slices_Repeat_uint64_uint64.blk_len xv (Nat.le_refl _), Nat.mul_one], ?_⟩⟩
      simp [slices_Repeat_uint64_uint64.blk, encs]
theorem slices_Repeat_uint64_uint64.calls (A0 : Option Addr) (c0 : Nat) (l0 : List Int) (a1 : Int) (r : List Int) (w : World) (hr0 : Kd.C (Kd.int .u64) w A0 l0.length l0) (hc0 : l0.length ≤ c0) (h : slices_Repeat_uint64_uint64.f l0 a1 = some r) :
    Calls Try.prog 55 #[.slice A0 l0.length c0, .int .i64 a1] w fun e w' => ∃ v0_ : Value, e = .returned (v0_) ∧ Kd.R (Kd.int .u64) 23 w' w.heap.size (fun _ => True) v0_ r ∧ Below w.heap.size w w' := by
  unfold slices_Repeat_uint64_uint64.f at h
  by_cases hh : l0.length = 1 ∧ 1 ≤ a1 ∧ a1 ≤ 200
  · rw [if_pos hh] at h
    obtain rfl := Option.some.inj h
    exact slices_Repeat_uint64_uint64.calls_main A0 c0 l0 a1 w hr0 hc0 hh.1 hh.2.1 hh.2.2
  · rw [if_neg hh] at h; cases h

end Go.Proofs.Ytmlbppfcpejlpaa.X

-- Printed by this session's own program (wip/xprint.py) over the translation; its external functions are hand-written. Lean checks it.
namespace Go.Proofs.Ytmlbppfcpejlpaa.X
open Go.RowKit Go.Proofs.YtmlbppfcpejlpaaW.PrintWords Go.Proofs.YtmlbppfcpejlpaaW.PrintLast Go.Proofs.YtmlbppfcpejlpaaW.PrintMore
attribute [local go_sem] max2_int min2_int max_two min_two max_three min_three max_four min_four   -- for this text's walks alone
set_option linter.unusedVariables false
set_option linter.unusedSimpArgs false

/-! ### runs_Get: function 38 -/
mutual
def runs_Get.j0 : Nat → List Int → Int → Bool → Option (List Int × Int × Int)
  | 0, _, _, _ => none
  | k + 1, x0, x1, x19 => if x19 = true then (some (([] : List Int), 0, 1)) else (runs_Get.l0 k x0 x1 ([] : List Int) 0)
def runs_Get.l0 : Nat → List Int → Int → List Int → Int → Option (List Int × Int × Int)
  | 0, _, _, _, _ => none
  | k + 1, x0, x1, x7, x8 => if (x7.length : Int) < x1 then (if 0 ≤ x8 then (if x8 ≤ (x0.length : Int) then ((runs_pair.f k (x0.drop (x8 : Int).toNat)).bind fun bt250 => (if bt250.2.2.2 = 0 then (if bt250.1 = 0 then (some (([] : List Int), 0, 3)) else (if bt250.1 > (IntKind.u64.wrap (wrap64 (x1 - (x7.length : Int)))) then (some (([] : List Int), 0, 3)) else (if (x7.length : Int) > 0 then (if 0 ≤ (wrap64 ((x7.length : Int) - 1)) then (if (wrap64 ((x7.length : Int) - 1)) < (x7.length : Int) then (if (rd x7 (wrap64 ((x7.length : Int) - 1))) = bt250.2.1 then (some (([] : List Int), 0, 3)) else ((slices_Repeat_uint64_uint64.f (([bt250.2.1] : List Int)) (wrap64 (bt250.1))).bind fun t258 => (if x7.length + t258.length < 17592186044416 then (runs_Get.l0 k x0 x1 (x7 ++ t258) (wrap64 (x8 + bt250.2.2.1))) else (none)))) else (none)) else (none)) else ((slices_Repeat_uint64_uint64.f (([bt250.2.1] : List Int)) (wrap64 (bt250.1))).bind fun t267 => (if x7.length + t267.length < 17592186044416 then (runs_Get.l0 k x0 x1 (x7 ++ t267) (wrap64 (x8 + bt250.2.2.1))) else (none)))))) else (some (([] : List Int), 0, bt250.2.2.2)))) else (none)) else (none)) else (some (x7, x8, 0))
end
def runs_Get.f (k : Nat) (l0 : List Int) (a1 : Int) : Option (List Int × Int × Int) := if a1 < 0 then (runs_Get.j0 k l0 a1 true) else (runs_Get.j0 k l0 a1 (decide (a1 > 200)))
theorem runs_Get.mono_l : ∀ k, (∀ y0 y1 y2, LeO (runs_Get.j0 k y0 y1 y2) (runs_Get.j0 (k + 1) y0 y1 y2)) ∧ (∀ y0 y1 y2 y3, LeO (runs_Get.l0 k y0 y1 y2 y3) (runs_Get.l0 (k + 1) y0 y1 y2 y3))
  | 0 => ⟨fun _ _ _ r h => by simp [runs_Get.j0] at h, fun _ _ _ _ r h => by simp [runs_Get.l0] at h⟩
  | k + 1 => by
    obtain ⟨ih0, ih1⟩ := runs_Get.mono_l k
    refine ⟨?_, ?_⟩
    · intro y0 y1 y2
      unfold runs_Get.j0
      repeat' first
      | (with_reducible exact ih0 _ _ _)
      | (with_reducible exact ih1 _ _ _ _)
      | (with_reducible exact runs_pair.mono _ _)
      | (with_reducible exact LeO.refl _)
      | (with_reducible exact LeO.none _)
      | (with_reducible refine LeO.ite ?_ ?_)
      | (with_reducible refine LeO.bind ?_ (fun _ => ?_))
      | exact ih0 _ _ _
      | exact ih1 _ _ _ _
      | exact runs_pair.mono _ _
      | exact LeO.none _
      | refine LeO.ite ?_ ?_
      | refine LeO.bind ?_ (fun _ => ?_)
    · intro y0 y1 y2 y3
      unfold runs_Get.l0
      repeat' first
      | (with_reducible exact ih0 _ _ _)
      | (with_reducible exact ih1 _ _ _ _)
      | (with_reducible exact runs_pair.mono _ _)
      | (with_reducible exact LeO.refl _)
      | (with_reducible exact LeO.none _)
      | (with_reducible refine LeO.ite ?_ ?_)
      | (with_reducible refine LeO.bind ?_ (fun _ => ?_))
      | exact ih0 _ _ _
      | exact ih1 _ _ _ _
      | exact runs_pair.mono _ _
      | exact LeO.none _
      | refine LeO.ite ?_ ?_
      | refine LeO.bind ?_ (fun _ => ?_)
theorem runs_Get.mono : ∀ a0 a1 k, LeO (runs_Get.f k a0 a1) (runs_Get.f (k + 1) a0 a1) := by
  intro a0 a1 k
  obtain ⟨ih0, ih1⟩ := runs_Get.mono_l k
  unfold runs_Get.f
  repeat' first
      | (with_reducible exact ih0 _ _ _)
      | (with_reducible exact ih1 _ _ _ _)
      | (with_reducible exact runs_pair.mono _ _)
      | (with_reducible exact LeO.refl _)
      | (with_reducible exact LeO.none _)
      | (with_reducible refine LeO.ite ?_ ?_)
      | (with_reducible refine LeO.bind ?_ (fun _ => ?_))
      | exact ih0 _ _ _
      | exact ih1 _ _ _ _
      | exact runs_pair.mono _ _
      | exact LeO.none _
      | refine LeO.ite ?_ ?_
      | refine LeO.bind ?_ (fun _ => ?_)
set_option maxHeartbeats 8000000 in
set_option maxRecDepth 100000 in
theorem runs_Get.calls (k : Nat) (A0 : Option Addr) (c0 : Nat) (l0 : List Int) (a1 : Int) (r1 : List Int) (r2 : Int) (r3 : Int) (w : World) (hr0 : Kd.C (Kd.int .u8) w A0 l0.length l0) (hc0 : l0.length ≤ c0) (h : runs_Get.f k l0 a1 = some (r1, r2, r3)) :
    Calls Try.prog 38 #[.slice A0 l0.length c0, .int .i64 a1] w fun e w' => ∃ v0_ : Value, e = .returned (.tuple #[v0_, .int .i64 r2, .int .i64 r3]) ∧ Kd.R (Kd.int .u64) 23 w' w.heap.size (fun _ => True) v0_ r1 ∧ Below w.heap.size w w' := by
  have HR0 := Aside0.mk hr0
  have HC0 := Aside0.mk hc0
  clear hr0 hc0
  have HB := Aside0.mk (Below.refl w.heap.size w)
  have H : (if a1 < 0 then (runs_Get.j0 k l0 a1 true) else (runs_Get.j0 k l0 a1 (decide (a1 > 200)))) = some (r1, r2, r3) := h
  clear h
  have HC3 := Aside0.mk H
  clear H
  go_enter Try.func38, Try.ntmps38
  go_upto_region 1 with (fail)
  go_cut [19] (fun v19 wc => ∃ (kq : Nat) (x19_2 : Bool), v19 = .bool x19_2 ∧ Aside0 (runs_Get.j0 kq l0 a1 x19_2 = some (r1, r2, r3)) ∧ Aside0 (kq ≤ k) ∧ Aside0 (Below w.heap.size w wc))
  case first =>
    have H := HC3.out
    clear HC3
    by_cases c4 : a1 < 0
    · rw [if_pos c4] at H
      have c4b0 : decide (a1 < 0) = true := decide_eq_true c4
      clear c4
      (first | rw [c4b0] | (simp only [i64_w, i32_w]; rw [c4b0]) | skip)
      have H' := Aside0.mk H
      clear H
      go_wp2
      go_meet
      case rel => exact ⟨_, (true), (by first | rfl | (simp; done) | (simp [*]; done)), H', ⟨by first | omega | exact Nat.le_refl _⟩, ⟨by repeat (first | (with_reducible first | exact HB.out | apply below_alloc | apply pw_below_drewN | apply below_drew1) | exact HB.out)⟩⟩
    · rw [if_neg c4] at H
      have c4b0 : decide (a1 < 0) = false := decide_eq_false c4
      clear c4
      (first | rw [c4b0] | (simp only [i64_w, i32_w]; rw [c4b0]) | skip)
      have H' := Aside0.mk H
      clear H
      go_wp2
      go_meet
      case rel => exact ⟨_, (decide (a1 > 200)), (by first | rfl | (simp; done) | (simp [*]; done)), H', ⟨by first | omega | exact Nat.le_refl _⟩, ⟨by repeat (first | (with_reducible first | exact HB.out | apply below_alloc | apply pw_below_drewN | apply below_drew1) | exact HB.out)⟩⟩
  case rest =>
    clear HC3
    try clear p2
    try clear c3
    try clear c4
    try clear c4b0
    obtain ⟨kq, x19_2, rfl, HA, HJ2, HB⟩ := hcut
    cases kq with
    | zero => exact absurd HA.out (by simp [runs_Get.j0])
    | succ kj2 =>
      have H := HA.out
      clear HA
      simp only [runs_Get.j0] at H
      by_cases c5 : x19_2 = true
      · subst c5
        have H1 : (some (([] : List Int), 0, 1)) = some (r1, r2, r3) := by rw [if_pos rfl] at H; exact H
        clear H
        have H := H1
        clear H1
        simp only [Option.some.injEq, Prod.mk.injEq] at H
        obtain ⟨rfl, rfl, rfl⟩ := H
        go_wp2
        go_ret3
        exact ⟨_, by first | rfl | (simp [errW_none, errW_some] <;> rfl) | (simp [*, errW_none, errW_some] <;> rfl), by first | exact Kd.R_nil _ _ _ _ _ | exact Kd.N_nil _ _ _ _ _ | exact Kd.V_nil _ _ _ _ _ | exact Kd.Q_nil _ _ _ _ _ | exact Kd.S_nil _ _ _ _ _, by repeat (first | (with_reducible first | exact HB.out | apply below_alloc | apply pw_below_drewN | apply below_drew1) | exact HB.out)⟩
      · replace c5 := Bool.eq_false_iff.mpr c5
        subst c5
        have H1 : (runs_Get.l0 kj2 l0 a1 ([] : List Int) 0) = some (r1, r2, r3) := by rw [if_neg (show ¬ (false = true) by decide)] at H; exact H
        clear H
        have H := H1
        clear H1
        have H' := Aside0.mk H
        clear H
        go_wp2
        go_loopg [7, 8] kj2 (fun kq v7 v8 w' => ∃ (x7_2 : List Int) (x8_2 : Int), v8 = .int .i64 x8_2 ∧ Aside0 (runs_Get.l0 kq l0 a1 x7_2 x8_2 = some (r1, r2, r3)) ∧ Aside0 (kq ≤ kj2) ∧ Aside0 (Kd.R (Kd.int .u64) 23 w' w.heap.size (fun _ => True) v7 x7_2) ∧ Aside0 (Below w.heap.size w w'))
        case atStart => exact ⟨(([] : List Int)), (0), (by first | rfl | (simp; done) | (simp [*]; done)), H', ⟨Nat.le_refl _⟩, ⟨by first | exact Kd.R_nil _ _ _ _ _ | exact Kd.N_nil _ _ _ _ _ | exact Kd.V_nil _ _ _ _ _ | exact Kd.Q_nil _ _ _ _ _ | exact Kd.S_nil _ _ _ _ _⟩, ⟨by repeat (first | (with_reducible first | exact HB.out | apply below_alloc | apply pw_below_drewN | apply below_drew1) | exact HB.out)⟩⟩
        case round =>
          clear H'
          try clear p2
          try clear c3
          try clear c4
          try clear c4b0
          try clear c5
          try clear p2
          obtain ⟨x7_2, x8_2, rfl, HA, HK2, HO_7, HB⟩ := hrel
          cases gk with
          | zero => exact absurd HA.out (by simp [runs_Get.l0])
          | succ k2 =>
            have H := HA.out
            clear HA
            simp only [runs_Get.l0] at H
            by_cases c6 : (x7_2.length : Int) < a1
            · rw [if_pos c6] at H
              have c6b0 : decide ((x7_2.length : Int) < a1) = true := decide_eq_true c6
              clear c6
              by_cases c7 : 0 ≤ x8_2
              · rw [if_pos c7] at H
                have c7b0 := eq_true c7
                have c7b1 : decide (0 ≤ x8_2) = true := decide_eq_true c7
                clear c7
                by_cases c8 : x8_2 ≤ (l0.length : Int)
                · rw [if_pos c8] at H
                  have c8b0 := eq_true c8
                  have c8b1 : decide (x8_2 ≤ (l0.length : Int)) = true := decide_eq_true c8
                  clear c8
                  replace H := Option.bind_eq_some_iff.mp H
                  obtain ⟨⟨t250, t251, t252, t253⟩, A90, H⟩ := H
                  replace H : (if t253 = 0 then (if t250 = 0 then (some (([] : List Int), 0, 3)) else (if t250 > (IntKind.u64.wrap (wrap64 (a1 - (x7_2.length : Int)))) then (some (([] : List Int), 0, 3)) else (if (x7_2.length : Int) > 0 then (if 0 ≤ (wrap64 ((x7_2.length : Int) - 1)) then (if (wrap64 ((x7_2.length : Int) - 1)) < (x7_2.length : Int) then (if (rd x7_2 (wrap64 ((x7_2.length : Int) - 1))) = t251 then (some (([] : List Int), 0, 3)) else ((slices_Repeat_uint64_uint64.f (([t251] : List Int)) (wrap64 (t250))).bind fun t258 => (if x7_2.length + t258.length < 17592186044416 then (runs_Get.l0 k2 l0 a1 (x7_2 ++ t258) (wrap64 (x8_2 + t252))) else (none)))) else (none)) else (none)) else ((slices_Repeat_uint64_uint64.f (([t251] : List Int)) (wrap64 (t250))).bind fun t267 => (if x7_2.length + t267.length < 17592186044416 then (runs_Get.l0 k2 l0 a1 (x7_2 ++ t267) (wrap64 (x8_2 + t252))) else (none)))))) else (some (([] : List Int), 0, t253))) = some (r1, r2, r3) := H
                  have A9 := Aside0.mk A90
                  clear A90
                  by_cases c10 : t253 = 0
                  · rw [if_pos c10] at H
                    have c10b0 : (t253 == 0) = true := beq_iff_eq.mpr c10
                    have c10b1 : (t253 != 0) = false := bne_eq_false_iff_eq.mpr c10
                    clear c10
                    by_cases c11 : t250 = 0
                    · rw [if_pos c11] at H
                      have c11b0 : (t250 == 0) = true := beq_iff_eq.mpr c11
                      have c11b1 : (t250 != 0) = false := bne_eq_false_iff_eq.mpr c11
                      clear c11
                      simp only [Option.some.injEq, Prod.mk.injEq] at H
                      obtain ⟨rfl, rfl, rfl⟩ := H
                      obtain ⟨Ao12, co12, eo12⟩ := Kd.R_slice HO_7.out
                      subst eo12
                      obtain ⟨i013, hi013, _, hsz13, _⟩ := info_parts info5
                      obtain ⟨A13, hcut13, hA13, hC13⟩ := print_drop_of (P := Try.prog) (Value.int .u8) 0 22 5 .i64 Try.underlying22 hi013 hsz13 A0 c0 l0 x8_2 (of_decide_eq_true (by first | (with_reducible assumption) | assumption)) (of_decide_eq_true (by first | (with_reducible assumption) | assumption)) HC0.out
                      have HR249 := Aside0.mk (Kd.C_of_reads (h1 := fun _ => rfl) (hA13 _ (Kd.reads_of_C HR0.out)))
                      have HC249 := Aside0.mk hC13
                      clear hA13 hC13 hi013 hsz13
                      go_wp2_with (first | ((with_reducible refine gate_callee (f := 54) rfl ?_); refine goesL_ (some 28) rfl rfl Try.func54 (by kernel_rfl) rfl #[.slice A13 (l0.drop (x8_2 : Int).toNat).length (c0 - x8_2.toNat)] rfl (by (try simp only [List.map_toArray, List.map_cons, List.map_nil]); first | done | (rw [show (l0.drop (x8_2 : Int).toNat).length = (l0.length - x8_2.toNat) from List.length_drop] <;> rfl) | rfl | (simp only [List.length_drop, List.length_take]; rfl)) ?_; (with_reducible refine (runs_pair.calls k2 _ _ (l0.drop (x8_2 : Int).toNat) t250 t251 t252 t253 _ ?side1 ?side2 A9.out).mono ?_); (case side1 => repeat (first | exact (Kd.C_below HR249.out HB.out) | (with_reducible refine Kd.C_alloc ?_ _) | (with_reducible refine Kd.C_drewN ?_ _) | (with_reducible refine Kd.C_drew ?_))); (case side2 => exact HC249.out); rintro e w' ⟨rfl, ⟨nd, rfl⟩⟩; refine ⟨_, rfl, ?_⟩))
                      go_ret3
                      exact ⟨_, by first | rfl | (simp [errW_none, errW_some] <;> rfl) | (simp [*, errW_none, errW_some] <;> rfl), by first | exact Kd.R_nil _ _ _ _ _ | exact Kd.N_nil _ _ _ _ _ | exact Kd.V_nil _ _ _ _ _ | exact Kd.Q_nil _ _ _ _ _ | exact Kd.S_nil _ _ _ _ _, by repeat (first | (with_reducible first | exact HB.out | apply below_alloc | apply pw_below_drewN | apply below_drew1) | exact HB.out)⟩
                    · rw [if_neg c11] at H
                      have c11b0 : (t250 == 0) = false := beq_eq_false_iff_ne.mpr c11
                      have c11b1 : (t250 != 0) = true := bne_iff_ne.mpr c11
                      by_cases c14 : t250 > (IntKind.u64.wrap (wrap64 (a1 - (x7_2.length : Int))))
                      · rw [if_pos c14] at H
                        have c14b0 : decide ((IntKind.u64.wrap (wrap64 (a1 - (x7_2.length : Int)))) < t250) = true := decide_eq_true c14
                        clear c14
                        simp only [Option.some.injEq, Prod.mk.injEq] at H
                        obtain ⟨rfl, rfl, rfl⟩ := H
                        obtain ⟨Ao15, co15, eo15⟩ := Kd.R_slice HO_7.out
                        subst eo15
                        obtain ⟨i016, hi016, _, hsz16, _⟩ := info_parts info5
                        obtain ⟨A16, hcut16, hA16, hC16⟩ := print_drop_of (P := Try.prog) (Value.int .u8) 0 22 5 .i64 Try.underlying22 hi016 hsz16 A0 c0 l0 x8_2 (of_decide_eq_true (by first | (with_reducible assumption) | assumption)) (of_decide_eq_true (by first | (with_reducible assumption) | assumption)) HC0.out
                        have HR249 := Aside0.mk (Kd.C_of_reads (h1 := fun _ => rfl) (hA16 _ (Kd.reads_of_C HR0.out)))
                        have HC249 := Aside0.mk hC16
                        clear hA16 hC16 hi016 hsz16
                        go_wp2_with (first | ((with_reducible refine gate_callee (f := 54) rfl ?_); refine goesL_ (some 28) rfl rfl Try.func54 (by kernel_rfl) rfl #[.slice A16 (l0.drop (x8_2 : Int).toNat).length (c0 - x8_2.toNat)] rfl (by (try simp only [List.map_toArray, List.map_cons, List.map_nil]); first | done | (rw [show (l0.drop (x8_2 : Int).toNat).length = (l0.length - x8_2.toNat) from List.length_drop] <;> rfl) | rfl | (simp only [List.length_drop, List.length_take]; rfl)) ?_; (with_reducible refine (runs_pair.calls k2 _ _ (l0.drop (x8_2 : Int).toNat) t250 t251 t252 t253 _ ?side1 ?side2 A9.out).mono ?_); (case side1 => repeat (first | exact (Kd.C_below HR249.out HB.out) | (with_reducible refine Kd.C_alloc ?_ _) | (with_reducible refine Kd.C_drewN ?_ _) | (with_reducible refine Kd.C_drew ?_))); (case side2 => exact HC249.out); rintro e w' ⟨rfl, ⟨nd, rfl⟩⟩; refine ⟨_, rfl, ?_⟩))
                        go_ret3
                        exact ⟨_, by first | rfl | (simp [errW_none, errW_some] <;> rfl) | (simp [*, errW_none, errW_some] <;> rfl), by first | exact Kd.R_nil _ _ _ _ _ | exact Kd.N_nil _ _ _ _ _ | exact Kd.V_nil _ _ _ _ _ | exact Kd.Q_nil _ _ _ _ _ | exact Kd.S_nil _ _ _ _ _, by repeat (first | (with_reducible first | exact HB.out | apply below_alloc | apply pw_below_drewN | apply below_drew1) | exact HB.out)⟩
                      · rw [if_neg c14] at H
                        have c14b0 : decide ((IntKind.u64.wrap (wrap64 (a1 - (x7_2.length : Int)))) < t250) = false := decide_eq_false c14
                        clear c14
                        by_cases c17 : (x7_2.length : Int) > 0
                        · rw [if_pos c17] at H
                          have c17b0 : decide (0 < (x7_2.length : Int)) = true := decide_eq_true c17
                          have c17b1 : decide (0 < x7_2.length) = true := decide_eq_true (by omega)
                          clear c17
                          obtain ⟨ji18, hji18⟩ : ∃ j_ : Int, (wrap64 ((x7_2.length : Int) - 1)) = j_ := ⟨_, rfl⟩
                          replace H : (if 0 ≤ (ji18) then (if (ji18) < (x7_2.length : Int) then (if (rd x7_2 (ji18)) = t251 then (some (([] : List Int), 0, 3)) else ((slices_Repeat_uint64_uint64.f (([t251] : List Int)) (wrap64 (t250))).bind fun t258 => (if x7_2.length + t258.length < 17592186044416 then (runs_Get.l0 k2 l0 a1 (x7_2 ++ t258) (wrap64 (x8_2 + t252))) else (none)))) else (none)) else (none)) = some (r1, r2, r3) := by first | (rw [hji18] at H; exact H) | (simp only [hji18] at H ⊢; exact H)
                          (try rw [hji18] at A9)
                          have hji18w : (IntKind.i64.wrap ((x7_2.length : Int) - 1)) = ji18 := (i64_w _).trans hji18
                          by_cases c19 : 0 ≤ (ji18)
                          · rw [if_pos c19] at H
                            have c19b0 : decide (0 ≤ (ji18)) = true := decide_eq_true c19
                            clear c19
                            by_cases c20 : (ji18) < (x7_2.length : Int)
                            · rw [if_pos c20] at H
                              have c20b0 : decide ((ji18) < (x7_2.length : Int)) = true := decide_eq_true c20
                              clear c20
                              by_cases c21 : (rd x7_2 (ji18)) = t251
                              · rw [if_pos c21] at H
                                have c21b0 : ((rd x7_2 (ji18)) == t251) = true := beq_iff_eq.mpr c21
                                have c21b1 : ((rd x7_2 (ji18)) != t251) = false := bne_eq_false_iff_eq.mpr c21
                                clear c21
                                simp only [Option.some.injEq, Prod.mk.injEq] at H
                                obtain ⟨rfl, rfl, rfl⟩ := H
                                obtain ⟨Ao22, co22, eo22⟩ := Kd.R_slice HO_7.out
                                subst eo22
                                obtain ⟨i023, hi023, _, hsz23, _⟩ := info_parts info5
                                obtain ⟨A23, hcut23, hA23, hC23⟩ := print_drop_of (P := Try.prog) (Value.int .u8) 0 22 5 .i64 Try.underlying22 hi023 hsz23 A0 c0 l0 x8_2 (of_decide_eq_true (by first | (with_reducible assumption) | assumption)) (of_decide_eq_true (by first | (with_reducible assumption) | assumption)) HC0.out
                                have HR249 := Aside0.mk (Kd.C_of_reads (h1 := fun _ => rfl) (hA23 _ (Kd.reads_of_C HR0.out)))
                                have HC249 := Aside0.mk hC23
                                clear hA23 hC23 hi023 hsz23
                                go_wp2_with (first | ((with_reducible refine gate_callee (f := 54) rfl ?_); refine goesL_ (some 28) rfl rfl Try.func54 (by kernel_rfl) rfl #[.slice A23 (l0.drop (x8_2 : Int).toNat).length (c0 - x8_2.toNat)] rfl (by (try simp only [List.map_toArray, List.map_cons, List.map_nil]); first | done | (rw [show (l0.drop (x8_2 : Int).toNat).length = (l0.length - x8_2.toNat) from List.length_drop] <;> rfl) | rfl | (simp only [List.length_drop, List.length_take]; rfl)) ?_; (with_reducible refine (runs_pair.calls k2 _ _ (l0.drop (x8_2 : Int).toNat) t250 t251 t252 t253 _ ?side1 ?side2 A9.out).mono ?_); (case side1 => repeat (first | exact (Kd.C_below HR249.out HB.out) | (with_reducible refine Kd.C_alloc ?_ _) | (with_reducible refine Kd.C_drewN ?_ _) | (with_reducible refine Kd.C_drew ?_))); (case side2 => exact HC249.out); rintro e w' ⟨rfl, ⟨nd, rfl⟩⟩; refine ⟨_, rfl, ?_⟩; have p254 : 0 ≤ ((ji18) : Int) := of_decide_eq_true (by first | (with_reducible assumption) | assumption); have q254 : (ji18) < (x7_2.length : Int) := of_decide_eq_true (by first | (with_reducible assumption) | assumption); obtain ⟨ad254, e254, hx254_0⟩ := Kd.at_int (Kd.R_reads' HO_7.out).2.2 (ji18) p254 q254; cases e254; replace p254 := eq_true p254; replace q254 := eq_true q254))
                                go_ret3
                                exact ⟨_, by first | rfl | (simp [errW_none, errW_some] <;> rfl) | (simp only [← hji18]; first | rfl | (simp [errW_none, errW_some] <;> rfl)) | (simp [*, errW_none, errW_some] <;> rfl), by first | exact Kd.R_nil _ _ _ _ _ | exact Kd.N_nil _ _ _ _ _ | exact Kd.V_nil _ _ _ _ _ | exact Kd.Q_nil _ _ _ _ _ | exact Kd.S_nil _ _ _ _ _, by repeat (first | (with_reducible first | exact HB.out | apply below_alloc | apply pw_below_drewN | apply below_drew1) | exact HB.out)⟩
                              · rw [if_neg c21] at H
                                have c21b0 : ((rd x7_2 (ji18)) == t251) = false := beq_eq_false_iff_ne.mpr c21
                                have c21b1 : ((rd x7_2 (ji18)) != t251) = true := bne_iff_ne.mpr c21
                                obtain ⟨y255, hy255⟩ : ∃ y_ : List Int, y_ = (([t251] : List Int)) := ⟨_, rfl⟩
                                replace H : ((slices_Repeat_uint64_uint64.f y255 (wrap64 (t250))).bind fun t258 => (if x7_2.length + t258.length < 17592186044416 then (runs_Get.l0 k2 l0 a1 (x7_2 ++ t258) (wrap64 (x8_2 + t252))) else (none))) = some (r1, r2, r3) := by first | (rw [hy255]; with_reducible exact H) | (have H2_ := (Option.bind_some _ _).symm.trans H; rw [hy255]; with_reducible exact H2_) | (have H2_ := (Option.bind_some _ _).symm.trans H; with_reducible exact H2_) | with_reducible exact H | (rw [hy255]; exact H) | exact H
                                have Ny255 := Aside0.mk hy255
                                clear hy255
                                replace H := Option.bind_eq_some_iff.mp H
                                obtain ⟨t258, A240, H⟩ := H
                                replace H : (if x7_2.length + t258.length < 17592186044416 then (runs_Get.l0 k2 l0 a1 (x7_2 ++ t258) (wrap64 (x8_2 + t252))) else (none)) = some (r1, r2, r3) := H
                                have A24 := Aside0.mk A240
                                clear A240
                                by_cases c25 : x7_2.length + t258.length < 17592186044416
                                · rw [if_pos c25] at H
                                  have LMc25 := Aside0.mk c25
                                  clear c25
                                  obtain ⟨y261, hy261⟩ : ∃ y_ : List Int, y_ = (x7_2 ++ t258) := ⟨_, rfl⟩
                                  replace H : (runs_Get.l0 k2 l0 a1 y261 (wrap64 (x8_2 + t252))) = some (r1, r2, r3) := by first | (rw [hy261]; with_reducible exact H) | (have H2_ := (Option.bind_some _ _).symm.trans H; rw [hy261]; with_reducible exact H2_) | (have H2_ := (Option.bind_some _ _).symm.trans H; with_reducible exact H2_) | with_reducible exact H | (rw [hy261]; exact H) | exact H
                                  have Ny261 := Aside0.mk hy261
                                  clear hy261
                                  have H' := Aside0.mk H
                                  clear H
                                  obtain ⟨Ao26, co26, eo26⟩ := Kd.R_slice HO_7.out
                                  subst eo26
                                  obtain ⟨i027, hi027, _, hsz27, _⟩ := info_parts info5
                                  obtain ⟨A27, hcut27, hA27, hC27⟩ := print_drop_of (P := Try.prog) (Value.int .u8) 0 22 5 .i64 Try.underlying22 hi027 hsz27 A0 c0 l0 x8_2 (of_decide_eq_true (by first | (with_reducible assumption) | assumption)) (of_decide_eq_true (by first | (with_reducible assumption) | assumption)) HC0.out
                                  have HR249 := Aside0.mk (Kd.C_of_reads (h1 := fun _ => rfl) (hA27 _ (Kd.reads_of_C HR0.out)))
                                  have HC249 := Aside0.mk hC27
                                  clear hA27 hC27 hi027 hsz27
                                  go_wp2_with (first | ((with_reducible refine gate_callee (f := 54) rfl ?_); refine goesL_ (some 28) rfl rfl Try.func54 (by kernel_rfl) rfl #[.slice A27 (l0.drop (x8_2 : Int).toNat).length (c0 - x8_2.toNat)] rfl (by (try simp only [List.map_toArray, List.map_cons, List.map_nil]); first | done | (rw [show (l0.drop (x8_2 : Int).toNat).length = (l0.length - x8_2.toNat) from List.length_drop] <;> rfl) | rfl | (simp only [List.length_drop, List.length_take]; rfl)) ?_; (with_reducible refine (runs_pair.calls k2 _ _ (l0.drop (x8_2 : Int).toNat) t250 t251 t252 t253 _ ?side1 ?side2 A9.out).mono ?_); (case side1 => repeat (first | exact (Kd.C_below HR249.out HB.out) | (with_reducible refine Kd.C_alloc ?_ _) | (with_reducible refine Kd.C_drewN ?_ _) | (with_reducible refine Kd.C_drew ?_))); (case side2 => exact HC249.out); rintro e w' ⟨rfl, ⟨nd, rfl⟩⟩; refine ⟨_, rfl, ?_⟩; have p254 : 0 ≤ ((ji18) : Int) := of_decide_eq_true (by first | (with_reducible assumption) | assumption); have q254 : (ji18) < (x7_2.length : Int) := of_decide_eq_true (by first | (with_reducible assumption) | assumption); obtain ⟨ad254, e254, hx254_0⟩ := Kd.at_int (Kd.R_reads' HO_7.out).2.2 (ji18) p254 q254; cases e254; replace p254 := eq_true p254; replace q254 := eq_true q254) | ((with_reducible refine gate_dst (N := 67) rfl ?_); (try (refine gate_guard (by rfl) ?_; dsimp only)); refine Kd.R_lit (Kd.int .u64) _ 23 ?hg (N := 67) ?hd (xs := ([t251] : List Int)) (inner := [.int .u64 t251]) (ok := fun _ => True) (okp := fun _ => True) ?hr ?hp (fun _ hk => hk) trivial (Below.refl _ _) (Nat.le_refl _) (by simp) ?_; (case hd => rfl); (case hg => rfl); (case hr => first | (go_simp; done) | (go_simp; rfl)); (case hp => exact (Reps.one (show Kd.M (Kd.int .u64) _ _ _ t251 [.int .u64 t251] from rfl) (Reps.none _ _))); intro v256 w28 ho29 hb hg_ hnew_; clear hg_ hnew_; (first | rw [← Ny255.out] at ho29 | (simp only [Int.reduceToNat] at ho29; rw [← Ny255.out] at ho29)); have n0_ := Aside0.mk (Kd.R_elder' (by (with_reducible repeat (first | apply Kd.R_alloc | apply Kd.R_drewN | apply Kd.R_drew)); exact HO_7.out) (Kd.R_base ho29) hb); have n1_ := Aside0.mk (Kd.R_lower (Kd.R_new' ho29 (Kd.R_lt (by (with_reducible repeat (first | apply Kd.R_alloc | apply Kd.R_drewN | apply Kd.R_drew)); exact HO_7.out))) (below_size (by repeat (first | (with_reducible first | exact HB.out | apply below_alloc | apply pw_below_drewN | apply below_drew1) | exact HB.out)))); have n2_ := Aside0.mk (below_step (by repeat (first | (with_reducible first | exact HB.out | apply below_alloc | apply pw_below_drewN | apply below_drew1) | exact HB.out)) hb); clear HO_7; clear HB; have HO_7 := n0_; have HO257 := n1_; have HB := n2_; clear n0_ n1_ n2_; clear hb ho29; obtain ⟨Ao30, co30, eo30⟩ := Kd.R_slice HO257.out; subst eo30) | ((with_reducible refine gate_callee (f := 55) rfl ?_); refine goesL_ (some 70) rfl rfl Try.func55 (by kernel_rfl) rfl #[.slice Ao30 y255.length co30, .int .i64 (wrap64 (t250))] rfl (by (try simp only [List.map_toArray, List.map_cons, List.map_nil]); first | done | rfl | (simp only [List.length_drop, List.length_take]; rfl)) ?_; (with_reducible refine (slices_Repeat_uint64_uint64.calls _ _ y255 (wrap64 (t250)) t258 _ ?side1 ?side2 A24.out).mono ?_); (case side1 => repeat (first | exact (Kd.R_reads' HO257.out).2.2 | (with_reducible refine Kd.C_alloc ?_ _) | (with_reducible refine Kd.C_drewN ?_ _) | (with_reducible refine Kd.C_drew ?_))); (case side2 => exact (Kd.R_reads' HO257.out).2.1); rintro e w31 ⟨v259, rfl, ho0, hb⟩; refine ⟨_, rfl, ?_⟩; have n0_ := Aside0.mk (Kd.R_elder' (by (with_reducible repeat (first | apply Kd.R_alloc | apply Kd.R_drewN | apply Kd.R_drew)); exact HO_7.out) (Kd.R_base ho0) hb); have n1_ := Aside0.mk (Kd.R_elder' (by (with_reducible repeat (first | apply Kd.R_alloc | apply Kd.R_drewN | apply Kd.R_drew)); exact HO257.out) (Kd.R_base ho0) hb); have n2_ := Aside0.mk (Kd.R_lower (Kd.R_new' (Kd.R_new' ho0 (Kd.R_lt (by (with_reducible repeat (first | apply Kd.R_alloc | apply Kd.R_drewN | apply Kd.R_drew)); exact HO_7.out))) (Kd.R_lt (by (with_reducible repeat (first | apply Kd.R_alloc | apply Kd.R_drewN | apply Kd.R_drew)); exact HO257.out))) (below_size (by repeat (first | (with_reducible first | exact HB.out | apply below_alloc | apply pw_below_drewN | apply below_drew1) | exact HB.out)))); have n3_ := Aside0.mk (below_step (by repeat (first | (with_reducible first | exact HB.out | apply below_alloc | apply pw_below_drewN | apply below_drew1) | exact HB.out)) hb); clear HO_7; clear HO257; clear HB; have HO_7 := n0_; have HO257 := n1_; have HO260 := n2_; have HB := n3_; clear n0_ n1_ n2_ n3_; (try clear hb); (try clear hb2); (try clear hk); (try clear hi); (try clear ho0); obtain ⟨Ao33, co33, eo33⟩ := Kd.R_slice HO260.out; subst eo33) | ((with_reducible refine gate_builtin (b := .append) (xs := #[.tmp 65, .tmp 70]) rfl ?_); (try (refine gate_guard (by rfl) ?_; dsimp only)); at_builtin; refine Kd.R_append_rows (Kd.int .u64) (w0 := w) w.heap.size rfl (.tmp 65) (.tmp 70) 34 23 (.int .u64 0) 8 rfl Try.underlying34 info23 rfl (by decide) (by omega) (.slice (some ad254) x7_2.length co26) x7_2 t258 _ _ _ (fun k_ => some k_ ≠ (.slice Ao30 y255.length co30 : Value).ownBlock ∧ some k_ ≠ (.slice Ao33 t258.length co33 : Value).ownBlock) (fun _ => False) rfl rfl ?aO ?aR (fun _ _ h => h) (fun _ h => h.elim) ?aF ?aB ?aS ?aL ?_; (case aR => repeat (first | exact (Kd.R_reads' HO260.out).2.2 | (with_reducible refine Kd.C_alloc ?_ _) | (with_reducible refine Kd.C_drewN ?_ _) | (with_reducible refine Kd.C_drew ?_))); (case aB => exact (by repeat (first | (with_reducible first | exact HB.out | apply below_alloc | apply pw_below_drewN | apply below_drew1) | exact HB.out))); (case aF => exact (fun k_ hk => ⟨Kd.fresh' (Kd.R_lt (by (with_reducible repeat (first | apply Kd.R_alloc | apply Kd.R_drewN | apply Kd.R_drew)); exact HO257.out)) k_ hk, Kd.fresh' (Kd.R_lt (by (with_reducible repeat (first | apply Kd.R_alloc | apply Kd.R_drewN | apply Kd.R_drew)); exact HO260.out)) k_ hk⟩)); (case aO => exact (by (with_reducible repeat (first | apply Kd.R_alloc | apply Kd.R_drewN | apply Kd.R_drew)); exact Kd.R_mono HO_7.out (fun _ hk => ⟨hk.1.2, hk.2⟩))); (case aS => exact (below_size (by repeat (first | (with_reducible first | exact HB.out | apply below_alloc | apply pw_below_drewN | apply below_drew1) | exact HB.out)))); (case aL => have := LMc25.out; omega); intro v262 w32 ho hb hg hat; rw [← Ny261.out] at ho; have n0_ := Aside0.mk (Kd.R_after (ok := (fun k_ => some k_ ≠ (.slice Ao33 t258.length co33 : Value).ownBlock)) (by (with_reducible repeat (first | apply Kd.R_alloc | apply Kd.R_drewN | apply Kd.R_drew)); exact Kd.R_mono HO257.out (fun _ hk => ⟨hk.2, hk.1.2⟩)) hg hat); have n1_ := Aside0.mk (Kd.R_after (ok := (fun k_ => some k_ ≠ (.slice Ao30 y255.length co30 : Value).ownBlock)) (by (with_reducible repeat (first | apply Kd.R_alloc | apply Kd.R_drewN | apply Kd.R_drew)); exact Kd.R_mono HO260.out (fun _ hk => ⟨hk.2, hk.1.2⟩)) hg hat); have n2_ := Aside0.mk (hb); have n3_ := Aside0.mk (ho); clear HO257; clear HO260; clear HB; clear HO_7; have HO257 := n0_; have HO260 := n1_; have HB := n2_; have HO263 := n3_; clear n0_ n1_ n2_ n3_; clear ho hb hg hat))
                                  go_roundg k2
                                  case measure => have := HJ2.out; have := HK2.out; omega
                                  case rel => exact ⟨(y261), (wrap64 (x8_2 + t252)), (by first | rfl | (simp; done) | (simp [*]; done)), H', ⟨by have := HJ2.out; have := HK2.out; omega⟩, ⟨by (with_reducible repeat (first | apply Kd.R_alloc | apply Kd.R_drewN | apply Kd.R_drew)); exact Kd.R_mono HO263.out (fun _ hk => trivial)⟩, ⟨by repeat (first | (with_reducible first | exact HB.out | apply below_alloc | apply pw_below_drewN | apply below_drew1) | exact HB.out)⟩⟩
                                · rw [if_neg c25] at H
                                  exact absurd H (by simp)
                            · rw [if_neg c20] at H
                              exact absurd H (by simp)
                          · rw [if_neg c19] at H
                            exact absurd H (by simp)
                        · rw [if_neg c17] at H
                          have c17b0 : decide (0 < (x7_2.length : Int)) = false := decide_eq_false c17
                          have c17b1 : decide (0 < x7_2.length) = false := decide_eq_false (by omega)
                          clear c17
                          obtain ⟨y264, hy264⟩ : ∃ y_ : List Int, y_ = (([t251] : List Int)) := ⟨_, rfl⟩
                          replace H : ((slices_Repeat_uint64_uint64.f y264 (wrap64 (t250))).bind fun t267 => (if x7_2.length + t267.length < 17592186044416 then (runs_Get.l0 k2 l0 a1 (x7_2 ++ t267) (wrap64 (x8_2 + t252))) else (none))) = some (r1, r2, r3) := by first | (rw [hy264]; with_reducible exact H) | (have H2_ := (Option.bind_some _ _).symm.trans H; rw [hy264]; with_reducible exact H2_) | (have H2_ := (Option.bind_some _ _).symm.trans H; with_reducible exact H2_) | with_reducible exact H | (rw [hy264]; exact H) | exact H
                          have Ny264 := Aside0.mk hy264
                          clear hy264
                          replace H := Option.bind_eq_some_iff.mp H
                          obtain ⟨t267, A340, H⟩ := H
                          replace H : (if x7_2.length + t267.length < 17592186044416 then (runs_Get.l0 k2 l0 a1 (x7_2 ++ t267) (wrap64 (x8_2 + t252))) else (none)) = some (r1, r2, r3) := H
                          have A34 := Aside0.mk A340
                          clear A340
                          by_cases c35 : x7_2.length + t267.length < 17592186044416
                          · rw [if_pos c35] at H
                            have LMc35 := Aside0.mk c35
                            clear c35
                            obtain ⟨y270, hy270⟩ : ∃ y_ : List Int, y_ = (x7_2 ++ t267) := ⟨_, rfl⟩
                            replace H : (runs_Get.l0 k2 l0 a1 y270 (wrap64 (x8_2 + t252))) = some (r1, r2, r3) := by first | (rw [hy270]; with_reducible exact H) | (have H2_ := (Option.bind_some _ _).symm.trans H; rw [hy270]; with_reducible exact H2_) | (have H2_ := (Option.bind_some _ _).symm.trans H; with_reducible exact H2_) | with_reducible exact H | (rw [hy270]; exact H) | exact H
                            have Ny270 := Aside0.mk hy270
                            clear hy270
                            have H' := Aside0.mk H
                            clear H
                            obtain ⟨Ao36, co36, eo36⟩ := Kd.R_slice HO_7.out
                            subst eo36
                            obtain ⟨i037, hi037, _, hsz37, _⟩ := info_parts info5
                            obtain ⟨A37, hcut37, hA37, hC37⟩ := print_drop_of (P := Try.prog) (Value.int .u8) 0 22 5 .i64 Try.underlying22 hi037 hsz37 A0 c0 l0 x8_2 (of_decide_eq_true (by first | (with_reducible assumption) | assumption)) (of_decide_eq_true (by first | (with_reducible assumption) | assumption)) HC0.out
                            have HR249 := Aside0.mk (Kd.C_of_reads (h1 := fun _ => rfl) (hA37 _ (Kd.reads_of_C HR0.out)))
                            have HC249 := Aside0.mk hC37
                            clear hA37 hC37 hi037 hsz37
                            go_wp2_with (first | ((with_reducible refine gate_callee (f := 54) rfl ?_); refine goesL_ (some 28) rfl rfl Try.func54 (by kernel_rfl) rfl #[.slice A37 (l0.drop (x8_2 : Int).toNat).length (c0 - x8_2.toNat)] rfl (by (try simp only [List.map_toArray, List.map_cons, List.map_nil]); first | done | (rw [show (l0.drop (x8_2 : Int).toNat).length = (l0.length - x8_2.toNat) from List.length_drop] <;> rfl) | rfl | (simp only [List.length_drop, List.length_take]; rfl)) ?_; (with_reducible refine (runs_pair.calls k2 _ _ (l0.drop (x8_2 : Int).toNat) t250 t251 t252 t253 _ ?side1 ?side2 A9.out).mono ?_); (case side1 => repeat (first | exact (Kd.C_below HR249.out HB.out) | (with_reducible refine Kd.C_alloc ?_ _) | (with_reducible refine Kd.C_drewN ?_ _) | (with_reducible refine Kd.C_drew ?_))); (case side2 => exact HC249.out); rintro e w' ⟨rfl, ⟨nd, rfl⟩⟩; refine ⟨_, rfl, ?_⟩) | ((with_reducible refine gate_dst (N := 67) rfl ?_); (try (refine gate_guard (by rfl) ?_; dsimp only)); refine Kd.R_lit (Kd.int .u64) _ 23 ?hg (N := 67) ?hd (xs := ([t251] : List Int)) (inner := [.int .u64 t251]) (ok := fun _ => True) (okp := fun _ => True) ?hr ?hp (fun _ hk => hk) trivial (Below.refl _ _) (Nat.le_refl _) (by simp) ?_; (case hd => rfl); (case hg => rfl); (case hr => first | (go_simp; done) | (go_simp; rfl)); (case hp => exact (Reps.one (show Kd.M (Kd.int .u64) _ _ _ t251 [.int .u64 t251] from rfl) (Reps.none _ _))); intro v265 w38 ho39 hb hg_ hnew_; clear hg_ hnew_; (first | rw [← Ny264.out] at ho39 | (simp only [Int.reduceToNat] at ho39; rw [← Ny264.out] at ho39)); have n0_ := Aside0.mk (Kd.R_elder' (by (with_reducible repeat (first | apply Kd.R_alloc | apply Kd.R_drewN | apply Kd.R_drew)); exact HO_7.out) (Kd.R_base ho39) hb); have n1_ := Aside0.mk (Kd.R_lower (Kd.R_new' ho39 (Kd.R_lt (by (with_reducible repeat (first | apply Kd.R_alloc | apply Kd.R_drewN | apply Kd.R_drew)); exact HO_7.out))) (below_size (by repeat (first | (with_reducible first | exact HB.out | apply below_alloc | apply pw_below_drewN | apply below_drew1) | exact HB.out)))); have n2_ := Aside0.mk (below_step (by repeat (first | (with_reducible first | exact HB.out | apply below_alloc | apply pw_below_drewN | apply below_drew1) | exact HB.out)) hb); clear HO_7; clear HB; have HO_7 := n0_; have HO266 := n1_; have HB := n2_; clear n0_ n1_ n2_; clear hb ho39; obtain ⟨Ao40, co40, eo40⟩ := Kd.R_slice HO266.out; subst eo40) | ((with_reducible refine gate_callee (f := 55) rfl ?_); refine goesL_ (some 70) rfl rfl Try.func55 (by kernel_rfl) rfl #[.slice Ao40 y264.length co40, .int .i64 (wrap64 (t250))] rfl (by (try simp only [List.map_toArray, List.map_cons, List.map_nil]); first | done | rfl | (simp only [List.length_drop, List.length_take]; rfl)) ?_; (with_reducible refine (slices_Repeat_uint64_uint64.calls _ _ y264 (wrap64 (t250)) t267 _ ?side1 ?side2 A34.out).mono ?_); (case side1 => repeat (first | exact (Kd.R_reads' HO266.out).2.2 | (with_reducible refine Kd.C_alloc ?_ _) | (with_reducible refine Kd.C_drewN ?_ _) | (with_reducible refine Kd.C_drew ?_))); (case side2 => exact (Kd.R_reads' HO266.out).2.1); rintro e w41 ⟨v268, rfl, ho0, hb⟩; refine ⟨_, rfl, ?_⟩; have n0_ := Aside0.mk (Kd.R_elder' (by (with_reducible repeat (first | apply Kd.R_alloc | apply Kd.R_drewN | apply Kd.R_drew)); exact HO_7.out) (Kd.R_base ho0) hb); have n1_ := Aside0.mk (Kd.R_elder' (by (with_reducible repeat (first | apply Kd.R_alloc | apply Kd.R_drewN | apply Kd.R_drew)); exact HO266.out) (Kd.R_base ho0) hb); have n2_ := Aside0.mk (Kd.R_lower (Kd.R_new' (Kd.R_new' ho0 (Kd.R_lt (by (with_reducible repeat (first | apply Kd.R_alloc | apply Kd.R_drewN | apply Kd.R_drew)); exact HO_7.out))) (Kd.R_lt (by (with_reducible repeat (first | apply Kd.R_alloc | apply Kd.R_drewN | apply Kd.R_drew)); exact HO266.out))) (below_size (by repeat (first | (with_reducible first | exact HB.out | apply below_alloc | apply pw_below_drewN | apply below_drew1) | exact HB.out)))); have n3_ := Aside0.mk (below_step (by repeat (first | (with_reducible first | exact HB.out | apply below_alloc | apply pw_below_drewN | apply below_drew1) | exact HB.out)) hb); clear HO_7; clear HO266; clear HB; have HO_7 := n0_; have HO266 := n1_; have HO269 := n2_; have HB := n3_; clear n0_ n1_ n2_ n3_; (try clear hb); (try clear hb2); (try clear hk); (try clear hi); (try clear ho0); obtain ⟨Ao43, co43, eo43⟩ := Kd.R_slice HO269.out; subst eo43) | ((with_reducible refine gate_builtin (b := .append) (xs := #[.tmp 65, .tmp 70]) rfl ?_); (try (refine gate_guard (by rfl) ?_; dsimp only)); at_builtin; refine Kd.R_append_rows (Kd.int .u64) (w0 := w) w.heap.size rfl (.tmp 65) (.tmp 70) 34 23 (.int .u64 0) 8 rfl Try.underlying34 info23 rfl (by decide) (by omega) (.slice Ao36 x7_2.length co36) x7_2 t267 _ _ _ (fun k_ => some k_ ≠ (.slice Ao40 y264.length co40 : Value).ownBlock ∧ some k_ ≠ (.slice Ao43 t267.length co43 : Value).ownBlock) (fun _ => False) rfl rfl ?aO ?aR (fun _ _ h => h) (fun _ h => h.elim) ?aF ?aB ?aS ?aL ?_; (case aR => repeat (first | exact (Kd.R_reads' HO269.out).2.2 | (with_reducible refine Kd.C_alloc ?_ _) | (with_reducible refine Kd.C_drewN ?_ _) | (with_reducible refine Kd.C_drew ?_))); (case aB => exact (by repeat (first | (with_reducible first | exact HB.out | apply below_alloc | apply pw_below_drewN | apply below_drew1) | exact HB.out))); (case aF => exact (fun k_ hk => ⟨Kd.fresh' (Kd.R_lt (by (with_reducible repeat (first | apply Kd.R_alloc | apply Kd.R_drewN | apply Kd.R_drew)); exact HO266.out)) k_ hk, Kd.fresh' (Kd.R_lt (by (with_reducible repeat (first | apply Kd.R_alloc | apply Kd.R_drewN | apply Kd.R_drew)); exact HO269.out)) k_ hk⟩)); (case aO => exact (by (with_reducible repeat (first | apply Kd.R_alloc | apply Kd.R_drewN | apply Kd.R_drew)); exact Kd.R_mono HO_7.out (fun _ hk => ⟨hk.1.2, hk.2⟩))); (case aS => exact (below_size (by repeat (first | (with_reducible first | exact HB.out | apply below_alloc | apply pw_below_drewN | apply below_drew1) | exact HB.out)))); (case aL => have := LMc35.out; omega); intro v271 w42 ho hb hg hat; rw [← Ny270.out] at ho; have n0_ := Aside0.mk (Kd.R_after (ok := (fun k_ => some k_ ≠ (.slice Ao43 t267.length co43 : Value).ownBlock)) (by (with_reducible repeat (first | apply Kd.R_alloc | apply Kd.R_drewN | apply Kd.R_drew)); exact Kd.R_mono HO266.out (fun _ hk => ⟨hk.2, hk.1.2⟩)) hg hat); have n1_ := Aside0.mk (Kd.R_after (ok := (fun k_ => some k_ ≠ (.slice Ao40 y264.length co40 : Value).ownBlock)) (by (with_reducible repeat (first | apply Kd.R_alloc | apply Kd.R_drewN | apply Kd.R_drew)); exact Kd.R_mono HO269.out (fun _ hk => ⟨hk.2, hk.1.2⟩)) hg hat); have n2_ := Aside0.mk (hb); have n3_ := Aside0.mk (ho); clear HO266; clear HO269; clear HB; clear HO_7; have HO266 := n0_; have HO269 := n1_; have HB := n2_; have HO272 := n3_; clear n0_ n1_ n2_ n3_; clear ho hb hg hat))
                            go_roundg k2
                            case measure => have := HJ2.out; have := HK2.out; omega
                            case rel => exact ⟨(y270), (wrap64 (x8_2 + t252)), (by first | rfl | (simp; done) | (simp [*]; done)), H', ⟨by have := HJ2.out; have := HK2.out; omega⟩, ⟨by (with_reducible repeat (first | apply Kd.R_alloc | apply Kd.R_drewN | apply Kd.R_drew)); exact Kd.R_mono HO272.out (fun _ hk => trivial)⟩, ⟨by repeat (first | (with_reducible first | exact HB.out | apply below_alloc | apply pw_below_drewN | apply below_drew1) | exact HB.out)⟩⟩
                          · rw [if_neg c35] at H
                            exact absurd H (by simp)
                  · rw [if_neg c10] at H
                    have c10b0 : (t253 == 0) = false := beq_eq_false_iff_ne.mpr c10
                    have c10b1 : (t253 != 0) = true := bne_iff_ne.mpr c10
                    simp only [Option.some.injEq, Prod.mk.injEq] at H
                    obtain ⟨rfl, rfl, rfl⟩ := H
                    obtain ⟨Ao44, co44, eo44⟩ := Kd.R_slice HO_7.out
                    subst eo44
                    obtain ⟨i045, hi045, _, hsz45, _⟩ := info_parts info5
                    obtain ⟨A45, hcut45, hA45, hC45⟩ := print_drop_of (P := Try.prog) (Value.int .u8) 0 22 5 .i64 Try.underlying22 hi045 hsz45 A0 c0 l0 x8_2 (of_decide_eq_true (by first | (with_reducible assumption) | assumption)) (of_decide_eq_true (by first | (with_reducible assumption) | assumption)) HC0.out
                    have HR249 := Aside0.mk (Kd.C_of_reads (h1 := fun _ => rfl) (hA45 _ (Kd.reads_of_C HR0.out)))
                    have HC249 := Aside0.mk hC45
                    clear hA45 hC45 hi045 hsz45
                    go_wp2_with (first | ((with_reducible refine gate_callee (f := 54) rfl ?_); refine goesL_ (some 28) rfl rfl Try.func54 (by kernel_rfl) rfl #[.slice A45 (l0.drop (x8_2 : Int).toNat).length (c0 - x8_2.toNat)] rfl (by (try simp only [List.map_toArray, List.map_cons, List.map_nil]); first | done | (rw [show (l0.drop (x8_2 : Int).toNat).length = (l0.length - x8_2.toNat) from List.length_drop] <;> rfl) | rfl | (simp only [List.length_drop, List.length_take]; rfl)) ?_; (with_reducible refine (runs_pair.calls k2 _ _ (l0.drop (x8_2 : Int).toNat) t250 t251 t252 t253 _ ?side1 ?side2 A9.out).mono ?_); (case side1 => repeat (first | exact (Kd.C_below HR249.out HB.out) | (with_reducible refine Kd.C_alloc ?_ _) | (with_reducible refine Kd.C_drewN ?_ _) | (with_reducible refine Kd.C_drew ?_))); (case side2 => exact HC249.out); rintro e w' ⟨rfl, ⟨nd, rfl⟩⟩; refine ⟨_, rfl, ?_⟩))
                    go_ret3
                    exact ⟨_, by first | rfl | (simp [errW_none, errW_some] <;> rfl) | (simp [*, errW_none, errW_some] <;> rfl), by first | exact Kd.R_nil _ _ _ _ _ | exact Kd.N_nil _ _ _ _ _ | exact Kd.V_nil _ _ _ _ _ | exact Kd.Q_nil _ _ _ _ _ | exact Kd.S_nil _ _ _ _ _, by repeat (first | (with_reducible first | exact HB.out | apply below_alloc | apply pw_below_drewN | apply below_drew1) | exact HB.out)⟩
                · rw [if_neg c8] at H
                  exact absurd H (by simp)
              · rw [if_neg c7] at H
                exact absurd H (by simp)
            · rw [if_neg c6] at H
              have c6b0 : decide ((x7_2.length : Int) < a1) = false := decide_eq_false c6
              clear c6
              simp only [Option.some.injEq, Prod.mk.injEq] at H
              obtain ⟨rfl, rfl, rfl⟩ := H
              obtain ⟨Ao46, co46, eo46⟩ := Kd.R_slice HO_7.out
              subst eo46
              go_wp2
              go_ret3
              exact ⟨_, by first | rfl | (simp [errW_none, errW_some] <;> rfl) | (simp [*, errW_none, errW_some] <;> rfl), by (with_reducible repeat (first | apply Kd.R_alloc | apply Kd.R_drewN | apply Kd.R_drew)); exact HO_7.out, by repeat (first | (with_reducible first | exact HB.out | apply below_alloc | apply pw_below_drewN | apply below_drew1) | exact HB.out)⟩

end Go.Proofs.Ytmlbppfcpejlpaa.X

-- Printed by this session's own program (wip/xprint.py) over the translation; its external functions are hand-written. Lean checks it.
namespace Go.Proofs.Ytmlbppfcpejlpaa.X
open Go.RowKit Go.Proofs.YtmlbppfcpejlpaaW.PrintWords Go.Proofs.YtmlbppfcpejlpaaW.PrintLast Go.Proofs.YtmlbppfcpejlpaaW.PrintMore
attribute [local go_sem] max2_int min2_int max_two min_two max_three min_three max_four min_four   -- for this text's walks alone
set_option linter.unusedVariables false
set_option linter.unusedSimpArgs false

/-! ### varint_Put: function 17 -/
def varint_Put.l0 : Nat → Int → List Int → Option (List Int)
  | 0, _, _ => none
  | k + 1, x1, x5 => if x1 ≥ 128 then (if x5.length < 140737488355328 then (varint_Put.l0 k (x1 / 128) (x5 ++ [Go.bits .or .u8 ((x1) % 256) 128])) else (none)) else (if x5.length < 140737488355328 then (some (x5 ++ [(x1) % 256])) else (none))
def varint_Put.f (k : Nat) (l0 : List Int) (a1 : Int) : Option (List Int) := (bytes_Clone.f l0).bind fun t101 => (varint_Put.l0 k a1 t101)
theorem varint_Put.mono_l : ∀ k, (∀ y0 y1, LeO (varint_Put.l0 k y0 y1) (varint_Put.l0 (k + 1) y0 y1))
  | 0 => fun _ _ r h => by simp [varint_Put.l0] at h
  | k + 1 => by
    have ih0 := varint_Put.mono_l k
    · intro y0 y1
      unfold varint_Put.l0
      repeat' first
      | (with_reducible exact ih0 _ _)
      | (with_reducible exact LeO.refl _)
      | (with_reducible exact LeO.none _)
      | (with_reducible refine LeO.ite ?_ ?_)
      | (with_reducible refine LeO.bind ?_ (fun _ => ?_))
      | exact ih0 _ _
      | exact LeO.none _
      | refine LeO.ite ?_ ?_
      | refine LeO.bind ?_ (fun _ => ?_)
theorem varint_Put.mono : ∀ a0 a1 k, LeO (varint_Put.f k a0 a1) (varint_Put.f (k + 1) a0 a1) := by
  intro a0 a1 k
  have ih0 := varint_Put.mono_l k
  unfold varint_Put.f
  repeat' first
      | (with_reducible exact ih0 _ _)
      | (with_reducible exact LeO.refl _)
      | (with_reducible exact LeO.none _)
      | (with_reducible refine LeO.ite ?_ ?_)
      | (with_reducible refine LeO.bind ?_ (fun _ => ?_))
      | exact ih0 _ _
      | exact LeO.none _
      | refine LeO.ite ?_ ?_
      | refine LeO.bind ?_ (fun _ => ?_)
set_option maxHeartbeats 8000000 in
set_option maxRecDepth 100000 in
theorem varint_Put.calls (k : Nat) (A0 : Option Addr) (c0 : Nat) (l0 : List Int) (a1 : Int) (r : List Int) (w : World) (hr0 : Kd.C (Kd.int .u8) w A0 l0.length l0) (hc0 : l0.length ≤ c0) (h : varint_Put.f k l0 a1 = some r) :
    Calls Try.prog 17 #[.slice A0 l0.length c0, .int .u64 a1] w fun e w' => ∃ v0_ : Value, e = .returned (v0_) ∧ Kd.R (Kd.int .u8) 5 w' w.heap.size (fun _ => True) v0_ r ∧ Below w.heap.size w w' := by
  have HR0 := Aside0.mk hr0
  have HC0 := Aside0.mk hc0
  clear hr0 hc0
  have HB := Aside0.mk (Below.refl w.heap.size w)
  have H : ((bytes_Clone.f l0).bind fun t101 => (varint_Put.l0 k a1 t101)) = some r := h
  clear h
  replace H := Option.bind_eq_some_iff.mp H
  obtain ⟨t101, A30, H⟩ := H
  replace H : (varint_Put.l0 k a1 t101) = some r := H
  have A3 := Aside0.mk A30
  clear A30
  have H' := Aside0.mk H
  clear H
  go_enter Try.func17, Try.ntmps17
  go_wp2_with (first | ((with_reducible refine gate_callee (f := 50) rfl ?_); refine goesL_ (some 7) rfl rfl Try.func50 (by kernel_rfl) rfl #[.slice A0 l0.length c0] rfl (by (try simp only [List.map_toArray, List.map_cons, List.map_nil]); first | done | rfl | (simp only [List.length_drop, List.length_take]; rfl)) ?_; (with_reducible refine (bytes_Clone.calls _ _ l0 t101 _ ?side1 ?side2 A3.out).mono ?_); (case side1 => repeat (first | exact HR0.out | (with_reducible refine Kd.C_alloc ?_ _) | (with_reducible refine Kd.C_drewN ?_ _) | (with_reducible refine Kd.C_drew ?_))); (case side2 => exact HC0.out); rintro e w4 ⟨v102, rfl, ho0, hb⟩; refine ⟨_, rfl, ?_⟩; have n0_ := Aside0.mk (Kd.R_lower ho0 (below_size (by repeat (first | (with_reducible first | exact HB.out | apply below_alloc | apply pw_below_drewN | apply below_drew1) | exact HB.out)))); have n1_ := Aside0.mk (below_step (by repeat (first | (with_reducible first | exact HB.out | apply below_alloc | apply pw_below_drewN | apply below_drew1) | exact HB.out)) hb); clear HB; have HO103 := n0_; have HB := n1_; clear n0_ n1_; (try clear hb); (try clear hb2); (try clear hk); (try clear hi); (try clear ho0)))
  go_loopg [1, 5] k (fun kq v1 v5 w' => ∃ (x1_1 : Int) (x5_1 : List Int), v1 = .int .u64 x1_1 ∧ Aside0 (varint_Put.l0 kq x1_1 x5_1 = some r) ∧ Aside0 (kq ≤ k) ∧ Aside0 (Kd.R (Kd.int .u8) 5 w' w.heap.size (fun _ => True) v5 x5_1) ∧ Aside0 (Below w.heap.size w w'))
  case atStart => exact ⟨(a1), (t101), (by first | rfl | (simp; done) | (simp [*]; done)), H', ⟨Nat.le_refl _⟩, ⟨by (with_reducible repeat (first | apply Kd.R_alloc | apply Kd.R_drewN | apply Kd.R_drew)); exact HO103.out⟩, ⟨by repeat (first | (with_reducible first | exact HB.out | apply below_alloc | apply pw_below_drewN | apply below_drew1) | exact HB.out)⟩⟩
  case round =>
    clear H'
    try clear c1
    try clear p2
    obtain ⟨x1_1, x5_1, rfl, HA, HK1, HO_5, HB⟩ := hrel
    cases gk with
    | zero => exact absurd HA.out (by simp [varint_Put.l0])
    | succ k1 =>
      have H := HA.out
      clear HA
      simp only [varint_Put.l0] at H
      by_cases c5 : x1_1 ≥ 128
      · rw [if_pos c5] at H
        have c5b0 : decide (128 ≤ x1_1) = true := decide_eq_true c5
        clear c5
        by_cases c6 : x5_1.length < 140737488355328
        · rw [if_pos c6] at H
          have LMc6 := Aside0.mk c6
          clear c6
          obtain ⟨y104, hy104⟩ : ∃ y_ : List Int, y_ = (x5_1 ++ [Go.bits .or .u8 ((x1_1) % 256) 128]) := ⟨_, rfl⟩
          replace H : (varint_Put.l0 k1 (x1_1 / 128) y104) = some r := by first | (rw [hy104]; with_reducible exact H) | (have H2_ := (Option.bind_some _ _).symm.trans H; rw [hy104]; with_reducible exact H2_) | (have H2_ := (Option.bind_some _ _).symm.trans H; with_reducible exact H2_) | with_reducible exact H | (rw [hy104]; exact H) | exact H
          have Ny104 := Aside0.mk hy104
          clear hy104
          have H' := Aside0.mk H
          clear H
          go_wp2_with (first | ((with_reducible refine gate_builtin (b := .append) (xs := #[.tmp 12, .tmp 16]) rfl ?_); at_builtin; refine Kd.R_append (Kd.int .u8) (w0 := w) w.heap.size rfl (.tmp 12) (.tmp 16) 22 5 (.int .u8 0) 1 rfl Try.underlying22 info5 rfl (by decide) (by omega) u5 x5_1 (Go.bits .or .u8 ((x1_1) % 256) 128) [.int .u8 (Go.bits .or .u8 ((x1_1) % 256) 128)] (fun _ => True) (fun _ => False) rfl rfl ?aP (fun _ hk => hk.elim) ?aF ?aO ?aB ?aS ?aL ?_; (case aP => exact rfl); (case aB => exact (by repeat (first | (with_reducible first | exact HB.out | apply below_alloc | apply pw_below_drewN | apply below_drew1) | exact HB.out))); (case aF => exact (fun _ _ => trivial)); (case aO => exact (by (with_reducible repeat (first | apply Kd.R_alloc | apply Kd.R_drewN | apply Kd.R_drew)); exact HO_5.out)); (case aS => exact (below_size (by repeat (first | (with_reducible first | exact HB.out | apply below_alloc | apply pw_below_drewN | apply below_drew1) | exact HB.out)))); (case aL => have := LMc6.out; omega); intro v105 w7 ho hb hg hat; rw [← Ny104.out] at ho; have n0_ := Aside0.mk (hb); have n1_ := Aside0.mk (ho); clear HB; clear HO_5; have HB := n0_; have HO106 := n1_; clear n0_ n1_; clear ho hb hg hat))
          go_roundg k1
          case measure => have := HK1.out; omega
          case rel => exact ⟨(x1_1 / 128), (y104), (by first | rfl | (simp; done) | (simp [*]; done)), H', ⟨by have := HK1.out; omega⟩, ⟨by (with_reducible repeat (first | apply Kd.R_alloc | apply Kd.R_drewN | apply Kd.R_drew)); exact HO106.out⟩, ⟨by repeat (first | (with_reducible first | exact HB.out | apply below_alloc | apply pw_below_drewN | apply below_drew1) | exact HB.out)⟩⟩
        · rw [if_neg c6] at H
          exact absurd H (by simp)
      · rw [if_neg c5] at H
        have c5b0 : decide (128 ≤ x1_1) = false := decide_eq_false c5
        clear c5
        by_cases c8 : x5_1.length < 140737488355328
        · rw [if_pos c8] at H
          have LMc8 := Aside0.mk c8
          clear c8
          obtain ⟨y107, hy107⟩ : ∃ y_ : List Int, y_ = (x5_1 ++ [(x1_1) % 256]) := ⟨_, rfl⟩
          replace H : (some y107) = some r := by first | (rw [hy107]; with_reducible exact H) | (have H2_ := (Option.bind_some _ _).symm.trans H; rw [hy107]; with_reducible exact H2_) | (have H2_ := (Option.bind_some _ _).symm.trans H; with_reducible exact H2_) | with_reducible exact H | (rw [hy107]; exact H) | exact H
          have Ny107 := Aside0.mk hy107
          clear hy107
          obtain rfl := Option.some.inj H
          go_wp2_with (first | ((with_reducible refine gate_builtin (b := .append) (xs := #[.tmp 18, .tmp 21]) rfl ?_); at_builtin; refine Kd.R_append (Kd.int .u8) (w0 := w) w.heap.size rfl (.tmp 18) (.tmp 21) 22 5 (.int .u8 0) 1 rfl Try.underlying22 info5 rfl (by decide) (by omega) u5 x5_1 ((x1_1) % 256) [.int .u8 ((x1_1) % 256)] (fun _ => True) (fun _ => False) rfl rfl ?aP (fun _ hk => hk.elim) ?aF ?aO ?aB ?aS ?aL ?_; (case aP => exact rfl); (case aB => exact (by repeat (first | (with_reducible first | exact HB.out | apply below_alloc | apply pw_below_drewN | apply below_drew1) | exact HB.out))); (case aF => exact (fun _ _ => trivial)); (case aO => exact (by (with_reducible repeat (first | apply Kd.R_alloc | apply Kd.R_drewN | apply Kd.R_drew)); exact HO_5.out)); (case aS => exact (below_size (by repeat (first | (with_reducible first | exact HB.out | apply below_alloc | apply pw_below_drewN | apply below_drew1) | exact HB.out)))); (case aL => have := LMc8.out; omega); intro v108 w9 ho hb hg hat; rw [← Ny107.out] at ho; have n0_ := Aside0.mk (hb); have n1_ := Aside0.mk (ho); clear HB; clear HO_5; have HB := n0_; have HO109 := n1_; clear n0_ n1_; clear ho hb hg hat))
          go_ret
          exact ⟨_, by first | rfl | (simp [errW_none, errW_some] <;> rfl) | (simp [*, errW_none, errW_some] <;> rfl), by (with_reducible repeat (first | apply Kd.R_alloc | apply Kd.R_drewN | apply Kd.R_drew)); exact HO109.out, by repeat (first | (with_reducible first | exact HB.out | apply below_alloc | apply pw_below_drewN | apply below_drew1) | exact HB.out)⟩
        · rw [if_neg c8] at H
          exact absurd H (by simp)

end Go.Proofs.Ytmlbppfcpejlpaa.X

-- Printed by this session's own program (wip/xprint.py) over the translation; its external functions are hand-written. Lean checks it.
namespace Go.Proofs.Ytmlbppfcpejlpaa.X
open Go.RowKit Go.Proofs.YtmlbppfcpejlpaaW.PrintWords Go.Proofs.YtmlbppfcpejlpaaW.PrintLast Go.Proofs.YtmlbppfcpejlpaaW.PrintMore
attribute [local go_sem] max2_int min2_int max_two min_two max_three min_three max_four min_four   -- for this text's walks alone
set_option linter.unusedVariables false
set_option linter.unusedSimpArgs false

/-! ### runs_Put: function 36 -/
open Go.Proofs.Ytmlbppfcpejlpaa.S Go.Proofs.Ytmlbppfcpejlpaa.W04
attribute [local go_sem ↓] Go.wp_at_zero Go.wp_at_succ
/-- How often a value comes at the head. -/
def runs_Put.cnt (x : Int) : List Int → Nat
  | [] => 0
  | a :: l => if a = x then runs_Put.cnt x l + 1 else 0
theorem runs_Put.cnt_le (x : Int) (l : List Int) : runs_Put.cnt x l ≤ l.length := by
  induction l with
  | nil => exact Nat.le_refl _
  | cons a l ih => rw [runs_Put.cnt, List.length_cons]; split <;> omega
theorem runs_Put.cnt_eq (x : Int) (l : List Int) : ∀ i, (h : i < runs_Put.cnt x l) → ∃ hl : i < l.length, l[i] = x := by
  induction l with
  | nil => intro i h; simp [runs_Put.cnt] at h
  | cons a l ih =>
    intro i h
    rw [runs_Put.cnt] at h
    by_cases e : a = x
    · rw [if_pos e] at h
      cases i with
      | zero => exact ⟨by simp, e⟩
      | succ i =>
        obtain ⟨h1, h2⟩ := ih i (by omega)
        exact ⟨by simp; omega, by simpa using h2⟩
    · rw [if_neg e] at h; omega
theorem runs_Put.cnt_ne (x : Int) (l : List Int) : (h : runs_Put.cnt x l < l.length) → l[runs_Put.cnt x l] ≠ x := by
  induction l with
  | nil => intro h; simp at h
  | cons a l ih =>
    intro h
    by_cases e : a = x
    · have hc : runs_Put.cnt x (a :: l) = runs_Put.cnt x l + 1 := by rw [runs_Put.cnt, if_pos e]
      have h2 : runs_Put.cnt x l < l.length := by rw [hc, List.length_cons] at h; omega
      have := ih h2
      simp only [hc, List.getElem_cons_succ]
      exact this
    · have hc : runs_Put.cnt x (a :: l) = 0 := by rw [runs_Put.cnt, if_neg e]
      simp only [hc, List.getElem_cons_zero]
      exact e
/-- How often the first value comes at the head. -/
def runs_Put.lead (l : List Int) : Nat := runs_Put.cnt (rd l 0) l
theorem runs_Put.lead_le (l : List Int) : runs_Put.lead l ≤ l.length := runs_Put.cnt_le _ _
theorem runs_Put.lead_eq {l : List Int} {i : Nat} (h : i < runs_Put.lead l) : rd l (i : Int) = rd l 0 := by
  obtain ⟨h1, h2⟩ := runs_Put.cnt_eq _ l i h
  rw [rd_get h1, h2]
theorem runs_Put.lead_ne {l : List Int} (h : runs_Put.lead l < l.length) : rd l (runs_Put.lead l : Int) ≠ rd l 0 := by
  rw [rd_get h]
  exact runs_Put.cnt_ne _ l h
theorem runs_Put.lead_pos {l : List Int} (h : 0 < l.length) : 0 < runs_Put.lead l := by
  cases l with
  | nil => simp at h
  | cons a l => simp [runs_Put.lead, runs_Put.cnt, rd]
def runs_Put.idx (l : List Int) : Int := if runs_Put.lead l < l.length then (runs_Put.lead l : Int) else -1
set_option maxHeartbeats 8000000 in
set_option maxRecDepth 100000 in
theorem runs_Put.index_calls (A : Option Addr) (c : Nat) (l : List Int) (b : Nat) (w : World) (hr : Kd.C (Kd.int .u64) w A l.length l) (hc : l.length ≤ c) (h0 : 0 < l.length) (hl : l.length ≤ 200)
    (hb : w.cell? ⟨b, 0, none⟩ = some (.slice A l.length c)) :
    Calls Try.prog 52 #[.slice A l.length c, .func (Fn.func 53) #[] #[.pointer (some ⟨b, 0, none⟩)]] w fun e w' => e = .returned (.int .i64 (runs_Put.idx l)) ∧ w = w' := by
  obtain ⟨n, hn⟩ : ∃ n, n = l.length := ⟨_, rfl⟩
  obtain ⟨m, hm⟩ : ∃ m, m = runs_Put.lead l := ⟨_, rfl⟩
  have hmn : m ≤ n := by rw [hm, hn]; exact runs_Put.lead_le l
  have hm0 : 0 < m := by rw [hm]; exact runs_Put.lead_pos h0
  obtain ⟨ix, hix⟩ : ∃ ix, runs_Put.idx l = ix := ⟨_, rfl⟩
  have hix2 : ix = if m < n then (m : Int) else -1 := by rw [← hix, hm, hn]; rfl
  obtain ⟨ad, hA, hx0⟩ := Kd.at_int hr 0 (Int.le_refl 0) (by omega)
  obtain ⟨x0, hx⟩ : ∃ x, rd l 0 = x := ⟨_, rfl⟩
  rw [hx] at hx0
  cases hA
  have c0 : w.cell? ad = some (.int .u64 x0) := by simpa [Addr.add] using hx0
  have HR := Aside0.mk hr
  have HM := Aside0.mk hm
  have HX := Aside0.mk hx
  have HN := Aside0.mk hn
  have HMN := Aside0.mk hmn
  have HIX := Aside0.mk hix2
  rw [hix]
  rw [← hn] at hc hb h0 hl ⊢
  have hz : (0 < (n : Int)) = True := eq_true (by omega)
  have hz2 : ((0 : Int) < n) = True := eq_true (by omega)
  have hz3 : (0 < n) = True := eq_true h0
  clear hr hm hx hn hx0 hmn hix hix2
  go_enter Try.func52, Try.ntmps52
  go_wp2
  go_loop [8] (fun v8 => ∃ (i : Nat) (ii : Int), v8 = .int .i64 ii ∧ Aside0 (ii = (i : Int)) ∧ Aside0 (i ≤ m)) (fun v8 => ((n : Int) - intOf v8).toNat)
  case atStart => exact ⟨0, 0, rfl, ⟨rfl⟩, ⟨Nat.zero_le _⟩⟩
  case round =>
    obtain ⟨i, ii, rfl, HI, HIM⟩ := hrel
    have hi0 : 0 ≤ ii := by have := HI.out; omega
    have hi1 : ii ≤ 200 := by have := HI.out; have := HIM.out; have := HMN.out; omega
    by_cases hlt : i < n
    · have hi2 : decide (ii < (n : Int)) = true := by have := HI.out; simp; omega
      have hi3 : (ii < (n : Int)) = True := eq_true (by have := HI.out; omega)
      obtain ⟨ad', hA, hxi⟩ := Kd.at_int HR.out ii hi0 (by rw [← HN.out]; have := HI.out; omega)
      cases hA
      obtain ⟨xi, hxv⟩ : ∃ x, rd l ii = x := ⟨_, rfl⟩
      rw [hxv] at hxi
      by_cases him : i < m
      · have he : xi = x0 := by rw [← hxv, HI.out, runs_Put.lead_eq (by rw [← HM.out]; exact him)]; exact HX.out
        subst he
        clear hxv
        go_wp2
        go_round
        case rel => exact ⟨i + 1, _, rfl, ⟨by have := HI.out; omega⟩, ⟨him⟩⟩
        case measure => simp [intOf]; have := HI.out; omega
      · have hmi : i = m := by have := HIM.out; omega
        have hne : xi ≠ x0 := by
          rw [← hxv, ← HX.out, HI.out, hmi, HM.out]
          exact runs_Put.lead_ne (by rw [← HM.out, ← HN.out]; omega)
        have hb1 : (xi != x0) = true := bne_iff_ne.2 hne
        have hb2 : (xi == x0) = false := beq_eq_false_iff_ne.2 hne
        have hxx : ix = ii := by rw [HIX.out, if_pos (by omega), HI.out, hmi]
        have HXX := Aside0.mk hxx
        clear hxv hne hxx hmi
        go_wp2
        go_ret
        exact ⟨(show _ = Ending.returned (Value.int .i64 ix) by rw [HXX.out]; rfl), rfl⟩
    · have hi2 : decide (ii < (n : Int)) = false := by have := HI.out; simp; omega
      have hxx : ix = -1 := by rw [HIX.out, if_neg (by have := HIM.out; have := HMN.out; omega)]
      have HXX := Aside0.mk hxx
      clear hxx
      go_wp2
      go_ret
      exact ⟨(show _ = Ending.returned (Value.int .i64 ix) by rw [HXX.out]; rfl), rfl⟩
/-- The rounds: the values that are left, the bytes so far. -/
def runs_Put.l0 : Nat → List Int → List Int → Option (List Int)
  | 0, _, _ => none
  | q + 1, l, out => if l.length = 0 then some out else (varint_Put.f 20 out (runs_Put.lead l : Int)).bind fun o1 => (varint_Put.f 20 o1 (rd l 0)).bind fun o2 => runs_Put.l0 q (l.drop (runs_Put.lead l)) o2
def runs_Put.f (l0 : List Int) : Option (List Int × Int) := if 200 < l0.length then some ([], 1) else (runs_Put.l0 201 l0 []).bind fun o => some (o, 0)
def runs_Put.Two (B : Nat) (xs : List Int) (n : Int) (w : World) (e : Ending) (w' : World) : Prop :=
  ∃ v0_ : Value, e = .returned (.tuple #[v0_, .int .i64 n]) ∧ Kd.R (Kd.int .u8) 5 w' B (fun _ => True) v0_ xs ∧ Below w.heap.size w w'
def runs_Put.boxLen (w : World) (b : Nat) : Nat := match w.cell? ⟨b, 0, none⟩ with | some (.slice _ n _) => n | _ => 0
theorem runs_Put.boxLen_of {w : World} {b : Nat} {A : Option Addr} {n c : Nat} (h : w.cell? ⟨b, 0, none⟩ = some (.slice A n c)) : runs_Put.boxLen w b = n := by unfold runs_Put.boxLen; rw [h]
def runs_Put.Rel (w : World) (b : Nat) (res : List Int) (v4 : Value) (wr : World) : Prop :=
  ∃ (l out : List Int) (A : Option Addr) (c q : Nat), wr.heap[b]? = some (.cells #[.slice A l.length c] 34 (0, 0)) ∧ Kd.C (Kd.int .u64) w A l.length l ∧ l.length ≤ c ∧ l.length ≤ 200 ∧ Kd.R (Kd.int .u8) 5 wr w.heap.size (fun _ => True) v4 out ∧ Below w.heap.size w wr ∧ runs_Put.l0 q l out = some res
theorem runs_Put.calls_long (A0 : Option Addr) (c0 : Nat) (l0 : List Int) (w : World) (h : 200 < l0.length) : Calls Try.prog 36 #[.slice A0 l0.length c0] w (runs_Put.Two w.heap.size [] 1 w) := by
  have h1 : decide (200 < (l0.length : Int)) = true := by simp; omega
  have h2 : decide (200 < l0.length) = true := by simp; omega
  clear h
  go_enter Try.func36, Try.ntmps36
  go_wp2
  go_ret2
  exact ⟨_, rfl, Kd.R_nil _ _ _ _ _, (Below.refl _ _).alloc (Nat.le_refl _) _⟩
set_option maxHeartbeats 8000000 in
set_option maxRecDepth 100000 in
theorem runs_Put.calls_main (A0 : Option Addr) (c0 : Nat) (l0 res : List Int) (w : World) (hr0 : Kd.C (Kd.int .u64) w A0 l0.length l0) (hc0 : l0.length ≤ c0) (h1 : l0.length ≤ 200) (hres : runs_Put.l0 201 l0 [] = some res) :
    Calls Try.prog 36 #[.slice A0 l0.length c0] w (runs_Put.Two w.heap.size res 0 w) := by
  have hmf : ∀ (fn : Fn) (first cap : Array Value) (w : World), (Instr.makeFunc fn first cap).run Try.prog w = .ok (.func fn first cap) w := fun _ _ _ _ => rfl
  have t1 : decide (200 < (l0.length : Int)) = false := by simp; omega
  have t2 : decide (200 < l0.length) = false := by simp; omega
  have HREL : Aside0 (runs_Put.Rel w w.heap.size res (.slice none 0 0) (w.alloc (.cells #[.slice A0 l0.length c0] 34))) :=
    ⟨⟨l0, [], A0, c0, 201, by simpa using heap_alloc_new w _, hr0, hc0, h1, Kd.R_nil _ _ _ _ _, (Below.refl _ _).alloc (Nat.le_refl _) _, hres⟩⟩
  obtain ⟨i0, hi0, _, hsz0, _⟩ := info_parts info23
  have HI0 := Aside0.mk hi0
  have HSZ0 := Aside0.mk hsz0
  clear hr0 hc0 h1 hres hi0 hsz0
  go_enter Try.func36, Try.ntmps36
  go_wp2
  clear t1 t2
  obtain ⟨b, hb⟩ : ∃ b, w.heap.size = b := ⟨_, rfl⟩
  have hbge : w.heap.size ≤ b := by omega
  rw [hb] at HREL ⊢
  generalize w.alloc (.cells #[.slice A0 l0.length c0] 34) = wz at HREL ⊢
  have HBW : Aside0 (b = w.heap.size) := ⟨hb.symm⟩
  clear hb
  go_loopw [4] (fun v4 wr => Aside0 (runs_Put.Rel w b res v4 wr)) (fun _ wr => runs_Put.boxLen wr b)
  case atStart => exact HREL
  case round =>
    clear HREL
    obtain ⟨l, out, A, c, q, hbox, hr, hc, hl, ho, hB, hq⟩ := hrel.out
    clear hrel
    have hcell : wr.cell? ⟨b, 0, none⟩ = some (.slice A l.length c) := (blk_cell hbox 0).trans rfl
    have HBOX := Aside0.mk hbox
    have HR := Aside0.mk hr
    have HC := Aside0.mk hc
    have HL := Aside0.mk hl
    have HB := Aside0.mk hB
    obtain ⟨A4, c4, e4⟩ := Kd.R_slice ho
    subst e4
    have HO := Aside0.mk ho
    have HQ := Aside0.mk hq
    have HLEN := Aside0.mk (runs_Put.boxLen_of hcell)
    clear hbox hr hc hB ho hq
    by_cases h0 : l.length = 0
    · have hz : decide (0 < (l.length : Int)) = false := decide_eq_false (by omega)
      have hz2 : decide (0 < l.length) = false := decide_eq_false (by omega)
      have hres : res = out := by
        have := HQ.out
        cases q with
        | zero => cases this
        | succ q => rw [runs_Put.l0, if_pos h0] at this; exact (Option.some.inj this).symm
      have HRES := Aside0.mk hres
      clear hres
      go_wp2
      go_ret2
      exact ⟨_, rfl, by rw [HRES.out]; exact HO.out, HB.out⟩
    · obtain ⟨q, rfl⟩ : ∃ z, q = z + 1 := by
        cases q with
        | zero => have := HQ.out; cases this
        | succ q => exact ⟨q, rfl⟩
      have hq := HQ.out
      rw [runs_Put.l0, if_neg h0] at hq
      obtain ⟨o1, ho1, hq⟩ := Option.bind_eq_some_iff.1 hq
      obtain ⟨o2, ho2, hq⟩ := Option.bind_eq_some_iff.1 hq
      have hp := runs_Put.lead_pos (l := l) (by omega)
      have hle := runs_Put.lead_le l
      obtain ⟨dv, hdv⟩ : ∃ d : Int, (runs_Put.lead l : Int) = d := ⟨_, rfl⟩
      rw [hdv] at ho1
      obtain ⟨x0, hx⟩ : ∃ x, rd l 0 = x := ⟨_, rfl⟩
      rw [hx] at ho2
      obtain ⟨ad, hA, hx0⟩ := Kd.at_int (Kd.C_below HR.out HB.out) 0 (Int.le_refl 0) (by omega)
      rw [hx] at hx0
      cases hA
      have c0 : wr.cell? ad = some (.int .u64 x0) := by simpa [Addr.add] using hx0
      have hadlt := World.block_lt_of_cell? wr _ c0
      have hz : decide (0 < (l.length : Int)) = true := decide_eq_true (by omega)
      have hz2 : decide (0 < l.length) = true := decide_eq_true (by omega)
      have hz3 : (0 < (l.length : Int)) = True := eq_true (by omega)
      have hz4 : (0 < l.length) = True := eq_true (by omega)
      have hd0 : 0 ≤ dv := by omega
      have hd1 : dv ≤ (l.length : Int) := by omega
      have hd2 : dv ≤ 200 := by omega
      have hdw : IntKind.u64.wrap dv = dv := wrap_u64_id (by omega) (by omega)
      have hdn : decide (dv < 0) = false := decide_eq_false (by omega)
      have HO1 := Aside0.mk ho1
      have HO2 := Aside0.mk ho2
      have HQ' := Aside0.mk hq
      have HDV := Aside0.mk hdv
      have HH0 : Aside0 (0 < l.length) := ⟨by omega⟩
      obtain ⟨A', hcut, hA', hC'⟩ := print_drop_of (P := Try.prog) (Value.int .u64) 0 34 23 .i64 Try.underlying34 HI0.out HSZ0.out (some ad) c l dv hd0 hd1 HC.out
      have HR' := Aside0.mk (Kd.C_of_reads (h1 := fun _ => rfl) (hA' _ (Kd.reads_of_C HR.out)))
      have HC' := Aside0.mk hC'
      have hdt : dv.toNat = runs_Put.lead l := by omega
      rw [hdt] at hcut HR' HC'
      obtain ⟨l', hl'⟩ : ∃ l', l' = l.drop (runs_Put.lead l) := ⟨_, rfl⟩
      have HL' : Aside0 (l'.length < l.length) := ⟨by rw [hl', List.length_drop]; omega⟩
      rw [← hl'] at hcut HR' HC' HQ'
      have HFR : Aside0 (wr.frozen? ⟨b, 0, none⟩ = false) := ⟨blk_frozen HBOX.out 0⟩
      clear ho1 ho2 hq hx0 hA' hC' hdt hl' h0 hx
      by_cases hld : runs_Put.lead l < l.length
      have hix : runs_Put.idx l = dv := by unfold runs_Put.idx; rw [if_pos hld, hdv]
      rotate_left
      have hix : runs_Put.idx l = -1 := by unfold runs_Put.idx; rw [if_neg hld]
      have hll : (l.length : Int) = dv := by omega
      have hz5 : decide (0 < dv) = true := decide_eq_true (by omega)
      have hz6 : (0 < dv) = True := eq_true (by omega)
      all_goals
        clear hld hdv hp hle
        go_wp2_with (go_at_call 52; (with_reducible refine (runs_Put.index_calls (some ad) c l b _ (Kd.C_below HR.out HB.out) HC.out HH0.out HL.out hcell).mono ?_); rintro e w5 ⟨rfl, rfl⟩)
        have hcelld : wr.drew.cell? ⟨b, 0, none⟩ = some (.slice (some ad) l.length c) := hcell
        have c0d : wr.drew.cell? ad = some (.int .u64 x0) := c0
        have HBOXd : Aside0 (wr.drew.heap[b]? = some (.cells #[.slice (some ad) l.length c] 34 (0, 0))) := ⟨HBOX.out⟩
        have HOd := Aside0.mk (Kd.R_drew HO.out)
        have HBd := Aside0.mk (below_drew1 HB.out)
        go_region_held3 (fun w' => w'.cell? ⟨b, 0, none⟩ = some (.slice (some ad) l.length c) ∧ w'.cell? ad = some (.int .u64 x0)) (first | exact ⟨hcelld, c0d⟩ | exact ⟨hcell6, c06⟩ | exact ⟨hcell7, c07⟩)
          (first
            | (go_at_call 17; (with_reducible refine (varint_Put.calls 20 A4 c4 out dv o1 _ (Kd.R_reads' HOd.out).2.2 (Kd.R_reads' HOd.out).2.1 HO1.out).mono ?_); rintro e w6 ⟨v6, rfl, hR, hB⟩; obtain ⟨A6, c6, e6⟩ := Kd.R_slice hR; subst e6; have hbox6 := blk_below HBOXd.out hB; have hcell6 : w6.cell? ⟨b, 0, none⟩ = some (.slice (some ad) l.length c) := (blk_cell hbox6 0).trans rfl; have c06 := pw_cell_below hB c0d; have HBOX6 := Aside0.mk hbox6; have HR6 := Aside0.mk hR; have HB6 := Aside0.mk (below_step HBd.out hB); clear hR hB hbox6)
            | (go_at_call 17; (with_reducible refine (varint_Put.calls 20 A6 c6 o1 x0 o2 _ (Kd.R_reads' HR6.out).2.2 (Kd.R_reads' HR6.out).2.1 HO2.out).mono ?_); rintro e w7 ⟨v7, rfl, hR, hB⟩; have hbox7 := blk_below HBOX6.out hB; have hcell7 : w7.cell? ⟨b, 0, none⟩ = some (.slice (some ad) l.length c) := (blk_cell hbox7 0).trans rfl; have c07 := pw_cell_below hB c06; have HBOX7 := Aside0.mk hbox7; have HR7 := Aside0.mk hR; have HB7 := Aside0.mk (below_step HB6.out hB); have hfr7 : w7.frozen? ⟨b, 0, none⟩ = false := blk_frozen hbox7 0; clear hR hB hbox7 HR6 HBOX6 hcell6 c06 hcelld c0d HBOXd HOd HBd))
        go_wp2
        have hbox8 := blk_set HBOX7.out 0 (.slice A' l'.length (c - runs_Put.lead l))
        have hbox9 : (w7.setCell ⟨b, 0, none⟩ (.slice A' l'.length (c - runs_Put.lead l))).heap[b]? = some (.cells #[.slice A' l'.length (c - runs_Put.lead l)] 34 (0, 0)) := by simpa using hbox8
        go_roundw
        case rel => exact ⟨⟨l', o2, A', _, q, hbox9, HR'.out, HC'.out, by have := HL'.out; have := HL.out; omega, Kd.R_set (Kd.R_lower HR7.out HB6.out.size) HBOX7.out (by decide) 0 _, HB7.out.setCell hbge _, HQ'.out⟩⟩
        case measure =>
          have e1 := HLEN.out
          have e2 := runs_Put.boxLen_of ((blk_cell hbox9 0).trans rfl)
          have := HL'.out
          rw [e1, e2]; exact this
theorem runs_Put.calls (A0 : Option Addr) (c0 : Nat) (l0 : List Int) (r1 : List Int) (r2 : Int) (w : World) (hr0 : Kd.C (Kd.int .u64) w A0 l0.length l0) (hc0 : l0.length ≤ c0) (h : runs_Put.f l0 = some (r1, r2)) :
    Calls Try.prog 36 #[.slice A0 l0.length c0] w fun e w' => ∃ v0_ : Value, e = .returned (.tuple #[v0_, .int .i64 r2]) ∧ Kd.R (Kd.int .u8) 5 w' w.heap.size (fun _ => True) v0_ r1 ∧ Below w.heap.size w w' := by
  unfold runs_Put.f at h
  by_cases h1 : 200 < l0.length
  · rw [if_pos h1] at h
    injection h with h; injection h with e1 e2; subst e1; subst e2
    exact runs_Put.calls_long A0 c0 l0 w h1
  · rw [if_neg h1] at h
    obtain ⟨o, ho, h⟩ := Option.bind_eq_some_iff.1 h
    injection h with h; injection h with e1 e2; subst e1; subst e2
    exact runs_Put.calls_main A0 c0 l0 o w hr0 hc0 (by omega) ho

end Go.Proofs.Ytmlbppfcpejlpaa.X

-- Printed by this session's own program (wip/xprint.py) over the translation; its external functions are hand-written. Lean checks it.
namespace Go.Proofs.Ytmlbppfcpejlpaa.X
open Go.RowKit Go.Proofs.YtmlbppfcpejlpaaW.PrintWords Go.Proofs.YtmlbppfcpejlpaaW.PrintLast Go.Proofs.YtmlbppfcpejlpaaW.PrintMore
attribute [local go_sem] max2_int min2_int max_two min_two max_three min_three max_four min_four   -- for this text's walks alone
set_option linter.unusedVariables false
set_option linter.unusedSimpArgs false

/-! ### ricklaw09_puts: function 39 -/
def ricklaw09_puts.f (k : Nat)  : Option (Bool) := (runs_Put.f (([7, 7, 1] : List Int))).bind fun bt276 => ((runs_Get.f k bt276.1 3).bind fun bt280 => (if bt276.2 = 0 then (if bt280.2.2 = 0 then (if (strOfNums bt276.1).toList = ([2, 7, 1, 1] : List UInt8) then (if bt280.2.1 = 4 then (if (bt280.1.length : Int) = 3 then (if 2 < (bt280.1.length : Int) then (some ((rd bt280.1 2) == 1)) else (none)) else (some false)) else (some false)) else (some false)) else (some false)) else (some false)))
theorem ricklaw09_puts.mono : ∀ k, LeO (ricklaw09_puts.f k ) (ricklaw09_puts.f (k + 1) ) := by
  intro  k
  unfold ricklaw09_puts.f
  repeat' first
      | (with_reducible exact runs_Get.mono _ _ _)
      | (with_reducible exact LeO.refl _)
      | (with_reducible exact LeO.none _)
      | (with_reducible refine LeO.ite ?_ ?_)
      | (with_reducible refine LeO.bind ?_ (fun _ => ?_))
      | exact runs_Get.mono _ _ _
      | exact LeO.none _
      | refine LeO.ite ?_ ?_
      | refine LeO.bind ?_ (fun _ => ?_)
set_option maxHeartbeats 8000000 in
set_option maxRecDepth 100000 in
theorem ricklaw09_puts.calls (k : Nat)  (r : Bool) (w : World) (h : ricklaw09_puts.f k  = some r) :
    Calls Try.prog 39 #[] w fun e w' => e = .returned (.bool r) ∧ Below w.heap.size w w' := by
  have HB := Aside0.mk (Below.refl w.heap.size w)
  have H : ((runs_Put.f (([7, 7, 1] : List Int))).bind fun bt276 => ((runs_Get.f k bt276.1 3).bind fun bt280 => (if bt276.2 = 0 then (if bt280.2.2 = 0 then (if (strOfNums bt276.1).toList = ([2, 7, 1, 1] : List UInt8) then (if bt280.2.1 = 4 then (if (bt280.1.length : Int) = 3 then (if 2 < (bt280.1.length : Int) then (some ((rd bt280.1 2) == 1)) else (none)) else (some false)) else (some false)) else (some false)) else (some false)) else (some false)))) = some r := h
  clear h
  obtain ⟨y273, hy273⟩ : ∃ y_ : List Int, y_ = (([7, 7, 1] : List Int)) := ⟨_, rfl⟩
  replace H : ((runs_Put.f y273).bind fun bt276 => ((runs_Get.f k bt276.1 3).bind fun bt280 => (if bt276.2 = 0 then (if bt280.2.2 = 0 then (if (strOfNums bt276.1).toList = ([2, 7, 1, 1] : List UInt8) then (if bt280.2.1 = 4 then (if (bt280.1.length : Int) = 3 then (if 2 < (bt280.1.length : Int) then (some ((rd bt280.1 2) == 1)) else (none)) else (some false)) else (some false)) else (some false)) else (some false)) else (some false)))) = some r := by first | (rw [hy273]; with_reducible exact H) | (have H2_ := (Option.bind_some _ _).symm.trans H; rw [hy273]; with_reducible exact H2_) | (have H2_ := (Option.bind_some _ _).symm.trans H; with_reducible exact H2_) | with_reducible exact H | (rw [hy273]; exact H) | exact H
  have Ny273 := Aside0.mk hy273
  clear hy273
  replace H := Option.bind_eq_some_iff.mp H
  obtain ⟨⟨t276, t277⟩, A10, H⟩ := H
  replace H : ((runs_Get.f k t276 3).bind fun bt280 => (if t277 = 0 then (if bt280.2.2 = 0 then (if (strOfNums t276).toList = ([2, 7, 1, 1] : List UInt8) then (if bt280.2.1 = 4 then (if (bt280.1.length : Int) = 3 then (if 2 < (bt280.1.length : Int) then (some ((rd bt280.1 2) == 1)) else (none)) else (some false)) else (some false)) else (some false)) else (some false)) else (some false))) = some r := H
  have A1 := Aside0.mk A10
  clear A10
  replace H := Option.bind_eq_some_iff.mp H
  obtain ⟨⟨t280, t281, t282⟩, A20, H⟩ := H
  replace H : (if t277 = 0 then (if t282 = 0 then (if (strOfNums t276).toList = ([2, 7, 1, 1] : List UInt8) then (if t281 = 4 then (if (t280.length : Int) = 3 then (if 2 < (t280.length : Int) then (some ((rd t280 2) == 1)) else (none)) else (some false)) else (some false)) else (some false)) else (some false)) else (some false)) = some r := H
  have A2 := Aside0.mk A20
  clear A20
  by_cases c3 : t277 = 0
  · rw [if_pos c3] at H
    have c3b0 : (t277 == 0) = true := beq_iff_eq.mpr c3
    have c3b1 : (t277 != 0) = false := bne_eq_false_iff_eq.mpr c3
    clear c3
    by_cases c4 : t282 = 0
    · rw [if_pos c4] at H
      have c4b0 : (t282 == 0) = true := beq_iff_eq.mpr c4
      have c4b1 : (t282 != 0) = false := bne_eq_false_iff_eq.mpr c4
      clear c4
      by_cases c5 : (strOfNums t276).toList = ([2, 7, 1, 1] : List UInt8)
      · rw [if_pos c5] at H
        have c5b0 : ((strOfNums t276).toList == ([2, 7, 1, 1] : List UInt8)) = true := beq_iff_eq.mpr c5
        have c5b1 : ((strOfNums t276).toList != ([2, 7, 1, 1] : List UInt8)) = false := bne_eq_false_iff_eq.mpr c5
        clear c5
        by_cases c6 : t281 = 4
        · rw [if_pos c6] at H
          have c6b0 : (t281 == 4) = true := beq_iff_eq.mpr c6
          have c6b1 : (t281 != 4) = false := bne_eq_false_iff_eq.mpr c6
          clear c6
          by_cases c7 : (t280.length : Int) = 3
          · rw [if_pos c7] at H
            have c7b0 : ((t280.length : Int) == 3) = true := beq_iff_eq.mpr c7
            have c7b1 : ((t280.length : Int) != 3) = false := bne_eq_false_iff_eq.mpr c7
            clear c7
            by_cases c8 : 2 < (t280.length : Int)
            · rw [if_pos c8] at H
              have c8b0 : decide (2 < (t280.length : Int)) = true := decide_eq_true c8
              have c8b1 : decide (2 < t280.length) = true := decide_eq_true (by omega)
              clear c8
              obtain rfl := Option.some.inj H
              go_enter Try.func39, Try.ntmps39
              go_wp2_with (first | ((with_reducible refine gate_dst (N := 7) rfl ?_); (try (refine gate_guard (by rfl) ?_; dsimp only)); refine Kd.R_lit (Kd.int .u64) _ 23 ?hg (N := 7) ?hd (xs := ([7, 7, 1] : List Int)) (inner := [.int .u64 7, .int .u64 7, .int .u64 1]) (ok := fun _ => True) (okp := fun _ => True) ?hr ?hp (fun _ hk => hk) trivial (Below.refl _ _) (Nat.le_refl _) (by simp) ?_; (case hd => rfl); (case hg => rfl); (case hr => first | (go_simp; done) | (go_simp; rfl)); (case hp => exact (Reps.one (show Kd.M (Kd.int .u64) _ _ _ 7 [.int .u64 7] from rfl) (Reps.one (show Kd.M (Kd.int .u64) _ _ _ 7 [.int .u64 7] from rfl) (Reps.one (show Kd.M (Kd.int .u64) _ _ _ 1 [.int .u64 1] from rfl) (Reps.none _ _))))); intro v274 w9 ho10 hb hg_ hnew_; clear hg_ hnew_; (first | rw [← Ny273.out] at ho10 | (simp only [Int.reduceToNat] at ho10; rw [← Ny273.out] at ho10)); have n0_ := Aside0.mk (Kd.R_lower ho10 (below_size (by repeat (first | (with_reducible first | exact HB.out | apply below_alloc | apply pw_below_drewN | apply below_drew1) | exact HB.out)))); have n1_ := Aside0.mk (below_step (by repeat (first | (with_reducible first | exact HB.out | apply below_alloc | apply pw_below_drewN | apply below_drew1) | exact HB.out)) hb); clear HB; have HO275 := n0_; have HB := n1_; clear n0_ n1_; clear hb ho10; obtain ⟨Ao11, co11, eo11⟩ := Kd.R_slice HO275.out; subst eo11) | ((with_reducible refine gate_callee (f := 36) rfl ?_); refine goesL_ (some 8) rfl rfl Try.func36 (by kernel_rfl) rfl #[.slice Ao11 y273.length co11] rfl (by (try simp only [List.map_toArray, List.map_cons, List.map_nil]); first | done | rfl | (simp only [List.length_drop, List.length_take]; rfl)) ?_; (with_reducible refine (runs_Put.calls _ _ y273 t276 t277 _ ?side1 ?side2 A1.out).mono ?_); (case side1 => repeat (first | exact (Kd.R_reads' HO275.out).2.2 | (with_reducible refine Kd.C_alloc ?_ _) | (with_reducible refine Kd.C_drewN ?_ _) | (with_reducible refine Kd.C_drew ?_))); (case side2 => exact (Kd.R_reads' HO275.out).2.1); rintro e w12 ⟨v278, rfl, ho0, hb⟩; refine ⟨_, rfl, ?_⟩; have n0_ := Aside0.mk (Kd.R_below (by (with_reducible repeat (first | apply Kd.R_alloc | apply Kd.R_drewN | apply Kd.R_drew)); exact HO275.out) hb); have n1_ := Aside0.mk (Kd.R_lower ho0 (below_size (by repeat (first | (with_reducible first | exact HB.out | apply below_alloc | apply pw_below_drewN | apply below_drew1) | exact HB.out)))); have n2_ := Aside0.mk (below_step (by repeat (first | (with_reducible first | exact HB.out | apply below_alloc | apply pw_below_drewN | apply below_drew1) | exact HB.out)) hb); clear HO275; clear HB; have HO275 := n0_; have HO279 := n1_; have HB := n2_; clear n0_ n1_ n2_; (try clear hb); (try clear hb2); (try clear hk); (try clear hi); (try clear ho0); obtain ⟨Ao13, co13, eo13⟩ := Kd.R_slice HO279.out; subst eo13) | ((with_reducible refine gate_callee (f := 38) rfl ?_); refine goesL_ (some 13) rfl rfl Try.func38 (by kernel_rfl) rfl #[.slice Ao13 t276.length co13, .int .i64 3] rfl (by (try simp only [List.map_toArray, List.map_cons, List.map_nil]); first | done | rfl | (simp only [List.length_drop, List.length_take]; rfl)) ?_; (with_reducible refine (runs_Get.calls k _ _ t276 3 t280 t281 t282 _ ?side1 ?side2 A2.out).mono ?_); (case side1 => repeat (first | exact (Kd.R_reads' HO279.out).2.2 | (with_reducible refine Kd.C_alloc ?_ _) | (with_reducible refine Kd.C_drewN ?_ _) | (with_reducible refine Kd.C_drew ?_))); (case side2 => exact (Kd.R_reads' HO279.out).2.1); rintro e w14 ⟨v283, rfl, ho0, hb⟩; refine ⟨_, rfl, ?_⟩; have n0_ := Aside0.mk (Kd.R_elder' (by (with_reducible repeat (first | apply Kd.R_alloc | apply Kd.R_drewN | apply Kd.R_drew)); exact HO275.out) (Kd.R_base ho0) hb); have n1_ := Aside0.mk (Kd.R_below (by (with_reducible repeat (first | apply Kd.R_alloc | apply Kd.R_drewN | apply Kd.R_drew)); exact HO279.out) hb); have n2_ := Aside0.mk (Kd.R_lower (Kd.R_new' ho0 (Kd.R_lt (by (with_reducible repeat (first | apply Kd.R_alloc | apply Kd.R_drewN | apply Kd.R_drew)); exact HO275.out))) (below_size (by repeat (first | (with_reducible first | exact HB.out | apply below_alloc | apply pw_below_drewN | apply below_drew1) | exact HB.out)))); have n3_ := Aside0.mk (below_step (by repeat (first | (with_reducible first | exact HB.out | apply below_alloc | apply pw_below_drewN | apply below_drew1) | exact HB.out)) hb); clear HO275; clear HO279; clear HB; have HO275 := n0_; have HO279 := n1_; have HO284 := n2_; have HB := n3_; clear n0_ n1_ n2_ n3_; (try clear hb); (try clear hb2); (try clear hk); (try clear hi); (try clear ho0); have hcv15 := own_string (P := Try.prog) Try.underlying22 Try.underlying5 Try.underlying9 (Kd.own_of_R HO279.out); obtain ⟨Ao16, co16, eo16⟩ := Kd.R_slice HO284.out; subst eo16; have p285 : 0 ≤ (2 : Int) := (by omega); have q285 : 2 < (t280.length : Int) := of_decide_eq_true (by first | (with_reducible assumption) | assumption); obtain ⟨ad285, e285, hx285_0⟩ := Kd.at_int (Kd.R_reads' HO284.out).2.2 2 p285 q285; cases e285; (try simp only [show (2 : Int).toNat = 2 from rfl, Nat.reduceMul, Nat.reduceEqDiff, Go.Addr.add, ↓reduceIte] at hx285_0); have qi285 : (2 < t280.length) = True := eq_true (by omega); (try rw [show ((2 : Int)).toNat = 2 from rfl] at hx285_0); replace p285 := eq_true p285; replace q285 := eq_true q285))
              go_ret
              exact ⟨by first | rfl | (simp [errW_none, errW_some] <;> rfl) | (simp [*, errW_none, errW_some] <;> rfl), by repeat (first | (with_reducible first | exact HB.out | apply below_alloc | apply pw_below_drewN | apply below_drew1) | exact HB.out)⟩
            · rw [if_neg c8] at H
              exact absurd H (by simp)
          · rw [if_neg c7] at H
            have c7b0 : ((t280.length : Int) == 3) = false := beq_eq_false_iff_ne.mpr c7
            have c7b1 : ((t280.length : Int) != 3) = true := bne_iff_ne.mpr c7
            obtain rfl := Option.some.inj H
            go_enter Try.func39, Try.ntmps39
            go_wp2_with (first | ((with_reducible refine gate_dst (N := 7) rfl ?_); (try (refine gate_guard (by rfl) ?_; dsimp only)); refine Kd.R_lit (Kd.int .u64) _ 23 ?hg (N := 7) ?hd (xs := ([7, 7, 1] : List Int)) (inner := [.int .u64 7, .int .u64 7, .int .u64 1]) (ok := fun _ => True) (okp := fun _ => True) ?hr ?hp (fun _ hk => hk) trivial (Below.refl _ _) (Nat.le_refl _) (by simp) ?_; (case hd => rfl); (case hg => rfl); (case hr => first | (go_simp; done) | (go_simp; rfl)); (case hp => exact (Reps.one (show Kd.M (Kd.int .u64) _ _ _ 7 [.int .u64 7] from rfl) (Reps.one (show Kd.M (Kd.int .u64) _ _ _ 7 [.int .u64 7] from rfl) (Reps.one (show Kd.M (Kd.int .u64) _ _ _ 1 [.int .u64 1] from rfl) (Reps.none _ _))))); intro v274 w17 ho18 hb hg_ hnew_; clear hg_ hnew_; (first | rw [← Ny273.out] at ho18 | (simp only [Int.reduceToNat] at ho18; rw [← Ny273.out] at ho18)); have n0_ := Aside0.mk (Kd.R_lower ho18 (below_size (by repeat (first | (with_reducible first | exact HB.out | apply below_alloc | apply pw_below_drewN | apply below_drew1) | exact HB.out)))); have n1_ := Aside0.mk (below_step (by repeat (first | (with_reducible first | exact HB.out | apply below_alloc | apply pw_below_drewN | apply below_drew1) | exact HB.out)) hb); clear HB; have HO275 := n0_; have HB := n1_; clear n0_ n1_; clear hb ho18; obtain ⟨Ao19, co19, eo19⟩ := Kd.R_slice HO275.out; subst eo19) | ((with_reducible refine gate_callee (f := 36) rfl ?_); refine goesL_ (some 8) rfl rfl Try.func36 (by kernel_rfl) rfl #[.slice Ao19 y273.length co19] rfl (by (try simp only [List.map_toArray, List.map_cons, List.map_nil]); first | done | rfl | (simp only [List.length_drop, List.length_take]; rfl)) ?_; (with_reducible refine (runs_Put.calls _ _ y273 t276 t277 _ ?side1 ?side2 A1.out).mono ?_); (case side1 => repeat (first | exact (Kd.R_reads' HO275.out).2.2 | (with_reducible refine Kd.C_alloc ?_ _) | (with_reducible refine Kd.C_drewN ?_ _) | (with_reducible refine Kd.C_drew ?_))); (case side2 => exact (Kd.R_reads' HO275.out).2.1); rintro e w20 ⟨v278, rfl, ho0, hb⟩; refine ⟨_, rfl, ?_⟩; have n0_ := Aside0.mk (Kd.R_below (by (with_reducible repeat (first | apply Kd.R_alloc | apply Kd.R_drewN | apply Kd.R_drew)); exact HO275.out) hb); have n1_ := Aside0.mk (Kd.R_lower ho0 (below_size (by repeat (first | (with_reducible first | exact HB.out | apply below_alloc | apply pw_below_drewN | apply below_drew1) | exact HB.out)))); have n2_ := Aside0.mk (below_step (by repeat (first | (with_reducible first | exact HB.out | apply below_alloc | apply pw_below_drewN | apply below_drew1) | exact HB.out)) hb); clear HO275; clear HB; have HO275 := n0_; have HO279 := n1_; have HB := n2_; clear n0_ n1_ n2_; (try clear hb); (try clear hb2); (try clear hk); (try clear hi); (try clear ho0); obtain ⟨Ao21, co21, eo21⟩ := Kd.R_slice HO279.out; subst eo21) | ((with_reducible refine gate_callee (f := 38) rfl ?_); refine goesL_ (some 13) rfl rfl Try.func38 (by kernel_rfl) rfl #[.slice Ao21 t276.length co21, .int .i64 3] rfl (by (try simp only [List.map_toArray, List.map_cons, List.map_nil]); first | done | rfl | (simp only [List.length_drop, List.length_take]; rfl)) ?_; (with_reducible refine (runs_Get.calls k _ _ t276 3 t280 t281 t282 _ ?side1 ?side2 A2.out).mono ?_); (case side1 => repeat (first | exact (Kd.R_reads' HO279.out).2.2 | (with_reducible refine Kd.C_alloc ?_ _) | (with_reducible refine Kd.C_drewN ?_ _) | (with_reducible refine Kd.C_drew ?_))); (case side2 => exact (Kd.R_reads' HO279.out).2.1); rintro e w22 ⟨v283, rfl, ho0, hb⟩; refine ⟨_, rfl, ?_⟩; have n0_ := Aside0.mk (Kd.R_elder' (by (with_reducible repeat (first | apply Kd.R_alloc | apply Kd.R_drewN | apply Kd.R_drew)); exact HO275.out) (Kd.R_base ho0) hb); have n1_ := Aside0.mk (Kd.R_below (by (with_reducible repeat (first | apply Kd.R_alloc | apply Kd.R_drewN | apply Kd.R_drew)); exact HO279.out) hb); have n2_ := Aside0.mk (Kd.R_lower (Kd.R_new' ho0 (Kd.R_lt (by (with_reducible repeat (first | apply Kd.R_alloc | apply Kd.R_drewN | apply Kd.R_drew)); exact HO275.out))) (below_size (by repeat (first | (with_reducible first | exact HB.out | apply below_alloc | apply pw_below_drewN | apply below_drew1) | exact HB.out)))); have n3_ := Aside0.mk (below_step (by repeat (first | (with_reducible first | exact HB.out | apply below_alloc | apply pw_below_drewN | apply below_drew1) | exact HB.out)) hb); clear HO275; clear HO279; clear HB; have HO275 := n0_; have HO279 := n1_; have HO284 := n2_; have HB := n3_; clear n0_ n1_ n2_ n3_; (try clear hb); (try clear hb2); (try clear hk); (try clear hi); (try clear ho0); have hcv23 := own_string (P := Try.prog) Try.underlying22 Try.underlying5 Try.underlying9 (Kd.own_of_R HO279.out); obtain ⟨Ao24, co24, eo24⟩ := Kd.R_slice HO284.out; subst eo24))
            go_ret
            exact ⟨by first | rfl | (simp [errW_none, errW_some] <;> rfl) | (simp [*, errW_none, errW_some] <;> rfl), by repeat (first | (with_reducible first | exact HB.out | apply below_alloc | apply pw_below_drewN | apply below_drew1) | exact HB.out)⟩
        · rw [if_neg c6] at H
          have c6b0 : (t281 == 4) = false := beq_eq_false_iff_ne.mpr c6
          have c6b1 : (t281 != 4) = true := bne_iff_ne.mpr c6
          obtain rfl := Option.some.inj H
          go_enter Try.func39, Try.ntmps39
          go_wp2_with (first | ((with_reducible refine gate_dst (N := 7) rfl ?_); (try (refine gate_guard (by rfl) ?_; dsimp only)); refine Kd.R_lit (Kd.int .u64) _ 23 ?hg (N := 7) ?hd (xs := ([7, 7, 1] : List Int)) (inner := [.int .u64 7, .int .u64 7, .int .u64 1]) (ok := fun _ => True) (okp := fun _ => True) ?hr ?hp (fun _ hk => hk) trivial (Below.refl _ _) (Nat.le_refl _) (by simp) ?_; (case hd => rfl); (case hg => rfl); (case hr => first | (go_simp; done) | (go_simp; rfl)); (case hp => exact (Reps.one (show Kd.M (Kd.int .u64) _ _ _ 7 [.int .u64 7] from rfl) (Reps.one (show Kd.M (Kd.int .u64) _ _ _ 7 [.int .u64 7] from rfl) (Reps.one (show Kd.M (Kd.int .u64) _ _ _ 1 [.int .u64 1] from rfl) (Reps.none _ _))))); intro v274 w25 ho26 hb hg_ hnew_; clear hg_ hnew_; (first | rw [← Ny273.out] at ho26 | (simp only [Int.reduceToNat] at ho26; rw [← Ny273.out] at ho26)); have n0_ := Aside0.mk (Kd.R_lower ho26 (below_size (by repeat (first | (with_reducible first | exact HB.out | apply below_alloc | apply pw_below_drewN | apply below_drew1) | exact HB.out)))); have n1_ := Aside0.mk (below_step (by repeat (first | (with_reducible first | exact HB.out | apply below_alloc | apply pw_below_drewN | apply below_drew1) | exact HB.out)) hb); clear HB; have HO275 := n0_; have HB := n1_; clear n0_ n1_; clear hb ho26; obtain ⟨Ao27, co27, eo27⟩ := Kd.R_slice HO275.out; subst eo27) | ((with_reducible refine gate_callee (f := 36) rfl ?_); refine goesL_ (some 8) rfl rfl Try.func36 (by kernel_rfl) rfl #[.slice Ao27 y273.length co27] rfl (by (try simp only [List.map_toArray, List.map_cons, List.map_nil]); first | done | rfl | (simp only [List.length_drop, List.length_take]; rfl)) ?_; (with_reducible refine (runs_Put.calls _ _ y273 t276 t277 _ ?side1 ?side2 A1.out).mono ?_); (case side1 => repeat (first | exact (Kd.R_reads' HO275.out).2.2 | (with_reducible refine Kd.C_alloc ?_ _) | (with_reducible refine Kd.C_drewN ?_ _) | (with_reducible refine Kd.C_drew ?_))); (case side2 => exact (Kd.R_reads' HO275.out).2.1); rintro e w28 ⟨v278, rfl, ho0, hb⟩; refine ⟨_, rfl, ?_⟩; have n0_ := Aside0.mk (Kd.R_below (by (with_reducible repeat (first | apply Kd.R_alloc | apply Kd.R_drewN | apply Kd.R_drew)); exact HO275.out) hb); have n1_ := Aside0.mk (Kd.R_lower ho0 (below_size (by repeat (first | (with_reducible first | exact HB.out | apply below_alloc | apply pw_below_drewN | apply below_drew1) | exact HB.out)))); have n2_ := Aside0.mk (below_step (by repeat (first | (with_reducible first | exact HB.out | apply below_alloc | apply pw_below_drewN | apply below_drew1) | exact HB.out)) hb); clear HO275; clear HB; have HO275 := n0_; have HO279 := n1_; have HB := n2_; clear n0_ n1_ n2_; (try clear hb); (try clear hb2); (try clear hk); (try clear hi); (try clear ho0); obtain ⟨Ao29, co29, eo29⟩ := Kd.R_slice HO279.out; subst eo29) | ((with_reducible refine gate_callee (f := 38) rfl ?_); refine goesL_ (some 13) rfl rfl Try.func38 (by kernel_rfl) rfl #[.slice Ao29 t276.length co29, .int .i64 3] rfl (by (try simp only [List.map_toArray, List.map_cons, List.map_nil]); first | done | rfl | (simp only [List.length_drop, List.length_take]; rfl)) ?_; (with_reducible refine (runs_Get.calls k _ _ t276 3 t280 t281 t282 _ ?side1 ?side2 A2.out).mono ?_); (case side1 => repeat (first | exact (Kd.R_reads' HO279.out).2.2 | (with_reducible refine Kd.C_alloc ?_ _) | (with_reducible refine Kd.C_drewN ?_ _) | (with_reducible refine Kd.C_drew ?_))); (case side2 => exact (Kd.R_reads' HO279.out).2.1); rintro e w30 ⟨v283, rfl, ho0, hb⟩; refine ⟨_, rfl, ?_⟩; have n0_ := Aside0.mk (Kd.R_elder' (by (with_reducible repeat (first | apply Kd.R_alloc | apply Kd.R_drewN | apply Kd.R_drew)); exact HO275.out) (Kd.R_base ho0) hb); have n1_ := Aside0.mk (Kd.R_below (by (with_reducible repeat (first | apply Kd.R_alloc | apply Kd.R_drewN | apply Kd.R_drew)); exact HO279.out) hb); have n2_ := Aside0.mk (Kd.R_lower (Kd.R_new' ho0 (Kd.R_lt (by (with_reducible repeat (first | apply Kd.R_alloc | apply Kd.R_drewN | apply Kd.R_drew)); exact HO275.out))) (below_size (by repeat (first | (with_reducible first | exact HB.out | apply below_alloc | apply pw_below_drewN | apply below_drew1) | exact HB.out)))); have n3_ := Aside0.mk (below_step (by repeat (first | (with_reducible first | exact HB.out | apply below_alloc | apply pw_below_drewN | apply below_drew1) | exact HB.out)) hb); clear HO275; clear HO279; clear HB; have HO275 := n0_; have HO279 := n1_; have HO284 := n2_; have HB := n3_; clear n0_ n1_ n2_ n3_; (try clear hb); (try clear hb2); (try clear hk); (try clear hi); (try clear ho0); have hcv31 := own_string (P := Try.prog) Try.underlying22 Try.underlying5 Try.underlying9 (Kd.own_of_R HO279.out)))
          go_ret
          exact ⟨by first | rfl | (simp [errW_none, errW_some] <;> rfl) | (simp [*, errW_none, errW_some] <;> rfl), by repeat (first | (with_reducible first | exact HB.out | apply below_alloc | apply pw_below_drewN | apply below_drew1) | exact HB.out)⟩
      · rw [if_neg c5] at H
        have c5b0 : ((strOfNums t276).toList == ([2, 7, 1, 1] : List UInt8)) = false := beq_eq_false_iff_ne.mpr c5
        have c5b1 : ((strOfNums t276).toList != ([2, 7, 1, 1] : List UInt8)) = true := bne_iff_ne.mpr c5
        obtain rfl := Option.some.inj H
        go_enter Try.func39, Try.ntmps39
        go_wp2_with (first | ((with_reducible refine gate_dst (N := 7) rfl ?_); (try (refine gate_guard (by rfl) ?_; dsimp only)); refine Kd.R_lit (Kd.int .u64) _ 23 ?hg (N := 7) ?hd (xs := ([7, 7, 1] : List Int)) (inner := [.int .u64 7, .int .u64 7, .int .u64 1]) (ok := fun _ => True) (okp := fun _ => True) ?hr ?hp (fun _ hk => hk) trivial (Below.refl _ _) (Nat.le_refl _) (by simp) ?_; (case hd => rfl); (case hg => rfl); (case hr => first | (go_simp; done) | (go_simp; rfl)); (case hp => exact (Reps.one (show Kd.M (Kd.int .u64) _ _ _ 7 [.int .u64 7] from rfl) (Reps.one (show Kd.M (Kd.int .u64) _ _ _ 7 [.int .u64 7] from rfl) (Reps.one (show Kd.M (Kd.int .u64) _ _ _ 1 [.int .u64 1] from rfl) (Reps.none _ _))))); intro v274 w32 ho33 hb hg_ hnew_; clear hg_ hnew_; (first | rw [← Ny273.out] at ho33 | (simp only [Int.reduceToNat] at ho33; rw [← Ny273.out] at ho33)); have n0_ := Aside0.mk (Kd.R_lower ho33 (below_size (by repeat (first | (with_reducible first | exact HB.out | apply below_alloc | apply pw_below_drewN | apply below_drew1) | exact HB.out)))); have n1_ := Aside0.mk (below_step (by repeat (first | (with_reducible first | exact HB.out | apply below_alloc | apply pw_below_drewN | apply below_drew1) | exact HB.out)) hb); clear HB; have HO275 := n0_; have HB := n1_; clear n0_ n1_; clear hb ho33; obtain ⟨Ao34, co34, eo34⟩ := Kd.R_slice HO275.out; subst eo34) | ((with_reducible refine gate_callee (f := 36) rfl ?_); refine goesL_ (some 8) rfl rfl Try.func36 (by kernel_rfl) rfl #[.slice Ao34 y273.length co34] rfl (by (try simp only [List.map_toArray, List.map_cons, List.map_nil]); first | done | rfl | (simp only [List.length_drop, List.length_take]; rfl)) ?_; (with_reducible refine (runs_Put.calls _ _ y273 t276 t277 _ ?side1 ?side2 A1.out).mono ?_); (case side1 => repeat (first | exact (Kd.R_reads' HO275.out).2.2 | (with_reducible refine Kd.C_alloc ?_ _) | (with_reducible refine Kd.C_drewN ?_ _) | (with_reducible refine Kd.C_drew ?_))); (case side2 => exact (Kd.R_reads' HO275.out).2.1); rintro e w35 ⟨v278, rfl, ho0, hb⟩; refine ⟨_, rfl, ?_⟩; have n0_ := Aside0.mk (Kd.R_below (by (with_reducible repeat (first | apply Kd.R_alloc | apply Kd.R_drewN | apply Kd.R_drew)); exact HO275.out) hb); have n1_ := Aside0.mk (Kd.R_lower ho0 (below_size (by repeat (first | (with_reducible first | exact HB.out | apply below_alloc | apply pw_below_drewN | apply below_drew1) | exact HB.out)))); have n2_ := Aside0.mk (below_step (by repeat (first | (with_reducible first | exact HB.out | apply below_alloc | apply pw_below_drewN | apply below_drew1) | exact HB.out)) hb); clear HO275; clear HB; have HO275 := n0_; have HO279 := n1_; have HB := n2_; clear n0_ n1_ n2_; (try clear hb); (try clear hb2); (try clear hk); (try clear hi); (try clear ho0); obtain ⟨Ao36, co36, eo36⟩ := Kd.R_slice HO279.out; subst eo36) | ((with_reducible refine gate_callee (f := 38) rfl ?_); refine goesL_ (some 13) rfl rfl Try.func38 (by kernel_rfl) rfl #[.slice Ao36 t276.length co36, .int .i64 3] rfl (by (try simp only [List.map_toArray, List.map_cons, List.map_nil]); first | done | rfl | (simp only [List.length_drop, List.length_take]; rfl)) ?_; (with_reducible refine (runs_Get.calls k _ _ t276 3 t280 t281 t282 _ ?side1 ?side2 A2.out).mono ?_); (case side1 => repeat (first | exact (Kd.R_reads' HO279.out).2.2 | (with_reducible refine Kd.C_alloc ?_ _) | (with_reducible refine Kd.C_drewN ?_ _) | (with_reducible refine Kd.C_drew ?_))); (case side2 => exact (Kd.R_reads' HO279.out).2.1); rintro e w37 ⟨v283, rfl, ho0, hb⟩; refine ⟨_, rfl, ?_⟩; have n0_ := Aside0.mk (Kd.R_elder' (by (with_reducible repeat (first | apply Kd.R_alloc | apply Kd.R_drewN | apply Kd.R_drew)); exact HO275.out) (Kd.R_base ho0) hb); have n1_ := Aside0.mk (Kd.R_below (by (with_reducible repeat (first | apply Kd.R_alloc | apply Kd.R_drewN | apply Kd.R_drew)); exact HO279.out) hb); have n2_ := Aside0.mk (Kd.R_lower (Kd.R_new' ho0 (Kd.R_lt (by (with_reducible repeat (first | apply Kd.R_alloc | apply Kd.R_drewN | apply Kd.R_drew)); exact HO275.out))) (below_size (by repeat (first | (with_reducible first | exact HB.out | apply below_alloc | apply pw_below_drewN | apply below_drew1) | exact HB.out)))); have n3_ := Aside0.mk (below_step (by repeat (first | (with_reducible first | exact HB.out | apply below_alloc | apply pw_below_drewN | apply below_drew1) | exact HB.out)) hb); clear HO275; clear HO279; clear HB; have HO275 := n0_; have HO279 := n1_; have HO284 := n2_; have HB := n3_; clear n0_ n1_ n2_ n3_; (try clear hb); (try clear hb2); (try clear hk); (try clear hi); (try clear ho0); have hcv38 := own_string (P := Try.prog) Try.underlying22 Try.underlying5 Try.underlying9 (Kd.own_of_R HO279.out)))
        go_ret
        exact ⟨by first | rfl | (simp [errW_none, errW_some] <;> rfl) | (simp [*, errW_none, errW_some] <;> rfl), by repeat (first | (with_reducible first | exact HB.out | apply below_alloc | apply pw_below_drewN | apply below_drew1) | exact HB.out)⟩
    · rw [if_neg c4] at H
      have c4b0 : (t282 == 0) = false := beq_eq_false_iff_ne.mpr c4
      have c4b1 : (t282 != 0) = true := bne_iff_ne.mpr c4
      obtain rfl := Option.some.inj H
      go_enter Try.func39, Try.ntmps39
      go_wp2_with (first | ((with_reducible refine gate_dst (N := 7) rfl ?_); (try (refine gate_guard (by rfl) ?_; dsimp only)); refine Kd.R_lit (Kd.int .u64) _ 23 ?hg (N := 7) ?hd (xs := ([7, 7, 1] : List Int)) (inner := [.int .u64 7, .int .u64 7, .int .u64 1]) (ok := fun _ => True) (okp := fun _ => True) ?hr ?hp (fun _ hk => hk) trivial (Below.refl _ _) (Nat.le_refl _) (by simp) ?_; (case hd => rfl); (case hg => rfl); (case hr => first | (go_simp; done) | (go_simp; rfl)); (case hp => exact (Reps.one (show Kd.M (Kd.int .u64) _ _ _ 7 [.int .u64 7] from rfl) (Reps.one (show Kd.M (Kd.int .u64) _ _ _ 7 [.int .u64 7] from rfl) (Reps.one (show Kd.M (Kd.int .u64) _ _ _ 1 [.int .u64 1] from rfl) (Reps.none _ _))))); intro v274 w39 ho40 hb hg_ hnew_; clear hg_ hnew_; (first | rw [← Ny273.out] at ho40 | (simp only [Int.reduceToNat] at ho40; rw [← Ny273.out] at ho40)); have n0_ := Aside0.mk (Kd.R_lower ho40 (below_size (by repeat (first | (with_reducible first | exact HB.out | apply below_alloc | apply pw_below_drewN | apply below_drew1) | exact HB.out)))); have n1_ := Aside0.mk (below_step (by repeat (first | (with_reducible first | exact HB.out | apply below_alloc | apply pw_below_drewN | apply below_drew1) | exact HB.out)) hb); clear HB; have HO275 := n0_; have HB := n1_; clear n0_ n1_; clear hb ho40; obtain ⟨Ao41, co41, eo41⟩ := Kd.R_slice HO275.out; subst eo41) | ((with_reducible refine gate_callee (f := 36) rfl ?_); refine goesL_ (some 8) rfl rfl Try.func36 (by kernel_rfl) rfl #[.slice Ao41 y273.length co41] rfl (by (try simp only [List.map_toArray, List.map_cons, List.map_nil]); first | done | rfl | (simp only [List.length_drop, List.length_take]; rfl)) ?_; (with_reducible refine (runs_Put.calls _ _ y273 t276 t277 _ ?side1 ?side2 A1.out).mono ?_); (case side1 => repeat (first | exact (Kd.R_reads' HO275.out).2.2 | (with_reducible refine Kd.C_alloc ?_ _) | (with_reducible refine Kd.C_drewN ?_ _) | (with_reducible refine Kd.C_drew ?_))); (case side2 => exact (Kd.R_reads' HO275.out).2.1); rintro e w42 ⟨v278, rfl, ho0, hb⟩; refine ⟨_, rfl, ?_⟩; have n0_ := Aside0.mk (Kd.R_below (by (with_reducible repeat (first | apply Kd.R_alloc | apply Kd.R_drewN | apply Kd.R_drew)); exact HO275.out) hb); have n1_ := Aside0.mk (Kd.R_lower ho0 (below_size (by repeat (first | (with_reducible first | exact HB.out | apply below_alloc | apply pw_below_drewN | apply below_drew1) | exact HB.out)))); have n2_ := Aside0.mk (below_step (by repeat (first | (with_reducible first | exact HB.out | apply below_alloc | apply pw_below_drewN | apply below_drew1) | exact HB.out)) hb); clear HO275; clear HB; have HO275 := n0_; have HO279 := n1_; have HB := n2_; clear n0_ n1_ n2_; (try clear hb); (try clear hb2); (try clear hk); (try clear hi); (try clear ho0); obtain ⟨Ao43, co43, eo43⟩ := Kd.R_slice HO279.out; subst eo43) | ((with_reducible refine gate_callee (f := 38) rfl ?_); refine goesL_ (some 13) rfl rfl Try.func38 (by kernel_rfl) rfl #[.slice Ao43 t276.length co43, .int .i64 3] rfl (by (try simp only [List.map_toArray, List.map_cons, List.map_nil]); first | done | rfl | (simp only [List.length_drop, List.length_take]; rfl)) ?_; (with_reducible refine (runs_Get.calls k _ _ t276 3 t280 t281 t282 _ ?side1 ?side2 A2.out).mono ?_); (case side1 => repeat (first | exact (Kd.R_reads' HO279.out).2.2 | (with_reducible refine Kd.C_alloc ?_ _) | (with_reducible refine Kd.C_drewN ?_ _) | (with_reducible refine Kd.C_drew ?_))); (case side2 => exact (Kd.R_reads' HO279.out).2.1); rintro e w44 ⟨v283, rfl, ho0, hb⟩; refine ⟨_, rfl, ?_⟩; have n0_ := Aside0.mk (Kd.R_elder' (by (with_reducible repeat (first | apply Kd.R_alloc | apply Kd.R_drewN | apply Kd.R_drew)); exact HO275.out) (Kd.R_base ho0) hb); have n1_ := Aside0.mk (Kd.R_below (by (with_reducible repeat (first | apply Kd.R_alloc | apply Kd.R_drewN | apply Kd.R_drew)); exact HO279.out) hb); have n2_ := Aside0.mk (Kd.R_lower (Kd.R_new' ho0 (Kd.R_lt (by (with_reducible repeat (first | apply Kd.R_alloc | apply Kd.R_drewN | apply Kd.R_drew)); exact HO275.out))) (below_size (by repeat (first | (with_reducible first | exact HB.out | apply below_alloc | apply pw_below_drewN | apply below_drew1) | exact HB.out)))); have n3_ := Aside0.mk (below_step (by repeat (first | (with_reducible first | exact HB.out | apply below_alloc | apply pw_below_drewN | apply below_drew1) | exact HB.out)) hb); clear HO275; clear HO279; clear HB; have HO275 := n0_; have HO279 := n1_; have HO284 := n2_; have HB := n3_; clear n0_ n1_ n2_ n3_; (try clear hb); (try clear hb2); (try clear hk); (try clear hi); (try clear ho0)))
      go_ret
      exact ⟨by first | rfl | (simp [errW_none, errW_some] <;> rfl) | (simp [*, errW_none, errW_some] <;> rfl), by repeat (first | (with_reducible first | exact HB.out | apply below_alloc | apply pw_below_drewN | apply below_drew1) | exact HB.out)⟩
  · rw [if_neg c3] at H
    have c3b0 : (t277 == 0) = false := beq_eq_false_iff_ne.mpr c3
    have c3b1 : (t277 != 0) = true := bne_iff_ne.mpr c3
    obtain rfl := Option.some.inj H
    go_enter Try.func39, Try.ntmps39
    go_wp2_with (first | ((with_reducible refine gate_dst (N := 7) rfl ?_); (try (refine gate_guard (by rfl) ?_; dsimp only)); refine Kd.R_lit (Kd.int .u64) _ 23 ?hg (N := 7) ?hd (xs := ([7, 7, 1] : List Int)) (inner := [.int .u64 7, .int .u64 7, .int .u64 1]) (ok := fun _ => True) (okp := fun _ => True) ?hr ?hp (fun _ hk => hk) trivial (Below.refl _ _) (Nat.le_refl _) (by simp) ?_; (case hd => rfl); (case hg => rfl); (case hr => first | (go_simp; done) | (go_simp; rfl)); (case hp => exact (Reps.one (show Kd.M (Kd.int .u64) _ _ _ 7 [.int .u64 7] from rfl) (Reps.one (show Kd.M (Kd.int .u64) _ _ _ 7 [.int .u64 7] from rfl) (Reps.one (show Kd.M (Kd.int .u64) _ _ _ 1 [.int .u64 1] from rfl) (Reps.none _ _))))); intro v274 w45 ho46 hb hg_ hnew_; clear hg_ hnew_; (first | rw [← Ny273.out] at ho46 | (simp only [Int.reduceToNat] at ho46; rw [← Ny273.out] at ho46)); have n0_ := Aside0.mk (Kd.R_lower ho46 (below_size (by repeat (first | (with_reducible first | exact HB.out | apply below_alloc | apply pw_below_drewN | apply below_drew1) | exact HB.out)))); have n1_ := Aside0.mk (below_step (by repeat (first | (with_reducible first | exact HB.out | apply below_alloc | apply pw_below_drewN | apply below_drew1) | exact HB.out)) hb); clear HB; have HO275 := n0_; have HB := n1_; clear n0_ n1_; clear hb ho46; obtain ⟨Ao47, co47, eo47⟩ := Kd.R_slice HO275.out; subst eo47) | ((with_reducible refine gate_callee (f := 36) rfl ?_); refine goesL_ (some 8) rfl rfl Try.func36 (by kernel_rfl) rfl #[.slice Ao47 y273.length co47] rfl (by (try simp only [List.map_toArray, List.map_cons, List.map_nil]); first | done | rfl | (simp only [List.length_drop, List.length_take]; rfl)) ?_; (with_reducible refine (runs_Put.calls _ _ y273 t276 t277 _ ?side1 ?side2 A1.out).mono ?_); (case side1 => repeat (first | exact (Kd.R_reads' HO275.out).2.2 | (with_reducible refine Kd.C_alloc ?_ _) | (with_reducible refine Kd.C_drewN ?_ _) | (with_reducible refine Kd.C_drew ?_))); (case side2 => exact (Kd.R_reads' HO275.out).2.1); rintro e w48 ⟨v278, rfl, ho0, hb⟩; refine ⟨_, rfl, ?_⟩; have n0_ := Aside0.mk (Kd.R_below (by (with_reducible repeat (first | apply Kd.R_alloc | apply Kd.R_drewN | apply Kd.R_drew)); exact HO275.out) hb); have n1_ := Aside0.mk (Kd.R_lower ho0 (below_size (by repeat (first | (with_reducible first | exact HB.out | apply below_alloc | apply pw_below_drewN | apply below_drew1) | exact HB.out)))); have n2_ := Aside0.mk (below_step (by repeat (first | (with_reducible first | exact HB.out | apply below_alloc | apply pw_below_drewN | apply below_drew1) | exact HB.out)) hb); clear HO275; clear HB; have HO275 := n0_; have HO279 := n1_; have HB := n2_; clear n0_ n1_ n2_; (try clear hb); (try clear hb2); (try clear hk); (try clear hi); (try clear ho0); obtain ⟨Ao49, co49, eo49⟩ := Kd.R_slice HO279.out; subst eo49) | ((with_reducible refine gate_callee (f := 38) rfl ?_); refine goesL_ (some 13) rfl rfl Try.func38 (by kernel_rfl) rfl #[.slice Ao49 t276.length co49, .int .i64 3] rfl (by (try simp only [List.map_toArray, List.map_cons, List.map_nil]); first | done | rfl | (simp only [List.length_drop, List.length_take]; rfl)) ?_; (with_reducible refine (runs_Get.calls k _ _ t276 3 t280 t281 t282 _ ?side1 ?side2 A2.out).mono ?_); (case side1 => repeat (first | exact (Kd.R_reads' HO279.out).2.2 | (with_reducible refine Kd.C_alloc ?_ _) | (with_reducible refine Kd.C_drewN ?_ _) | (with_reducible refine Kd.C_drew ?_))); (case side2 => exact (Kd.R_reads' HO279.out).2.1); rintro e w50 ⟨v283, rfl, ho0, hb⟩; refine ⟨_, rfl, ?_⟩; have n0_ := Aside0.mk (Kd.R_elder' (by (with_reducible repeat (first | apply Kd.R_alloc | apply Kd.R_drewN | apply Kd.R_drew)); exact HO275.out) (Kd.R_base ho0) hb); have n1_ := Aside0.mk (Kd.R_below (by (with_reducible repeat (first | apply Kd.R_alloc | apply Kd.R_drewN | apply Kd.R_drew)); exact HO279.out) hb); have n2_ := Aside0.mk (Kd.R_lower (Kd.R_new' ho0 (Kd.R_lt (by (with_reducible repeat (first | apply Kd.R_alloc | apply Kd.R_drewN | apply Kd.R_drew)); exact HO275.out))) (below_size (by repeat (first | (with_reducible first | exact HB.out | apply below_alloc | apply pw_below_drewN | apply below_drew1) | exact HB.out)))); have n3_ := Aside0.mk (below_step (by repeat (first | (with_reducible first | exact HB.out | apply below_alloc | apply pw_below_drewN | apply below_drew1) | exact HB.out)) hb); clear HO275; clear HO279; clear HB; have HO275 := n0_; have HO279 := n1_; have HO284 := n2_; have HB := n3_; clear n0_ n1_ n2_ n3_; (try clear hb); (try clear hb2); (try clear hk); (try clear hi); (try clear ho0)))
    go_ret
    exact ⟨by first | rfl | (simp [errW_none, errW_some] <;> rfl) | (simp [*, errW_none, errW_some] <;> rfl), by repeat (first | (with_reducible first | exact HB.out | apply below_alloc | apply pw_below_drewN | apply below_drew1) | exact HB.out)⟩

end Go.Proofs.Ytmlbppfcpejlpaa.X
