/- Texts of this claim, laid together (wip/merge.py): X0, A0, XChunkRight, XChunkRaw, XBitsLen64, XSlicesMaxUint64Uint64, XSlicesMinUint64Uint64, XBitsHeld, S, B, W04, XBytesClone, XBitsReaderLeft, XBitsReaderTake, XBitsReaderBad, W04b, Q06, XPackPut, XVarintPut, W04d, XRunsPut, XBitsLeadingzeros64, W08, XXorsPut, XChunkValues. No conditions. -/
import Derived.Test.YtmlbppfcpejlpaaDoorProg
import Derived.Below
import Derived.Deep.Draws
import Derived.Deep.AppendLies
import Derived.Maps.AppendAt
import Derived.OwnWalk
import Derived.Laws.BytesArg
import Derived.Laws.MakeOwn
import Derived.Laws.OwnMore
import Derived.Deep.OwnRows
import Derived.Tactics
import Derived.Lib.ConvBytes
import Derived.Laws.Slices
import Derived.WalkKit
import Derived.KernelRfl
import Derived.RowKit3
import Derived.Deep.LoopGhost
import Derived.Deep.QuietTactic
import Derived.BigQuiet
import Derived.WideLaws
import Derived.Deep.DeepCutAuto
import Derived.Deep.CutBlock
import Derived.Deep.RegionHeld3
import Derived.Laws.Rows
import Derived.Lib.AppendStr
import Derived.ArgAppend
import Derived.Laws.IdiomCopy
import Derived.OrdersHeld
import Derived.Laws.BitsLemmas
import Derived.RowKit
import Derived.Test.YtmlbppfcpejlpaaDoorWWords
import Derived.Test.YtmlbppfcpejlpaaDoorWLast
import Derived.Test.YtmlbppfcpejlpaaDoorWTab
import Derived.Test.YtmlbppfcpejlpaaDoorWQPut
import Derived.Test.YtmlbppfcpejlpaaDoorWApart
import Derived.Test.YtmlbppfcpejlpaaDoorWArr
import Derived.Test.YtmlbppfcpejlpaaDoorWZeros
import Derived.Test.YtmlbppfcpejlpaaDoorWFoot
import Derived.Test.YtmlbppfcpejlpaaDoorWKept
import Derived.Test.YtmlbppfcpejlpaaDoorWShare
import Derived.Test.YtmlbppfcpejlpaaDoorWN
import Derived.Test.YtmlbppfcpejlpaaDoorWFootNe
import Derived.Test.YtmlbppfcpejlpaaDoorWRepsOne
import Derived.Test.YtmlbppfcpejlpaaDoorWNEv
import Derived.Test.YtmlbppfcpejlpaaDoorWMore
import Derived.StillTailTactics
import Derived.Outline
import Derived.Lib.SliceRun
import Derived.Deep.DrawnRows
import Derived.FnLit
import Derived.Scope
import Derived.Lib.TrailingZeros
import Derived.Laws.BitsAllLaws
namespace Go.Proofs.YtmlbppfcpejlpaaDoor.X
open Go.RowKit Go.Proofs.YtmlbppfcpejlpaaDoorW.PrintWords Go.Proofs.YtmlbppfcpejlpaaDoorW.PrintLast Go.Proofs.YtmlbppfcpejlpaaDoorW.PrintMore
attribute [local go_sem] max2_int min2_int max_two min_two max_three min_three max_four min_four   -- for this text's walks alone
set_option linter.unusedVariables false
set_option linter.unusedSimpArgs false



def errW : Option Int → Value
 | none => .nilIface
 | some c => .iface 0 (.int .i64 c)
theorem errW_none : errW none = .nilIface := rfl
theorem errW_some (c : Int) : errW (some c) = .iface 0 (.int .i64 c) := rfl

theorem info2 : (Tryd.prog.info? 2).map (fun i => (i.zero, i.size, i.bytes)) = some (some (.int .i64 0), 1, 8) := by kernel_rfl
theorem info5 : (Tryd.prog.info? 5).map (fun i => (i.zero, i.size, i.bytes)) = some (some (.int .u8 0), 1, 1) := by kernel_rfl
theorem info34 : (Tryd.prog.info? 34).map (fun i => (i.zero, i.size, i.bytes)) = some (some (.int .u64 0), 1, 8) := by kernel_rfl
theorem info40 : (Tryd.prog.info? 40).map (fun i => (i.zero, i.size, i.bytes)) = some (some (.agg #[(.int .i64 0), (.int .u64 0)]), 2, 16) := by kernel_rfl
theorem info51 : (Tryd.prog.info? 51).map (fun i => (i.zero, i.size, i.bytes)) = some (some (.agg #[(.int .i64 0), (.int .u64 0)]), 2, 16) := by kernel_rfl
theorem info99 : (Tryd.prog.info? 99).map (fun i => (i.zero, i.size, i.bytes)) = some (some (.agg #[(.int .u64 0), (.int .i64 0), (.int .i64 0)]), 3, 24) := by kernel_rfl
-- the values' own types
def rd_L1 (xs : List (List Int)) (i : Int) : (List Int) := xs.getD i.toNat ([] : List Int)
theorem at_L1 {w : World} {A : Option Addr} {n : Nat} {xs : List (List Int)} (h : Kd.C (Kd.slice 5 (Kd.int .u8)) w A n xs) (i : Int) (h0 : 0 ≤ i) (h1 : i < n) : ∃ ad A0 c0, A = some ad ∧ w.cell? (ad.add i.toNat) = some (.slice A0 (rd_L1 xs i).length c0) ∧ (rd_L1 xs i).length ≤ c0 ∧ (Kd.int .u8).C w A0 (rd_L1 xs i).length (rd_L1 xs i) := by
 obtain ⟨ad, c, e, _, hK, hc0⟩ := Kd.C_get h ([] : List Int) i h0 h1
 have hc : ∀ j u, c[j]? = some u → w.cell? (ad.add (i.toNat * 1 + j)) = some u := hc0
 obtain ⟨A0, c0, rfl, l0, g0⟩ := hK
 exact ⟨ad, A0, c0, e, by have hq := hc 0 _ rfl; rwa [Nat.mul_one, Nat.add_zero] at hq, l0, g0⟩

def rd_L3 (xs : List (List Int)) (i : Int) : (List Int) := xs.getD i.toNat ([] : List Int)
theorem at_L3 {w : World} {A : Option Addr} {n : Nat} {xs : List (List Int)} (h : Kd.C (Kd.slice 34 (Kd.int .u64)) w A n xs) (i : Int) (h0 : 0 ≤ i) (h1 : i < n) : ∃ ad A0 c0, A = some ad ∧ w.cell? (ad.add i.toNat) = some (.slice A0 (rd_L3 xs i).length c0) ∧ (rd_L3 xs i).length ≤ c0 ∧ (Kd.int .u64).C w A0 (rd_L3 xs i).length (rd_L3 xs i) := by
 obtain ⟨ad, c, e, _, hK, hc0⟩ := Kd.C_get h ([] : List Int) i h0 h1
 have hc : ∀ j u, c[j]? = some u → w.cell? (ad.add (i.toNat * 1 + j)) = some u := hc0
 obtain ⟨A0, c0, rfl, l0, g0⟩ := hK
 exact ⟨ad, A0, c0, e, by have hq := hc 0 _ rfl; rwa [Nat.mul_one, Nat.add_zero] at hq, l0, g0⟩

/-! #### struct type 51 -/
structure S51 where
 f0 : Int
 f1 : Int
def z51 : S51 := ⟨(0 : Int), (0 : Int)⟩
def k51 : Kd S51 := Kd.iso (Kd.pair (Kd.int .i64) (Kd.int .u64)) (fun x : S51 => (x.f0, x.f1))
theorem k51_heap : Kd.Heap k51 := Kd.heap_iso _ (Kd.heap_pair (Kd.heap_int .i64) (Kd.heap_int .u64))
theorem k51_open {w : World} {x : S51} {cs : List Value} (h : k51.K w x cs) : cs = [.int .i64 x.f0, .int .u64 x.f1] := by
 obtain ⟨_, _, rfl, rfl, rfl⟩ := h
 exact rfl
theorem k51_openM {w : World} {base : Nat} {ok : Nat → Prop} {x : S51} {cs : List Value} (h : k51.M w base ok x cs) : cs = [.int .i64 x.f0, .int .u64 x.f1] := by
 obtain ⟨_, _, rfl, rfl, rfl⟩ := h
 exact rfl
theorem k51_mk (w : World) (x : S51)  : k51.K w x [.int .i64 x.f0, .int .u64 x.f1] := ⟨[.int .i64 x.f0], [.int .u64 x.f1], rfl, rfl, rfl⟩
theorem k51_mkM (w : World) (base : Nat) (ok : Nat → Prop) (x : S51)  : k51.M w base ok x [.int .i64 x.f0, .int .u64 x.f1] := ⟨[.int .i64 x.f0], [.int .u64 x.f1], rfl, rfl, rfl⟩
theorem k51_mkF (W : World) (ok : Nat → Prop) (x : S51) : Kd.FK k51 W ok x [.int .i64 x.f0, .int .u64 x.f1] := fun W2 _ => k51_mk W2 x
def rd_T51 (xs : List S51) (i : Int) : S51 := xs.getD i.toNat z51
theorem at_T51 {w : World} {A : Option Addr} {n : Nat} {xs : List S51} (h : Kd.C k51 w A n xs) (i : Int) (h0 : 0 ≤ i) (h1 : i < n) : ∃ ad , A = some ad ∧ w.cell? (ad.add (i.toNat * 2)) = some (.int .i64 (rd_T51 xs i).f0) ∧ w.cell? ⟨(ad.add (i.toNat * 2)).block, (ad.add (i.toNat * 2)).off + 1, none⟩ = some (.int .u64 (rd_T51 xs i).f1) := by
 obtain ⟨ad, c, e, _, hK, hc0⟩ := Kd.C_get h z51 i h0 h1
 have hc : ∀ j u, c[j]? = some u → w.cell? (ad.add (i.toNat * 2 + j)) = some u := hc0
 obtain rfl := k51_open hK
 exact ⟨ad, e, hc 0 _ rfl, by rw [← add_field _ _ 1 (by omega)]; exact hc 1 _ rfl⟩

/-! #### struct type 99 -/
structure S99 where
 f0 : Int
 f1 : Int
 f2 : Int
def z99 : S99 := ⟨(0 : Int), (0 : Int), (0 : Int)⟩
def k99 : Kd S99 := Kd.iso (Kd.pair (Kd.int .u64) (Kd.pair (Kd.int .i64) (Kd.int .i64))) (fun x : S99 => (x.f0, x.f1, x.f2))
theorem k99_heap : Kd.Heap k99 := Kd.heap_iso _ (Kd.heap_pair (Kd.heap_int .u64) (Kd.heap_pair (Kd.heap_int .i64) (Kd.heap_int .i64)))
theorem k99_open {w : World} {x : S99} {cs : List Value} (h : k99.K w x cs) : cs = [.int .u64 x.f0, .int .i64 x.f1, .int .i64 x.f2] := by
 obtain ⟨_, _, rfl, rfl, ⟨_, _, rfl, rfl, rfl⟩⟩ := h
 exact rfl
theorem k99_openM {w : World} {base : Nat} {ok : Nat → Prop} {x : S99} {cs : List Value} (h : k99.M w base ok x cs) : cs = [.int .u64 x.f0, .int .i64 x.f1, .int .i64 x.f2] := by
 obtain ⟨_, _, rfl, rfl, ⟨_, _, rfl, rfl, rfl⟩⟩ := h
 exact rfl
theorem k99_mk (w : World) (x : S99)  : k99.K w x [.int .u64 x.f0, .int .i64 x.f1, .int .i64 x.f2] := ⟨[.int .u64 x.f0], [.int .i64 x.f1, .int .i64 x.f2], rfl, rfl, ⟨[.int .i64 x.f1], [.int .i64 x.f2], rfl, rfl, rfl⟩⟩
theorem k99_mkM (w : World) (base : Nat) (ok : Nat → Prop) (x : S99)  : k99.M w base ok x [.int .u64 x.f0, .int .i64 x.f1, .int .i64 x.f2] := ⟨[.int .u64 x.f0], [.int .i64 x.f1, .int .i64 x.f2], rfl, rfl, ⟨[.int .i64 x.f1], [.int .i64 x.f2], rfl, rfl, rfl⟩⟩
theorem k99_mkF (W : World) (ok : Nat → Prop) (x : S99) : Kd.FK k99 W ok x [.int .u64 x.f0, .int .i64 x.f1, .int .i64 x.f2] := fun W2 _ => k99_mk W2 x
def rd_T99 (xs : List S99) (i : Int) : S99 := xs.getD i.toNat z99
theorem at_T99 {w : World} {A : Option Addr} {n : Nat} {xs : List S99} (h : Kd.C k99 w A n xs) (i : Int) (h0 : 0 ≤ i) (h1 : i < n) : ∃ ad , A = some ad ∧ w.cell? (ad.add (i.toNat * 3)) = some (.int .u64 (rd_T99 xs i).f0) ∧ w.cell? ⟨(ad.add (i.toNat * 3)).block, (ad.add (i.toNat * 3)).off + 1, none⟩ = some (.int .i64 (rd_T99 xs i).f1) ∧ w.cell? ⟨(ad.add (i.toNat * 3)).block, (ad.add (i.toNat * 3)).off + 2, none⟩ = some (.int .i64 (rd_T99 xs i).f2) := by
 obtain ⟨ad, c, e, _, hK, hc0⟩ := Kd.C_get h z99 i h0 h1
 have hc : ∀ j u, c[j]? = some u → w.cell? (ad.add (i.toNat * 3 + j)) = some u := hc0
 obtain rfl := k99_open hK
 exact ⟨ad, e, hc 0 _ rfl, by rw [← add_field _ _ 1 (by omega)]; exact hc 1 _ rfl, by rw [← add_field _ _ 2 (by omega)]; exact hc 2 _ rfl⟩

def rd_L7 (xs : List (List Int)) (i : Int) : (List Int) := xs.getD i.toNat ([] : List Int)
theorem at_L7 {w : World} {A : Option Addr} {n : Nat} {xs : List (List Int)} (h : Kd.C (Kd.slice 2 (Kd.int .i64)) w A n xs) (i : Int) (h0 : 0 ≤ i) (h1 : i < n) : ∃ ad A0 c0, A = some ad ∧ w.cell? (ad.add i.toNat) = some (.slice A0 (rd_L7 xs i).length c0) ∧ (rd_L7 xs i).length ≤ c0 ∧ (Kd.int .i64).C w A0 (rd_L7 xs i).length (rd_L7 xs i) := by
 obtain ⟨ad, c, e, _, hK, hc0⟩ := Kd.C_get h ([] : List Int) i h0 h1
 have hc : ∀ j u, c[j]? = some u → w.cell? (ad.add (i.toNat * 1 + j)) = some u := hc0
 obtain ⟨A0, c0, rfl, l0, g0⟩ := hK
 exact ⟨ad, A0, c0, e, by have hq := hc 0 _ rfl; rwa [Nat.mul_one, Nat.add_zero] at hq, l0, g0⟩

def rd_L8 (xs : List (List S51)) (i : Int) : (List S51) := xs.getD i.toNat ([] : List S51)
theorem at_L8 {w : World} {A : Option Addr} {n : Nat} {xs : List (List S51)} (h : Kd.C (Kd.slice 51 k51) w A n xs) (i : Int) (h0 : 0 ≤ i) (h1 : i < n) : ∃ ad A0 c0, A = some ad ∧ w.cell? (ad.add i.toNat) = some (.slice A0 (rd_L8 xs i).length c0) ∧ (rd_L8 xs i).length ≤ c0 ∧ k51.C w A0 (rd_L8 xs i).length (rd_L8 xs i) := by
 obtain ⟨ad, c, e, _, hK, hc0⟩ := Kd.C_get h ([] : List S51) i h0 h1
 have hc : ∀ j u, c[j]? = some u → w.cell? (ad.add (i.toNat * 1 + j)) = some u := hc0
 obtain ⟨A0, c0, rfl, l0, g0⟩ := hK
 exact ⟨ad, A0, c0, e, by have hq := hc 0 _ rfl; rwa [Nat.mul_one, Nat.add_zero] at hq, l0, g0⟩

/-! #### struct type 40 -/
structure S40 where
 f0 : Int
 f1 : Int
def z40 : S40 := ⟨(0 : Int), (0 : Int)⟩
def k40 : Kd S40 := Kd.iso (Kd.pair (Kd.int .i64) (Kd.int .u64)) (fun x : S40 => (x.f0, x.f1))
theorem k40_heap : Kd.Heap k40 := Kd.heap_iso _ (Kd.heap_pair (Kd.heap_int .i64) (Kd.heap_int .u64))
theorem k40_open {w : World} {x : S40} {cs : List Value} (h : k40.K w x cs) : cs = [.int .i64 x.f0, .int .u64 x.f1] := by
 obtain ⟨_, _, rfl, rfl, rfl⟩ := h
 exact rfl
theorem k40_openM {w : World} {base : Nat} {ok : Nat → Prop} {x : S40} {cs : List Value} (h : k40.M w base ok x cs) : cs = [.int .i64 x.f0, .int .u64 x.f1] := by
 obtain ⟨_, _, rfl, rfl, rfl⟩ := h
 exact rfl
theorem k40_mk (w : World) (x : S40)  : k40.K w x [.int .i64 x.f0, .int .u64 x.f1] := ⟨[.int .i64 x.f0], [.int .u64 x.f1], rfl, rfl, rfl⟩
theorem k40_mkM (w : World) (base : Nat) (ok : Nat → Prop) (x : S40)  : k40.M w base ok x [.int .i64 x.f0, .int .u64 x.f1] := ⟨[.int .i64 x.f0], [.int .u64 x.f1], rfl, rfl, rfl⟩
theorem k40_mkF (W : World) (ok : Nat → Prop) (x : S40) : Kd.FK k40 W ok x [.int .i64 x.f0, .int .u64 x.f1] := fun W2 _ => k40_mk W2 x
def rd_T40 (xs : List S40) (i : Int) : S40 := xs.getD i.toNat z40
theorem at_T40 {w : World} {A : Option Addr} {n : Nat} {xs : List S40} (h : Kd.C k40 w A n xs) (i : Int) (h0 : 0 ≤ i) (h1 : i < n) : ∃ ad , A = some ad ∧ w.cell? (ad.add (i.toNat * 2)) = some (.int .i64 (rd_T40 xs i).f0) ∧ w.cell? ⟨(ad.add (i.toNat * 2)).block, (ad.add (i.toNat * 2)).off + 1, none⟩ = some (.int .u64 (rd_T40 xs i).f1) := by
 obtain ⟨ad, c, e, _, hK, hc0⟩ := Kd.C_get h z40 i h0 h1
 have hc : ∀ j u, c[j]? = some u → w.cell? (ad.add (i.toNat * 2 + j)) = some u := hc0
 obtain rfl := k40_open hK
 exact ⟨ad, e, hc 0 _ rfl, by rw [← add_field _ _ 1 (by omega)]; exact hc 1 _ rfl⟩

end Go.Proofs.YtmlbppfcpejlpaaDoor.X

/- Words that shorten the texts laid together: a world behind another one; a row that still stands. No conditions. -/
namespace Go.Proofs.YtmlbppfcpejlpaaDoor
open Go Go.RowKit Go.Proofs.YtmlbppfcpejlpaaDoorW.PrintWords Go.Proofs.YtmlbppfcpejlpaaDoorW.PrintLast Go.Proofs.YtmlbppfcpejlpaaDoorW.PrintMore
theorem bB {n : Nat} {w W : World} (h : Below n w W := by repeat (first | (with_reducible first | exact HB.out | apply below_alloc | apply pw_below_drewN | apply below_drew1) | exact HB.out)) : Below n w W := h
theorem rR {α : Type} {d : Kd α} {e : TypeId} {w W : World} {base : Nat} {ok : Nat → Prop} {v : Value} {xs : List α} (h : Kd.R d e w base ok v xs)
  (f : Kd.R d e w base ok v xs → Kd.R d e W base ok v xs := by intro hR_; (with_reducible repeat (first | apply Kd.R_alloc | apply Kd.R_drewN | apply Kd.R_drew)); exact hR_) : Kd.R d e W base ok v xs := f h
theorem cC {α : Type} {d : Kd α} {w W : World} {A : Option Addr} {n : Nat} {xs : List α} (h : Kd.C d w A n xs)
  (f : Kd.C d w A n xs → Kd.C d W A n xs := by intro hC_; repeat (first | exact hC_ | (with_reducible refine Kd.C_alloc ?_ _) | (with_reducible refine Kd.C_drewN ?_ _) | (with_reducible refine Kd.C_drew ?_))) : Kd.C d W A n xs := f h
end Go.Proofs.YtmlbppfcpejlpaaDoor

namespace Go.Proofs.YtmlbppfcpejlpaaDoor.X
open Go.RowKit Go.Proofs.YtmlbppfcpejlpaaDoorW.PrintWords Go.Proofs.YtmlbppfcpejlpaaDoorW.PrintLast Go.Proofs.YtmlbppfcpejlpaaDoorW.PrintMore
attribute [local go_sem] max2_int min2_int max_two min_two max_three min_three max_four min_four   -- for this text's walks alone
set_option linter.unusedVariables false
set_option linter.unusedSimpArgs false

/-! ### chunk_Right: function 21 -/
def chunk_Right.l0 : Nat → List (S51) → Int → Option (Int)
 | 0, _, _ => none
 | k + 1, x0, x3 => if x3 < (x0.length : Int) then (if 0 ≤ x3 then (if 0 ≤ (wrap64 (x3 - 1)) then (if (wrap64 (x3 - 1)) < (x0.length : Int) then (if ((rd_T51 x0 x3).f0) ≤ ((rd_T51 x0 (wrap64 (x3 - 1))).f0) then (some 8) else (chunk_Right.l0 k x0 (wrap64 (x3 + 1)))) else (none)) else (none)) else (none)) else (some 0)
def chunk_Right.f (k : Nat) (l0 : List (S51)) : Option (Int) := if (l0.length : Int) = 0 then (some 7) else (if (l0.length : Int) > 200 then (some 6) else (chunk_Right.l0 k l0 1))
theorem chunk_Right.mono_l : ∀ k, (∀ y0 y1, LeO (chunk_Right.l0 k y0 y1) (chunk_Right.l0 (k + 1) y0 y1))
 | 0 => fun _ _ r h => by simp [chunk_Right.l0] at h
 | k + 1 => by
  have ih0 := chunk_Right.mono_l k
  ·intro y0 y1
   unfold chunk_Right.l0
   repeat' first
   | (with_reducible exact ih0 _ _)
   | (with_reducible exact LeO.refl _)
   | (with_reducible exact LeO.none _)
   | (with_reducible refine LeO.ite ?_ ?_)
   | (with_reducible refine LeO.bind ?_ (fun _ => ?_))
   | exact ih0 _ _
   | exact LeO.none _
   | refine LeO.ite ?_ ?_
   | refine LeO.bind ?_ (fun _ => ?_)
theorem chunk_Right.mono : ∀ a0 k, LeO (chunk_Right.f k a0) (chunk_Right.f (k + 1) a0) := by
 intro a0 k
 have ih0 := chunk_Right.mono_l k
 unfold chunk_Right.f
 repeat' first
   | (with_reducible exact ih0 _ _)
   | (with_reducible exact LeO.refl _)
   | (with_reducible exact LeO.none _)
   | (with_reducible refine LeO.ite ?_ ?_)
   | (with_reducible refine LeO.bind ?_ (fun _ => ?_))
   | exact ih0 _ _
   | exact LeO.none _
   | refine LeO.ite ?_ ?_
   | refine LeO.bind ?_ (fun _ => ?_)
set_option maxHeartbeats 8000000 in
set_option maxRecDepth 100000 in
theorem chunk_Right.calls (k : Nat) (A0 : Option Addr) (c0 : Nat) (l0 : List (S51)) (r : Int) (w : World) (hr0 : Kd.C k51 w A0 l0.length l0) (hc0 : l0.length ≤ c0) (h : chunk_Right.f k l0 = some r) :
  Calls Tryd.prog 21 #[.slice A0 l0.length c0] w fun e w' => e = .returned (.int .i64 r) ∧ Drawn0 w w' := by
 have HR0 := Aside0.mk hr0
 have HC0 := Aside0.mk hc0
 clear hr0 hc0
 have H : (if (l0.length : Int) = 0 then (some 7) else (if (l0.length : Int) > 200 then (some 6) else (chunk_Right.l0 k l0 1))) = some r := h
 clear h
 by_cases c2 : (l0.length : Int) = 0
 ·rw [if_pos c2] at H
  have c2b0 : ((l0.length : Int) == 0) = true := beq_iff_eq.mpr c2
  have c2b1 : ((l0.length : Int) != 0) = false := bne_eq_false_iff_eq.mpr c2
  clear c2
  obtain rfl := Option.some.inj H
  go_enter Tryd.func21, Tryd.ntmps21
  go_wp2
  repeat (go_quiet (fail); try go_wp2)
  go_ret
  exact ⟨by first | rfl | (simp; done) | (simp [*]; done), by repeat (first | exact Drawn0.refl _ | apply Drawn0.step)⟩
 ·rw [if_neg c2] at H
  have c2b0 : ((l0.length : Int) == 0) = false := beq_eq_false_iff_ne.mpr c2
  have c2b1 : ((l0.length : Int) != 0) = true := bne_iff_ne.mpr c2
  have c2b2 : ¬ (l0 = []) := fun h_ => c2 (by rw [h_]; rfl)
  by_cases c3 : (l0.length : Int) > 200
  ·rw [if_pos c3] at H
   have c3b0 : decide (200 < (l0.length : Int)) = true := decide_eq_true c3
   have c3b1 : decide (200 < l0.length) = true := decide_eq_true (by omega)
   clear c3
   obtain rfl := Option.some.inj H
   go_enter Tryd.func21, Tryd.ntmps21
   go_wp2
   repeat (go_quiet (fail); try go_wp2)
   go_ret
   exact ⟨by first | rfl | (simp; done) | (simp [*]; done), by repeat (first | exact Drawn0.refl _ | apply Drawn0.step)⟩
  ·rw [if_neg c3] at H
   have c3b0 : decide (200 < (l0.length : Int)) = false := decide_eq_false c3
   have c3b1 : decide (200 < l0.length) = false := decide_eq_false (by omega)
   clear c3
   have H' := Aside0.mk H
   clear H
   go_enter Tryd.func21, Tryd.ntmps21
   go_wp2
   repeat (go_quiet (fail); try go_wp2)
   go_loopg [3] k (fun kq v3 w' => ∃ (x3_1 : Int), v3 = .int .i64 x3_1 ∧ Aside0 (chunk_Right.l0 kq l0 x3_1 = some r) ∧ Aside0 (kq ≤ k) ∧ Drawn0 w w')
   case atStart => exact ⟨(1), (by first | rfl | (simp; done) | (simp [*]; done)), H', ⟨Nat.le_refl _⟩, by repeat (first | exact Drawn0.refl _ | apply Drawn0.step)⟩
   case round =>
    clear H'
    (try clear c2);(try clear c2b0);(try clear c2b1);(try clear c2b2);(try clear p2);(try clear c3);(try clear c3b0);(try clear c3b1)
    obtain ⟨x3_1, rfl, HA, HK1, ⟨m1, rfl⟩⟩ := hrel
    cases gk with
    | zero => exact absurd HA.out (by simp [chunk_Right.l0])
    | succ k1 =>
     have H := HA.out
     clear HA
     simp only [chunk_Right.l0] at H
     by_cases c4 : x3_1 < (l0.length : Int)
     ·rw [if_pos c4] at H
      have c4b0 : decide (x3_1 < (l0.length : Int)) = true := decide_eq_true c4
      clear c4
      by_cases c5 : 0 ≤ x3_1
      ·rw [if_pos c5] at H
       have c5b0 : decide (0 ≤ x3_1) = true := decide_eq_true c5
       clear c5
       obtain ⟨ji6, hji6⟩ : ∃ j_ : Int, (wrap64 (x3_1 - 1)) = j_ := ⟨_, rfl⟩
       replace H : (if 0 ≤ (ji6) then (if (ji6) < (l0.length : Int) then (if ((rd_T51 l0 x3_1).f0) ≤ ((rd_T51 l0 (ji6)).f0) then (some 8) else (chunk_Right.l0 k1 l0 (wrap64 (x3_1 + 1)))) else (none)) else (none)) = some r := by first | (rw [hji6] at H; exact H) | (simp only [hji6] at H ⊢; exact H)
       have hji6w : (IntKind.i64.wrap (x3_1 - 1)) = ji6 := (i64_w _).trans hji6
       by_cases c7 : 0 ≤ (ji6)
       ·rw [if_pos c7] at H
        have c7b0 : decide (0 ≤ (ji6)) = true := decide_eq_true c7
        clear c7
        by_cases c8 : (ji6) < (l0.length : Int)
        ·rw [if_pos c8] at H
         have c8b0 : decide ((ji6) < (l0.length : Int)) = true := decide_eq_true c8
         clear c8
         by_cases c9 : ((rd_T51 l0 x3_1).f0) ≤ ((rd_T51 l0 (ji6)).f0)
         ·rw [if_pos c9] at H
          have c9b0 : decide (((rd_T51 l0 x3_1).f0) ≤ ((rd_T51 l0 (ji6)).f0)) = true := decide_eq_true c9
          clear c9
          obtain rfl := Option.some.inj H
          have p264 : 0 ≤ (x3_1 : Int) := of_decide_eq_true (by first | (with_reducible assumption) | assumption)
          have q264 : x3_1 < (l0.length : Int) := of_decide_eq_true (by first | (with_reducible assumption) | assumption)
          obtain ⟨ad264, e264, hx264_0, hx264_1⟩ := at_T51 HR0.out x3_1 p264 q264
          cases e264
          replace p264 := eq_true p264
          replace q264 := eq_true q264
          have p265 : 0 ≤ ((ji6) : Int) := of_decide_eq_true (by first | (with_reducible assumption) | assumption)
          have q265 : (ji6) < (l0.length : Int) := of_decide_eq_true (by first | (with_reducible assumption) | assumption)
          obtain ⟨ad265, e265, hx265_0, hx265_1⟩ := at_T51 HR0.out (ji6) p265 q265
          obtain rfl : ad264 = ad265 := (by injection e265)
          replace p265 := eq_true p265
          replace q265 := eq_true q265
          go_wp2
          repeat (go_quiet (fail); try go_wp2)
          go_ret
          exact ⟨by first | rfl | (simp; done) | (simp only [← hji6] <;> (first | rfl | simp)) | (simp [*]; done), by repeat (first | exact Drawn0.refl _ | apply Drawn0.step)⟩
         ·rw [if_neg c9] at H
          have c9b0 : decide (((rd_T51 l0 x3_1).f0) ≤ ((rd_T51 l0 (ji6)).f0)) = false := decide_eq_false c9
          clear c9
          have H' := Aside0.mk H
          clear H
          have p264 : 0 ≤ (x3_1 : Int) := of_decide_eq_true (by first | (with_reducible assumption) | assumption)
          have q264 : x3_1 < (l0.length : Int) := of_decide_eq_true (by first | (with_reducible assumption) | assumption)
          obtain ⟨ad264, e264, hx264_0, hx264_1⟩ := at_T51 HR0.out x3_1 p264 q264
          cases e264
          replace p264 := eq_true p264
          replace q264 := eq_true q264
          have p265 : 0 ≤ ((ji6) : Int) := of_decide_eq_true (by first | (with_reducible assumption) | assumption)
          have q265 : (ji6) < (l0.length : Int) := of_decide_eq_true (by first | (with_reducible assumption) | assumption)
          obtain ⟨ad265, e265, hx265_0, hx265_1⟩ := at_T51 HR0.out (ji6) p265 q265
          obtain rfl : ad264 = ad265 := (by injection e265)
          replace p265 := eq_true p265
          replace q265 := eq_true q265
          go_wp2
          repeat (go_quiet (fail); try go_wp2)
          go_roundg k1
          case measure => have := HK1.out; omega
          case rel => exact ⟨(wrap64 (x3_1 + 1)), (by first | rfl | (simp; done) | (simp [*]; done)), H', ⟨by have := HK1.out; omega⟩, by repeat (first | exact Drawn0.refl _ | apply Drawn0.step)⟩
        ·rw [if_neg c8] at H
         exact absurd H (by simp)
       ·rw [if_neg c7] at H
        exact absurd H (by simp)
      ·rw [if_neg c5] at H
       exact absurd H (by simp)
     ·rw [if_neg c4] at H
      have c4b0 : decide (x3_1 < (l0.length : Int)) = false := decide_eq_false c4
      clear c4
      obtain rfl := Option.some.inj H
      go_wp2
      repeat (go_quiet (fail); try go_wp2)
      go_ret
      exact ⟨by first | rfl | (simp; done) | (simp [*]; done), by repeat (first | exact Drawn0.refl _ | apply Drawn0.step)⟩


/-! ### chunk_raw: function 49 -/
mutual
def chunk_raw.l0 : Nat → List Int → List Int → Int → Int → Option (List Int)
 | 0, _, _, _, _ => none
 | k + 1, x3, x7, x8, x9 => if x9 < x8 then (if 0 ≤ x9 then (if x9 < (x7.length : Int) then (chunk_raw.l1 k x3 (rd x7 x9) 7 x7 x8 x9) else (none)) else (none)) else (some x3)
def chunk_raw.l1 : Nat → List Int → Int → Int → List Int → Int → Int → Option (List Int)
 | 0, _, _, _, _, _, _ => none
 | k + 1, x3, x5, x6, x7, x8, x9 => if x6 ≥ 0 then (if 0 ≤ (wrap64 (8 * x6)) then (if x3.length < 140737488355328 then (chunk_raw.l1 k (x3 ++ [(shr .u64 x5 (wrap64 (8 * x6))) % 256]) x5 (wrap64 (x6 - 1)) x7 x8 x9) else (none)) else (none)) else (chunk_raw.l0 k x3 x7 x8 (wrap64 (x9 + 1)))
end
def chunk_raw.f (k : Nat) (l0 : List Int) : Option (List Int) := chunk_raw.l0 k ([] : List Int) l0 (l0.length : Int) 0
theorem chunk_raw.mono_l : ∀ k, (∀ y0 y1 y2 y3, LeO (chunk_raw.l0 k y0 y1 y2 y3) (chunk_raw.l0 (k + 1) y0 y1 y2 y3)) ∧ (∀ y0 y1 y2 y3 y4 y5, LeO (chunk_raw.l1 k y0 y1 y2 y3 y4 y5) (chunk_raw.l1 (k + 1) y0 y1 y2 y3 y4 y5))
 | 0 => ⟨fun _ _ _ _ r h => by simp [chunk_raw.l0] at h, fun _ _ _ _ _ _ r h => by simp [chunk_raw.l1] at h⟩
 | k + 1 => by
  obtain ⟨ih0, ih1⟩ := chunk_raw.mono_l k
  refine ⟨?_, ?_⟩
  ·intro y0 y1 y2 y3
   unfold chunk_raw.l0
   repeat' first
   | (with_reducible exact ih0 _ _ _ _)
   | (with_reducible exact ih1 _ _ _ _ _ _)
   | (with_reducible exact LeO.refl _)
   | (with_reducible exact LeO.none _)
   | (with_reducible refine LeO.ite ?_ ?_)
   | (with_reducible refine LeO.bind ?_ (fun _ => ?_))
   | exact ih0 _ _ _ _
   | exact ih1 _ _ _ _ _ _
   | exact LeO.none _
   | refine LeO.ite ?_ ?_
   | refine LeO.bind ?_ (fun _ => ?_)
  ·intro y0 y1 y2 y3 y4 y5
   unfold chunk_raw.l1
   repeat' first
   | (with_reducible exact ih0 _ _ _ _)
   | (with_reducible exact ih1 _ _ _ _ _ _)
   | (with_reducible exact LeO.refl _)
   | (with_reducible exact LeO.none _)
   | (with_reducible refine LeO.ite ?_ ?_)
   | (with_reducible refine LeO.bind ?_ (fun _ => ?_))
   | exact ih0 _ _ _ _
   | exact ih1 _ _ _ _ _ _
   | exact LeO.none _
   | refine LeO.ite ?_ ?_
   | refine LeO.bind ?_ (fun _ => ?_)
theorem chunk_raw.mono : ∀ a0 k, LeO (chunk_raw.f k a0) (chunk_raw.f (k + 1) a0) := by
 intro a0 k
 obtain ⟨ih0, ih1⟩ := chunk_raw.mono_l k
 unfold chunk_raw.f
 repeat' first
   | (with_reducible exact ih0 _ _ _ _)
   | (with_reducible exact ih1 _ _ _ _ _ _)
   | (with_reducible exact LeO.refl _)
   | (with_reducible exact LeO.none _)
   | (with_reducible refine LeO.ite ?_ ?_)
   | (with_reducible refine LeO.bind ?_ (fun _ => ?_))
   | exact ih0 _ _ _ _
   | exact ih1 _ _ _ _ _ _
   | exact LeO.none _
   | refine LeO.ite ?_ ?_
   | refine LeO.bind ?_ (fun _ => ?_)
set_option maxHeartbeats 8000000 in
set_option maxRecDepth 100000 in
theorem chunk_raw.calls (k : Nat) (A0 : Option Addr) (c0 : Nat) (l0 : List Int) (r : List Int) (w : World) (hr0 : Kd.C (Kd.int .u64) w A0 l0.length l0) (hc0 : l0.length ≤ c0) (h : chunk_raw.f k l0 = some r) :
  Calls Tryd.prog 49 #[.slice A0 l0.length c0] w fun e w' => ∃ v0_ : Value, e = .returned (v0_) ∧ Kd.R (Kd.int .u8) 5 w' w.heap.size (fun _ => True) v0_ r ∧ Below w.heap.size w w' := by
 have HR0 := Aside0.mk hr0
 have HC0 := Aside0.mk hc0
 clear hr0 hc0
 have HB := Aside0.mk (Below.refl w.heap.size w)
 have H : (chunk_raw.l0 k ([] : List Int) l0 (l0.length : Int) 0) = some r := h
 clear h
 have H' := Aside0.mk H
 clear H
 go_enter Tryd.func49, Tryd.ntmps49
 go_wp2
 go_loopg [3, 9] k (fun kq v3 v9 w' => ∃ (x3_1 : List Int) (x9_1 : Int), v9 = .int .i64 x9_1 ∧ Aside0 (chunk_raw.l0 kq x3_1 l0 (l0.length : Int) x9_1 = some r) ∧ Aside0 (kq ≤ k) ∧ Aside0 (Kd.R (Kd.int .u8) 5 w' w.heap.size (fun _ => True) v3 x3_1) ∧ Aside0 (Below w.heap.size w w'))
 case atStart => exact ⟨(([] : List Int)), (0), (by first | rfl | (simp; done) | (simp [*]; done)), H', ⟨Nat.le_refl _⟩, ⟨by first | exact Kd.R_nil _ _ _ _ _ | exact Kd.N_nil _ _ _ _ _ | exact Kd.V_nil _ _ _ _ _ | exact Kd.Q_nil _ _ _ _ _ | exact Kd.S_nil _ _ _ _ _⟩, ⟨bB⟩⟩
 case round =>
  clear H'
  obtain ⟨x3_1, x9_1, rfl, HA, HK1, HO_3, HB⟩ := hrel
  cases gk with
  | zero => exact absurd HA.out (by simp [chunk_raw.l0])
  | succ k1 =>
   have H := HA.out
   clear HA
   simp only [chunk_raw.l0] at H
   by_cases c2 : x9_1 < (l0.length : Int)
   ·rw [if_pos c2] at H
    have c2b0 : decide (x9_1 < (l0.length : Int)) = true := decide_eq_true c2
    clear c2
    by_cases c3 : 0 ≤ x9_1
    ·rw [if_pos c3] at H
     have c3b0 : decide (0 ≤ x9_1) = true := decide_eq_true c3
     clear c3
     by_cases c4 : x9_1 < (l0.length : Int)
     ·rw [if_pos c4] at H
      have c4b0 : decide (x9_1 < (l0.length : Int)) = true := decide_eq_true c4
      clear c4
      have H' := Aside0.mk H
      clear H
      have p324 : 0 ≤ (x9_1 : Int) := of_decide_eq_true (by first | (with_reducible assumption) | assumption)
      have q324 : x9_1 < (l0.length : Int) := of_decide_eq_true (by first | (with_reducible assumption) | assumption)
      obtain ⟨ad324, e324, hx324_0⟩ := Kd.at_int HR0.out x9_1 p324 q324
      cases e324
      replace hx324_0 := (HB.out.cell (World.block_lt_of_cell? w _ hx324_0)).trans hx324_0
      replace p324 := eq_true p324
      replace q324 := eq_true q324
      go_wp2
      go_loopg [3, 6] k1 (fun kq v3 v6 w' => ∃ (x3_2 : List Int) (x6_2 : Int), v6 = .int .i64 x6_2 ∧ Aside0 (chunk_raw.l1 kq x3_2 (rd l0 x9_1) x6_2 l0 (l0.length : Int) x9_1 = some r) ∧ Aside0 (kq ≤ k1) ∧ Aside0 (Kd.R (Kd.int .u8) 5 w' w.heap.size (fun _ => True) v3 x3_2) ∧ Aside0 (Below w.heap.size w w'))
      case atStart => exact ⟨(x3_1), (7), (by first | rfl | (simp; done) | (simp [*]; done)), H', ⟨Nat.le_refl _⟩, ⟨rR HO_3.out⟩, ⟨bB⟩⟩
      case round =>
       clear H'
       (try clear c2);(try clear c2b0);(try clear p2);(try clear c3);(try clear c3b0);(try clear p3);(try clear q3);(try clear hx3);(try clear c4);(try clear c4b0);(try clear hx324_0);(try clear p324);(try clear q324)
       obtain ⟨x3_2, x6_2, rfl, HA, HK2, HO_3, HB⟩ := hrel
       cases gk with
       | zero => exact absurd HA.out (by simp [chunk_raw.l1])
       | succ k2 =>
        have H := HA.out
        clear HA
        simp only [chunk_raw.l1] at H
        by_cases c5 : x6_2 ≥ 0
        ·rw [if_pos c5] at H
         have c5b0 : decide (0 ≤ x6_2) = true := decide_eq_true c5
         clear c5
         obtain ⟨ji6, hji6⟩ : ∃ j_ : Int, (wrap64 (8 * x6_2)) = j_ := ⟨_, rfl⟩
         replace H : (if 0 ≤ (ji6) then (if x3_2.length < 140737488355328 then (chunk_raw.l1 k2 (x3_2 ++ [(shr .u64 (rd l0 x9_1) (ji6)) % 256]) (rd l0 x9_1) (wrap64 (x6_2 - 1)) l0 (l0.length : Int) x9_1) else (none)) else (none)) = some r := by first | (rw [hji6] at H; exact H) | (simp only [hji6] at H ⊢; exact H)
         have hji6w : (IntKind.i64.wrap (8 * x6_2)) = ji6 := (i64_w _).trans hji6
         by_cases c7 : 0 ≤ (ji6)
         ·rw [if_pos c7] at H
          have c7b0 := eq_true c7
          have c7b1 : decide (0 ≤ (ji6)) = true := decide_eq_true c7
          clear c7
          obtain ⟨ji8, hji8⟩ : ∃ j_ : Int, (shr .u64 (rd l0 x9_1) (ji6)) = j_ := ⟨_, rfl⟩
          replace H : (if x3_2.length < 140737488355328 then (chunk_raw.l1 k2 (x3_2 ++ [(ji8) % 256]) (rd l0 x9_1) (wrap64 (x6_2 - 1)) l0 (l0.length : Int) x9_1) else (none)) = some r := by first | (rw [hji8] at H; exact H) | (simp only [hji8] at H ⊢; exact H)
          have hji8_ : ((rd l0 x9_1) / 2 ^ min (ji6).toNat 64) = ji8 := hji8
          have hji8z : (ji6) ≤ 64 → ((rd l0 x9_1) / 2 ^ (ji6).toNat) = ji8 := shr_small hji8
          by_cases c9 : x3_2.length < 140737488355328
          ·rw [if_pos c9] at H
           have LMc9 := Aside0.mk c9
           clear c9
           obtain ⟨y325, hy325⟩ : ∃ y_ : List Int, y_ = (x3_2 ++ [(ji8) % 256]) := ⟨_, rfl⟩
           replace H : (chunk_raw.l1 k2 y325 (rd l0 x9_1) (wrap64 (x6_2 - 1)) l0 (l0.length : Int) x9_1) = some r := by first | (rw [hy325]; with_reducible exact H) | (have H2_ := (Option.bind_some _ _).symm.trans H; rw [hy325]; with_reducible exact H2_) | (have H2_ := (Option.bind_some _ _).symm.trans H; with_reducible exact H2_) | with_reducible exact H | (rw [hy325]; exact H) | exact H
           have Ny325 := Aside0.mk hy325
           clear hy325
           have H' := Aside0.mk H
           clear H
           go_wp2_with (first | ((with_reducible refine gate_builtin (b := .append) (xs := #[.tmp 17, .tmp 23]) rfl ?_); at_builtin; refine Kd.R_append (Kd.int .u8) (w0 := w) w.heap.size rfl (.tmp 17) (.tmp 23) 23 5 (.int .u8 0) 1 rfl Tryd.underlying23 info5 rfl (by decide) (by omega) u3 x3_2 ((ji8) % 256) [.int .u8 ((ji8) % 256)] (fun _ => True) (fun _ => False) rfl rfl ?aP (fun _ hk => hk.elim) ?aF ?aO ?aB ?aS ?aL ?_; (case aP => exact rfl); (case aB => exact bB); (case aF => exact (fun _ _ => trivial)); (case aO => exact (rR HO_3.out)); (case aS => exact (below_size bB)); (case aL => have := LMc9.out; omega); intro v326 w10 ho hb hg hat; rw [← Ny325.out] at ho; have n0_ := Aside0.mk (hb); have n1_ := Aside0.mk (ho); clear HB; clear HO_3; have HB := n0_; have HO327 := n1_; clear n0_ n1_; clear ho hb hg hat))
           go_roundg k2
           case measure => have := HK1.out; have := HK2.out; omega
           case rel => exact ⟨(y325), (wrap64 (x6_2 - 1)), (by first | rfl | (simp; done) | (simp [*]; done)), H', ⟨by have := HK1.out; have := HK2.out; omega⟩, ⟨rR HO327.out⟩, ⟨bB⟩⟩
          ·rw [if_neg c9] at H
           exact absurd H (by simp)
         ·rw [if_neg c7] at H
          exact absurd H (by simp)
        ·rw [if_neg c5] at H
         have c5b0 : decide (0 ≤ x6_2) = false := decide_eq_false c5
         clear c5
         have H' := Aside0.mk H
         clear H
         go_wp2
         go_roundg k2
         case measure => have := HK1.out; have := HK2.out; omega
         case rel => exact ⟨(x3_2), (wrap64 (x9_1 + 1)), (by first | rfl | (simp; done) | (simp [*]; done)), H', ⟨by have := HK1.out; have := HK2.out; omega⟩, ⟨rR HO_3.out⟩, ⟨bB⟩⟩
     ·rw [if_neg c4] at H
      exact absurd H (by simp)
    ·rw [if_neg c3] at H
     exact absurd H (by simp)
   ·rw [if_neg c2] at H
    have c2b0 : decide (x9_1 < (l0.length : Int)) = false := decide_eq_false c2
    clear c2
    obtain rfl := Option.some.inj H
    go_wp2
    go_ret
    exact ⟨_, by first | rfl | (simp [errW_none, errW_some] <;> rfl) | (simp [*, errW_none, errW_some] <;> rfl), rR HO_3.out, bB⟩


/-! ### bits_Len64: function 52 -/
def bits_Len64.j0 : Nat → Int → Int → Option (Int)
 | 0, _, _ => none
 | k + 1, x0, x2 => if x0 ≥ 65536 then (if (x0 / 65536) ≥ 256 then (if 0 ≤ (((x0 / 65536) / 256) % 256) then (if (((x0 / 65536) / 256) % 256) < 256 then (some (wrap64 ((wrap64 ((wrap64 (x2 + 16)) + 8)) + (wrap64 (bt (⟨#[0, 1, 2, 2, 3, 3, 3, 3, 4, 4, 4, 4, 4, 4, 4, 4, 5, 5, 5, 5, 5, 5, 5, 5, 5, 5, 5, 5, 5, 5, 5, 5, 6, 6, 6, 6, 6, 6, 6, 6, 6, 6, 6, 6, 6, 6, 6, 6, 6, 6, 6, 6, 6, 6, 6, 6, 6, 6, 6, 6, 6, 6, 6, 6, 7, 7, 7, 7, 7, 7, 7, 7, 7, 7, 7, 7, 7, 7, 7, 7, 7, 7, 7, 7, 7, 7, 7, 7, 7, 7, 7, 7, 7, 7, 7, 7, 7, 7, 7, 7, 7, 7, 7, 7, 7, 7, 7, 7, 7, 7, 7, 7, 7, 7, 7, 7, 7, 7, 7, 7, 7, 7, 7, 7, 7, 7, 7, 7, 8, 8, 8, 8, 8, 8, 8, 8, 8, 8, 8, 8, 8, 8, 8, 8, 8, 8, 8, 8, 8, 8, 8, 8, 8, 8, 8, 8, 8, 8, 8, 8, 8, 8, 8, 8, 8, 8, 8, 8, 8, 8, 8, 8, 8, 8, 8, 8, 8, 8, 8, 8, 8, 8, 8, 8, 8, 8, 8, 8, 8, 8, 8, 8, 8, 8, 8, 8, 8, 8, 8, 8, 8, 8, 8, 8, 8, 8, 8, 8, 8, 8, 8, 8, 8, 8, 8, 8, 8, 8, 8, 8, 8, 8, 8, 8, 8, 8, 8, 8, 8, 8, 8, 8, 8, 8, 8, 8, 8, 8, 8, 8, 8, 8, 8, 8, 8, 8, 8, 8, 8, 8, 8, 8, 8, 8, 8, 8]⟩ : ByteArray) (((x0 / 65536) / 256) % 256)))))) else (none)) else (none)) else (if 0 ≤ ((x0 / 65536) % 256) then (if ((x0 / 65536) % 256) < 256 then (some (wrap64 ((wrap64 (x2 + 16)) + (wrap64 (bt (⟨#[0, 1, 2, 2, 3, 3, 3, 3, 4, 4, 4, 4, 4, 4, 4, 4, 5, 5, 5, 5, 5, 5, 5, 5, 5, 5, 5, 5, 5, 5, 5, 5, 6, 6, 6, 6, 6, 6, 6, 6, 6, 6, 6, 6, 6, 6, 6, 6, 6, 6, 6, 6, 6, 6, 6, 6, 6, 6, 6, 6, 6, 6, 6, 6, 7, 7, 7, 7, 7, 7, 7, 7, 7, 7, 7, 7, 7, 7, 7, 7, 7, 7, 7, 7, 7, 7, 7, 7, 7, 7, 7, 7, 7, 7, 7, 7, 7, 7, 7, 7, 7, 7, 7, 7, 7, 7, 7, 7, 7, 7, 7, 7, 7, 7, 7, 7, 7, 7, 7, 7, 7, 7, 7, 7, 7, 7, 7, 7, 8, 8, 8, 8, 8, 8, 8, 8, 8, 8, 8, 8, 8, 8, 8, 8, 8, 8, 8, 8, 8, 8, 8, 8, 8, 8, 8, 8, 8, 8, 8, 8, 8, 8, 8, 8, 8, 8, 8, 8, 8, 8, 8, 8, 8, 8, 8, 8, 8, 8, 8, 8, 8, 8, 8, 8, 8, 8, 8, 8, 8, 8, 8, 8, 8, 8, 8, 8, 8, 8, 8, 8, 8, 8, 8, 8, 8, 8, 8, 8, 8, 8, 8, 8, 8, 8, 8, 8, 8, 8, 8, 8, 8, 8, 8, 8, 8, 8, 8, 8, 8, 8, 8, 8, 8, 8, 8, 8, 8, 8, 8, 8, 8, 8, 8, 8, 8, 8, 8, 8, 8, 8, 8, 8, 8, 8, 8, 8]⟩ : ByteArray) ((x0 / 65536) % 256)))))) else (none)) else (none))) else (if x0 ≥ 256 then (if 0 ≤ ((x0 / 256) % 256) then (if ((x0 / 256) % 256) < 256 then (some (wrap64 ((wrap64 (x2 + 8)) + (wrap64 (bt (⟨#[0, 1, 2, 2, 3, 3, 3, 3, 4, 4, 4, 4, 4, 4, 4, 4, 5, 5, 5, 5, 5, 5, 5, 5, 5, 5, 5, 5, 5, 5, 5, 5, 6, 6, 6, 6, 6, 6, 6, 6, 6, 6, 6, 6, 6, 6, 6, 6, 6, 6, 6, 6, 6, 6, 6, 6, 6, 6, 6, 6, 6, 6, 6, 6, 7, 7, 7, 7, 7, 7, 7, 7, 7, 7, 7, 7, 7, 7, 7, 7, 7, 7, 7, 7, 7, 7, 7, 7, 7, 7, 7, 7, 7, 7, 7, 7, 7, 7, 7, 7, 7, 7, 7, 7, 7, 7, 7, 7, 7, 7, 7, 7, 7, 7, 7, 7, 7, 7, 7, 7, 7, 7, 7, 7, 7, 7, 7, 7, 8, 8, 8, 8, 8, 8, 8, 8, 8, 8, 8, 8, 8, 8, 8, 8, 8, 8, 8, 8, 8, 8, 8, 8, 8, 8, 8, 8, 8, 8, 8, 8, 8, 8, 8, 8, 8, 8, 8, 8, 8, 8, 8, 8, 8, 8, 8, 8, 8, 8, 8, 8, 8, 8, 8, 8, 8, 8, 8, 8, 8, 8, 8, 8, 8, 8, 8, 8, 8, 8, 8, 8, 8, 8, 8, 8, 8, 8, 8, 8, 8, 8, 8, 8, 8, 8, 8, 8, 8, 8, 8, 8, 8, 8, 8, 8, 8, 8, 8, 8, 8, 8, 8, 8, 8, 8, 8, 8, 8, 8, 8, 8, 8, 8, 8, 8, 8, 8, 8, 8, 8, 8, 8, 8, 8, 8, 8, 8]⟩ : ByteArray) ((x0 / 256) % 256)))))) else (none)) else (none)) else (if 0 ≤ ((x0) % 256) then (if ((x0) % 256) < 256 then (some (wrap64 (x2 + (wrap64 (bt (⟨#[0, 1, 2, 2, 3, 3, 3, 3, 4, 4, 4, 4, 4, 4, 4, 4, 5, 5, 5, 5, 5, 5, 5, 5, 5, 5, 5, 5, 5, 5, 5, 5, 6, 6, 6, 6, 6, 6, 6, 6, 6, 6, 6, 6, 6, 6, 6, 6, 6, 6, 6, 6, 6, 6, 6, 6, 6, 6, 6, 6, 6, 6, 6, 6, 7, 7, 7, 7, 7, 7, 7, 7, 7, 7, 7, 7, 7, 7, 7, 7, 7, 7, 7, 7, 7, 7, 7, 7, 7, 7, 7, 7, 7, 7, 7, 7, 7, 7, 7, 7, 7, 7, 7, 7, 7, 7, 7, 7, 7, 7, 7, 7, 7, 7, 7, 7, 7, 7, 7, 7, 7, 7, 7, 7, 7, 7, 7, 7, 8, 8, 8, 8, 8, 8, 8, 8, 8, 8, 8, 8, 8, 8, 8, 8, 8, 8, 8, 8, 8, 8, 8, 8, 8, 8, 8, 8, 8, 8, 8, 8, 8, 8, 8, 8, 8, 8, 8, 8, 8, 8, 8, 8, 8, 8, 8, 8, 8, 8, 8, 8, 8, 8, 8, 8, 8, 8, 8, 8, 8, 8, 8, 8, 8, 8, 8, 8, 8, 8, 8, 8, 8, 8, 8, 8, 8, 8, 8, 8, 8, 8, 8, 8, 8, 8, 8, 8, 8, 8, 8, 8, 8, 8, 8, 8, 8, 8, 8, 8, 8, 8, 8, 8, 8, 8, 8, 8, 8, 8, 8, 8, 8, 8, 8, 8, 8, 8, 8, 8, 8, 8, 8, 8, 8, 8, 8, 8]⟩ : ByteArray) ((x0) % 256)))))) else (none)) else (none)))
def bits_Len64.f (k : Nat) (a0 : Int) : Option (Int) := if a0 ≥ 4294967296 then (bits_Len64.j0 k (a0 / 4294967296) 32) else (bits_Len64.j0 k a0 0)
theorem bits_Len64.mono_l : ∀ k, (∀ y0 y1, LeO (bits_Len64.j0 k y0 y1) (bits_Len64.j0 (k + 1) y0 y1))
 | 0 => fun _ _ r h => by simp [bits_Len64.j0] at h
 | k + 1 => by
  have ih0 := bits_Len64.mono_l k
  ·intro y0 y1
   unfold bits_Len64.j0
   repeat' first
   | (with_reducible exact ih0 _ _)
   | (with_reducible exact LeO.refl _)
   | (with_reducible exact LeO.none _)
   | (with_reducible refine LeO.ite ?_ ?_)
   | (with_reducible refine LeO.bind ?_ (fun _ => ?_))
   | exact ih0 _ _
   | exact LeO.none _
   | refine LeO.ite ?_ ?_
   | refine LeO.bind ?_ (fun _ => ?_)
theorem bits_Len64.mono : ∀ a0 k, LeO (bits_Len64.f k a0) (bits_Len64.f (k + 1) a0) := by
 intro a0 k
 have ih0 := bits_Len64.mono_l k
 unfold bits_Len64.f
 repeat' first
   | (with_reducible exact ih0 _ _)
   | (with_reducible exact LeO.refl _)
   | (with_reducible exact LeO.none _)
   | (with_reducible refine LeO.ite ?_ ?_)
   | (with_reducible refine LeO.bind ?_ (fun _ => ?_))
   | exact ih0 _ _
   | exact LeO.none _
   | refine LeO.ite ?_ ?_
   | refine LeO.bind ?_ (fun _ => ?_)
set_option maxHeartbeats 8000000 in
set_option maxRecDepth 100000 in
theorem bits_Len64.calls (k : Nat) (a0 : Int) (r : Int) (w : World) (h : bits_Len64.f k a0 = some r) :
  Calls Tryd.prog 52 #[.int .u64 a0] w fun e w' => e = .returned (.int .i64 r) ∧ Drawn0 w w' := by
 have H : (if a0 ≥ 4294967296 then (bits_Len64.j0 k (a0 / 4294967296) 32) else (bits_Len64.j0 k a0 0)) = some r := h
 clear h
 have HC2 := Aside0.mk H
 clear H
 go_enter Tryd.func52, Tryd.ntmps52
 go_upto_if 4 with (fail)
 go_cut [0, 2] (fun v0 v2 wc => ∃ (kq : Nat) (x0_1 : Int) (x2_1 : Int), v0 = .int .u64 x0_1 ∧ v2 = .int .i64 x2_1 ∧ Aside0 (bits_Len64.j0 kq x0_1 x2_1 = some r) ∧ Aside0 (kq ≤ k) ∧ Drawn0 w wc)
 case first =>
  have H := HC2.out
  clear HC2
  by_cases c3 : a0 ≥ 4294967296
  ·rw [if_pos c3] at H
   have c3b0 : decide (4294967296 ≤ a0) = true := decide_eq_true c3
   clear c3
   (first | rw [c3b0] | (simp only [i64_w, i32_w]; rw [c3b0]) | skip)
   have H' := Aside0.mk H
   clear H
   go_wp2
   go_meet
   case rel => exact ⟨_, (a0 / 4294967296), (32), (by first | rfl | (simp; done) | (simp [*]; done)), (by first | rfl | (simp; done) | (simp [*]; done)), H', ⟨by first | omega | exact Nat.le_refl _⟩, by repeat (first | exact Drawn0.refl _ | apply Drawn0.step)⟩
  ·rw [if_neg c3] at H
   have c3b0 : decide (4294967296 ≤ a0) = false := decide_eq_false c3
   clear c3
   (first | rw [c3b0] | (simp only [i64_w, i32_w]; rw [c3b0]) | skip)
   have H' := Aside0.mk H
   clear H
   go_wp2
   go_meet
   case rel => exact ⟨_, (a0), (0), (by first | rfl | (simp; done) | (simp [*]; done)), (by first | rfl | (simp; done) | (simp [*]; done)), H', ⟨by first | omega | exact Nat.le_refl _⟩, by repeat (first | exact Drawn0.refl _ | apply Drawn0.step)⟩
 case rest =>
  clear HC2
  (try clear p2);(try clear c3);(try clear c3b0)
  obtain ⟨kq, x0_1, x2_1, rfl, rfl, HA, HJ1, ⟨mc1, rfl⟩⟩ := hcut
  cases kq with
  | zero => exact absurd HA.out (by simp [bits_Len64.j0])
  | succ kj1 =>
   have H := HA.out
   clear HA
   simp only [bits_Len64.j0] at H
   by_cases c4 : x0_1 ≥ 65536
   ·rw [if_pos c4] at H
    have c4b0 : decide (65536 ≤ x0_1) = true := decide_eq_true c4
    clear c4
    by_cases c5 : (x0_1 / 65536) ≥ 256
    ·rw [if_pos c5] at H
     have c5b0 : decide (256 ≤ (x0_1 / 65536)) = true := decide_eq_true c5
     clear c5
     obtain ⟨ji6, hji6⟩ : ∃ j_ : Int, (((x0_1 / 65536) / 256) % 256) = j_ := ⟨_, rfl⟩
     replace H : (if 0 ≤ (ji6) then (if (ji6) < 256 then (some (wrap64 ((wrap64 ((wrap64 (x2_1 + 16)) + 8)) + (wrap64 (bt (⟨#[0, 1, 2, 2, 3, 3, 3, 3, 4, 4, 4, 4, 4, 4, 4, 4, 5, 5, 5, 5, 5, 5, 5, 5, 5, 5, 5, 5, 5, 5, 5, 5, 6, 6, 6, 6, 6, 6, 6, 6, 6, 6, 6, 6, 6, 6, 6, 6, 6, 6, 6, 6, 6, 6, 6, 6, 6, 6, 6, 6, 6, 6, 6, 6, 7, 7, 7, 7, 7, 7, 7, 7, 7, 7, 7, 7, 7, 7, 7, 7, 7, 7, 7, 7, 7, 7, 7, 7, 7, 7, 7, 7, 7, 7, 7, 7, 7, 7, 7, 7, 7, 7, 7, 7, 7, 7, 7, 7, 7, 7, 7, 7, 7, 7, 7, 7, 7, 7, 7, 7, 7, 7, 7, 7, 7, 7, 7, 7, 8, 8, 8, 8, 8, 8, 8, 8, 8, 8, 8, 8, 8, 8, 8, 8, 8, 8, 8, 8, 8, 8, 8, 8, 8, 8, 8, 8, 8, 8, 8, 8, 8, 8, 8, 8, 8, 8, 8, 8, 8, 8, 8, 8, 8, 8, 8, 8, 8, 8, 8, 8, 8, 8, 8, 8, 8, 8, 8, 8, 8, 8, 8, 8, 8, 8, 8, 8, 8, 8, 8, 8, 8, 8, 8, 8, 8, 8, 8, 8, 8, 8, 8, 8, 8, 8, 8, 8, 8, 8, 8, 8, 8, 8, 8, 8, 8, 8, 8, 8, 8, 8, 8, 8, 8, 8, 8, 8, 8, 8, 8, 8, 8, 8, 8, 8, 8, 8, 8, 8, 8, 8, 8, 8, 8, 8, 8, 8]⟩ : ByteArray) (ji6)))))) else (none)) else (none)) = some r := by first | (rw [hji6] at H; exact H) | (simp only [hji6] at H ⊢; exact H)
     by_cases c7 : 0 ≤ (ji6)
     ·rw [if_pos c7] at H
      have c7b0 : decide (0 ≤ (ji6)) = true := decide_eq_true c7
      clear c7
      by_cases c8 : (ji6) < 256
      ·rw [if_pos c8] at H
       have c8b0 : decide ((ji6) < 256) = true := decide_eq_true c8
       clear c8
       obtain rfl := Option.some.inj H
       have p9 : 0 ≤ ((ji6) : Int) := of_decide_eq_true (by first | (with_reducible assumption) | assumption)
       have q9 : (ji6) < (256 : Int) := of_decide_eq_true (by first | (with_reducible assumption) | assumption)
       have hx9 := bt_at (⟨#[0, 1, 2, 2, 3, 3, 3, 3, 4, 4, 4, 4, 4, 4, 4, 4, 5, 5, 5, 5, 5, 5, 5, 5, 5, 5, 5, 5, 5, 5, 5, 5, 6, 6, 6, 6, 6, 6, 6, 6, 6, 6, 6, 6, 6, 6, 6, 6, 6, 6, 6, 6, 6, 6, 6, 6, 6, 6, 6, 6, 6, 6, 6, 6, 7, 7, 7, 7, 7, 7, 7, 7, 7, 7, 7, 7, 7, 7, 7, 7, 7, 7, 7, 7, 7, 7, 7, 7, 7, 7, 7, 7, 7, 7, 7, 7, 7, 7, 7, 7, 7, 7, 7, 7, 7, 7, 7, 7, 7, 7, 7, 7, 7, 7, 7, 7, 7, 7, 7, 7, 7, 7, 7, 7, 7, 7, 7, 7, 8, 8, 8, 8, 8, 8, 8, 8, 8, 8, 8, 8, 8, 8, 8, 8, 8, 8, 8, 8, 8, 8, 8, 8, 8, 8, 8, 8, 8, 8, 8, 8, 8, 8, 8, 8, 8, 8, 8, 8, 8, 8, 8, 8, 8, 8, 8, 8, 8, 8, 8, 8, 8, 8, 8, 8, 8, 8, 8, 8, 8, 8, 8, 8, 8, 8, 8, 8, 8, 8, 8, 8, 8, 8, 8, 8, 8, 8, 8, 8, 8, 8, 8, 8, 8, 8, 8, 8, 8, 8, 8, 8, 8, 8, 8, 8, 8, 8, 8, 8, 8, 8, 8, 8, 8, 8, 8, 8, 8, 8, 8, 8, 8, 8, 8, 8, 8, 8, 8, 8, 8, 8, 8, 8, 8, 8, 8, 8]⟩ : ByteArray) (ji6)
       replace p9 := eq_true p9
       replace q9 := eq_true q9
       go_wp2
       go_ret
       exact ⟨by first | rfl | (simp; done) | (simp only [← hji6] <;> (first | rfl | simp)) | (simp [*]; done), by repeat (first | exact Drawn0.refl _ | apply Drawn0.step)⟩
      ·rw [if_neg c8] at H
       exact absurd H (by simp)
     ·rw [if_neg c7] at H
      exact absurd H (by simp)
    ·rw [if_neg c5] at H
     have c5b0 : decide (256 ≤ (x0_1 / 65536)) = false := decide_eq_false c5
     clear c5
     obtain ⟨ji10, hji10⟩ : ∃ j_ : Int, ((x0_1 / 65536) % 256) = j_ := ⟨_, rfl⟩
     replace H : (if 0 ≤ (ji10) then (if (ji10) < 256 then (some (wrap64 ((wrap64 (x2_1 + 16)) + (wrap64 (bt (⟨#[0, 1, 2, 2, 3, 3, 3, 3, 4, 4, 4, 4, 4, 4, 4, 4, 5, 5, 5, 5, 5, 5, 5, 5, 5, 5, 5, 5, 5, 5, 5, 5, 6, 6, 6, 6, 6, 6, 6, 6, 6, 6, 6, 6, 6, 6, 6, 6, 6, 6, 6, 6, 6, 6, 6, 6, 6, 6, 6, 6, 6, 6, 6, 6, 7, 7, 7, 7, 7, 7, 7, 7, 7, 7, 7, 7, 7, 7, 7, 7, 7, 7, 7, 7, 7, 7, 7, 7, 7, 7, 7, 7, 7, 7, 7, 7, 7, 7, 7, 7, 7, 7, 7, 7, 7, 7, 7, 7, 7, 7, 7, 7, 7, 7, 7, 7, 7, 7, 7, 7, 7, 7, 7, 7, 7, 7, 7, 7, 8, 8, 8, 8, 8, 8, 8, 8, 8, 8, 8, 8, 8, 8, 8, 8, 8, 8, 8, 8, 8, 8, 8, 8, 8, 8, 8, 8, 8, 8, 8, 8, 8, 8, 8, 8, 8, 8, 8, 8, 8, 8, 8, 8, 8, 8, 8, 8, 8, 8, 8, 8, 8, 8, 8, 8, 8, 8, 8, 8, 8, 8, 8, 8, 8, 8, 8, 8, 8, 8, 8, 8, 8, 8, 8, 8, 8, 8, 8, 8, 8, 8, 8, 8, 8, 8, 8, 8, 8, 8, 8, 8, 8, 8, 8, 8, 8, 8, 8, 8, 8, 8, 8, 8, 8, 8, 8, 8, 8, 8, 8, 8, 8, 8, 8, 8, 8, 8, 8, 8, 8, 8, 8, 8, 8, 8, 8, 8]⟩ : ByteArray) (ji10)))))) else (none)) else (none)) = some r := by first | (rw [hji10] at H; exact H) | (simp only [hji10] at H ⊢; exact H)
     by_cases c11 : 0 ≤ (ji10)
     ·rw [if_pos c11] at H
      have c11b0 : decide (0 ≤ (ji10)) = true := decide_eq_true c11
      clear c11
      by_cases c12 : (ji10) < 256
      ·rw [if_pos c12] at H
       have c12b0 : decide ((ji10) < 256) = true := decide_eq_true c12
       clear c12
       obtain rfl := Option.some.inj H
       have p13 : 0 ≤ ((ji10) : Int) := of_decide_eq_true (by first | (with_reducible assumption) | assumption)
       have q13 : (ji10) < (256 : Int) := of_decide_eq_true (by first | (with_reducible assumption) | assumption)
       have hx13 := bt_at (⟨#[0, 1, 2, 2, 3, 3, 3, 3, 4, 4, 4, 4, 4, 4, 4, 4, 5, 5, 5, 5, 5, 5, 5, 5, 5, 5, 5, 5, 5, 5, 5, 5, 6, 6, 6, 6, 6, 6, 6, 6, 6, 6, 6, 6, 6, 6, 6, 6, 6, 6, 6, 6, 6, 6, 6, 6, 6, 6, 6, 6, 6, 6, 6, 6, 7, 7, 7, 7, 7, 7, 7, 7, 7, 7, 7, 7, 7, 7, 7, 7, 7, 7, 7, 7, 7, 7, 7, 7, 7, 7, 7, 7, 7, 7, 7, 7, 7, 7, 7, 7, 7, 7, 7, 7, 7, 7, 7, 7, 7, 7, 7, 7, 7, 7, 7, 7, 7, 7, 7, 7, 7, 7, 7, 7, 7, 7, 7, 7, 8, 8, 8, 8, 8, 8, 8, 8, 8, 8, 8, 8, 8, 8, 8, 8, 8, 8, 8, 8, 8, 8, 8, 8, 8, 8, 8, 8, 8, 8, 8, 8, 8, 8, 8, 8, 8, 8, 8, 8, 8, 8, 8, 8, 8, 8, 8, 8, 8, 8, 8, 8, 8, 8, 8, 8, 8, 8, 8, 8, 8, 8, 8, 8, 8, 8, 8, 8, 8, 8, 8, 8, 8, 8, 8, 8, 8, 8, 8, 8, 8, 8, 8, 8, 8, 8, 8, 8, 8, 8, 8, 8, 8, 8, 8, 8, 8, 8, 8, 8, 8, 8, 8, 8, 8, 8, 8, 8, 8, 8, 8, 8, 8, 8, 8, 8, 8, 8, 8, 8, 8, 8, 8, 8, 8, 8, 8, 8]⟩ : ByteArray) (ji10)
       replace p13 := eq_true p13
       replace q13 := eq_true q13
       go_wp2
       go_ret
       exact ⟨by first | rfl | (simp; done) | (simp only [← hji10] <;> (first | rfl | simp)) | (simp [*]; done), by repeat (first | exact Drawn0.refl _ | apply Drawn0.step)⟩
      ·rw [if_neg c12] at H
       exact absurd H (by simp)
     ·rw [if_neg c11] at H
      exact absurd H (by simp)
   ·rw [if_neg c4] at H
    have c4b0 : decide (65536 ≤ x0_1) = false := decide_eq_false c4
    clear c4
    by_cases c14 : x0_1 ≥ 256
    ·rw [if_pos c14] at H
     have c14b0 : decide (256 ≤ x0_1) = true := decide_eq_true c14
     clear c14
     obtain ⟨ji15, hji15⟩ : ∃ j_ : Int, ((x0_1 / 256) % 256) = j_ := ⟨_, rfl⟩
     replace H : (if 0 ≤ (ji15) then (if (ji15) < 256 then (some (wrap64 ((wrap64 (x2_1 + 8)) + (wrap64 (bt (⟨#[0, 1, 2, 2, 3, 3, 3, 3, 4, 4, 4, 4, 4, 4, 4, 4, 5, 5, 5, 5, 5, 5, 5, 5, 5, 5, 5, 5, 5, 5, 5, 5, 6, 6, 6, 6, 6, 6, 6, 6, 6, 6, 6, 6, 6, 6, 6, 6, 6, 6, 6, 6, 6, 6, 6, 6, 6, 6, 6, 6, 6, 6, 6, 6, 7, 7, 7, 7, 7, 7, 7, 7, 7, 7, 7, 7, 7, 7, 7, 7, 7, 7, 7, 7, 7, 7, 7, 7, 7, 7, 7, 7, 7, 7, 7, 7, 7, 7, 7, 7, 7, 7, 7, 7, 7, 7, 7, 7, 7, 7, 7, 7, 7, 7, 7, 7, 7, 7, 7, 7, 7, 7, 7, 7, 7, 7, 7, 7, 8, 8, 8, 8, 8, 8, 8, 8, 8, 8, 8, 8, 8, 8, 8, 8, 8, 8, 8, 8, 8, 8, 8, 8, 8, 8, 8, 8, 8, 8, 8, 8, 8, 8, 8, 8, 8, 8, 8, 8, 8, 8, 8, 8, 8, 8, 8, 8, 8, 8, 8, 8, 8, 8, 8, 8, 8, 8, 8, 8, 8, 8, 8, 8, 8, 8, 8, 8, 8, 8, 8, 8, 8, 8, 8, 8, 8, 8, 8, 8, 8, 8, 8, 8, 8, 8, 8, 8, 8, 8, 8, 8, 8, 8, 8, 8, 8, 8, 8, 8, 8, 8, 8, 8, 8, 8, 8, 8, 8, 8, 8, 8, 8, 8, 8, 8, 8, 8, 8, 8, 8, 8, 8, 8, 8, 8, 8, 8]⟩ : ByteArray) (ji15)))))) else (none)) else (none)) = some r := by first | (rw [hji15] at H; exact H) | (simp only [hji15] at H ⊢; exact H)
     by_cases c16 : 0 ≤ (ji15)
     ·rw [if_pos c16] at H
      have c16b0 : decide (0 ≤ (ji15)) = true := decide_eq_true c16
      clear c16
      by_cases c17 : (ji15) < 256
      ·rw [if_pos c17] at H
       have c17b0 : decide ((ji15) < 256) = true := decide_eq_true c17
       clear c17
       obtain rfl := Option.some.inj H
       have p18 : 0 ≤ ((ji15) : Int) := of_decide_eq_true (by first | (with_reducible assumption) | assumption)
       have q18 : (ji15) < (256 : Int) := of_decide_eq_true (by first | (with_reducible assumption) | assumption)
       have hx18 := bt_at (⟨#[0, 1, 2, 2, 3, 3, 3, 3, 4, 4, 4, 4, 4, 4, 4, 4, 5, 5, 5, 5, 5, 5, 5, 5, 5, 5, 5, 5, 5, 5, 5, 5, 6, 6, 6, 6, 6, 6, 6, 6, 6, 6, 6, 6, 6, 6, 6, 6, 6, 6, 6, 6, 6, 6, 6, 6, 6, 6, 6, 6, 6, 6, 6, 6, 7, 7, 7, 7, 7, 7, 7, 7, 7, 7, 7, 7, 7, 7, 7, 7, 7, 7, 7, 7, 7, 7, 7, 7, 7, 7, 7, 7, 7, 7, 7, 7, 7, 7, 7, 7, 7, 7, 7, 7, 7, 7, 7, 7, 7, 7, 7, 7, 7, 7, 7, 7, 7, 7, 7, 7, 7, 7, 7, 7, 7, 7, 7, 7, 8, 8, 8, 8, 8, 8, 8, 8, 8, 8, 8, 8, 8, 8, 8, 8, 8, 8, 8, 8, 8, 8, 8, 8, 8, 8, 8, 8, 8, 8, 8, 8, 8, 8, 8, 8, 8, 8, 8, 8, 8, 8, 8, 8, 8, 8, 8, 8, 8, 8, 8, 8, 8, 8, 8, 8, 8, 8, 8, 8, 8, 8, 8, 8, 8, 8, 8, 8, 8, 8, 8, 8, 8, 8, 8, 8, 8, 8, 8, 8, 8, 8, 8, 8, 8, 8, 8, 8, 8, 8, 8, 8, 8, 8, 8, 8, 8, 8, 8, 8, 8, 8, 8, 8, 8, 8, 8, 8, 8, 8, 8, 8, 8, 8, 8, 8, 8, 8, 8, 8, 8, 8, 8, 8, 8, 8, 8, 8]⟩ : ByteArray) (ji15)
       replace p18 := eq_true p18
       replace q18 := eq_true q18
       go_wp2
       go_ret
       exact ⟨by first | rfl | (simp; done) | (simp only [← hji15] <;> (first | rfl | simp)) | (simp [*]; done), by repeat (first | exact Drawn0.refl _ | apply Drawn0.step)⟩
      ·rw [if_neg c17] at H
       exact absurd H (by simp)
     ·rw [if_neg c16] at H
      exact absurd H (by simp)
    ·rw [if_neg c14] at H
     have c14b0 : decide (256 ≤ x0_1) = false := decide_eq_false c14
     clear c14
     obtain ⟨ji19, hji19⟩ : ∃ j_ : Int, ((x0_1) % 256) = j_ := ⟨_, rfl⟩
     replace H : (if 0 ≤ (ji19) then (if (ji19) < 256 then (some (wrap64 (x2_1 + (wrap64 (bt (⟨#[0, 1, 2, 2, 3, 3, 3, 3, 4, 4, 4, 4, 4, 4, 4, 4, 5, 5, 5, 5, 5, 5, 5, 5, 5, 5, 5, 5, 5, 5, 5, 5, 6, 6, 6, 6, 6, 6, 6, 6, 6, 6, 6, 6, 6, 6, 6, 6, 6, 6, 6, 6, 6, 6, 6, 6, 6, 6, 6, 6, 6, 6, 6, 6, 7, 7, 7, 7, 7, 7, 7, 7, 7, 7, 7, 7, 7, 7, 7, 7, 7, 7, 7, 7, 7, 7, 7, 7, 7, 7, 7, 7, 7, 7, 7, 7, 7, 7, 7, 7, 7, 7, 7, 7, 7, 7, 7, 7, 7, 7, 7, 7, 7, 7, 7, 7, 7, 7, 7, 7, 7, 7, 7, 7, 7, 7, 7, 7, 8, 8, 8, 8, 8, 8, 8, 8, 8, 8, 8, 8, 8, 8, 8, 8, 8, 8, 8, 8, 8, 8, 8, 8, 8, 8, 8, 8, 8, 8, 8, 8, 8, 8, 8, 8, 8, 8, 8, 8, 8, 8, 8, 8, 8, 8, 8, 8, 8, 8, 8, 8, 8, 8, 8, 8, 8, 8, 8, 8, 8, 8, 8, 8, 8, 8, 8, 8, 8, 8, 8, 8, 8, 8, 8, 8, 8, 8, 8, 8, 8, 8, 8, 8, 8, 8, 8, 8, 8, 8, 8, 8, 8, 8, 8, 8, 8, 8, 8, 8, 8, 8, 8, 8, 8, 8, 8, 8, 8, 8, 8, 8, 8, 8, 8, 8, 8, 8, 8, 8, 8, 8, 8, 8, 8, 8, 8, 8]⟩ : ByteArray) (ji19)))))) else (none)) else (none)) = some r := by first | (rw [hji19] at H; exact H) | (simp only [hji19] at H ⊢; exact H)
     by_cases c20 : 0 ≤ (ji19)
     ·rw [if_pos c20] at H
      have c20b0 : decide (0 ≤ (ji19)) = true := decide_eq_true c20
      clear c20
      by_cases c21 : (ji19) < 256
      ·rw [if_pos c21] at H
       have c21b0 : decide ((ji19) < 256) = true := decide_eq_true c21
       clear c21
       obtain rfl := Option.some.inj H
       have p22 : 0 ≤ ((ji19) : Int) := of_decide_eq_true (by first | (with_reducible assumption) | assumption)
       have q22 : (ji19) < (256 : Int) := of_decide_eq_true (by first | (with_reducible assumption) | assumption)
       have hx22 := bt_at (⟨#[0, 1, 2, 2, 3, 3, 3, 3, 4, 4, 4, 4, 4, 4, 4, 4, 5, 5, 5, 5, 5, 5, 5, 5, 5, 5, 5, 5, 5, 5, 5, 5, 6, 6, 6, 6, 6, 6, 6, 6, 6, 6, 6, 6, 6, 6, 6, 6, 6, 6, 6, 6, 6, 6, 6, 6, 6, 6, 6, 6, 6, 6, 6, 6, 7, 7, 7, 7, 7, 7, 7, 7, 7, 7, 7, 7, 7, 7, 7, 7, 7, 7, 7, 7, 7, 7, 7, 7, 7, 7, 7, 7, 7, 7, 7, 7, 7, 7, 7, 7, 7, 7, 7, 7, 7, 7, 7, 7, 7, 7, 7, 7, 7, 7, 7, 7, 7, 7, 7, 7, 7, 7, 7, 7, 7, 7, 7, 7, 8, 8, 8, 8, 8, 8, 8, 8, 8, 8, 8, 8, 8, 8, 8, 8, 8, 8, 8, 8, 8, 8, 8, 8, 8, 8, 8, 8, 8, 8, 8, 8, 8, 8, 8, 8, 8, 8, 8, 8, 8, 8, 8, 8, 8, 8, 8, 8, 8, 8, 8, 8, 8, 8, 8, 8, 8, 8, 8, 8, 8, 8, 8, 8, 8, 8, 8, 8, 8, 8, 8, 8, 8, 8, 8, 8, 8, 8, 8, 8, 8, 8, 8, 8, 8, 8, 8, 8, 8, 8, 8, 8, 8, 8, 8, 8, 8, 8, 8, 8, 8, 8, 8, 8, 8, 8, 8, 8, 8, 8, 8, 8, 8, 8, 8, 8, 8, 8, 8, 8, 8, 8, 8, 8, 8, 8, 8, 8]⟩ : ByteArray) (ji19)
       replace p22 := eq_true p22
       replace q22 := eq_true q22
       go_wp2
       go_ret
       exact ⟨by first | rfl | (simp; done) | (simp only [← hji19] <;> (first | rfl | simp)) | (simp [*]; done), by repeat (first | exact Drawn0.refl _ | apply Drawn0.step)⟩
      ·rw [if_neg c21] at H
       exact absurd H (by simp)
     ·rw [if_neg c20] at H
      exact absurd H (by simp)


/-! ### slices_Max_uint64_uint64: function 62 -/
def slices_Max_uint64_uint64.l0 : Nat → List Int → Int → Int → Option (Int)
 | 0, _, _, _ => none
 | k + 1, x0, x3, x4 => if x4 < (x0.length : Int) then (if 0 ≤ x4 then (slices_Max_uint64_uint64.l0 k x0 (mx x3 (rd x0 x4)) (wrap64 (x4 + 1))) else (none)) else (some x3)
def slices_Max_uint64_uint64.f (k : Nat) (l0 : List Int) : Option (Int) := if (l0.length : Int) < 1 then (none) else (if 0 < (l0.length : Int) then (slices_Max_uint64_uint64.l0 k l0 (rd l0 0) 1) else (none))
theorem slices_Max_uint64_uint64.mono_l : ∀ k, (∀ y0 y1 y2, LeO (slices_Max_uint64_uint64.l0 k y0 y1 y2) (slices_Max_uint64_uint64.l0 (k + 1) y0 y1 y2))
 | 0 => fun _ _ _ r h => by simp [slices_Max_uint64_uint64.l0] at h
 | k + 1 => by
  have ih0 := slices_Max_uint64_uint64.mono_l k
  ·intro y0 y1 y2
   unfold slices_Max_uint64_uint64.l0
   repeat' first
   | (with_reducible exact ih0 _ _ _)
   | (with_reducible exact LeO.refl _)
   | (with_reducible exact LeO.none _)
   | (with_reducible refine LeO.ite ?_ ?_)
   | (with_reducible refine LeO.bind ?_ (fun _ => ?_))
   | exact ih0 _ _ _
   | exact LeO.none _
   | refine LeO.ite ?_ ?_
   | refine LeO.bind ?_ (fun _ => ?_)
theorem slices_Max_uint64_uint64.mono : ∀ a0 k, LeO (slices_Max_uint64_uint64.f k a0) (slices_Max_uint64_uint64.f (k + 1) a0) := by
 intro a0 k
 have ih0 := slices_Max_uint64_uint64.mono_l k
 unfold slices_Max_uint64_uint64.f
 repeat' first
   | (with_reducible exact ih0 _ _ _)
   | (with_reducible exact LeO.refl _)
   | (with_reducible exact LeO.none _)
   | (with_reducible refine LeO.ite ?_ ?_)
   | (with_reducible refine LeO.bind ?_ (fun _ => ?_))
   | exact ih0 _ _ _
   | exact LeO.none _
   | refine LeO.ite ?_ ?_
   | refine LeO.bind ?_ (fun _ => ?_)
set_option maxHeartbeats 8000000 in
set_option maxRecDepth 100000 in
theorem slices_Max_uint64_uint64.calls (k : Nat) (A0 : Option Addr) (c0 : Nat) (l0 : List Int) (r : Int) (w : World) (hr0 : Kd.C (Kd.int .u64) w A0 l0.length l0) (hc0 : l0.length ≤ c0) (h : slices_Max_uint64_uint64.f k l0 = some r) :
  Calls Tryd.prog 62 #[.slice A0 l0.length c0] w fun e w' => e = .returned (.int .u64 r) ∧ Below w.heap.size w w' := by
 have HR0 := Aside0.mk hr0
 have HC0 := Aside0.mk hc0
 clear hr0 hc0
 have HB := Aside0.mk (Below.refl w.heap.size w)
 have H : (if (l0.length : Int) < 1 then (none) else (if 0 < (l0.length : Int) then (slices_Max_uint64_uint64.l0 k l0 (rd l0 0) 1) else (none))) = some r := h
 clear h
 by_cases c2 : (l0.length : Int) < 1
 ·rw [if_pos c2] at H
  exact absurd H (by simp)
 ·rw [if_neg c2] at H
  have c2b0 : decide ((l0.length : Int) < 1) = false := decide_eq_false c2
  have c2b1 : decide (l0.length < 1) = false := decide_eq_false (by omega)
  clear c2
  by_cases c3 : 0 < (l0.length : Int)
  ·rw [if_pos c3] at H
   have c3b0 : decide (0 < (l0.length : Int)) = true := decide_eq_true c3
   have c3b1 : decide (0 < l0.length) = true := decide_eq_true (by omega)
   clear c3
   have H' := Aside0.mk H
   clear H
   have p274 : 0 ≤ (0 : Int) := (by omega)
   have q274 : 0 < (l0.length : Int) := of_decide_eq_true (by first | (with_reducible assumption) | assumption)
   obtain ⟨ad274, e274, hx274_0⟩ := Kd.at_int HR0.out 0 p274 q274
   cases e274
   have qi274 : (0 < l0.length) = True := eq_true (by omega)
   (try rw [show ((0 : Int)).toNat = 0 from rfl] at hx274_0)
   (try rw [Addr.add_zero'] at hx274_0)
   replace p274 := eq_true p274
   replace q274 := eq_true q274
   go_enter Tryd.func62, Tryd.ntmps62
   go_wp2
   go_loopg [3, 4] k (fun kq v3 v4 w' => ∃ (x3_1 : Int) (x4_1 : Int), v3 = .int .u64 x3_1 ∧ v4 = .int .i64 x4_1 ∧ Aside0 (slices_Max_uint64_uint64.l0 kq l0 x3_1 x4_1 = some r) ∧ Aside0 (kq ≤ k) ∧ Aside0 (Below w.heap.size w w'))
   case atStart => exact ⟨(rd l0 0), (1), (by first | rfl | (simp; done) | (simp [*]; done)), (by first | rfl | (simp; done) | (simp [*]; done)), H', ⟨Nat.le_refl _⟩, ⟨bB⟩⟩
   case round =>
    clear H'
    (try clear c2);(try clear c2b0);(try clear c2b1);(try clear p2);(try clear q2);(try clear hx2);(try clear qi2);(try clear c3);(try clear c3b0);(try clear c3b1);(try clear hx274_0);(try clear p274);(try clear q274)
    obtain ⟨x3_1, x4_1, rfl, rfl, HA, HK1, HB⟩ := hrel
    cases gk with
    | zero => exact absurd HA.out (by simp [slices_Max_uint64_uint64.l0])
    | succ k1 =>
     have H := HA.out
     clear HA
     simp only [slices_Max_uint64_uint64.l0] at H
     by_cases c4 : x4_1 < (l0.length : Int)
     ·rw [if_pos c4] at H
      have c4b0 : decide (x4_1 < (l0.length : Int)) = true := decide_eq_true c4
      clear c4
      by_cases c5 : 0 ≤ x4_1
      ·rw [if_pos c5] at H
       have c5b0 : decide (0 ≤ x4_1) = true := decide_eq_true c5
       clear c5
       obtain ⟨ji6, hji6⟩ : ∃ j_ : Int, (mx x3_1 (rd l0 x4_1)) = j_ := ⟨_, rfl⟩
       replace H : (slices_Max_uint64_uint64.l0 k1 l0 ji6 (wrap64 (x4_1 + 1))) = some r := by first | (rw [hji6] at H; exact H) | (simp only [hji6] at H ⊢; exact H)
       have hji6_ : (if x3_1 < (rd l0 x4_1) then (rd l0 x4_1) else x3_1) = ji6 := hji6
       have H' := Aside0.mk H
       clear H
       have p275 : 0 ≤ (x4_1 : Int) := of_decide_eq_true (by first | (with_reducible assumption) | assumption)
       have q275 : x4_1 < (l0.length : Int) := of_decide_eq_true (by first | (with_reducible assumption) | assumption)
       obtain ⟨ad275, e275, hx275_0⟩ := Kd.at_int HR0.out x4_1 p275 q275
       obtain rfl : ad274 = ad275 := (by injection e275)
       replace hx275_0 := (HB.out.cell (World.block_lt_of_cell? w _ hx275_0)).trans hx275_0
       replace p275 := eq_true p275
       replace q275 := eq_true q275
       go_wp2
       go_roundg k1
       case measure => have := HK1.out; omega
       case rel => exact ⟨(ji6), (wrap64 (x4_1 + 1)), (by first | rfl | (simp; done) | (simp only [← hji6] <;> (first | rfl | simp)) | (simp [*]; done)), (by first | rfl | (simp; done) | (simp [*]; done)), H', ⟨by have := HK1.out; omega⟩, ⟨bB⟩⟩
      ·rw [if_neg c5] at H
       exact absurd H (by simp)
     ·rw [if_neg c4] at H
      have c4b0 : decide (x4_1 < (l0.length : Int)) = false := decide_eq_false c4
      clear c4
      obtain rfl := Option.some.inj H
      go_wp2
      go_ret
      exact ⟨by first | rfl | (simp [errW_none, errW_some] <;> rfl) | (simp [*, errW_none, errW_some] <;> rfl), bB⟩
  ·rw [if_neg c3] at H
   exact absurd H (by simp)


/-! ### slices_Min_uint64_uint64: function 61 -/
def slices_Min_uint64_uint64.l0 : Nat → List Int → Int → Int → Option (Int)
 | 0, _, _, _ => none
 | k + 1, x0, x3, x4 => if x4 < (x0.length : Int) then (if 0 ≤ x4 then (slices_Min_uint64_uint64.l0 k x0 (mn x3 (rd x0 x4)) (wrap64 (x4 + 1))) else (none)) else (some x3)
def slices_Min_uint64_uint64.f (k : Nat) (l0 : List Int) : Option (Int) := if (l0.length : Int) < 1 then (none) else (if 0 < (l0.length : Int) then (slices_Min_uint64_uint64.l0 k l0 (rd l0 0) 1) else (none))
theorem slices_Min_uint64_uint64.mono_l : ∀ k, (∀ y0 y1 y2, LeO (slices_Min_uint64_uint64.l0 k y0 y1 y2) (slices_Min_uint64_uint64.l0 (k + 1) y0 y1 y2))
 | 0 => fun _ _ _ r h => by simp [slices_Min_uint64_uint64.l0] at h
 | k + 1 => by
  have ih0 := slices_Min_uint64_uint64.mono_l k
  ·intro y0 y1 y2
   unfold slices_Min_uint64_uint64.l0
   repeat' first
   | (with_reducible exact ih0 _ _ _)
   | (with_reducible exact LeO.refl _)
   | (with_reducible exact LeO.none _)
   | (with_reducible refine LeO.ite ?_ ?_)
   | (with_reducible refine LeO.bind ?_ (fun _ => ?_))
   | exact ih0 _ _ _
   | exact LeO.none _
   | refine LeO.ite ?_ ?_
   | refine LeO.bind ?_ (fun _ => ?_)
theorem slices_Min_uint64_uint64.mono : ∀ a0 k, LeO (slices_Min_uint64_uint64.f k a0) (slices_Min_uint64_uint64.f (k + 1) a0) := by
 intro a0 k
 have ih0 := slices_Min_uint64_uint64.mono_l k
 unfold slices_Min_uint64_uint64.f
 repeat' first
   | (with_reducible exact ih0 _ _ _)
   | (with_reducible exact LeO.refl _)
   | (with_reducible exact LeO.none _)
   | (with_reducible refine LeO.ite ?_ ?_)
   | (with_reducible refine LeO.bind ?_ (fun _ => ?_))
   | exact ih0 _ _ _
   | exact LeO.none _
   | refine LeO.ite ?_ ?_
   | refine LeO.bind ?_ (fun _ => ?_)
set_option maxHeartbeats 8000000 in
set_option maxRecDepth 100000 in
theorem slices_Min_uint64_uint64.calls (k : Nat) (A0 : Option Addr) (c0 : Nat) (l0 : List Int) (r : Int) (w : World) (hr0 : Kd.C (Kd.int .u64) w A0 l0.length l0) (hc0 : l0.length ≤ c0) (h : slices_Min_uint64_uint64.f k l0 = some r) :
  Calls Tryd.prog 61 #[.slice A0 l0.length c0] w fun e w' => e = .returned (.int .u64 r) ∧ Below w.heap.size w w' := by
 have HR0 := Aside0.mk hr0
 have HC0 := Aside0.mk hc0
 clear hr0 hc0
 have HB := Aside0.mk (Below.refl w.heap.size w)
 have H : (if (l0.length : Int) < 1 then (none) else (if 0 < (l0.length : Int) then (slices_Min_uint64_uint64.l0 k l0 (rd l0 0) 1) else (none))) = some r := h
 clear h
 by_cases c2 : (l0.length : Int) < 1
 ·rw [if_pos c2] at H
  exact absurd H (by simp)
 ·rw [if_neg c2] at H
  have c2b0 : decide ((l0.length : Int) < 1) = false := decide_eq_false c2
  have c2b1 : decide (l0.length < 1) = false := decide_eq_false (by omega)
  clear c2
  by_cases c3 : 0 < (l0.length : Int)
  ·rw [if_pos c3] at H
   have c3b0 : decide (0 < (l0.length : Int)) = true := decide_eq_true c3
   have c3b1 : decide (0 < l0.length) = true := decide_eq_true (by omega)
   clear c3
   have H' := Aside0.mk H
   clear H
   have p272 : 0 ≤ (0 : Int) := (by omega)
   have q272 : 0 < (l0.length : Int) := of_decide_eq_true (by first | (with_reducible assumption) | assumption)
   obtain ⟨ad272, e272, hx272_0⟩ := Kd.at_int HR0.out 0 p272 q272
   cases e272
   have qi272 : (0 < l0.length) = True := eq_true (by omega)
   (try rw [show ((0 : Int)).toNat = 0 from rfl] at hx272_0)
   (try rw [Addr.add_zero'] at hx272_0)
   replace p272 := eq_true p272
   replace q272 := eq_true q272
   go_enter Tryd.func61, Tryd.ntmps61
   go_wp2
   go_loopg [3, 4] k (fun kq v3 v4 w' => ∃ (x3_1 : Int) (x4_1 : Int), v3 = .int .u64 x3_1 ∧ v4 = .int .i64 x4_1 ∧ Aside0 (slices_Min_uint64_uint64.l0 kq l0 x3_1 x4_1 = some r) ∧ Aside0 (kq ≤ k) ∧ Aside0 (Below w.heap.size w w'))
   case atStart => exact ⟨(rd l0 0), (1), (by first | rfl | (simp; done) | (simp [*]; done)), (by first | rfl | (simp; done) | (simp [*]; done)), H', ⟨Nat.le_refl _⟩, ⟨bB⟩⟩
   case round =>
    clear H'
    (try clear c2);(try clear c2b0);(try clear c2b1);(try clear p2);(try clear q2);(try clear hx2);(try clear qi2);(try clear c3);(try clear c3b0);(try clear c3b1);(try clear hx272_0);(try clear p272);(try clear q272)
    obtain ⟨x3_1, x4_1, rfl, rfl, HA, HK1, HB⟩ := hrel
    cases gk with
    | zero => exact absurd HA.out (by simp [slices_Min_uint64_uint64.l0])
    | succ k1 =>
     have H := HA.out
     clear HA
     simp only [slices_Min_uint64_uint64.l0] at H
     by_cases c4 : x4_1 < (l0.length : Int)
     ·rw [if_pos c4] at H
      have c4b0 : decide (x4_1 < (l0.length : Int)) = true := decide_eq_true c4
      clear c4
      by_cases c5 : 0 ≤ x4_1
      ·rw [if_pos c5] at H
       have c5b0 : decide (0 ≤ x4_1) = true := decide_eq_true c5
       clear c5
       obtain ⟨ji6, hji6⟩ : ∃ j_ : Int, (mn x3_1 (rd l0 x4_1)) = j_ := ⟨_, rfl⟩
       replace H : (slices_Min_uint64_uint64.l0 k1 l0 ji6 (wrap64 (x4_1 + 1))) = some r := by first | (rw [hji6] at H; exact H) | (simp only [hji6] at H ⊢; exact H)
       have hji6_ : (if (rd l0 x4_1) < x3_1 then (rd l0 x4_1) else x3_1) = ji6 := hji6
       have H' := Aside0.mk H
       clear H
       have p273 : 0 ≤ (x4_1 : Int) := of_decide_eq_true (by first | (with_reducible assumption) | assumption)
       have q273 : x4_1 < (l0.length : Int) := of_decide_eq_true (by first | (with_reducible assumption) | assumption)
       obtain ⟨ad273, e273, hx273_0⟩ := Kd.at_int HR0.out x4_1 p273 q273
       obtain rfl : ad272 = ad273 := (by injection e273)
       replace hx273_0 := (HB.out.cell (World.block_lt_of_cell? w _ hx273_0)).trans hx273_0
       replace p273 := eq_true p273
       replace q273 := eq_true q273
       go_wp2
       go_roundg k1
       case measure => have := HK1.out; omega
       case rel => exact ⟨(ji6), (wrap64 (x4_1 + 1)), (by first | rfl | (simp; done) | (simp only [← hji6] <;> (first | rfl | simp)) | (simp [*]; done)), (by first | rfl | (simp; done) | (simp [*]; done)), H', ⟨by have := HK1.out; omega⟩, ⟨bB⟩⟩
      ·rw [if_neg c5] at H
       exact absurd H (by simp)
     ·rw [if_neg c4] at H
      have c4b0 : decide (x4_1 < (l0.length : Int)) = false := decide_eq_false c4
      clear c4
      obtain rfl := Option.some.inj H
      go_wp2
      go_ret
      exact ⟨by first | rfl | (simp [errW_none, errW_some] <;> rfl) | (simp [*, errW_none, errW_some] <;> rfl), bB⟩
  ·rw [if_neg c3] at H
   exact absurd H (by simp)


/-! ### bits_held: function 35 -/
def bits_held.f (a0 : Int) : Option (Int) := some (mn (mx a0 0) 64)
set_option maxHeartbeats 8000000 in
set_option maxRecDepth 100000 in
theorem bits_held.calls (a0 : Int) (r : Int) (w : World) (h : bits_held.f a0 = some r) :
  Calls Tryd.prog 35 #[.int .i64 a0] w fun e w' => e = .returned (.int .i64 r) ∧ Below w.heap.size w w' := by
 have HB := Aside0.mk (Below.refl w.heap.size w)
 have H : (some (mn (mx a0 0) 64)) = some r := h
 clear h
 obtain ⟨ji2, hji2⟩ : ∃ j_ : Int, (mx a0 0) = j_ := ⟨_, rfl⟩
 replace H : (some (mn (ji2) 64)) = some r := by first | (rw [hji2] at H; exact H) | (simp only [hji2] at H ⊢; exact H)
 (try (have hji2l : 0 ≤ ji2 := by (rw [← hji2]; unfold mx; (repeat' split) <;> omega)))
 (try (have hji2m : 0 ≤ ji2 := by omega))
 have hji2_ : (if a0 < 0 then 0 else a0) = ji2 := hji2
 obtain ⟨ji3, hji3⟩ : ∃ j_ : Int, (mn (ji2) 64) = j_ := ⟨_, rfl⟩
 replace H : (some ji3) = some r := by first | (rw [hji3] at H; exact H) | (simp only [hji3] at H ⊢; exact H)
 have hji3_ : (if 64 < (ji2) then 64 else (ji2)) = ji3 := hji3
 obtain rfl := Option.some.inj H
 go_enter Tryd.func35, Tryd.ntmps35
 go_wp2
 go_ret
 exact ⟨by first | rfl | (simp [errW_none, errW_some] <;> rfl) | (simp only [← hji2, ← hji3]; first | rfl | (simp [errW_none, errW_some] <;> rfl)) | (simp [*, errW_none, errW_some] <;> rfl), bB⟩

end Go.Proofs.YtmlbppfcpejlpaaDoor.X

/- Plain lemmas on whole numbers, bits and lists of bytes; no program in sight. No conditions. -/
namespace Go.Proofs.YtmlbppfcpejlpaaDoor.S
open Go Go.RowKit Go.Proofs.YtmlbppfcpejlpaaDoorW.PrintWords Go.Proofs.YtmlbppfcpejlpaaDoorW.PrintMore
set_option linter.unusedVariables false
set_option linter.unusedSimpArgs false

theorem wrap_u64 (n : Int) : IntKind.u64.wrap n = n % 18446744073709551616 := by simp [IntKind.wrap, IntKind.bits, IntKind.signed]
theorem wrap_u64_id {n : Int} (h0 : 0 ≤ n) (h1 : n < 18446744073709551616) : IntKind.u64.wrap n = n := by rw [wrap_u64]; omega
theorem wrap64_eq (n : Int) : wrap64 n = (n + 9223372036854775808) % 18446744073709551616 - 9223372036854775808 := by unfold wrap64; omega
theorem wrap64_id {n : Int} (h0 : -9223372036854775808 ≤ n) (h1 : n < 9223372036854775808) : wrap64 n = n := by unfold wrap64; omega
theorem wf_u8 {x : Int} (h : (Lit.int .u8 x).wf = true) : 0 ≤ x ∧ x < 256 := by
 simp [Lit.wf, IntKind.min, IntKind.max, IntKind.bits, IntKind.signed] at h; omega
theorem wf_u64 {x : Int} (h : (Lit.int .u64 x).wf = true) : 0 ≤ x ∧ x < 18446744073709551616 := by
 simp [Lit.wf, IntKind.min, IntKind.max, IntKind.bits, IntKind.signed] at h; omega
theorem wf_i64 {x : Int} (h : (Lit.int .i64 x).wf = true) : -9223372036854775808 ≤ x ∧ x < 9223372036854775808 := by
 simp [Lit.wf, IntKind.min, IntKind.max, IntKind.bits, IntKind.signed] at h; omega

/-- Bytes: all of them are. -/
def Bs (l : List Int) : Prop := ∀ x ∈ l, 0 ≤ x ∧ x < 256
def Us (l : List Int) : Prop := ∀ x ∈ l, 0 ≤ x ∧ x < 18446744073709551616
theorem Bs.append {a b : List Int} (h : Bs a) (k : Bs b) : Bs (a ++ b) := fun x hx => (List.mem_append.1 hx).elim (h x) (k x)
theorem Bs.take {a : List Int} (h : Bs a) (n : Nat) : Bs (a.take n) := fun x hx => h x (List.mem_of_mem_take hx)
theorem Bs.drop {a : List Int} (h : Bs a) (n : Nat) : Bs (a.drop n) := fun x hx => h x (List.mem_of_mem_drop hx)
theorem Us.take {a : List Int} (h : Us a) (n : Nat) : Us (a.take n) := fun x hx => h x (List.mem_of_mem_take hx)
theorem Us.drop {a : List Int} (h : Us a) (n : Nat) : Us (a.drop n) := fun x hx => h x (List.mem_of_mem_drop hx)
theorem rd_get {l : List Int} {i : Nat} (h : i < l.length) : rd l (i : Int) = l[i] := by
 simp [rd, List.getD_eq_getElem?_getD, List.getElem?_eq_getElem h]

/-! ### bits of bytes -/
theorem or128 {x : Int} (h0 : 0 ≤ x) (h1 : x < 256) : Go.bits .or .u8 x 128 = x % 128 + 128 := by
 have key : ∀ y : Fin 256, Go.bits .or .u8 ((y.val : Nat) : Int) 128 = ((y.val : Nat) : Int) % 128 + 128 := by decide +kernel
 have := key ⟨x.toNat, by omega⟩
 simpa [Int.toNat_of_nonneg h0] using this
theorem and128 {x : Int} (h0 : 0 ≤ x) (h1 : x < 256) : Go.bits .and .u8 x 128 = if x < 128 then 0 else 128 := by
 have key : ∀ y : Fin 256, Go.bits .and .u8 ((y.val : Nat) : Int) 128 = if ((y.val : Nat) : Int) < 128 then 0 else 128 := by decide +kernel
 have := key ⟨x.toNat, by omega⟩
 simpa [Int.toNat_of_nonneg h0] using this
theorem andNot128 {x : Int} (h0 : 0 ≤ x) (h1 : x < 256) : Go.bits .andNot .u8 x 128 = x % 128 := by
 have key : ∀ y : Fin 256, Go.bits .andNot .u8 ((y.val : Nat) : Int) 128 = ((y.val : Nat) : Int) % 128 := by decide +kernel
 have := key ⟨x.toNat, by omega⟩
 simpa [Int.toNat_of_nonneg h0] using this
theorem wraps_u64 (n : Int) (h₀ : 0 ≤ n) (h₁ : n < 2 ^ 64) : IntKind.u64.wrap n = n := by rw [wrap_u64]; omega
/-- Bits that don't meet: together they are the sum. -/
theorem or_join (i : Nat) {x y : Int} (hx0 : 0 ≤ x) (hx : x % 2 ^ i = 0) (hx1 : x < 18446744073709551616) (hy0 : 0 ≤ y) (hy : y < 2 ^ i) (hy1 : y < 18446744073709551616) : Go.bits .or .u64 x y = x + y :=
 bits_join .u64 64 (by decide) wraps_u64 i x y hx0 hx (by omega) hy0 hy (by omega)
theorem or_comm64 {x y : Int} (hx0 : 0 ≤ x) (hx1 : x < 18446744073709551616) (hy0 : 0 ≤ y) (hy1 : y < 18446744073709551616) : Go.bits .or .u64 x y = Go.bits .or .u64 y x := by
 obtain ⟨a, rfl⟩ := Int.eq_ofNat_of_zero_le hx0
 obtain ⟨b, rfl⟩ := Int.eq_ofNat_of_zero_le hy0
 rw [(bits_nat .u64 64 (by decide) wraps_u64 a b (by omega) (by omega)).2, (bits_nat .u64 64 (by decide) wraps_u64 b a (by omega) (by omega)).2, Nat.or_comm]

/-! ### strings of bytes -/
theorem strOf_toList (l : List Int) : (strOfNums l).toList = l.map (fun x => UInt8.ofNat x.toNat) := by
 simp [strOfNums, ByteArray.toList_eq]
end Go.Proofs.YtmlbppfcpejlpaaDoor.S

/- Plain lemmas on rows of bits and the bytes that they make; no program in sight. No conditions. -/
namespace Go.Proofs.YtmlbppfcpejlpaaDoor.B
open Go Go.RowKit Go.Proofs.YtmlbppfcpejlpaaDoorW.PrintWords Go.Proofs.YtmlbppfcpejlpaaDoorW.PrintMore Go.Proofs.YtmlbppfcpejlpaaDoor.S
set_option linter.unusedVariables false
set_option linter.unusedSimpArgs false

/-- The lowest n bits of a number, the highest first. -/
def bitsN : Nat → Int → List Int
 | 0, _ => []
 | n + 1, v => (v / 2 ^ n % 2) :: bitsN n v
theorem bitsN_len (n : Nat) (v : Int) : (bitsN n v).length = n := by induction n with | zero => rfl | succ n ih => simp [bitsN, ih]
def Bits (l : List Int) : Prop := ∀ x ∈ l, x = 0 ∨ x = 1
theorem Bits.nil : Bits [] := fun x hx => by simp at hx
theorem Bits.append {a b : List Int} (h : Bits a) (k : Bits b) : Bits (a ++ b) := fun x hx => (List.mem_append.1 hx).elim (h x) (k x)
theorem Bits.one {b : Int} (h : b = 0 ∨ b = 1) : Bits [b] := fun x hx => by rw [List.mem_singleton.1 hx]; exact h
theorem bitsN_bits (n : Nat) (v : Int) : Bits (bitsN n v) := by
 induction n with
 | zero => exact Bits.nil
 | succ n ih =>
  intro x hx
  rcases List.mem_cons.1 hx with rfl | hx
  ·omega
  ·exact ih x hx
theorem getD_out (l : List Int) {i : Nat} (h : l.length ≤ i) : l.getD i 0 = 0 := by rw [List.getD_eq_getElem?_getD, List.getElem?_eq_none h]; rfl
theorem getD_bit {l : List Int} (h : Bits l) (i : Nat) : l.getD i 0 = 0 ∨ l.getD i 0 = 1 := by
 by_cases hi : i < l.length
 ·rw [List.getD_eq_getElem?_getD, List.getElem?_eq_getElem hi]; exact h _ (List.getElem_mem hi)
 ·rw [getD_out l (by omega)]; exact .inl rfl
/-- The byte that begins at bit 8 * i; noughts behind the end. -/
def byteAt (l : List Int) (i : Nat) : Int :=
 l.getD (8 * i) 0 * 128 + l.getD (8 * i + 1) 0 * 64 + l.getD (8 * i + 2) 0 * 32 + l.getD (8 * i + 3) 0 * 16 + l.getD (8 * i + 4) 0 * 8 + l.getD (8 * i + 5) 0 * 4 + l.getD (8 * i + 6) 0 * 2 + l.getD (8 * i + 7) 0
def rows (l : List Int) (n : Nat) : List Int := (List.range n).map (byteAt l)
/-- The bytes of bits. -/
def packB (l : List Int) : List Int := rows l ((l.length + 7) / 8)
theorem rows_len (l : List Int) (n : Nat) : (rows l n).length = n := by simp [rows]
theorem packB_len (l : List Int) : (packB l).length = (l.length + 7) / 8 := rows_len _ _
theorem byteAt_range {l : List Int} (h : Bits l) (i : Nat) : 0 ≤ byteAt l i ∧ byteAt l i < 256 := by
 have h0 := getD_bit h (8 * i); have h1 := getD_bit h (8 * i + 1); have h2 := getD_bit h (8 * i + 2); have h3 := getD_bit h (8 * i + 3)
 have h4 := getD_bit h (8 * i + 4); have h5 := getD_bit h (8 * i + 5); have h6 := getD_bit h (8 * i + 6); have h7 := getD_bit h (8 * i + 7)
 unfold byteAt
 omega
theorem packB_bs {l : List Int} (h : Bits l) : Bs (packB l) := by
 intro x hx
 obtain ⟨i, _, rfl⟩ := List.mem_map.1 hx
 exact byteAt_range h i
theorem rd_rows (l : List Int) {n i : Nat} (h : i < n) : rd (rows l n) (i : Int) = byteAt l i := by
 rw [rd_get (by rw [rows_len]; exact h)]; simp [rows]
theorem packB_full {l : List Int} (h : l.length % 8 = 0) : packB l ++ [0] = rows l (l.length / 8 + 1) := by
 have e : byteAt l (l.length / 8) = 0 := by
  unfold byteAt
  simp [List.getD_eq_getElem?_getD, List.getElem?_eq_none (show l.length ≤ 8 * (l.length / 8) by omega), List.getElem?_eq_none (show l.length ≤ 8 * (l.length / 8) + 1 by omega), List.getElem?_eq_none (show l.length ≤ 8 * (l.length / 8) + 2 by omega), List.getElem?_eq_none (show l.length ≤ 8 * (l.length / 8) + 3 by omega), List.getElem?_eq_none (show l.length ≤ 8 * (l.length / 8) + 4 by omega), List.getElem?_eq_none (show l.length ≤ 8 * (l.length / 8) + 5 by omega), List.getElem?_eq_none (show l.length ≤ 8 * (l.length / 8) + 6 by omega), List.getElem?_eq_none (show l.length ≤ 8 * (l.length / 8) + 7 by omega)]
 unfold packB rows
 rw [show (l.length + 7) / 8 = l.length / 8 by omega, List.range_succ, List.map_append, List.map_singleton, e]
theorem packB_part {l : List Int} (h : l.length % 8 ≠ 0) : packB l = rows l (l.length / 8 + 1) := by
 unfold packB
 rw [show (l.length + 7) / 8 = l.length / 8 + 1 by omega]
theorem getD_snoc (l : List Int) (b : Int) (i : Nat) : (l ++ [b]).getD i 0 = if i = l.length then b else l.getD i 0 := by
 simp only [List.getD_eq_getElem?_getD, List.getElem?_append]
 split
 ·rw [if_neg (by omega)]
 ·by_cases h : i = l.length
  ·subst h; simp
  ·rw [if_neg h, List.getElem?_eq_none (show l.length ≤ i by omega), List.getElem?_eq_none (by simp; omega)]
theorem byteAt_snoc_lt (l : List Int) (b : Int) {i : Nat} (h : i < l.length / 8) : byteAt (l ++ [b]) i = byteAt l i := by
 unfold byteAt
 simp only [getD_snoc]
 repeat rw [if_neg (by omega)]
theorem pow_r {r : Nat} (h : r < 8) : r = 0 ∨ r = 1 ∨ r = 2 ∨ r = 3 ∨ r = 4 ∨ r = 5 ∨ r = 6 ∨ r = 7 := by omega
/-- The last byte: what the new bit adds to it, and that its place was free. -/
theorem byteAt_snoc (l : List Int) (hl : Bits l) (b : Int) (hb : b = 0 ∨ b = 1) :
  byteAt (l ++ [b]) (l.length / 8) = byteAt l (l.length / 8) + b * 2 ^ (7 - l.length % 8) ∧ byteAt l (l.length / 8) % 2 ^ (8 - l.length % 8) = 0 := by
 have hq : l.length = 8 * (l.length / 8) + l.length % 8 := by omega
 generalize l.length / 8 = q at *
 have g0 := getD_bit hl (8 * q); have g1 := getD_bit hl (8 * q + 1); have g2 := getD_bit hl (8 * q + 2); have g3 := getD_bit hl (8 * q + 3)
 have g4 := getD_bit hl (8 * q + 4); have g5 := getD_bit hl (8 * q + 5); have g6 := getD_bit hl (8 * q + 6); have g7 := getD_bit hl (8 * q + 7)
 have o : ∀ j, l.length % 8 ≤ j → l.getD (8 * q + j) 0 = 0 := fun j hj => getD_out l (by omega)
 have s : ∀ j, (l ++ [b]).getD (8 * q + j) 0 = if j = l.length % 8 then b else l.getD (8 * q + j) 0 := fun j => by
  rw [getD_snoc]
  by_cases h : j = l.length % 8
  ·rw [if_pos (by omega), if_pos h]
  ·rw [if_neg (by omega), if_neg h]
 have s0 := s 0; have s1 := s 1; have s2 := s 2; have s3 := s 3; have s4 := s 4; have s5 := s 5; have s6 := s 6; have s7 := s 7
 have o0 := o 0; have o1 := o 1; have o2 := o 2; have o3 := o 3; have o4 := o 4; have o5 := o 5; have o6 := o 6; have o7 := o 7
 clear s o
 simp only [Nat.add_zero] at *
 unfold byteAt
 rw [s0, s1, s2, s3, s4, s5, s6, s7]
 have hr : l.length % 8 < 8 := Nat.mod_lt _ (by decide)
 generalize l.length % 8 = r at *
 clear s0 s1 s2 s3 s4 s5 s6 s7 hq
 generalize l.getD (8 * q) 0 = x0 at *
 generalize l.getD (8 * q + 1) 0 = x1 at *
 generalize l.getD (8 * q + 2) 0 = x2 at *
 generalize l.getD (8 * q + 3) 0 = x3 at *
 generalize l.getD (8 * q + 4) 0 = x4 at *
 generalize l.getD (8 * q + 5) 0 = x5 at *
 generalize l.getD (8 * q + 6) 0 = x6 at *
 generalize l.getD (8 * q + 7) 0 = x7 at *
 rcases pow_r hr with rfl | rfl | rfl | rfl | rfl | rfl | rfl | rfl <;> simp at * <;> omega
theorem or_u8 (l : List Int) (hl : Bits l) (b : Int) (hb : b = 0 ∨ b = 1) :
  Go.bits .or .u8 (byteAt l (l.length / 8)) (b * 2 ^ (7 - l.length % 8)) = byteAt (l ++ [b]) (l.length / 8) := by
 obtain ⟨h1, h2⟩ := byteAt_snoc l hl b hb
 obtain ⟨r0, r1⟩ := byteAt_range hl (l.length / 8)
 have hr : l.length % 8 < 8 := Nat.mod_lt _ (by decide)
 rw [h1]
 generalize byteAt l (l.length / 8) = y at *
 generalize l.length % 8 = r at *
 refine bits_join .u8 8 (by decide) wraps_u8 (8 - r) y _ r0 h2 (by omega) ?_ ?_ ?_ <;>
 rcases pow_r hr with rfl | rfl | rfl | rfl | rfl | rfl | rfl | rfl <;> simp <;> omega
/-- One more bit, as a writer lays it. -/
theorem packB_push (l : List Int) (hl : Bits l) (b : Int) (hb : b = 0 ∨ b = 1) :
  (rows l (l.length / 8 + 1)).set (l.length / 8) (Go.bits .or .u8 (byteAt l (l.length / 8)) (b * 2 ^ (7 - l.length % 8))) = packB (l ++ [b]) := by
 rw [or_u8 l hl b hb]
 unfold packB
 rw [show ((l ++ [b]).length + 7) / 8 = l.length / 8 + 1 by simp; omega]
 apply List.ext_getElem
 ·simp [rows_len]
 ·intro i h1 h2
  rw [rows_len] at h2
  rw [List.getElem_set]
  simp only [rows, List.getElem_map, List.getElem_range]
  split
  ·rename_i h; rw [h]
  ·rw [byteAt_snoc_lt l b (by omega)]
/-- How many bits a count stands for. -/
def cl (m : Int) : Nat := (mn (mx m 0) 64).toNat
theorem cl_eq (m : Int) : mn (mx m 0) 64 = (cl m : Int) := by unfold cl mn mx; split <;> split <;> omega
theorem cl_le (m : Int) : cl m ≤ 64 := by unfold cl mn mx; split <;> split <;> omega
theorem byteAt_snoc_ne (l : List Int) (b : Int) {i : Nat} (h : i ≠ l.length / 8) : byteAt (l ++ [b]) i = byteAt l i := by
 unfold byteAt
 simp only [getD_snoc]
 repeat rw [if_neg (by omega)]
theorem rows_push (l : List Int) (hl : Bits l) (b : Int) (hb : b = 0 ∨ b = 1) (N : Nat) (hN : l.length / 8 < N) :
  (rows l N).set (l.length / 8) (Go.bits .or .u8 (byteAt l (l.length / 8)) (b * 2 ^ (7 - l.length % 8))) = rows (l ++ [b]) N := by
 rw [or_u8 l hl b hb]
 apply List.ext_getElem
 ·simp [rows_len]
 ·intro i h1 h2
  rw [rows_len] at h2
  rw [List.getElem_set]
  simp only [rows, List.getElem_map, List.getElem_range]
  split
  ·rename_i h; rw [h]
  ·rename_i h; rw [byteAt_snoc_ne l b (fun e => h e.symm)]
theorem rows_nil (N : Nat) : rows [] N = List.replicate N 0 := by
 apply List.ext_getElem
 ·simp [rows_len]
 ·intro i h1 h2
  simp [rows, byteAt]
/-- The bit at place i of bytes. -/
def bitAt (b : List Int) (i : Nat) : Int := b.getD (i / 8) 0 / 2 ^ (7 - i % 8) % 2
def bitsOf (b : List Int) : List Int := (List.range (8 * b.length)).map (bitAt b)
theorem bitsOf_len (b : List Int) : (bitsOf b).length = 8 * b.length := by simp [bitsOf]
theorem bitsOf_bits (b : List Int) : Bits (bitsOf b) := by
 intro x hx
 obtain ⟨i, _, rfl⟩ := List.mem_map.1 hx
 unfold bitAt
 omega
theorem bitsOf_get (b : List Int) {i : Nat} (h : i < (bitsOf b).length) : (bitsOf b)[i] = bitAt b i := by simp [bitsOf]
/-- A byte's bits are those that it was made of. -/
theorem getD_rng {l : List Int} (h : Bits l) (i : Nat) : 0 ≤ l.getD i 0 ∧ l.getD i 0 ≤ 1 := by
 have := getD_bit h i; omega
theorem byteAt_bit {l : List Int} (hl : Bits l) (q r : Nat) (hr : r < 8) : byteAt l q / 2 ^ (7 - r) % 2 = l.getD (8 * q + r) 0 := by
 have g0 := getD_rng hl (8 * q); have g1 := getD_rng hl (8 * q + 1); have g2 := getD_rng hl (8 * q + 2); have g3 := getD_rng hl (8 * q + 3)
 have g4 := getD_rng hl (8 * q + 4); have g5 := getD_rng hl (8 * q + 5); have g6 := getD_rng hl (8 * q + 6); have g7 := getD_rng hl (8 * q + 7)
 unfold byteAt
 have e0 : l.getD (8 * q + 0) 0 = l.getD (8 * q) 0 := rfl
 have key : ∀ x0 x1 x2 x3 x4 x5 x6 x7 : Int, (0 ≤ x0 ∧ x0 ≤ 1) → (0 ≤ x1 ∧ x1 ≤ 1) → (0 ≤ x2 ∧ x2 ≤ 1) → (0 ≤ x3 ∧ x3 ≤ 1) → (0 ≤ x4 ∧ x4 ≤ 1) → (0 ≤ x5 ∧ x5 ≤ 1) → (0 ≤ x6 ∧ x6 ≤ 1) → (0 ≤ x7 ∧ x7 ≤ 1) →
   let y := x0 * 128 + x1 * 64 + x2 * 32 + x3 * 16 + x4 * 8 + x5 * 4 + x6 * 2 + x7
   y / 128 % 2 = x0 ∧ y / 64 % 2 = x1 ∧ y / 32 % 2 = x2 ∧ y / 16 % 2 = x3 ∧ y / 8 % 2 = x4 ∧ y / 4 % 2 = x5 ∧ y / 2 % 2 = x6 ∧ y / 1 % 2 = x7 := by
  intro x0 x1 x2 x3 x4 x5 x6 x7 h0 h1 h2 h3 h4 h5 h6 h7
  refine ⟨?_, ?_, ?_, ?_, ?_, ?_, ?_, ?_⟩ <;> omega
 obtain ⟨k0, k1, k2, k3, k4, k5, k6, k7⟩ := key _ _ _ _ _ _ _ _ g0 g1 g2 g3 g4 g5 g6 g7
 rcases pow_r hr with rfl | rfl | rfl | rfl | rfl | rfl | rfl | rfl
 ·exact k0
 ·exact k1
 ·exact k2
 ·exact k3
 ·exact k4
 ·exact k5
 ·exact k6
 ·exact k7
theorem bitAt_packB {l : List Int} (hl : Bits l) {i : Nat} (h : i < 8 * (packB l).length) : bitAt (packB l) i = l.getD i 0 := by
 unfold bitAt
 rw [packB_len] at h
 have hq : i / 8 < (packB l).length := by rw [packB_len]; omega
 rw [List.getD_eq_getElem?_getD, List.getElem?_eq_getElem hq]
 have e : (packB l)[i / 8] = byteAt l (i / 8) := by simp [packB, rows]
 rw [Option.getD_some, e, byteAt_bit hl _ _ (Nat.mod_lt _ (by decide)), show 8 * (i / 8) + i % 8 = i by omega]
theorem bitsOf_packB {l : List Int} (hl : Bits l) : bitsOf (packB l) = l ++ List.replicate (8 * (packB l).length - l.length) 0 := by
 apply List.ext_getElem
 ·rw [bitsOf_len, List.length_append, List.length_replicate, packB_len]; omega
 ·intro i h1 h2
  rw [bitsOf_get, bitAt_packB hl (by rw [bitsOf_len] at h1; exact h1), List.getElem_append]
  split
  ·rename_i h; rw [List.getD_eq_getElem?_getD, List.getElem?_eq_getElem h]; rfl
  ·rename_i h; rw [getD_out l (by omega)]; simp
/-- The number that bits tell. -/
def valB (l : List Int) : Int := l.foldl (fun v x => v * 2 + x) 0
theorem valB_snoc (l : List Int) (x : Int) : valB (l ++ [x]) = valB l * 2 + x := by simp [valB]
theorem valB_range {l : List Int} (hl : Bits l) : 0 ≤ valB l ∧ valB l < 2 ^ l.length := by
 suffices h : ∀ (l : List Int) (a : Int) (n : Nat), Bits l → 0 ≤ a → a < 2 ^ n → 0 ≤ l.foldl (fun v x => v * 2 + x) a ∧ l.foldl (fun v x => v * 2 + x) a < 2 ^ (n + l.length) by
  have := h l 0 0 hl (by omega) (by decide)
  simpa [valB] using this
 intro l
 induction l with
 | nil => intro a n _ h0 h1; exact ⟨h0, by simpa using h1⟩
 | cons y l ih =>
  intro a n hb h0 h1
  have hy := hb y List.mem_cons_self
  have := ih (a * 2 + y) (n + 1) (fun x hx => hb x (List.mem_cons_of_mem _ hx)) (by omega) (by rw [Int.pow_succ]; omega)
  rw [List.foldl_cons, List.length_cons, show n + (l.length + 1) = n + 1 + l.length by omega]
  exact this
theorem valB_bitsN (n : Nat) {v : Int} (h0 : 0 ≤ v) : valB (bitsN n v) = v % 2 ^ n := by
 suffices h : ∀ (n : Nat) (a : Int), (bitsN n v).foldl (fun v x => v * 2 + x) a = a * 2 ^ n + v % 2 ^ n by
  have := h n 0
  simpa [valB] using this
 intro n
 induction n with
 | zero => intro a; simp [bitsN, Int.emod_one]
 | succ n ih =>
  intro a
  rw [bitsN, List.foldl_cons, ih]
  have hp : (0 : Int) < 2 ^ n := Int.pow_pos (by decide)
  have e : v % 2 ^ (n + 1) = v / 2 ^ n % 2 * 2 ^ n + v % 2 ^ n := by
   have h1 := Int.emod_add_mul_ediv v (2 ^ (n + 1))
   have h2 := Int.emod_add_mul_ediv v (2 ^ n)
   have h3 := Int.emod_add_mul_ediv (v / 2 ^ n) 2
   have h4 : v / 2 ^ n / 2 = v / 2 ^ (n + 1) := by rw [Int.pow_succ, Int.ediv_ediv_of_nonneg (by omega)]
   rw [← h4] at h1
   generalize v / 2 ^ n / 2 = q at *
   generalize v / 2 ^ n = p at *
   rw [Int.pow_succ] at *
   have e1 : p = p % 2 + 2 * q := h3.symm
   have e2 : 2 ^ n * p = p % 2 * 2 ^ n + 2 ^ n * 2 * q := by
    conv => lhs; rw [e1]
    rw [Int.mul_add, Int.mul_comm (2 ^ n) (p % 2), Int.mul_assoc]
   omega
  rw [e, Int.pow_succ, Int.add_mul, Int.mul_assoc, Int.mul_comm 2 (2 ^ n)]
  omega
theorem bitsN_append (l : List Int) (n : Nat) (v : Int) : (l ++ bitsN n v).length = l.length + n := by rw [List.length_append, bitsN_len]
end Go.Proofs.YtmlbppfcpejlpaaDoor.B

/- The walks of layer 4's writer: bits put behind each other. No conditions. -/
namespace Go.Proofs.YtmlbppfcpejlpaaDoor.W04
open Go Go.RowKit Go.Proofs.YtmlbppfcpejlpaaDoorW.PrintWords Go.Proofs.YtmlbppfcpejlpaaDoorW.PrintLast Go.Proofs.YtmlbppfcpejlpaaDoorW.PrintMore Go.Proofs.YtmlbppfcpejlpaaDoor.S Go.Proofs.YtmlbppfcpejlpaaDoor.B Go.Proofs.YtmlbppfcpejlpaaDoor.X
attribute [local go_sem] max2_int min2_int max_two min_two max_three min_three max_four min_four
set_option linter.unusedVariables false
set_option linter.unusedSimpArgs false

/-- A writer at block g: its bytes (the value v) are those of the bits l. -/
def WAt (w0 W : World) (g : Nat) (v : Value) (l : List Int) : Prop :=
 W.heap[g]? = some (.cells #[v, .int .i64 (l.length : Int)] 54 (0, 0)) ∧ w0.heap.size ≤ g ∧ Kd.R (Kd.int .u8) 5 W w0.heap.size (fun _ => True) v (packB l) ∧ Bits l
/-- What may have turned: the writer's block, and the block of its bytes. -/
def Mine (g : Nat) (v : Value) (k : Nat) : Prop := k = g ∨ some k = v.ownBlock
def Put4 (w0 w : World) (g : Nat) (v : Value) (l : List Int) (e : Ending) (w' : World) : Prop :=
 e = .returned (.tuple #[]) ∧ ∃ v', WAt w0 w' g v' l ∧ Below w0.heap.size w0 w' ∧ Kept w w' (Mine g v) ∧ (v'.ownBlock = v.ownBlock ∨ ∃ b, v'.ownBlock = some b ∧ w.heap.size ≤ b)
theorem held_cl (m : Int) : bits_held.f m = some (cl m : Int) := by unfold bits_held.f; rw [cl_eq]

theorem WAt.cell0 {w0 W g v l} (h : WAt w0 W g v l) : W.cell? ⟨g, 0, none⟩ = some v := (blk_cell h.1 0).trans rfl
theorem WAt.cell1 {w0 W g v l} (h : WAt w0 W g v l) : W.cell? ⟨g, 1, none⟩ = some (.int .i64 (l.length : Int)) := (blk_cell h.1 1).trans rfl
theorem WAt.fr {w0 W g v l} (h : WAt w0 W g v l) (i : Nat) : W.frozen? ⟨g, i, none⟩ = false := blk_frozen h.1 i

theorem WAt.below {w0 W W1 g v l} (h : WAt w0 W g v l) (hb : Below W.heap.size W W1) : WAt w0 W1 g v l := ⟨blk_below h.1 hb, h.2.1, Kd.R_below h.2.2.1 hb, h.2.2.2⟩
theorem Kept.below_ {w W W1 : World} {S} (h : Kept w W S) (hb : Below W.heap.size W W1) : Kept w W1 S :=
 ⟨Nat.le_trans h.1 hb.size, fun i hi hs => (hb.block i (Nat.lt_of_lt_of_le hi h.1)).trans (h.2 i hi hs)⟩
/-- What holds at a round's head: j bits are still to come. -/
def Rel (w0 w : World) (g : Nat) (v : Value) (l : List Int) (x : Int) (m : Int) (j : Nat) (wr : World) : Prop :=
 ∃ v' P, WAt w0 wr g v' P ∧ P ++ bitsN j x = l ++ bitsN (cl m) x ∧ Below w0.heap.size w0 wr ∧ Kept w wr (Mine g v) ∧ (v'.ownBlock = v.ownBlock ∨ ∃ b, v'.ownBlock = some b ∧ w.heap.size ≤ b)
theorem own_g {W : World} {g : Nat} {v : Value} {l xs : List Int} (hg : W.heap[g]? = some (.cells #[v, .int .i64 (l.length : Int)] 54 (0, 0))) {v' : Value} {base : Nat} {ok : Nat → Prop} (h : Kd.R (Kd.int .u8) 5 W base ok v' xs) : some g ≠ v'.ownBlock :=
 Kd.R_ne h hg (by decide)

/-- Ahead of a bit's store: there is a byte for it. -/
def Mid (w0 w : World) (g : Nat) (v : Value) (P : List Int) (b2 n2 cap2 : Nat) (W : World) : Prop :=
 W.heap[g]? = some (.cells #[.slice (some ⟨b2, 0, none⟩) n2 cap2, .int .i64 (P.length : Int)] 54 (0, 0)) ∧ w0.heap.size ≤ g ∧ n2 = P.length / 8 + 1 ∧
 Kd.R (Kd.int .u8) 5 W w0.heap.size (fun _ => True) (.slice (some ⟨b2, 0, none⟩) n2 cap2) (rows P (P.length / 8 + 1)) ∧ Below w0.heap.size w0 W ∧ Kept w W (Mine g v) ∧ (some b2 = v.ownBlock ∨ w.heap.size ≤ b2)
theorem mid_full {w0 w wr w5 : World} {g : Nat} {v v1 : Value} {P : List Int} {b2 n2 cap2 : Nat} (hG : wr.heap[g]? = some (.cells #[v1, .int .i64 (P.length : Int)] 54 (0, 0))) (hge : w0.heap.size ≤ g)
  (hR : Kd.R (Kd.int .u8) 5 wr w0.heap.size (fun _ => True) v1 (packB P)) (hk : Kept w wr (Mine g v)) (hv : v1.ownBlock = v.ownBlock ∨ ∃ b, v1.ownBlock = some b ∧ w.heap.size ≤ b)
  (ho : Kd.R (Kd.int .u8) 5 w5 w0.heap.size (fun _ => True) (.slice (some ⟨b2, 0, none⟩) n2 cap2) (rows P (P.length / 8 + 1))) (hb : Below w0.heap.size w0 w5) (hg : wr.grownBy w5 v1.ownBlock)
  (hat : (Value.slice (some ⟨b2, 0, none⟩) n2 cap2).ownBlock = v1.ownBlock ∨ ∃ b, (Value.slice (some ⟨b2, 0, none⟩) n2 cap2).ownBlock = some b ∧ wr.heap.size ≤ b) (hn : n2 = (rows P (P.length / 8 + 1)).length) :
  Mid w0 w g v P b2 n2 cap2 (w5.setCell ⟨g, 0, none⟩ (.slice (some ⟨b2, 0, none⟩) n2 cap2)) := by
 have hG5 := blk_grown hG hg (own_g hG hR)
 refine ⟨by simpa using blk_set hG5 0 (.slice (some ⟨b2, 0, none⟩) n2 cap2), hge, by rw [hn, rows_len], Kd.R_set ho hG5 (by decide) 0 _, hb.setCell (by simpa using hge) _, ?_, ?_⟩
 ·refine Kept.setCell (Kept.of_grown hg hk (fun k hk' => ?_)) (.inl (.inl rfl)) _
  rcases hv with hv | ⟨b, hb1, hb2⟩
  ·exact .inl (.inr (by rw [← hk', hv]))
  ·rw [hk'] at hb1; injection hb1 with hb1; exact .inr (by omega)
 ·have e : (Value.slice (some ⟨b2, 0, none⟩) n2 cap2).ownBlock = some b2 := rfl
  rw [e] at hat
  rcases hat with hat | ⟨b, hb1, hb2⟩
  ·rcases hv with hv | ⟨b, hb1, hb2⟩
   ·exact .inl (hat.trans hv)
   ·rw [hb1] at hat; injection hat with hat; exact .inr (by omega)
  ·injection hb1 with hb1; have := hk.1; exact .inr (by omega)
theorem mid_part {w0 w wr : World} {g : Nat} {v : Value} {P : List Int} {b2 n2 cap2 : Nat} (hG : wr.heap[g]? = some (.cells #[.slice (some ⟨b2, 0, none⟩) n2 cap2, .int .i64 (P.length : Int)] 54 (0, 0))) (hge : w0.heap.size ≤ g)
  (hR : Kd.R (Kd.int .u8) 5 wr w0.heap.size (fun _ => True) (.slice (some ⟨b2, 0, none⟩) n2 cap2) (rows P (P.length / 8 + 1))) (hb : Below w0.heap.size w0 wr) (hk : Kept w wr (Mine g v)) (hv : (Value.slice (some ⟨b2, 0, none⟩) n2 cap2).ownBlock = v.ownBlock ∨ ∃ b, (Value.slice (some ⟨b2, 0, none⟩) n2 cap2).ownBlock = some b ∧ w.heap.size ≤ b) (hn : n2 = (rows P (P.length / 8 + 1)).length) :
  Mid w0 w g v P b2 n2 cap2 wr := by
 refine ⟨hG, hge, by rw [hn, rows_len], hR, hb, hk, ?_⟩
 have e : (Value.slice (some ⟨b2, 0, none⟩) n2 cap2).ownBlock = some b2 := rfl
 rw [e] at hv
 rcases hv with hv | ⟨b, hb1, hb2⟩
 ·exact .inl hv
 ·injection hb1 with hb1; exact .inr (by omega)
theorem Mid.drew {w0 w g v P b2 n2 cap2 W} (h : Mid w0 w g v P b2 n2 cap2 W) : Mid w0 w g v P b2 n2 cap2 W.drew :=
 ⟨h.1, h.2.1, h.2.2.1, Kd.R_drew h.2.2.2.1, below_drew h.2.2.2.2.1, h.2.2.2.2.2.1, h.2.2.2.2.2.2⟩
/-- Reads ahead of one store, under a name for the world behind the draw. -/
theorem region_tail {P : Program} {id : Nat} {Q : Exit → Act → World → Prop} {a : Act} {w : World} {l : List Oper} (n : Nat) (hm : P.follows .mixedOrders = true) (hB : Region.lexTailB .any l.toArray n = true)
  (h : ∀ w', w' = w.drew → wpStill P l.toArray w' (fun a' => wpList P l.toArray Q (l.drop n) a' w') (l.take n) a) : (Code.region id l.toArray true).wp P Q a w := wp_region_still_tail n hm hB (h _ rfl)
theorem Mid.byte {w0 w g v P b2 n2 cap2 W} (h : Mid w0 w g v P b2 n2 cap2 W) : W.cell? ⟨b2, ((P.length / 8 : Nat) : Int).toNat, none⟩ = some (.int .u8 (byteAt P (P.length / 8))) ∧ W.frozen? ⟨b2, ((P.length / 8 : Nat) : Int).toNat, none⟩ = false := by
 obtain ⟨hG, hge, hn, hR, hb, hk, hv⟩ := h
 have := Kd.R_celln 0 hR ((P.length / 8 : Nat) : Int) (by omega) (by omega)
 rw [show rdOf (0 : Int) (rows P (P.length / 8 + 1)) ((P.length / 8 : Nat) : Int) = byteAt P (P.length / 8) from rd_rows P (by omega)] at this
 exact this

theorem Mid.ne {w0 w g v P b2 n2 cap2 W} (h : Mid w0 w g v P b2 n2 cap2 W) : g ≠ b2 := fun e => own_g h.1 h.2.2.2.1 (by rw [e]; rfl)
theorem mid_done {w0 w W : World} {g : Nat} {v : Value} {P : List Int} {b2 n2 cap2 : Nat} (h : Mid w0 w g v P b2 n2 cap2 W) (hP : Bits P) {b nb qi : Int} (hb : b = 0 ∨ b = 1) (hq : qi = ((P.length / 8 : Nat) : Int)) (hnb : nb = Go.bits .or .u8 (byteAt P (P.length / 8)) (b * 2 ^ (7 - P.length % 8))) :
  ∃ v', WAt w0 ((W.setCell ⟨b2, qi.toNat, none⟩ (.int .u8 nb)).setCell ⟨g, 1, none⟩ (.int .i64 ((P.length : Int) + 1))) g v' (P ++ [b]) ∧ Below w0.heap.size w0 ((W.setCell ⟨b2, qi.toNat, none⟩ (.int .u8 nb)).setCell ⟨g, 1, none⟩ (.int .i64 ((P.length : Int) + 1))) ∧
   Kept w ((W.setCell ⟨b2, qi.toNat, none⟩ (.int .u8 nb)).setCell ⟨g, 1, none⟩ (.int .i64 ((P.length : Int) + 1))) (Mine g v) ∧ (v'.ownBlock = v.ownBlock ∨ ∃ b, v'.ownBlock = some b ∧ w.heap.size ≤ b) := by
 have hne := h.ne
 obtain ⟨hG, hge, hn, hR, hB, hk, hv⟩ := h
 have hb2 : w0.heap.size ≤ b2 := by
  obtain ⟨inner, ho⟩ := Kd.R_own hR
  exact own_base ho b2 rfl
 have hG2 := blk_far hG (p := ⟨b2, qi.toNat, none⟩) hne (.int .u8 nb)
 have hR2 := Kd.R_putn hR qi nb
 rw [hq, Int.toNat_natCast, hnb, packB_push P hP b hb] at hR2
 refine ⟨.slice (some ⟨b2, 0, none⟩) n2 cap2, ⟨?_, hge, ?_, hP.append (Bits.one hb)⟩, ?_, ?_, ?_⟩
 ·have := blk_set hG2 1 (.int .i64 ((P.length : Int) + 1))
  simpa using this
 ·rw [hq, Int.toNat_natCast, hnb]
  rw [hq, Int.toNat_natCast, hnb] at hG2
  exact Kd.R_set hR2 hG2 (by decide) 1 _
 ·exact (hB.setCell (by simpa using hb2) _).setCell (by simpa using hge) _
 ·refine Kept.setCell (Kept.setCell hk ?_ _) (.inl (.inl rfl)) _
  rcases hv with hv | hv
  ·exact .inl (.inr hv)
  ·exact .inr hv
 ·rcases hv with hv | hv
  ·exact .inl hv
  ·exact .inr ⟨b2, rfl, hv⟩

set_option maxHeartbeats 4000000 in
set_option maxRecDepth 100000 in
theorem put_calls (g : Nat) (v : Value) (l : List Int) (x m : Int) (w0 w : World) (hI : WAt w0 w g v l) (hB : Below w0.heap.size w0 w) (x0 : 0 ≤ x) (x1 : x < 18446744073709551616) (hl : l.length < 1000000000) :
  Calls Tryd.prog 22 #[.pointer (some ⟨g, 0, none⟩), .int .u64 x, .int .i64 m] w (Put4 w0 w g v (l ++ bitsN (cl m) x)) := by
 have HI := Aside0.mk hI
 have HB := Aside0.mk hB
 have hcl := cl_le m
 clear hI hB
 go_enter Tryd.func22, Tryd.ntmps22
 go_wp2_with (go_at_call 35; (with_reducible refine (bits_held.calls m (cl m : Int) _ (held_cl m)).mono ?_); rintro e w1 ⟨rfl, hb⟩; have HI1 := Aside0.mk hb; clear hb)
 have HR : Aside0 (Rel w0 w g v l x m (cl m) w1) := ⟨⟨v, l, HI.out.below HI1.out, rfl, below_step HB.out HI1.out, Kept.below_ (Kept.refl _ _) HI1.out, .inl rfl⟩⟩
 clear HI1
 go_loopw [6] (fun v6 wr => ∃ (j : Nat) (i : Int), v6 = .int .i64 i ∧ Aside0 (i = (j : Int) - 1) ∧ Aside0 (j ≤ 64) ∧ Aside0 (Rel w0 w g v l x m j wr)) (fun v6 _ => (intOf v6 + 1).toNat)
 case atStart => exact ⟨cl m, _, rfl, ⟨rfl⟩, ⟨hcl⟩, HR⟩
 case round =>
  clear HR hcl
  obtain ⟨j, i, rfl, HI6, HJ, HR⟩ := hrel
  cases j with
  | zero =>
   have hi0 : decide (0 ≤ i) = false := by have := HI6.out; simp; omega
   go_wp2
   go_end0
   obtain ⟨v', P, k1, k2, k3, k4, k5⟩ := HR.out
   rw [show bitsN 0 x = [] from rfl, List.append_nil] at k2
   rw [k2] at k1
   exact ⟨rfl, v', k1, k3, k4, k5⟩
  | succ j =>
   obtain ⟨v1, P, hW, hP, hb, hk, hv⟩ := HR.out
   have HJ' := HJ.out
   have hi1 : 0 ≤ i := by have := HI6.out; omega
   have hi2 : i ≤ 63 := by have := HI6.out; omega
   have hi0 : decide (0 ≤ i) = true := by simpa using hi1
   have hP2 : (l ++ bitsN (cl m) x).length < 1000000100 := by rw [List.length_append, bitsN_len]; have := cl_le m; omega
   rw [← hP, List.length_append, bitsN_len] at hP2
   have hc1 := hW.cell1
   have hf0 := hW.fr 0
   obtain ⟨hg, hge, hR, hbits⟩ := hW
   have HHB := Aside0.mk hb
   have HHK := Aside0.mk hk
   have HP := Aside0.mk hP
   have Hbits := Aside0.mk hbits
   clear hb hk hP hbits HR
   by_cases h8 : P.length % 8 = 0
   have hc0 : wr.cell? ⟨g, 0, none⟩ = some v1 := (blk_cell hg 0).trans rfl
   have HG := Aside0.mk hg
   have HRR := Aside0.mk hR
   have HV := Aside0.mk hv
   clear hg hR hv
   have t8 : (((P.length : Int) % 8) == 0) = true := by rw [beq_iff_eq]; omega
   go_wp2_with ((with_reducible refine gate_builtin (b := .append) (xs := #[.tmp 26, .tmp 27]) rfl ?_); at_builtin; refine Kd.R_append (Kd.int .u8) (w0 := w0) w0.heap.size rfl (.tmp 26) (.tmp 27) 23 5 (.int .u8 0) 1 rfl Tryd.underlying23 info5 rfl (by decide) (by omega) v1 (packB P) 0 [.int .u8 0] (fun _ => True) (fun _ => False) rfl rfl ?aP (fun _ hk => hk.elim) ?aF ?aO ?aB ?aS ?aL ?_; (case aP => exact rfl); (case aB => exact HHB.out); (case aF => exact (fun _ _ => trivial)); (case aO => exact HRR.out); (case aS => exact (below_size HHB.out)); (case aL => rw [packB_len]; omega); intro v2 w5 ho hb hg hat; rw [packB_full h8] at ho; obtain ⟨b2, cap2, rfl, hb2, hl2, cells2, hcells2⟩ := Kd.R_form ho (by rw [rows_len]; omega); obtain ⟨n2, hn2⟩ : ∃ n2, n2 = (rows P (P.length / 8 + 1)).length := ⟨_, rfl⟩; rw [← hn2] at ho hat; (try rw [← hn2]); have HM := Aside0.mk (mid_full HG.out hge HRR.out HHK.out HV.out ho hb hg hat hn2); have hf0' : w5.frozen? ⟨g, 0, none⟩ = false := blk_frozen (blk_grown HG.out hg (own_g HG.out HRR.out)) 0; have hc0' : w5.cell? ⟨g, 0, none⟩ = some v1 := (blk_cell (blk_grown HG.out hg (own_g HG.out HRR.out)) 0).trans rfl; clear hb2 hl2 hcells2 hn2 ho hb hg hat)
   clear hf0' hc0' HG HRR HV hc0
   generalize w5.setCell ⟨g, 0, none⟩ (.slice (some ⟨b2, 0, none⟩) n2 cap2) = w6 at HM ⊢
   rotate_left
   rw [packB_part h8] at hR
   obtain ⟨b2, cap2, rfl, hb2, hl2, cells2, hcells2⟩ := Kd.R_form hR (by rw [rows_len]; omega)
   obtain ⟨n2, hn2⟩ : ∃ n2, n2 = (rows P (P.length / 8 + 1)).length := ⟨_, rfl⟩
   rw [← hn2] at hR hv hg
   have HM := Aside0.mk (mid_part hg hge hR HHB.out HHK.out hv hn2)
   clear hb2 hl2 hcells2 hn2 hg hR hv
   have t8 : (((P.length : Int) % 8) == 0) = false := by rw [beq_eq_false_iff_ne]; omega
   go_wp2
   generalize wr = w6 at HM ⊢
   all_goals
    clear t8 hc1 hf0 HHB HHK
    refine region_tail 24 (by kernel_rfl) (by kernel_rfl) (fun w7 hw7 => ?_)
    have hm := HM.out.drew
    rw [← hw7] at hm
    have HM7 := Aside0.mk hm
    clear HM hw7
    obtain ⟨qi, hqi⟩ : ∃ qi : Int, qi = ((P.length / 8 : Nat) : Int) := ⟨_, rfl⟩
    obtain ⟨kv, hkv⟩ : ∃ kv : Int, kv = 7 - (P.length : Int) % 8 := ⟨_, rfl⟩
    obtain ⟨sv, hsv⟩ : ∃ sv : Int, sv = x / 2 ^ i.toNat := ⟨_, rfl⟩
    obtain ⟨bv, hbv⟩ : ∃ bv : Int, bv = Go.bits .and .u64 sv 1 := ⟨_, rfl⟩
    obtain ⟨hx6, hf6⟩ := hm.byte
    rw [← hqi] at hx6 hf6
    have hc0 : w7.cell? ⟨g, 0, none⟩ = some (.slice (some ⟨b2, 0, none⟩) n2 cap2) := (blk_cell hm.1 0).trans rfl
    have hc1 : w7.cell? ⟨g, 1, none⟩ = some (.int .i64 (P.length : Int)) := (blk_cell hm.1 1).trans rfl
    have hf1 := blk_frozen hm.1 1
    have hq1 : (P.length : Int) / 8 = qi := by rw [hqi]; omega
    have hn2 := hm.2.2.1
    have hq2 : 0 ≤ qi := by omega
    have hq3 : decide (qi < (n2 : Int)) = true := by simp; omega
    have hq4 : qi < (n2 : Int) := by omega
    have hq5 : IntKind.i64.wrap qi = qi := by rw [IntKind.wrap_i64]; omega
    have hk0 : 0 ≤ kv := by omega
    have hk3 : IntKind.i64.wrap kv = kv := by rw [IntKind.wrap_i64]; omega
    have hk7 : kv ≤ 7 := by omega
    have hk1 : IntKind.i64.wrap (7 - (P.length : Int) % 8) = kv := by rw [IntKind.wrap_i64]; omega
    have hk4 : IntKind.i64.wrap (7 - Int.tmod (P.length : Int) 8) = kv := by rw [Int.tmod_eq_emod_of_nonneg (by omega)]; exact hk1
    have hk5 : 7 - Int.tmod (P.length : Int) 8 = kv := by rw [Int.tmod_eq_emod_of_nonneg (by omega)]; omega
    have hk2 : 7 - (P.length : Int) % 8 = kv := hkv.symm
    have hs1 : x / 2 ^ i.toNat = sv := hsv.symm
    have hs2 : x / 2 ^ (min i.toNat 64) = sv := by rw [show min i.toNat 64 = i.toNat by omega]; exact hsv.symm
    have hsb : 0 ≤ sv ∧ sv < 18446744073709551616 := by rw [hsv]; exact ⟨Int.ediv_nonneg x0 (Int.pow_nonneg (by omega)), by have := Int.ediv_le_self (2 ^ i.toNat) x0; omega⟩
    have hb1 : Go.bits .and .u64 sv 1 = bv := hbv.symm
    have hbb : bv = sv % 2 := by rw [hbv]; simpa using bits_mask .u64 64 (by decide) wraps_u64 1 (by decide) sv hsb.1 (by omega)
    have hb2 : 0 ≤ bv := by omega
    have hb3 : bv ≤ 1 := by omega
    have hb4 : IntKind.u8.wrap bv = bv := by rw [IntKind.wrap_u8]; omega
    have hka : decide (kv < 0) = false := by simp; omega
    have hkb : decide (0 ≤ kv) = true := by simp; omega
    have hkt : kv.toNat = 7 - P.length % 8 := by omega
    obtain ⟨shv, hshv⟩ : ∃ shv : Int, shv = bv * 2 ^ kv.toNat := ⟨_, rfl⟩
    have hpw : (2 : Int) ^ kv.toNat ≤ 128 ∧ 0 < (2 : Int) ^ kv.toNat := by
     have : kv.toNat = 0 ∨ kv.toNat = 1 ∨ kv.toNat = 2 ∨ kv.toNat = 3 ∨ kv.toNat = 4 ∨ kv.toNat = 5 ∨ kv.toNat = 6 ∨ kv.toNat = 7 := by omega
     rcases this with h | h | h | h | h | h | h | h <;> rw [h] <;> decide
    have hshb : 0 ≤ shv ∧ shv ≤ 128 := by
     have : bv = 0 ∨ bv = 1 := by omega
     rcases this with h | h <;> rw [hshv, h] <;> omega
    have hsh2 : IntKind.u8.wrap (bv * 2 ^ kv.toNat) = shv := by rw [← hshv, IntKind.wrap_u8]; omega
    have hsh1 : IntKind.u8.wrap (bv * 2 ^ min kv.toNat 8) = shv := by rw [show min kv.toNat 8 = kv.toNat by omega]; exact hsh2
    obtain ⟨nb, hnb⟩ : ∃ nb : Int, nb = Go.bits .or .u8 (byteAt P (P.length / 8)) shv := ⟨_, rfl⟩
    have hor : Go.bits .or .u8 (byteAt P (P.length / 8)) shv = nb := hnb.symm
    have hcx : (w7.setCell ⟨b2, qi.toNat, none⟩ (.int .u8 nb)).cell? ⟨g, 1, none⟩ = some (.int .i64 (P.length : Int)) := (blk_cell (blk_far hm.1 (p := ⟨b2, qi.toNat, none⟩) hm.ne _) 1).trans rfl
    have hfx : (w7.setCell ⟨b2, qi.toNat, none⟩ (.int .u8 nb)).frozen? ⟨g, 1, none⟩ = false := blk_frozen (blk_far hm.1 (p := ⟨b2, qi.toNat, none⟩) hm.ne _) 1
    have HSH := Aside0.mk (show shv = bv * 2 ^ (7 - P.length % 8) by rw [hshv, hkt])
    have HNB := Aside0.mk hnb
    clear hkt hshv hpw hshb hnb
    have HQ := Aside0.mk hqi
    have HKV := Aside0.mk hkv
    have HSV := Aside0.mk hsv
    have HBB := Aside0.mk hbb
    have HN2 := Aside0.mk hn2
    clear hqi hkv hsv hbv hbb hm hsb hn2
    simp only [List.take_succ_cons, List.take_zero, List.drop_succ_cons, List.drop_zero]
    repeat still_step
    refine wpStill_nil ?_
    go_wp2
    go_roundw
    case rel => exact ⟨j, _, rfl, ⟨by have := HI6.out; omega⟩, ⟨by have := HJ.out; omega⟩, ⟨by
     obtain ⟨v', k1, k2, k3, k4⟩ := mid_done HM7.out Hbits.out (b := bv) (nb := nb) (by omega) HQ.out (by rw [HNB.out, HSH.out])
     refine ⟨v', P ++ [bv], k1, ?_, k2, k3, k4⟩
     rw [← HP.out, List.append_assoc]
     congr 1
     show bv :: bitsN j x = bitsN (j + 1) x
     have e : i.toNat = j := by have := HI6.out; omega
     rw [HBB.out, HSV.out, e]; rfl⟩⟩
    case measure => simp [intOf]; have := HI6.out; omega
end Go.Proofs.YtmlbppfcpejlpaaDoor.W04

namespace Go.Proofs.YtmlbppfcpejlpaaDoor.X
open Go.RowKit Go.Proofs.YtmlbppfcpejlpaaDoorW.PrintWords Go.Proofs.YtmlbppfcpejlpaaDoorW.PrintLast Go.Proofs.YtmlbppfcpejlpaaDoorW.PrintMore
attribute [local go_sem] max2_int min2_int max_two min_two max_three min_three max_four min_four   -- for this text's walks alone
set_option linter.unusedVariables false
set_option linter.unusedSimpArgs false

/-! ### bytes_Clone: function 38 -/
def bytes_Clone.f (l0 : List Int) : Option (List Int) := if l0.length < 140737488355328 then some l0 else none
set_option maxHeartbeats 8000000 in
set_option maxRecDepth 100000 in
theorem bytes_Clone.calls_some (ad : Addr) (c0 : Nat) (l0 : List Int) (w : World) (hr0 : Kd.C (Kd.int .u8) w (some ad) l0.length l0) (hc0 : l0.length ≤ c0) (h : l0.length < 140737488355328) :
  Calls Tryd.prog 38 #[.slice (some ad) l0.length c0] w fun e w' => ∃ v0_ : Value, e = .returned (v0_) ∧ Kd.R (Kd.int .u8) 5 w' w.heap.size (fun _ => True) v0_ l0 ∧ Below w.heap.size w w' := by
 have HR0 := Aside0.mk hr0
 have HC0 := Aside0.mk hc0
 clear hr0 hc0
 have HB := Aside0.mk (Below.refl w.heap.size w)
 obtain ⟨y101, hy101⟩ : ∃ y_ : List Int, y_ = (([] : List Int)) := ⟨_, rfl⟩
 have LMc2 := Aside0.mk (show y101.length + l0.length < 140737488355328 by rw [hy101]; simpa using h)
 have Ny104 := Aside0.mk (show l0 = y101 ++ l0 by rw [hy101]; rfl)
 have Ny101 := Aside0.mk hy101
 clear hy101 h
 have hq : ∀ (w : World), (binOp .eql 23 (.slice (some ad) l0.length c0) (.slice none 0 0)).run Tryd.prog w = .ok (.bool false) w := fun w => Lib.run_eql_slice_nil w _ _ (some ad) l0.length c0 0 0 Tryd.underlying23
 go_enter Tryd.func38, Tryd.ntmps38
 go_wp2_with (first | ((with_reducible refine gate_dst (N := 5) rfl ?_); refine Kd.R_lit (Kd.int .u8) _ 5 ?hg (N := 5) ?hd (xs := ([] : List Int)) (inner := []) (ok := fun _ => True) (okp := fun _ => True) ?hr ?hp (fun _ hk => hk) trivial (Below.refl _ _) (Nat.le_refl _) (by simp) ?_; (case hd => rfl); (case hg => rfl); (case hr => first | (go_simp; done) | (go_simp; rfl)); (case hp => exact (Reps.none _ _)); intro v102 w3 ho4 hb hg_ hnew_; clear hg_ hnew_; (first | rw [← Ny101.out] at ho4 | (simp only [Int.reduceToNat] at ho4; rw [← Ny101.out] at ho4)); have n0_ := Aside0.mk (Kd.R_lower ho4 (below_size bB)); have n1_ := Aside0.mk (below_step bB hb); clear HB; have HO103 := n0_; have HB := n1_; clear n0_ n1_; clear hb ho4) | ((with_reducible refine gate_builtin (b := .append) (xs := #[.tmp 5, .tmp 6]) rfl ?_); at_builtin; refine Kd.R_append_rows (Kd.int .u8) (w0 := w) w.heap.size rfl (.tmp 5) (.tmp 6) 23 5 (.int .u8 0) 1 rfl Tryd.underlying23 info5 rfl (by decide) (by omega) v102 y101 l0 _ _ _ (fun _ => True) (fun _ => False) rfl rfl ?aO ?aR (fun _ _ h => h) (fun _ h => h.elim) ?aF ?aB ?aS ?aL ?_; (case aR => repeat (first | exact (Kd.C_below HR0.out HB.out) | (with_reducible refine Kd.C_alloc ?_ _) | (with_reducible refine Kd.C_drewN ?_ _) | (with_reducible refine Kd.C_drew ?_))); (case aB => exact bB); (case aF => exact (fun _ _ => trivial)); (case aO => exact (rR HO103.out)); (case aS => exact (below_size bB)); (case aL => have := LMc2.out; omega); intro v105 w5 ho hb hg hat; rw [← Ny104.out] at ho; have n0_ := Aside0.mk (hb); have n1_ := Aside0.mk (ho); clear HB; clear HO103; have HB := n0_; have HO106 := n1_; clear n0_ n1_; clear ho hb hg hat))
 go_ret
 exact ⟨_, by first | rfl | (simp [errW_none, errW_some] <;> rfl) | (simp [*, errW_none, errW_some] <;> rfl), rR HO106.out, bB⟩
theorem bytes_Clone.calls (A0 : Option Addr) (c0 : Nat) (l0 : List Int) (r : List Int) (w : World) (hr0 : Kd.C (Kd.int .u8) w A0 l0.length l0) (hc0 : l0.length ≤ c0) (h : bytes_Clone.f l0 = some r) :
  Calls Tryd.prog 38 #[.slice A0 l0.length c0] w fun e w' => ∃ v0_ : Value, e = .returned (v0_) ∧ Kd.R (Kd.int .u8) 5 w' w.heap.size (fun _ => True) v0_ r ∧ Below w.heap.size w w' := by
 unfold bytes_Clone.f at h
 by_cases hl : l0.length < 140737488355328
 ·rw [if_pos hl] at h
  obtain rfl := Option.some.inj h
  cases A0 with
  | some ad => exact bytes_Clone.calls_some ad c0 l0 w hr0 hc0 hl
  | none =>
   have h0 : l0 = [] := by
    cases l0 with
    | nil => rfl
    | cons a l => obtain ⟨ad, e, _⟩ := hr0.2.2 (by simp); cases e
   subst h0
   have hq : ∀ (w : World), (binOp .eql 23 (.slice none 0 c0) (.slice none 0 0)).run Tryd.prog w = .ok (.bool true) w := fun w => Lib.run_eql_slice_nil w _ _ none 0 c0 0 0 Tryd.underlying23
   clear hr0 hc0 hl h
   simp only [List.length_nil]
   go_enter Tryd.func38, Tryd.ntmps38
   go_wp2
   go_ret
   exact ⟨_, rfl, Kd.R_nil _ _ _ _ _, Below.refl _ _⟩
 ·rw [if_neg hl] at h; cases h


/-- A state of type 75 at block g of W; what its slices lead to came in by w0. -/
def IsS75 (w0 W : World) (g : Nat) (f0 : List Int) (f1 : Int) (f2 : Bool) : Prop := ∃ A0 c0, W.heap[g]? = some (.cells #[.slice A0 f0.length c0, .int .i64 f1, .bool f2] 75 (0, 0)) ∧ w0.heap.size ≤ g ∧ Kd.C (Kd.int .u8) w0 A0 f0.length f0
theorem IsS75.grown {w0 W : World} {g : Nat} {f0 : List Int} {f1 : Int} {f2 : Bool} {W1 : World} {row : Option Nat} (h : IsS75 w0 W g f0 f1 f2) (hw : W.grownBy W1 row) (hne : some g ≠ row) : IsS75 w0 W1 g f0 f1 f2 := by
 obtain ⟨A0, c0, hb, hg, hr0⟩ := h
 exact ⟨A0, c0, blk_grown hb hw hne, hg, hr0⟩
theorem IsS75.own_neN {w0 W : World} {g : Nat} {f0 : List Int} {f1 : Int} {f2 : Bool} {α : Type} {d : Kd α} {e : Nat} {base : Nat} {ok : Nat → Prop} {v : Value} {xs : List α} (h : IsS75 w0 W g f0 f1 f2) (ho : Kd.N d e W base ok v xs) (ht : e ≠ 75) : some g ≠ v.ownBlock := by
 obtain ⟨A0, c0, hb, hg, hr0⟩ := h
 exact Kd.N_ne ho hb ht
theorem IsS75.fresh {w0 W : World} {g : Nat} {f0 : List Int} {f1 : Int} {f2 : Bool} (h : IsS75 w0 W g f0 f1 f2) : ∀ k, W.heap.size ≤ k → k ≠ g := by
 obtain ⟨A0, c0, hb, hg, hr0⟩ := h
 exact Kd.freshB hb
theorem IsS75.kept {w0 W : World} {g : Nat} {f0 : List Int} {f1 : Int} {f2 : Bool} {W1 : World} {S : Nat → Prop} (h : IsS75 w0 W g f0 f1 f2) (hk : Kept W W1 S) (hne : ¬ S g) : IsS75 w0 W1 g f0 f1 f2 := by
 obtain ⟨A0, c0, hb, hg, hr0⟩ := h
 exact ⟨A0, c0, blk_kept hb hk hne, hg, hr0⟩
theorem IsS75.below {w0 W : World} {g : Nat} {f0 : List Int} {f1 : Int} {f2 : Bool} {W1 : World} (h : IsS75 w0 W g f0 f1 f2) (hw : Below W.heap.size W W1) : IsS75 w0 W1 g f0 f1 f2 := h.grown (grown_of_below hw none) (by simp)
theorem IsS75.alloc {w0 W : World} {g : Nat} {f0 : List Int} {f1 : Int} {f2 : Bool} (h : IsS75 w0 W g f0 f1 f2) (o : Obj) : IsS75 w0 (W.alloc o) g f0 f1 f2 := h.below (below_alloc (Below.refl _ _) o)
theorem IsS75.drewN {w0 W : World} {g : Nat} {f0 : List Int} {f1 : Int} {f2 : Bool} (h : IsS75 w0 W g f0 f1 f2) (m : Nat) : IsS75 w0 (W.drewN m) g f0 f1 f2 := h
theorem IsS75.drew {w0 W : World} {g : Nat} {f0 : List Int} {f1 : Int} {f2 : Bool} (h : IsS75 w0 W g f0 f1 f2) : IsS75 w0 W.drew g f0 f1 f2 := h
theorem IsS75.at_ {w0 W : World} {g : Nat} {f0 : List Int} {f1 : Int} {f2 : Bool} {w' : World} {m : Nat} (hq : W.drewN m = w') (h : IsS75 w0 W g f0 f1 f2) : IsS75 w0 w' g f0 f1 f2 := by subst hq; exact IsS75.drewN h m
theorem IsS75.apart {w0 W : World} {g : Nat} {f0 : List Int} {f1 : Int} {f2 : Bool} {α : Type} {d : Kd α} {e : Nat} {base : Nat} {ok : Nat → Prop} {v : Value} {xs : List α} (h : IsS75 w0 W g f0 f1 f2) (ho : d.R e W base ok v xs) (ht : ∀ q, q ∈ e :: d.E → q ≠ 75) : d.R e W base (fun k => ok k ∧ k ≠ g) v xs := by
 obtain ⟨A0, c0, hb, hg, hr0⟩ := h
 exact Kd.R_types ho hb ht
theorem IsS75.own_ne {w0 W : World} {g : Nat} {f0 : List Int} {f1 : Int} {f2 : Bool} {α : Type} {d : Kd α} {e : Nat} {base : Nat} {ok : Nat → Prop} {v : Value} {xs : List α} (h : IsS75 w0 W g f0 f1 f2) (ho : d.R e W base ok v xs) (ht : e ≠ 75) : some g ≠ v.ownBlock := by
 obtain ⟨A0, c0, hb, hg, hr0⟩ := h
 exact Kd.R_ne ho hb ht
theorem IsS75.apartQ {w0 W : World} {g : Nat} {f0 : List Int} {f1 : Int} {f2 : Bool} {α : Type} {d : Kd α} {e : Nat} {base : Nat} {ok : Nat → Prop} {v : Value} {xs : List α} (h : IsS75 w0 W g f0 f1 f2) (ho : d.Q e W base ok v xs) (ht : ∀ q, q ∈ e :: d.E → q ≠ 75) : d.Q e W base (fun k => ok k ∧ k ≠ g) v xs := by
 obtain ⟨A0, c0, hb, hg, hr0⟩ := h
 exact Kd.Q_types ho hb ht
theorem IsS75.own_neQ {w0 W : World} {g : Nat} {f0 : List Int} {f1 : Int} {f2 : Bool} {α : Type} {d : Kd α} {e : Nat} {base : Nat} {ok : Nat → Prop} {v : Value} {xs : List α} (h : IsS75 w0 W g f0 f1 f2) (ho : d.Q e W base ok v xs) (ht : e ≠ 75) : some g ≠ v.ownBlock := by
 obtain ⟨A0, c0, hb, hg, hr0⟩ := h
 exact Kd.Q_ne ho hb ht
theorem IsS75.apartS {w0 W : World} {g : Nat} {f0 : List Int} {f1 : Int} {f2 : Bool} {α : Type} {d : Kd α} {e : Nat} {base : Nat} {ok : Nat → Prop} {v : Value} {xs : List α} (h : IsS75 w0 W g f0 f1 f2) (ho : d.S e W base ok v xs) (ht : ∀ q, q ∈ e :: d.E → q ≠ 75) : d.S e W base (fun k => ok k ∧ k ≠ g) v xs := by
 obtain ⟨A0, c0, hb, hg, hr0⟩ := h
 exact Kd.S_types ho hb ht
theorem IsS75.own_neS {w0 W : World} {g : Nat} {f0 : List Int} {f1 : Int} {f2 : Bool} {α : Type} {d : Kd α} {e : Nat} {base : Nat} {ok : Nat → Prop} {v : Value} {xs : List α} (h : IsS75 w0 W g f0 f1 f2) (ho : d.S e W base ok v xs) (ht : e ≠ 75) : some g ≠ v.ownBlock := by
 obtain ⟨A0, c0, hb, hg, hr0⟩ := h
 exact Kd.S_ne ho hb ht
theorem IsS75.lt {w0 W : World} {g : Nat} {f0 : List Int} {f1 : Int} {f2 : Bool} (h : IsS75 w0 W g f0 f1 f2) : g < W.heap.size := by
 obtain ⟨A0, c0, hb, hg, hr0⟩ := h
 exact blk_lt hb
theorem IsS75.ge {w0 W : World} {g : Nat} {f0 : List Int} {f1 : Int} {f2 : Bool} (h : IsS75 w0 W g f0 f1 f2) : w0.heap.size ≤ g := by
 obtain ⟨A0, c0, hb, hg, hr0⟩ := h
 exact hg
theorem IsS75.ne_blk {w0 W : World} {g : Nat} {f0 : List Int} {f1 : Int} {f2 : Bool} {a : Nat} {cs : Array Value} {t : TypeId} {fr : Nat × Nat} (h : IsS75 w0 W g f0 f1 f2) (hb2 : W.heap[a]? = some (.cells cs t fr)) (ht : t ≠ 75) : g ≠ a := by
 obtain ⟨A0, c0, hb, hg, hr0⟩ := h
 rintro rfl
 rw [hb] at hb2
 injection hb2 with hb2
 injection hb2 with _ ht2
 exact ht ht2.symm
theorem IsS75.far {w0 W : World} {g : Nat} {f0 : List Int} {f1 : Int} {f2 : Bool} {p : Addr} (h : IsS75 w0 W g f0 f1 f2) (hne : g ≠ p.block) (u : Value) : IsS75 w0 (W.setCell p u) g f0 f1 f2 := by
 obtain ⟨A0, c0, hb, hg, hr0⟩ := h
 exact ⟨A0, c0, blk_far hb hne u, hg, hr0⟩
theorem cellS75_0 {W : World} {g : Nat} {A0 : Option Addr} {c0 : Nat} {f0 : List Int} {f1 : Int} {f2 : Bool} (h : W.heap[g]? = some (.cells #[.slice A0 f0.length c0, .int .i64 f1, .bool f2] 75 (0, 0))) : W.cell? ⟨g, 0, none⟩ = some (.slice A0 f0.length c0) := (blk_cell h 0).trans rfl
theorem cellS75_1 {W : World} {g : Nat} {A0 : Option Addr} {c0 : Nat} {f0 : List Int} {f1 : Int} {f2 : Bool} (h : W.heap[g]? = some (.cells #[.slice A0 f0.length c0, .int .i64 f1, .bool f2] 75 (0, 0))) : W.cell? ⟨g, 1, none⟩ = some (.int .i64 f1) := (blk_cell h 1).trans rfl
theorem IsS75.set_1 {w0 W : World} {g : Nat} {f0 : List Int} {f1 : Int} {f2 : Bool} (h : IsS75 w0 W g f0 f1 f2) (x : Int) : IsS75 w0 (W.setCell ⟨g, 1, none⟩ (.int .i64 x)) g f0 x f2 := by
 obtain ⟨A0, c0, hb, hg, hr0⟩ := h
 exact ⟨A0, c0, by simpa using blk_set hb 1 (.int .i64 x), hg, hr0⟩
theorem cellS75_2 {W : World} {g : Nat} {A0 : Option Addr} {c0 : Nat} {f0 : List Int} {f1 : Int} {f2 : Bool} (h : W.heap[g]? = some (.cells #[.slice A0 f0.length c0, .int .i64 f1, .bool f2] 75 (0, 0))) : W.cell? ⟨g, 2, none⟩ = some (.bool f2) := (blk_cell h 2).trans rfl
theorem IsS75.set_2 {w0 W : World} {g : Nat} {f0 : List Int} {f1 : Int} {f2 : Bool} (h : IsS75 w0 W g f0 f1 f2) (x : Bool) : IsS75 w0 (W.setCell ⟨g, 2, none⟩ (.bool x)) g f0 f1 x := by
 obtain ⟨A0, c0, hb, hg, hr0⟩ := h
 exact ⟨A0, c0, by simpa using blk_set hb 2 (.bool x), hg, hr0⟩
theorem IsS75.new (w0 W : World) (A0 : Option Addr) (c0 : Nat) (f0 : List Int) (f1 : Int) (f2 : Bool) (hB : Below w0.heap.size w0 W) (hr0 : Kd.C (Kd.int .u8) w0 A0 f0.length f0) : IsS75 w0 (W.alloc (.cells #[.slice A0 f0.length c0, .int .i64 f1, .bool f2] 75)) W.heap.size f0 f1 f2 := ⟨A0, c0, by simpa using heap_alloc_new W _, hB.size, hr0⟩

/-! ### bits_Reader_Left: function 39 -/
def bits_Reader_Left.f (s0_0 : List Int) (s0_1 : Int) (s0_2 : Bool) : Option (Int × Int × Bool) := some (wrap64 ((wrap64 (8 * (s0_0.length : Int))) - s0_1), s0_1, s0_2)
set_option maxHeartbeats 8000000 in
set_option maxRecDepth 100000 in
theorem bits_Reader_Left.calls (g : Nat) (s0_0 : List Int) (s0_1 : Int) (s0_2 : Bool) (r1 : Int) (r2 : Int) (r3 : Bool) (w0 w : World) (hI : IsS75 w0 w g s0_0 s0_1 s0_2) (hB : Below w0.heap.size w0 w) (h : bits_Reader_Left.f s0_0 s0_1 s0_2 = some (r1, r2, r3)) :
  Calls Tryd.prog 39 #[.pointer (some ⟨g, 0, none⟩)] w fun e w' => e = .returned (.int .i64 r1) ∧ IsS75 w0 w' g s0_0 r2 r3 ∧ Below w0.heap.size w0 w' ∧ KeepBut w w' g none := by
 have HI0 := Aside0.mk hI
 have HK := Aside0.mk (KeepBut.refl w g none)
 have HL := Aside0.mk hB.size
 clear hI
 have HW0 := Aside0.mk hB.size
 have HB := Aside0.mk hB
 clear hB
 have H : (some (wrap64 ((wrap64 (8 * (s0_0.length : Int))) - s0_1), s0_1, s0_2)) = some (r1, r2, r3) := h
 clear h
 simp only [Option.some.injEq, Prod.mk.injEq] at H
 obtain ⟨rfl, rfl, rfl⟩ := H
 obtain ⟨ASz2_0, cSz2_0, HGz2, hgz2, HSz2_0⟩ := HI0.out
 have hcz2_0 := cellS75_0 HGz2
 have hcz2_1 := cellS75_1 HGz2
 have hcz2_2 := cellS75_2 HGz2
 have hfz2_1 := blk_frozen HGz2 1
 have hfz2_2 := blk_frozen HGz2 2
 clear HGz2 hgz2
 go_enter Tryd.func39, Tryd.ntmps39
 go_wp2
 repeat (go_quiet (fail); try go_wp2)
 go_ret
 exact ⟨by first | rfl | (simp [errW_none, errW_some] <;> rfl) | (simp [*, errW_none, errW_some] <;> rfl), by repeat (first | (with_reducible first | exact HI0.out | apply IsS75.alloc | apply IsS75.drewN | apply IsS75.drew | apply IsS75.set_1 | apply IsS75.set_2) | exact HI0.out), by repeat (first | (with_reducible first | exact HB.out | apply below_alloc | apply pw_below_drewN | apply below_drew1 | refine below_set ?_ (IsS75.ge HI0.out)) | exact HB.out), by repeat (first | (with_reducible first | exact HK.out | apply KeepBut.set_ | apply keep_drewN | apply keep_drew | apply keep_alloc) | exact HK.out)⟩


/-! ### bits_Reader_Take: function 28 -/
def bits_Reader_Take.l0 : Nat → Int → Int → Int → List Int → Int → Bool → Option (Int × Int × Bool)
 | 0, _, _, _, _, _, _ => none
 | k + 1, x5, x23, x24, x1000, x1001, x1002 => if x24 < x23 then (if 0 ≤ (wrap64 (Int.tdiv x1001 8)) then (if (wrap64 (Int.tdiv x1001 8)) < (x1000.length : Int) then (if 0 ≤ (wrap64 (7 - (Int.tmod x1001 8))) then (bits_Reader_Take.l0 k (Go.bits .or .u64 (IntKind.u64.wrap (x5 * 2)) (IntKind.u64.wrap (Go.bits .and .u8 (shr .u8 (rd x1000 (wrap64 (Int.tdiv x1001 8))) (wrap64 (7 - (Int.tmod x1001 8)))) 1))) x23 (wrap64 (x24 + 1)) x1000 (wrap64 (x1001 + 1)) x1002) else (none)) else (none)) else (none)) else (some (x5, x1001, x1002))
def bits_Reader_Take.f (k : Nat) (s0_0 : List Int) (s0_1 : Int) (s0_2 : Bool) (a1 : Int) : Option (Int × Int × Bool) := if s0_2 = true then (some (0, s0_1, s0_2)) else ((bits_held.f a1).bind fun t143 => ((bits_Reader_Left.f s0_0 s0_1 s0_2).bind fun bt144 => (if t143 > bt144.1 then (some (0, bt144.2.1, true)) else ((bits_held.f a1).bind fun t147 => (bits_Reader_Take.l0 k 0 t147 0 s0_0 bt144.2.1 bt144.2.2)))))
theorem bits_Reader_Take.mono_l : ∀ k, (∀ y0 y1 y2 y3 y4 y5, LeO (bits_Reader_Take.l0 k y0 y1 y2 y3 y4 y5) (bits_Reader_Take.l0 (k + 1) y0 y1 y2 y3 y4 y5))
 | 0 => fun _ _ _ _ _ _ r h => by simp [bits_Reader_Take.l0] at h
 | k + 1 => by
  have ih0 := bits_Reader_Take.mono_l k
  ·intro y0 y1 y2 y3 y4 y5
   unfold bits_Reader_Take.l0
   repeat' first
   | (with_reducible exact ih0 _ _ _ _ _ _)
   | (with_reducible exact LeO.refl _)
   | (with_reducible exact LeO.none _)
   | (with_reducible refine LeO.ite ?_ ?_)
   | (with_reducible refine LeO.bind ?_ (fun _ => ?_))
   | exact ih0 _ _ _ _ _ _
   | exact LeO.none _
   | refine LeO.ite ?_ ?_
   | refine LeO.bind ?_ (fun _ => ?_)
theorem bits_Reader_Take.mono : ∀ a0 a1 a2 a3 k, LeO (bits_Reader_Take.f k a0 a1 a2 a3) (bits_Reader_Take.f (k + 1) a0 a1 a2 a3) := by
 intro a0 a1 a2 a3 k
 have ih0 := bits_Reader_Take.mono_l k
 unfold bits_Reader_Take.f
 repeat' first
   | (with_reducible exact ih0 _ _ _ _ _ _)
   | (with_reducible exact LeO.refl _)
   | (with_reducible exact LeO.none _)
   | (with_reducible refine LeO.ite ?_ ?_)
   | (with_reducible refine LeO.bind ?_ (fun _ => ?_))
   | exact ih0 _ _ _ _ _ _
   | exact LeO.none _
   | refine LeO.ite ?_ ?_
   | refine LeO.bind ?_ (fun _ => ?_)
set_option maxHeartbeats 8000000 in
set_option maxRecDepth 100000 in
theorem bits_Reader_Take.calls (k : Nat) (g : Nat) (s0_0 : List Int) (s0_1 : Int) (s0_2 : Bool) (a1 : Int) (r1 : Int) (r2 : Int) (r3 : Bool) (w0 w : World) (hI : IsS75 w0 w g s0_0 s0_1 s0_2) (hB : Below w0.heap.size w0 w) (h : bits_Reader_Take.f k s0_0 s0_1 s0_2 a1 = some (r1, r2, r3)) :
  Calls Tryd.prog 28 #[.pointer (some ⟨g, 0, none⟩), .int .i64 a1] w fun e w' => e = .returned (.int .u64 r1) ∧ IsS75 w0 w' g s0_0 r2 r3 ∧ Below w0.heap.size w0 w' ∧ KeepBut w w' g none := by
 have HI0 := Aside0.mk hI
 have HK := Aside0.mk (KeepBut.refl w g none)
 have HL := Aside0.mk hB.size
 clear hI
 have HW0 := Aside0.mk hB.size
 have HB := Aside0.mk hB
 clear hB
 have H : (if s0_2 = true then (some (0, s0_1, s0_2)) else ((bits_held.f a1).bind fun t143 => ((bits_Reader_Left.f s0_0 s0_1 s0_2).bind fun bt144 => (if t143 > bt144.1 then (some (0, bt144.2.1, true)) else ((bits_held.f a1).bind fun t147 => (bits_Reader_Take.l0 k 0 t147 0 s0_0 bt144.2.1 bt144.2.2)))))) = some (r1, r2, r3) := h
 clear h
 by_cases c3 : s0_2 = true
 ·subst c3
  have H1 : (some (0, s0_1, true)) = some (r1, r2, r3) := by rw [if_pos rfl] at H; exact H
  clear H
  have H := H1
  clear H1
  simp only [Option.some.injEq, Prod.mk.injEq] at H
  obtain ⟨rfl, rfl, rfl⟩ := H
  obtain ⟨ASz4_0, cSz4_0, HGz4, hgz4, HSz4_0⟩ := HI0.out
  have hcz4_0 := cellS75_0 HGz4
  have hcz4_1 := cellS75_1 HGz4
  have hcz4_2 := cellS75_2 HGz4
  have hfz4_1 := blk_frozen HGz4 1
  have hfz4_2 := blk_frozen HGz4 2
  clear HGz4 hgz4
  go_enter Tryd.func28, Tryd.ntmps28
  go_wp2
  repeat (go_quiet (fail); try go_wp2)
  go_ret
  exact ⟨by first | rfl | (simp [errW_none, errW_some] <;> rfl) | (simp [*, errW_none, errW_some] <;> rfl), by repeat (first | (with_reducible first | exact HI0.out | apply IsS75.alloc | apply IsS75.drewN | apply IsS75.drew | apply IsS75.set_1 | apply IsS75.set_2) | exact HI0.out), by repeat (first | (with_reducible first | exact HB.out | apply below_alloc | apply pw_below_drewN | apply below_drew1 | refine below_set ?_ (IsS75.ge HI0.out)) | exact HB.out), by repeat (first | (with_reducible first | exact HK.out | apply KeepBut.set_ | apply keep_drewN | apply keep_drew | apply keep_alloc) | exact HK.out)⟩
 ·replace c3 := Bool.eq_false_iff.mpr c3
  subst c3
  have H1 : ((bits_held.f a1).bind fun t143 => ((bits_Reader_Left.f s0_0 s0_1 false).bind fun bt144 => (if t143 > bt144.1 then (some (0, bt144.2.1, true)) else ((bits_held.f a1).bind fun t147 => (bits_Reader_Take.l0 k 0 t147 0 s0_0 bt144.2.1 bt144.2.2))))) = some (r1, r2, r3) := by rw [if_neg (show ¬ (false = true) by decide)] at H; exact H
  clear H
  have H := H1
  clear H1
  replace H := Option.bind_eq_some_iff.mp H
  obtain ⟨t143, A50, H⟩ := H
  replace H : ((bits_Reader_Left.f s0_0 s0_1 false).bind fun bt144 => (if t143 > bt144.1 then (some (0, bt144.2.1, true)) else ((bits_held.f a1).bind fun t147 => (bits_Reader_Take.l0 k 0 t147 0 s0_0 bt144.2.1 bt144.2.2)))) = some (r1, r2, r3) := H
  have A5 := Aside0.mk A50
  clear A50
  replace H := Option.bind_eq_some_iff.mp H
  obtain ⟨⟨t144, t145, t146⟩, A60, H⟩ := H
  replace H : (if t143 > t144 then (some (0, t145, true)) else ((bits_held.f a1).bind fun t147 => (bits_Reader_Take.l0 k 0 t147 0 s0_0 t145 t146))) = some (r1, r2, r3) := H
  have A6 := Aside0.mk A60
  clear A60
  by_cases c7 : t143 > t144
  ·rw [if_pos c7] at H
   have c7b0 : decide (t144 < t143) = true := decide_eq_true c7
   clear c7
   simp only [Option.some.injEq, Prod.mk.injEq] at H
   obtain ⟨rfl, rfl, rfl⟩ := H
   obtain ⟨ASz8_0, cSz8_0, HGz8, hgz8, HSz8_0⟩ := HI0.out
   have hcz8_0 := cellS75_0 HGz8
   have hcz8_1 := cellS75_1 HGz8
   have hcz8_2 := cellS75_2 HGz8
   have hfz8_1 := blk_frozen HGz8 1
   have hfz8_2 := blk_frozen HGz8 2
   clear HGz8 hgz8
   go_enter Tryd.func28, Tryd.ntmps28
   go_wp2_with (first | (go_at_call 35; (with_reducible refine (bits_held.calls a1 t143 _ A5.out).mono ?_); rintro e w9 ⟨rfl, hb⟩; have n0_ := Aside0.mk (IsS75.below (by repeat (first | (with_reducible first | exact HI0.out | apply IsS75.alloc | apply IsS75.drewN | apply IsS75.drew | apply IsS75.set_1 | apply IsS75.set_2) | exact HI0.out)) hb); have n1_ := Aside0.mk (KeepBut.trans (by repeat (first | (with_reducible first | exact HK.out | apply KeepBut.set_ | apply keep_drewN | apply keep_drew | apply keep_alloc) | exact HK.out)) (KeepBut.of_below hb g none) (.inl rfl)); have n2_ := Aside0.mk (below_step (by repeat (first | (with_reducible first | exact HB.out | apply below_alloc | apply pw_below_drewN | apply below_drew1 | refine below_set ?_ (IsS75.ge HI0.out)) | exact HB.out)) hb); clear HI0; clear HK; clear HB; have HI0 := n0_; have HK := n1_; have HB := n2_; clear n0_ n1_ n2_; (try clear hb)) | (go_at_call 39; (with_reducible refine (bits_Reader_Left.calls g s0_0 s0_1 false t144 t145 t146 w0 _ ?side1 ?side2 A6.out).mono ?_); (case side1 => repeat (first | (with_reducible first | exact HI0.out | apply IsS75.alloc | apply IsS75.drewN | apply IsS75.drew | apply IsS75.set_1 | apply IsS75.set_2) | exact HI0.out)); (case side2 => repeat (first | (with_reducible first | exact HB.out | apply below_alloc | apply pw_below_drewN | apply below_drew1 | refine below_set ?_ (IsS75.ge HI0.out)) | exact HB.out)); rintro e w10 ⟨rfl, hi, hb, hk⟩; have n0_ := Aside0.mk (KeepBut.trans (by repeat (first | (with_reducible first | exact HK.out | apply KeepBut.set_ | apply keep_drewN | apply keep_drew | apply keep_alloc) | exact HK.out)) hk (.inl rfl)); have n1_ := Aside0.mk (hb); have n2_ := Aside0.mk (hi); clear HK; clear HB; clear HI0; have HK := n0_; have HB := n1_; have HI0 := n2_; clear n0_ n1_ n2_; (try clear hb hk hi); obtain ⟨ASz11_0, cSz11_0, HGz11, hgz11, HSz11_0⟩ := HI0.out; have hcz11_0 := cellS75_0 HGz11; have hcz11_1 := cellS75_1 HGz11; have hcz11_2 := cellS75_2 HGz11; have hfz11_1 := blk_frozen HGz11 1; have hfz11_2 := blk_frozen HGz11 2; clear HGz11 hgz11))
   repeat (go_quiet (first | (go_at_call 35; (with_reducible refine (bits_held.calls a1 t143 _ A5.out).mono ?_); rintro e w9 ⟨rfl, hb⟩; have n0_ := Aside0.mk (IsS75.below (by repeat (first | (with_reducible first | exact HI0.out | apply IsS75.alloc | apply IsS75.drewN | apply IsS75.drew | apply IsS75.set_1 | apply IsS75.set_2) | exact HI0.out)) hb); have n1_ := Aside0.mk (KeepBut.trans (by repeat (first | (with_reducible first | exact HK.out | apply KeepBut.set_ | apply keep_drewN | apply keep_drew | apply keep_alloc) | exact HK.out)) (KeepBut.of_below hb g none) (.inl rfl)); have n2_ := Aside0.mk (below_step (by repeat (first | (with_reducible first | exact HB.out | apply below_alloc | apply pw_below_drewN | apply below_drew1 | refine below_set ?_ (IsS75.ge HI0.out)) | exact HB.out)) hb); clear HI0; clear HK; clear HB; have HI0 := n0_; have HK := n1_; have HB := n2_; clear n0_ n1_ n2_; (try clear hb)) | (go_at_call 39; (with_reducible refine (bits_Reader_Left.calls g s0_0 s0_1 false t144 t145 t146 w0 _ ?side1 ?side2 A6.out).mono ?_); (case side1 => repeat (first | (with_reducible first | exact HI0.out | apply IsS75.alloc | apply IsS75.drewN | apply IsS75.drew | apply IsS75.set_1 | apply IsS75.set_2) | exact HI0.out)); (case side2 => repeat (first | (with_reducible first | exact HB.out | apply below_alloc | apply pw_below_drewN | apply below_drew1 | refine below_set ?_ (IsS75.ge HI0.out)) | exact HB.out)); rintro e w10 ⟨rfl, hi, hb, hk⟩; have n0_ := Aside0.mk (KeepBut.trans (by repeat (first | (with_reducible first | exact HK.out | apply KeepBut.set_ | apply keep_drewN | apply keep_drew | apply keep_alloc) | exact HK.out)) hk (.inl rfl)); have n1_ := Aside0.mk (hb); have n2_ := Aside0.mk (hi); clear HK; clear HB; clear HI0; have HK := n0_; have HB := n1_; have HI0 := n2_; clear n0_ n1_ n2_; (try clear hb hk hi); obtain ⟨ASz11_0, cSz11_0, HGz11, hgz11, HSz11_0⟩ := HI0.out; have hcz11_0 := cellS75_0 HGz11; have hcz11_1 := cellS75_1 HGz11; have hcz11_2 := cellS75_2 HGz11; have hfz11_1 := blk_frozen HGz11 1; have hfz11_2 := blk_frozen HGz11 2; clear HGz11 hgz11)); try go_wp2_with (first | (go_at_call 35; (with_reducible refine (bits_held.calls a1 t143 _ A5.out).mono ?_); rintro e w9 ⟨rfl, hb⟩; have n0_ := Aside0.mk (IsS75.below (by repeat (first | (with_reducible first | exact HI0.out | apply IsS75.alloc | apply IsS75.drewN | apply IsS75.drew | apply IsS75.set_1 | apply IsS75.set_2) | exact HI0.out)) hb); have n1_ := Aside0.mk (KeepBut.trans (by repeat (first | (with_reducible first | exact HK.out | apply KeepBut.set_ | apply keep_drewN | apply keep_drew | apply keep_alloc) | exact HK.out)) (KeepBut.of_below hb g none) (.inl rfl)); have n2_ := Aside0.mk (below_step (by repeat (first | (with_reducible first | exact HB.out | apply below_alloc | apply pw_below_drewN | apply below_drew1 | refine below_set ?_ (IsS75.ge HI0.out)) | exact HB.out)) hb); clear HI0; clear HK; clear HB; have HI0 := n0_; have HK := n1_; have HB := n2_; clear n0_ n1_ n2_; (try clear hb)) | (go_at_call 39; (with_reducible refine (bits_Reader_Left.calls g s0_0 s0_1 false t144 t145 t146 w0 _ ?side1 ?side2 A6.out).mono ?_); (case side1 => repeat (first | (with_reducible first | exact HI0.out | apply IsS75.alloc | apply IsS75.drewN | apply IsS75.drew | apply IsS75.set_1 | apply IsS75.set_2) | exact HI0.out)); (case side2 => repeat (first | (with_reducible first | exact HB.out | apply below_alloc | apply pw_below_drewN | apply below_drew1 | refine below_set ?_ (IsS75.ge HI0.out)) | exact HB.out)); rintro e w10 ⟨rfl, hi, hb, hk⟩; have n0_ := Aside0.mk (KeepBut.trans (by repeat (first | (with_reducible first | exact HK.out | apply KeepBut.set_ | apply keep_drewN | apply keep_drew | apply keep_alloc) | exact HK.out)) hk (.inl rfl)); have n1_ := Aside0.mk (hb); have n2_ := Aside0.mk (hi); clear HK; clear HB; clear HI0; have HK := n0_; have HB := n1_; have HI0 := n2_; clear n0_ n1_ n2_; (try clear hb hk hi); obtain ⟨ASz11_0, cSz11_0, HGz11, hgz11, HSz11_0⟩ := HI0.out; have hcz11_0 := cellS75_0 HGz11; have hcz11_1 := cellS75_1 HGz11; have hcz11_2 := cellS75_2 HGz11; have hfz11_1 := blk_frozen HGz11 1; have hfz11_2 := blk_frozen HGz11 2; clear HGz11 hgz11)))
   go_ret
   exact ⟨by first | rfl | (simp [errW_none, errW_some] <;> rfl) | (simp [*, errW_none, errW_some] <;> rfl), by repeat (first | (with_reducible first | exact HI0.out | apply IsS75.alloc | apply IsS75.drewN | apply IsS75.drew | apply IsS75.set_1 | apply IsS75.set_2) | exact HI0.out), by repeat (first | (with_reducible first | exact HB.out | apply below_alloc | apply pw_below_drewN | apply below_drew1 | refine below_set ?_ (IsS75.ge HI0.out)) | exact HB.out), by repeat (first | (with_reducible first | exact HK.out | apply KeepBut.set_ | apply keep_drewN | apply keep_drew | apply keep_alloc) | exact HK.out)⟩
  ·rw [if_neg c7] at H
   have c7b0 : decide (t144 < t143) = false := decide_eq_false c7
   clear c7
   replace H := Option.bind_eq_some_iff.mp H
   obtain ⟨t147, A120, H⟩ := H
   replace H : (bits_Reader_Take.l0 k 0 t147 0 s0_0 t145 t146) = some (r1, r2, r3) := H
   have A12 := Aside0.mk A120
   clear A120
   obtain rfl : t143 = t147 := Option.some.inj (A5.out.symm.trans A12.out)
   have H' := Aside0.mk H
   clear H
   obtain ⟨ASz13_0, cSz13_0, HGz13, hgz13, HSz13_0⟩ := HI0.out
   have hcz13_0 := cellS75_0 HGz13
   have hcz13_1 := cellS75_1 HGz13
   have hcz13_2 := cellS75_2 HGz13
   have hfz13_1 := blk_frozen HGz13 1
   have hfz13_2 := blk_frozen HGz13 2
   clear HGz13 hgz13
   go_enter Tryd.func28, Tryd.ntmps28
   go_wp2_with (first | (go_at_call 35; (with_reducible refine (bits_held.calls a1 t143 _ A5.out).mono ?_); rintro e w14 ⟨rfl, hb⟩; have n0_ := Aside0.mk (IsS75.below (by repeat (first | (with_reducible first | exact HI0.out | apply IsS75.alloc | apply IsS75.drewN | apply IsS75.drew | apply IsS75.set_1 | apply IsS75.set_2) | exact HI0.out)) hb); have n1_ := Aside0.mk (KeepBut.trans (by repeat (first | (with_reducible first | exact HK.out | apply KeepBut.set_ | apply keep_drewN | apply keep_drew | apply keep_alloc) | exact HK.out)) (KeepBut.of_below hb g none) (.inl rfl)); have n2_ := Aside0.mk (below_step (by repeat (first | (with_reducible first | exact HB.out | apply below_alloc | apply pw_below_drewN | apply below_drew1 | refine below_set ?_ (IsS75.ge HI0.out)) | exact HB.out)) hb); clear HI0; clear HK; clear HB; have HI0 := n0_; have HK := n1_; have HB := n2_; clear n0_ n1_ n2_; (try clear hb)) | (go_at_call 39; (with_reducible refine (bits_Reader_Left.calls g s0_0 s0_1 false t144 t145 t146 w0 _ ?side1 ?side2 A6.out).mono ?_); (case side1 => repeat (first | (with_reducible first | exact HI0.out | apply IsS75.alloc | apply IsS75.drewN | apply IsS75.drew | apply IsS75.set_1 | apply IsS75.set_2) | exact HI0.out)); (case side2 => repeat (first | (with_reducible first | exact HB.out | apply below_alloc | apply pw_below_drewN | apply below_drew1 | refine below_set ?_ (IsS75.ge HI0.out)) | exact HB.out)); rintro e w15 ⟨rfl, hi, hb, hk⟩; have n0_ := Aside0.mk (KeepBut.trans (by repeat (first | (with_reducible first | exact HK.out | apply KeepBut.set_ | apply keep_drewN | apply keep_drew | apply keep_alloc) | exact HK.out)) hk (.inl rfl)); have n1_ := Aside0.mk (hb); have n2_ := Aside0.mk (hi); clear HK; clear HB; clear HI0; have HK := n0_; have HB := n1_; have HI0 := n2_; clear n0_ n1_ n2_; (try clear hb hk hi)) | (go_at_call 35; (with_reducible refine (bits_held.calls a1 t143 _ A12.out).mono ?_); rintro e w16 ⟨rfl, hb⟩; have n0_ := Aside0.mk (IsS75.below (by repeat (first | (with_reducible first | exact HI0.out | apply IsS75.alloc | apply IsS75.drewN | apply IsS75.drew | apply IsS75.set_1 | apply IsS75.set_2) | exact HI0.out)) hb); have n1_ := Aside0.mk (KeepBut.trans (by repeat (first | (with_reducible first | exact HK.out | apply KeepBut.set_ | apply keep_drewN | apply keep_drew | apply keep_alloc) | exact HK.out)) (KeepBut.of_below hb g none) (.inl rfl)); have n2_ := Aside0.mk (below_step (by repeat (first | (with_reducible first | exact HB.out | apply below_alloc | apply pw_below_drewN | apply below_drew1 | refine below_set ?_ (IsS75.ge HI0.out)) | exact HB.out)) hb); clear HI0; clear HK; clear HB; have HI0 := n0_; have HK := n1_; have HB := n2_; clear n0_ n1_ n2_; (try clear hb)))
   repeat (go_quiet (first | (go_at_call 35; (with_reducible refine (bits_held.calls a1 t143 _ A5.out).mono ?_); rintro e w14 ⟨rfl, hb⟩; have n0_ := Aside0.mk (IsS75.below (by repeat (first | (with_reducible first | exact HI0.out | apply IsS75.alloc | apply IsS75.drewN | apply IsS75.drew | apply IsS75.set_1 | apply IsS75.set_2) | exact HI0.out)) hb); have n1_ := Aside0.mk (KeepBut.trans (by repeat (first | (with_reducible first | exact HK.out | apply KeepBut.set_ | apply keep_drewN | apply keep_drew | apply keep_alloc) | exact HK.out)) (KeepBut.of_below hb g none) (.inl rfl)); have n2_ := Aside0.mk (below_step (by repeat (first | (with_reducible first | exact HB.out | apply below_alloc | apply pw_below_drewN | apply below_drew1 | refine below_set ?_ (IsS75.ge HI0.out)) | exact HB.out)) hb); clear HI0; clear HK; clear HB; have HI0 := n0_; have HK := n1_; have HB := n2_; clear n0_ n1_ n2_; (try clear hb)) | (go_at_call 39; (with_reducible refine (bits_Reader_Left.calls g s0_0 s0_1 false t144 t145 t146 w0 _ ?side1 ?side2 A6.out).mono ?_); (case side1 => repeat (first | (with_reducible first | exact HI0.out | apply IsS75.alloc | apply IsS75.drewN | apply IsS75.drew | apply IsS75.set_1 | apply IsS75.set_2) | exact HI0.out)); (case side2 => repeat (first | (with_reducible first | exact HB.out | apply below_alloc | apply pw_below_drewN | apply below_drew1 | refine below_set ?_ (IsS75.ge HI0.out)) | exact HB.out)); rintro e w15 ⟨rfl, hi, hb, hk⟩; have n0_ := Aside0.mk (KeepBut.trans (by repeat (first | (with_reducible first | exact HK.out | apply KeepBut.set_ | apply keep_drewN | apply keep_drew | apply keep_alloc) | exact HK.out)) hk (.inl rfl)); have n1_ := Aside0.mk (hb); have n2_ := Aside0.mk (hi); clear HK; clear HB; clear HI0; have HK := n0_; have HB := n1_; have HI0 := n2_; clear n0_ n1_ n2_; (try clear hb hk hi)) | (go_at_call 35; (with_reducible refine (bits_held.calls a1 t143 _ A12.out).mono ?_); rintro e w16 ⟨rfl, hb⟩; have n0_ := Aside0.mk (IsS75.below (by repeat (first | (with_reducible first | exact HI0.out | apply IsS75.alloc | apply IsS75.drewN | apply IsS75.drew | apply IsS75.set_1 | apply IsS75.set_2) | exact HI0.out)) hb); have n1_ := Aside0.mk (KeepBut.trans (by repeat (first | (with_reducible first | exact HK.out | apply KeepBut.set_ | apply keep_drewN | apply keep_drew | apply keep_alloc) | exact HK.out)) (KeepBut.of_below hb g none) (.inl rfl)); have n2_ := Aside0.mk (below_step (by repeat (first | (with_reducible first | exact HB.out | apply below_alloc | apply pw_below_drewN | apply below_drew1 | refine below_set ?_ (IsS75.ge HI0.out)) | exact HB.out)) hb); clear HI0; clear HK; clear HB; have HI0 := n0_; have HK := n1_; have HB := n2_; clear n0_ n1_ n2_; (try clear hb))); try go_wp2_with (first | (go_at_call 35; (with_reducible refine (bits_held.calls a1 t143 _ A5.out).mono ?_); rintro e w14 ⟨rfl, hb⟩; have n0_ := Aside0.mk (IsS75.below (by repeat (first | (with_reducible first | exact HI0.out | apply IsS75.alloc | apply IsS75.drewN | apply IsS75.drew | apply IsS75.set_1 | apply IsS75.set_2) | exact HI0.out)) hb); have n1_ := Aside0.mk (KeepBut.trans (by repeat (first | (with_reducible first | exact HK.out | apply KeepBut.set_ | apply keep_drewN | apply keep_drew | apply keep_alloc) | exact HK.out)) (KeepBut.of_below hb g none) (.inl rfl)); have n2_ := Aside0.mk (below_step (by repeat (first | (with_reducible first | exact HB.out | apply below_alloc | apply pw_below_drewN | apply below_drew1 | refine below_set ?_ (IsS75.ge HI0.out)) | exact HB.out)) hb); clear HI0; clear HK; clear HB; have HI0 := n0_; have HK := n1_; have HB := n2_; clear n0_ n1_ n2_; (try clear hb)) | (go_at_call 39; (with_reducible refine (bits_Reader_Left.calls g s0_0 s0_1 false t144 t145 t146 w0 _ ?side1 ?side2 A6.out).mono ?_); (case side1 => repeat (first | (with_reducible first | exact HI0.out | apply IsS75.alloc | apply IsS75.drewN | apply IsS75.drew | apply IsS75.set_1 | apply IsS75.set_2) | exact HI0.out)); (case side2 => repeat (first | (with_reducible first | exact HB.out | apply below_alloc | apply pw_below_drewN | apply below_drew1 | refine below_set ?_ (IsS75.ge HI0.out)) | exact HB.out)); rintro e w15 ⟨rfl, hi, hb, hk⟩; have n0_ := Aside0.mk (KeepBut.trans (by repeat (first | (with_reducible first | exact HK.out | apply KeepBut.set_ | apply keep_drewN | apply keep_drew | apply keep_alloc) | exact HK.out)) hk (.inl rfl)); have n1_ := Aside0.mk (hb); have n2_ := Aside0.mk (hi); clear HK; clear HB; clear HI0; have HK := n0_; have HB := n1_; have HI0 := n2_; clear n0_ n1_ n2_; (try clear hb hk hi)) | (go_at_call 35; (with_reducible refine (bits_held.calls a1 t143 _ A12.out).mono ?_); rintro e w16 ⟨rfl, hb⟩; have n0_ := Aside0.mk (IsS75.below (by repeat (first | (with_reducible first | exact HI0.out | apply IsS75.alloc | apply IsS75.drewN | apply IsS75.drew | apply IsS75.set_1 | apply IsS75.set_2) | exact HI0.out)) hb); have n1_ := Aside0.mk (KeepBut.trans (by repeat (first | (with_reducible first | exact HK.out | apply KeepBut.set_ | apply keep_drewN | apply keep_drew | apply keep_alloc) | exact HK.out)) (KeepBut.of_below hb g none) (.inl rfl)); have n2_ := Aside0.mk (below_step (by repeat (first | (with_reducible first | exact HB.out | apply below_alloc | apply pw_below_drewN | apply below_drew1 | refine below_set ?_ (IsS75.ge HI0.out)) | exact HB.out)) hb); clear HI0; clear HK; clear HB; have HI0 := n0_; have HK := n1_; have HB := n2_; clear n0_ n1_ n2_; (try clear hb))))
   go_loopg [5, 24] k (fun kq v5 v24 w' => ∃ (x5_1 : Int) (x24_1 : Int) (x1001_1 : Int), v5 = .int .u64 x5_1 ∧ v24 = .int .i64 x24_1 ∧ Aside0 (bits_Reader_Take.l0 kq x5_1 t143 x24_1 s0_0 x1001_1 t146 = some (r1, r2, r3)) ∧ Aside0 (kq ≤ k) ∧ Aside0 (IsS75 w0 w' g s0_0 x1001_1 t146) ∧ Aside0 (KeepBut w w' g none) ∧ Aside0 (Below w0.heap.size w0 w'))
   case atStart => exact ⟨(0), (0), (t145), (by first | rfl | (simp; done) | (simp [*]; done)), (by first | rfl | (simp; done) | (simp [*]; done)), H', ⟨Nat.le_refl _⟩, ⟨by repeat (first | (with_reducible first | exact HI0.out | apply IsS75.alloc | apply IsS75.drewN | apply IsS75.drew | apply IsS75.set_1 | apply IsS75.set_2) | exact HI0.out)⟩, ⟨by repeat (first | (with_reducible first | exact HK.out | apply KeepBut.set_ | apply keep_drewN | apply keep_drew | apply keep_alloc) | exact HK.out)⟩, ⟨by repeat (first | (with_reducible first | exact HB.out | apply below_alloc | apply pw_below_drewN | apply below_drew1 | refine below_set ?_ (IsS75.ge HI0.out)) | exact HB.out)⟩⟩
   case round =>
    clear H'
    (try clear c2);(try clear p2);(try clear c3);(try clear c7);(try clear c7b0);(try clear hcz11_0);(try clear hcz11_1);(try clear hcz11_2);(try clear hcz13_0);(try clear hcz13_1);(try clear hcz13_2);(try clear hcz4_0);(try clear hcz4_1);(try clear hcz4_2);(try clear hcz8_0);(try clear hcz8_1);(try clear hcz8_2);(try clear hfz11_1);(try clear hfz11_2);(try clear hfz13_1);(try clear hfz13_2);(try clear hfz4_1);(try clear hfz4_2);(try clear hfz8_1);(try clear hfz8_2)
    obtain ⟨x5_1, x24_1, x1001_1, rfl, rfl, HA, HK1, HI0, HK, HB⟩ := hrel
    cases gk with
    | zero => exact absurd HA.out (by simp [bits_Reader_Take.l0])
    | succ k1 =>
     have H := HA.out
     clear HA
     simp only [bits_Reader_Take.l0] at H
     by_cases c17 : x24_1 < t143
     ·rw [if_pos c17] at H
      have c17b0 : decide (x24_1 < t143) = true := decide_eq_true c17
      clear c17
      obtain ⟨ji18, hji18⟩ : ∃ j_ : Int, (wrap64 (Int.tdiv x1001_1 8)) = j_ := ⟨_, rfl⟩
      replace H : (if 0 ≤ (ji18) then (if (ji18) < (s0_0.length : Int) then (if 0 ≤ (wrap64 (7 - (Int.tmod x1001_1 8))) then (bits_Reader_Take.l0 k1 (Go.bits .or .u64 (IntKind.u64.wrap (x5_1 * 2)) (IntKind.u64.wrap (Go.bits .and .u8 (shr .u8 (rd s0_0 (ji18)) (wrap64 (7 - (Int.tmod x1001_1 8)))) 1))) t143 (wrap64 (x24_1 + 1)) s0_0 (wrap64 (x1001_1 + 1)) t146) else (none)) else (none)) else (none)) = some (r1, r2, r3) := by first | (rw [hji18] at H; exact H) | (simp only [hji18] at H ⊢; exact H)
      have hji18w : (IntKind.i64.wrap (Int.tdiv x1001_1 8)) = ji18 := (i64_w _).trans hji18
      by_cases c19 : 0 ≤ (ji18)
      ·rw [if_pos c19] at H
       have c19b0 : decide (0 ≤ (ji18)) = true := decide_eq_true c19
       clear c19
       by_cases c20 : (ji18) < (s0_0.length : Int)
       ·rw [if_pos c20] at H
        have c20b0 : decide ((ji18) < (s0_0.length : Int)) = true := decide_eq_true c20
        clear c20
        obtain ⟨ji21, hji21⟩ : ∃ j_ : Int, (wrap64 (7 - (Int.tmod x1001_1 8))) = j_ := ⟨_, rfl⟩
        replace H : (if 0 ≤ (ji21) then (bits_Reader_Take.l0 k1 (Go.bits .or .u64 (IntKind.u64.wrap (x5_1 * 2)) (IntKind.u64.wrap (Go.bits .and .u8 (shr .u8 (rd s0_0 (ji18)) (ji21)) 1))) t143 (wrap64 (x24_1 + 1)) s0_0 (wrap64 (x1001_1 + 1)) t146) else (none)) = some (r1, r2, r3) := by first | (rw [hji21] at H; exact H) | (simp only [hji21] at H ⊢; exact H)
        have hji21w : (IntKind.i64.wrap (7 - (Int.tmod x1001_1 8))) = ji21 := (i64_w _).trans hji21
        by_cases c22 : 0 ≤ (ji21)
        ·rw [if_pos c22] at H
         have c22b0 := eq_true c22
         have c22b1 : decide (0 ≤ (ji21)) = true := decide_eq_true c22
         clear c22
         obtain ⟨ji23, hji23⟩ : ∃ j_ : Int, (shr .u8 (rd s0_0 (ji18)) (ji21)) = j_ := ⟨_, rfl⟩
         replace H : (bits_Reader_Take.l0 k1 (Go.bits .or .u64 (IntKind.u64.wrap (x5_1 * 2)) (IntKind.u64.wrap (Go.bits .and .u8 (ji23) 1))) t143 (wrap64 (x24_1 + 1)) s0_0 (wrap64 (x1001_1 + 1)) t146) = some (r1, r2, r3) := by first | (rw [hji23] at H; exact H) | (simp only [hji23] at H ⊢; exact H)
         have hji23_ : ((rd s0_0 (ji18)) / 2 ^ min (ji21).toNat 8) = ji23 := hji23
         have hji23z : (ji21) ≤ 8 → ((rd s0_0 (ji18)) / 2 ^ (ji21).toNat) = ji23 := shr_small hji23
         have H' := Aside0.mk H
         clear H
         obtain ⟨ASz24_0, cSz24_0, HGz24, hgz24, HSz24_0⟩ := HI0.out
         have hcz24_0 := cellS75_0 HGz24
         have hcz24_1 := cellS75_1 HGz24
         have hcz24_2 := cellS75_2 HGz24
         have hfz24_1 := blk_frozen HGz24 1
         have hfz24_2 := blk_frozen HGz24 2
         clear HGz24 hgz24
         have p148 : 0 ≤ ((ji18) : Int) := of_decide_eq_true (by first | (with_reducible assumption) | assumption)
         have q148 : (ji18) < (s0_0.length : Int) := of_decide_eq_true (by first | (with_reducible assumption) | assumption)
         obtain ⟨ad148, e148, hx148_0⟩ := Kd.at_int HSz24_0 (ji18) p148 q148
         cases e148
         replace hx148_0 := pw_cell_below HB.out hx148_0
         replace p148 := eq_true p148
         replace q148 := eq_true q148
         go_wp2
         repeat (go_quiet (fail); try go_wp2)
         go_roundg k1
         case measure => have := HK1.out; omega
         case rel => exact ⟨(Go.bits .or .u64 (IntKind.u64.wrap (x5_1 * 2)) (IntKind.u64.wrap (Go.bits .and .u8 (ji23) 1))), (wrap64 (x24_1 + 1)), (wrap64 (x1001_1 + 1)), (by first | rfl | (simp; done) | (simp only [← hji23] <;> (first | rfl | simp)) | (simp [*]; done)), (by first | rfl | (simp; done) | (simp [*]; done)), H', ⟨by have := HK1.out; omega⟩, ⟨by repeat (first | (with_reducible first | exact HI0.out | apply IsS75.alloc | apply IsS75.drewN | apply IsS75.drew | apply IsS75.set_1 | apply IsS75.set_2) | exact HI0.out)⟩, ⟨by repeat (first | (with_reducible first | exact HK.out | apply KeepBut.set_ | apply keep_drewN | apply keep_drew | apply keep_alloc) | exact HK.out)⟩, ⟨by repeat (first | (with_reducible first | exact HB.out | apply below_alloc | apply pw_below_drewN | apply below_drew1 | refine below_set ?_ (IsS75.ge HI0.out)) | exact HB.out)⟩⟩
        ·rw [if_neg c22] at H
         exact absurd H (by simp)
       ·rw [if_neg c20] at H
        exact absurd H (by simp)
      ·rw [if_neg c19] at H
       exact absurd H (by simp)
     ·rw [if_neg c17] at H
      have c17b0 : decide (x24_1 < t143) = false := decide_eq_false c17
      clear c17
      simp only [Option.some.injEq, Prod.mk.injEq] at H
      obtain ⟨rfl, rfl, rfl⟩ := H
      go_wp2
      repeat (go_quiet (fail); try go_wp2)
      go_ret
      exact ⟨by first | rfl | (simp [errW_none, errW_some] <;> rfl) | (simp [*, errW_none, errW_some] <;> rfl), by repeat (first | (with_reducible first | exact HI0.out | apply IsS75.alloc | apply IsS75.drewN | apply IsS75.drew | apply IsS75.set_1 | apply IsS75.set_2) | exact HI0.out), by repeat (first | (with_reducible first | exact HB.out | apply below_alloc | apply pw_below_drewN | apply below_drew1 | refine below_set ?_ (IsS75.ge HI0.out)) | exact HB.out), by repeat (first | (with_reducible first | exact HK.out | apply KeepBut.set_ | apply keep_drewN | apply keep_drew | apply keep_alloc) | exact HK.out)⟩


/-! ### bits_Reader_Bad: function 30 -/
def bits_Reader_Bad.f (s0_0 : List Int) (s0_1 : Int) (s0_2 : Bool) : Option (Bool × Int × Bool) := some (s0_2, s0_1, s0_2)
set_option maxHeartbeats 8000000 in
set_option maxRecDepth 100000 in
theorem bits_Reader_Bad.calls (g : Nat) (s0_0 : List Int) (s0_1 : Int) (s0_2 : Bool) (r1 : Bool) (r2 : Int) (r3 : Bool) (w0 w : World) (hI : IsS75 w0 w g s0_0 s0_1 s0_2) (hB : Below w0.heap.size w0 w) (h : bits_Reader_Bad.f s0_0 s0_1 s0_2 = some (r1, r2, r3)) :
  Calls Tryd.prog 30 #[.pointer (some ⟨g, 0, none⟩)] w fun e w' => e = .returned (.bool r1) ∧ IsS75 w0 w' g s0_0 r2 r3 ∧ Below w0.heap.size w0 w' ∧ KeepBut w w' g none := by
 have HI0 := Aside0.mk hI
 have HK := Aside0.mk (KeepBut.refl w g none)
 have HL := Aside0.mk hB.size
 clear hI
 have HW0 := Aside0.mk hB.size
 have HB := Aside0.mk hB
 clear hB
 have H : (some (s0_2, s0_1, s0_2)) = some (r1, r2, r3) := h
 clear h
 simp only [Option.some.injEq, Prod.mk.injEq] at H
 obtain ⟨rfl, rfl, rfl⟩ := H
 obtain ⟨ASz2_0, cSz2_0, HGz2, hgz2, HSz2_0⟩ := HI0.out
 have hcz2_0 := cellS75_0 HGz2
 have hcz2_1 := cellS75_1 HGz2
 have hcz2_2 := cellS75_2 HGz2
 have hfz2_1 := blk_frozen HGz2 1
 have hfz2_2 := blk_frozen HGz2 2
 clear HGz2 hgz2
 go_enter Tryd.func30, Tryd.ntmps30
 go_wp2
 go_ret
 exact ⟨by first | rfl | (simp [errW_none, errW_some] <;> rfl) | (simp [*, errW_none, errW_some] <;> rfl), by repeat (first | (with_reducible first | exact HI0.out | apply IsS75.alloc | apply IsS75.drewN | apply IsS75.drew | apply IsS75.set_1 | apply IsS75.set_2) | exact HI0.out), by repeat (first | (with_reducible first | exact HB.out | apply below_alloc | apply pw_below_drewN | apply below_drew1 | refine below_set ?_ (IsS75.ge HI0.out)) | exact HB.out), by repeat (first | (with_reducible first | exact HK.out | apply KeepBut.set_ | apply keep_drewN | apply keep_drew | apply keep_alloc) | exact HK.out)⟩

end Go.Proofs.YtmlbppfcpejlpaaDoor.X

/- The walks of layer 4: a writer's bytes, and a new reader. No conditions. -/
namespace Go.Proofs.YtmlbppfcpejlpaaDoor.W04
open Go Go.RowKit Go.Proofs.YtmlbppfcpejlpaaDoorW.PrintWords Go.Proofs.YtmlbppfcpejlpaaDoorW.PrintLast Go.Proofs.YtmlbppfcpejlpaaDoorW.PrintMore Go.Proofs.YtmlbppfcpejlpaaDoor.S Go.Proofs.YtmlbppfcpejlpaaDoor.B Go.Proofs.YtmlbppfcpejlpaaDoor.X
attribute [local go_sem] max2_int min2_int max_two min_two max_three min_three max_four min_four
set_option linter.unusedVariables false
set_option linter.unusedSimpArgs false

theorem packB_small {l : List Int} (h : l.length < 1000000000000) : bytes_Clone.f (packB l) = some (packB l) := by
 unfold bytes_Clone.f
 rw [if_pos (by rw [packB_len]; omega)]

def Gives (B : Nat) (xs : List Int) (w : World) (e : Ending) (w' : World) : Prop :=
 ∃ v0 : Value, e = .returned v0 ∧ Kd.R (Kd.int .u8) 5 w' B (fun _ => True) v0 xs ∧ Below w.heap.size w w'
set_option maxHeartbeats 4000000 in
theorem bytes_calls (g : Nat) (v : Value) (l : List Int) (w0 w : World) (hI : WAt w0 w g v l) (hl : l.length < 1000000000000) :
  Calls Tryd.prog 24 #[.pointer (some ⟨g, 0, none⟩)] w (Gives w.heap.size (packB l) w) := by
 obtain ⟨A, c, rfl, hc, hr⟩ := Kd.R_reads hI.2.2.1
 have hc0 := hI.cell0
 have HC := Aside0.mk hc
 have HR := Aside0.mk hr
 have HP := Aside0.mk (packB_small hl)
 clear hI hc hr hl
 go_enter Tryd.func24, Tryd.ntmps24
 go_wp2_with (go_at_call 38; (with_reducible refine (bytes_Clone.calls _ _ (packB l) (packB l) _ HR.out HC.out HP.out).mono ?_); rintro e w1 ⟨v0, rfl, hR, hB⟩; have HRR := Aside0.mk hR; have HBB := Aside0.mk hB; clear hR hB)
 go_ret
 exact ⟨_, rfl, HRR.out, HBB.out⟩

/-- A new reader: its own copy of the bytes, made behind the old world and ahead of the one that is told. -/
def NewAt (l : List Int) (w : World) (e : Ending) (w' : World) : Prop :=
 ∃ (g : Nat) (w1 : World), e = .returned (.pointer (some ⟨g, 0, none⟩)) ∧ Below w.heap.size w w1 ∧ IsS75 w1 w' g l 0 false ∧ Below w1.heap.size w1 w'
set_option maxHeartbeats 4000000 in
theorem new_calls (A0 : Option Addr) (c0 : Nat) (l : List Int) (w : World) (hr0 : Kd.C (Kd.int .u8) w A0 l.length l) (hc0 : l.length ≤ c0) (hl : l.length < 140737488355328) :
  Calls Tryd.prog 27 #[.slice A0 l.length c0] w (NewAt l w) := by
 have HR := Aside0.mk hr0
 have HC := Aside0.mk hc0
 have HP : Aside0 (bytes_Clone.f l = some l) := ⟨by unfold bytes_Clone.f; rw [if_pos hl]⟩
 clear hr0 hc0 hl
 go_enter Tryd.func27, Tryd.ntmps27
 go_wp2_with (go_at_call 38; (with_reducible refine (bytes_Clone.calls _ _ l l _ HR.out HC.out HP.out).mono ?_); rintro e w1 ⟨v0, rfl, hR, hB⟩; obtain ⟨A1, c1, rfl, hc1, hr1⟩ := Kd.R_reads hR; have HRR := Aside0.mk hr1; have HBB := Aside0.mk hB; clear hR hB hc1 hr1)
 go_ret
 exact ⟨_, w1, rfl, HBB.out, IsS75.new w1 w1 A1 c1 l 0 false (Below.refl _ _) HRR.out, (Below.refl _ _).alloc (Nat.le_refl _) _⟩
end Go.Proofs.YtmlbppfcpejlpaaDoor.W04

/- What the least, the greatest number and a number's count of bits are. No conditions. -/
namespace Go.Proofs.YtmlbppfcpejlpaaDoor.Q06
open Go Go.RowKit Go.Proofs.YtmlbppfcpejlpaaDoorW.PrintWords Go.Proofs.YtmlbppfcpejlpaaDoorW.PrintMore Go.Proofs.YtmlbppfcpejlpaaDoor.S Go.Proofs.YtmlbppfcpejlpaaDoor.B Go.Proofs.YtmlbppfcpejlpaaDoor.X
set_option linter.unusedVariables false
set_option linter.unusedSimpArgs false

def minL (l : List Int) : Int := (l.drop 1).foldl mn (rd l 0)
def maxL (l : List Int) : Int := (l.drop 1).foldl mx (rd l 0)
theorem succ64 {i : Nat} (h : i < 10000000000000) : wrap64 ((i : Int) + 1) = ((i + 1 : Nat) : Int) := by rw [wrap64_id] <;> omega
theorem min_l0 {l : List Int} (hl : l.length < 1000000000000) (d : Nat) : ∀ (i k : Nat) (m : Int), i + d = l.length → d < k → slices_Min_uint64_uint64.l0 k l m (i : Int) = some ((l.drop i).foldl mn m) := by
 induction d with
 | zero =>
  intro i k m hd hk
  obtain ⟨k, rfl⟩ : ∃ q, k = q + 1 := ⟨k - 1, by omega⟩
  simp only [slices_Min_uint64_uint64.l0]
  rw [if_neg (by omega), List.drop_eq_nil_of_le (by omega)]; rfl
 | succ d ih =>
  intro i k m hd hk
  obtain ⟨k, rfl⟩ : ∃ q, k = q + 1 := ⟨k - 1, by omega⟩
  have hlt : i < l.length := by omega
  simp only [slices_Min_uint64_uint64.l0]
  rw [if_pos (by omega), if_pos (by omega), rd_get hlt, succ64 (by omega), ih (i + 1) k _ (by omega) (by omega), List.drop_eq_getElem_cons hlt]
  rfl
theorem max_l0 {l : List Int} (hl : l.length < 1000000000000) (d : Nat) : ∀ (i k : Nat) (m : Int), i + d = l.length → d < k → slices_Max_uint64_uint64.l0 k l m (i : Int) = some ((l.drop i).foldl mx m) := by
 induction d with
 | zero =>
  intro i k m hd hk
  obtain ⟨k, rfl⟩ : ∃ q, k = q + 1 := ⟨k - 1, by omega⟩
  simp only [slices_Max_uint64_uint64.l0]
  rw [if_neg (by omega), List.drop_eq_nil_of_le (by omega)]; rfl
 | succ d ih =>
  intro i k m hd hk
  obtain ⟨k, rfl⟩ : ∃ q, k = q + 1 := ⟨k - 1, by omega⟩
  have hlt : i < l.length := by omega
  simp only [slices_Max_uint64_uint64.l0]
  rw [if_pos (by omega), if_pos (by omega), rd_get hlt, succ64 (by omega), ih (i + 1) k _ (by omega) (by omega), List.drop_eq_getElem_cons hlt]
  rfl
theorem min_spec {k : Nat} {l : List Int} (h0 : 0 < l.length) (hl : l.length < 1000000000000) (hk : l.length < k) : slices_Min_uint64_uint64.f k l = some (minL l) := by
 unfold slices_Min_uint64_uint64.f
 rw [if_neg (by omega), if_pos (by omega)]
 exact min_l0 hl (l.length - 1) 1 k _ (by omega) (by omega)
theorem max_spec {k : Nat} {l : List Int} (h0 : 0 < l.length) (hl : l.length < 1000000000000) (hk : l.length < k) : slices_Max_uint64_uint64.f k l = some (maxL l) := by
 unfold slices_Max_uint64_uint64.f
 rw [if_neg (by omega), if_pos (by omega)]
 exact max_l0 hl (l.length - 1) 1 k _ (by omega) (by omega)
theorem mn_fold (l : List Int) : ∀ m : Int, l.foldl mn m ≤ m ∧ (∀ x ∈ l, l.foldl mn m ≤ x) ∧ (l.foldl mn m = m ∨ l.foldl mn m ∈ l) := by
 induction l with
 | nil => intro m; simp
 | cons a l ih =>
  intro m
  obtain ⟨h1, h2, h3⟩ := ih (mn m a)
  have hmn : mn m a ≤ m ∧ mn m a ≤ a ∧ (mn m a = m ∨ mn m a = a) := by unfold mn; split <;> omega
  rw [List.foldl_cons]
  refine ⟨by omega, ?_, ?_⟩
  ·intro x hx
   rcases List.mem_cons.1 hx with rfl | hx
   ·omega
   ·exact h2 x hx
  ·rcases h3 with h3 | h3
   ·rcases hmn.2.2 with h | h
    ·exact .inl (h3.trans h)
    ·exact .inr (by rw [h3, h]; exact List.mem_cons_self)
   ·exact .inr (List.mem_cons_of_mem _ h3)
theorem mx_fold (l : List Int) : ∀ m : Int, m ≤ l.foldl mx m ∧ (∀ x ∈ l, x ≤ l.foldl mx m) ∧ (l.foldl mx m = m ∨ l.foldl mx m ∈ l) := by
 induction l with
 | nil => intro m; simp
 | cons a l ih =>
  intro m
  obtain ⟨h1, h2, h3⟩ := ih (mx m a)
  have hmx : m ≤ mx m a ∧ a ≤ mx m a ∧ (mx m a = m ∨ mx m a = a) := by unfold mx; split <;> omega
  rw [List.foldl_cons]
  refine ⟨by omega, ?_, ?_⟩
  ·intro x hx
   rcases List.mem_cons.1 hx with rfl | hx
   ·omega
   ·exact h2 x hx
  ·rcases h3 with h3 | h3
   ·rcases hmx.2.2 with h | h
    ·exact .inl (h3.trans h)
    ·exact .inr (by rw [h3, h]; exact List.mem_cons_self)
   ·exact .inr (List.mem_cons_of_mem _ h3)
theorem min_facts {l : List Int} (h0 : 0 < l.length) : minL l ∈ l ∧ ∀ x ∈ l, minL l ≤ x := by
 obtain ⟨a, t, rfl⟩ : ∃ a t, l = a :: t := by cases l with | nil => simp at h0 | cons a t => exact ⟨a, t, rfl⟩
 obtain ⟨h1, h2, h3⟩ := mn_fold t a
 refine ⟨?_, ?_⟩
 ·rcases h3 with h3 | h3
  ·show t.foldl mn a ∈ _; rw [h3]; exact List.mem_cons_self
  ·exact List.mem_cons_of_mem _ h3
 ·intro x hx
  rcases List.mem_cons.1 hx with rfl | hx
  ·exact h1
  ·exact h2 x hx
theorem max_facts {l : List Int} (h0 : 0 < l.length) : maxL l ∈ l ∧ ∀ x ∈ l, x ≤ maxL l := by
 obtain ⟨a, t, rfl⟩ : ∃ a t, l = a :: t := by cases l with | nil => simp at h0 | cons a t => exact ⟨a, t, rfl⟩
 obtain ⟨h1, h2, h3⟩ := mx_fold t a
 refine ⟨?_, ?_⟩
 ·rcases h3 with h3 | h3
  ·show t.foldl mx a ∈ _; rw [h3]; exact List.mem_cons_self
  ·exact List.mem_cons_of_mem _ h3
 ·intro x hx
  rcases List.mem_cons.1 hx with rfl | hx
  ·exact h1
  ·exact h2 x hx

/-- How many bits a number has. -/
def wd (x : Int) : Nat := if x = 0 then 0 else x.toNat.log2 + 1
theorem wd_facts {x : Int} (h0 : 0 ≤ x) : x < 2 ^ wd x ∧ (x ≠ 0 → 2 ^ (wd x - 1) ≤ x) := by
 unfold wd
 by_cases h : x = 0
 ·subst h; simp
 ·rw [if_neg h]
  obtain ⟨n, rfl⟩ := Int.eq_ofNat_of_zero_le h0
  have hn : n ≠ 0 := by omega
  rw [Int.toNat_natCast]
  refine ⟨?_, fun _ => ?_⟩
  ·have := @Nat.lt_log2_self n; exact_mod_cast this
  ·have := Nat.log2_self_le hn; rw [Nat.add_sub_cancel]; exact_mod_cast this
theorem wd_uniq {x : Int} {w : Nat} (h0 : 0 ≤ x) (h1 : x < 2 ^ w) (h2 : w ≠ 0 → 2 ^ (w - 1) ≤ x) : wd x = w := by
 obtain ⟨k1, k2⟩ := wd_facts h0
 rcases Nat.lt_trichotomy (wd x) w with h | h | h
 ·have h3 := h2 (by omega)
  have : (2 : Int) ^ wd x ≤ 2 ^ (w - 1) := by exact_mod_cast Nat.pow_le_pow_right (by decide) (show wd x ≤ w - 1 by omega)
  omega
 ·exact h
 ·have hx : x ≠ 0 := by rintro rfl; simp [wd] at h
  have h3 := k2 hx
  have : (2 : Int) ^ w ≤ 2 ^ (wd x - 1) := by exact_mod_cast Nat.pow_le_pow_right (by decide) (show w ≤ wd x - 1 by omega)
  omega
theorem wd_le {x : Int} {w : Nat} (h0 : 0 ≤ x) (h1 : x < 2 ^ w) : wd x ≤ w := by
 obtain ⟨k1, k2⟩ := wd_facts h0
 rcases Nat.lt_or_ge w (wd x) with h | h
 ·have hx : x ≠ 0 := by rintro rfl; simp [wd] at h
  have h3 := k2 hx
  have : (2 : Int) ^ w ≤ 2 ^ (wd x - 1) := by exact_mod_cast Nat.pow_le_pow_right (by decide) (show w ≤ wd x - 1 by omega)
  omega
 ·exact h
theorem wd_shift {x : Int} (s : Nat) (h0 : 2 ^ s ≤ x) : wd x = wd (x / 2 ^ s) + s := by
 have hp : (0 : Int) < 2 ^ s := Int.pow_pos (by decide)
 have hq0 : 0 < x / 2 ^ s := Int.le_ediv_of_mul_le hp (by omega)
 obtain ⟨k1, k2⟩ := wd_facts (x := x / 2 ^ s) (by omega)
 have k2 := k2 (by omega)
 have hw : wd (x / 2 ^ s) ≠ 0 := by intro h; rw [h] at k1; simp at k1; omega
 have hd := Int.emod_add_mul_ediv x (2 ^ s)
 have hm := Int.emod_lt_of_pos x hp
 have hm0 := Int.emod_nonneg x (show (2 : Int) ^ s ≠ 0 by omega)
 refine wd_uniq (by omega) ?_ (fun _ => ?_)
 ·rw [Int.pow_add, Int.mul_comm]
  have : 2 ^ s * (x / 2 ^ s + 1) ≤ 2 ^ s * 2 ^ wd (x / 2 ^ s) := Int.mul_le_mul_of_nonneg_left (by omega) (by omega)
  rw [Int.mul_add] at this
  omega
 ·rw [show wd (x / 2 ^ s) + s - 1 = (wd (x / 2 ^ s) - 1) + s by omega, Int.pow_add, Int.mul_comm]
  have : 2 ^ s * 2 ^ (wd (x / 2 ^ s) - 1) ≤ 2 ^ s * (x / 2 ^ s) := Int.mul_le_mul_of_nonneg_left k2 (by omega)
  omega
theorem tab_ok : ∃ T : ByteArray, (∀ y : Fin 256, bt T ((y.val : Nat) : Int) = (wd ((y.val : Nat) : Int) : Int)) ∧ ∀ (k : Nat) (x0 x2 : Int), bits_Len64.j0 (k + 1) x0 x2 =
  if x0 ≥ 65536 then (if (x0 / 65536) ≥ 256 then (if 0 ≤ (((x0 / 65536) / 256) % 256) then (if (((x0 / 65536) / 256) % 256) < 256 then (some (wrap64 ((wrap64 ((wrap64 (x2 + 16)) + 8)) + (wrap64 (bt T (((x0 / 65536) / 256) % 256)))))) else (none)) else (none)) else (if 0 ≤ ((x0 / 65536) % 256) then (if ((x0 / 65536) % 256) < 256 then (some (wrap64 ((wrap64 (x2 + 16)) + (wrap64 (bt T ((x0 / 65536) % 256)))))) else (none)) else (none))) else (if x0 ≥ 256 then (if 0 ≤ ((x0 / 256) % 256) then (if ((x0 / 256) % 256) < 256 then (some (wrap64 ((wrap64 (x2 + 8)) + (wrap64 (bt T ((x0 / 256) % 256)))))) else (none)) else (none)) else (if 0 ≤ ((x0) % 256) then (if ((x0) % 256) < 256 then (some (wrap64 (x2 + (wrap64 (bt T ((x0) % 256)))))) else (none)) else (none))) := by
 refine ⟨_, ?_, fun _ _ _ => rfl⟩
 decide +kernel
theorem len64_spec {k : Nat} {x : Int} (h0 : 0 ≤ x) (h1 : x < 18446744073709551616) (hk : 0 < k) : bits_Len64.f k x = some (wd x : Int) := by
 obtain ⟨k, rfl⟩ : ∃ q, k = q + 1 := ⟨k - 1, by omega⟩
 obtain ⟨T, hT, hj⟩ := tab_ok
 have tab : ∀ y : Int, 0 ≤ y → y < 256 → bt T y = (wd y : Int) := fun y y0 y1 => by
  have := hT ⟨y.toNat, by omega⟩
  simpa [Int.toNat_of_nonneg y0] using this
 have w8 : ∀ y : Int, 0 ≤ y → y < 256 → wd y ≤ 8 := fun y y0 y1 => wd_le y0 (by omega)
 have key : ∀ (y c : Int), 0 ≤ y → y < 4294967296 → 0 ≤ c → c ≤ 32 → bits_Len64.j0 (k + 1) y c = some (c + (wd y : Int)) := by
  intro y c y0 y1 c0 c1
  rw [hj]
  by_cases ha : y ≥ 65536
  ·rw [if_pos ha]
   have s1 := wd_shift (x := y) 16 (by omega)
   rw [show (2 : Int) ^ 16 = 65536 by decide] at s1
   by_cases hb : y / 65536 ≥ 256
   ·have s2 := wd_shift (x := y / 65536) 8 (by omega)
    rw [show (2 : Int) ^ 8 = 256 by decide] at s2
    have := w8 (y / 65536 / 256) (by omega) (by omega)
    rw [if_pos hb, if_pos (by omega), if_pos (by omega), show y / 65536 / 256 % 256 = y / 65536 / 256 by omega, tab _ (by omega) (by omega)]
    simp only [wrap64_eq]
    congr 1
    omega
   ·have := w8 (y / 65536) (by omega) (by omega)
    rw [if_neg hb, if_pos (by omega), if_pos (by omega), show y / 65536 % 256 = y / 65536 by omega, tab _ (by omega) (by omega)]
    simp only [wrap64_eq]
    congr 1
    omega
  ·rw [if_neg ha]
   by_cases hb : y ≥ 256
   ·have s2 := wd_shift (x := y) 8 (by omega)
    rw [show (2 : Int) ^ 8 = 256 by decide] at s2
    have := w8 (y / 256) (by omega) (by omega)
    rw [if_pos hb, if_pos (by omega), if_pos (by omega), show y / 256 % 256 = y / 256 by omega, tab _ (by omega) (by omega)]
    simp only [wrap64_eq]
    congr 1
    omega
   ·have := w8 y (by omega) (by omega)
    rw [if_neg hb, if_pos (by omega), if_pos (by omega), show y % 256 = y by omega, tab _ (by omega) (by omega)]
    simp only [wrap64_eq]
    congr 1
    omega
 unfold bits_Len64.f
 by_cases ha : x ≥ 4294967296
 ·have s1 := wd_shift (x := x) 32 (by omega)
  rw [show (2 : Int) ^ 32 = 4294967296 by decide] at s1
  rw [if_pos ha, key _ _ (by omega) (by omega) (by omega) (by omega)]
  congr 1
  omega
 ·rw [if_neg ha, key _ _ h0 (by omega) (by omega) (by omega)]
  congr 1
  omega
end Go.Proofs.YtmlbppfcpejlpaaDoor.Q06

namespace Go.Proofs.YtmlbppfcpejlpaaDoor.X
open Go.RowKit Go.Proofs.YtmlbppfcpejlpaaDoorW.PrintWords Go.Proofs.YtmlbppfcpejlpaaDoorW.PrintLast Go.Proofs.YtmlbppfcpejlpaaDoorW.PrintMore
attribute [local go_sem] max2_int min2_int max_two min_two max_three min_three max_four min_four   -- for this text's walks alone
set_option linter.unusedVariables false
set_option linter.unusedSimpArgs false

/-! ### pack_Put: function 51 -/
open Go.Proofs.YtmlbppfcpejlpaaDoor.S Go.Proofs.YtmlbppfcpejlpaaDoor.B Go.Proofs.YtmlbppfcpejlpaaDoor.W04 Go.Proofs.YtmlbppfcpejlpaaDoor.Q06
/-- The bits that each number has. -/
def pack_Put.width (l : List Int) : Nat := wd (maxL l - minL l)
def pack_Put.body (l : List Int) : List Int := (l.map (fun n => bitsN (pack_Put.width l) (n - minL l))).flatten
def pack_Put.bits (l : List Int) : List Int := bitsN 64 (minL l) ++ bitsN 8 (pack_Put.width l : Int) ++ pack_Put.body l
def pack_Put.ok (l : List Int) : Bool := l.all (fun x => decide (0 ≤ x ∧ x < 18446744073709551616))
def pack_Put.f (l0 : List Int) : Option (List Int × Int) :=
 if 200 < l0.length then some ([], 1) else if l0.length = 0 then some ([], 0) else if pack_Put.ok l0 = true then some (packB (pack_Put.bits l0), 0) else none
theorem pack_Put.ok_us {l : List Int} (h : pack_Put.ok l = true) : Us l := by
 intro x hx
 have := List.all_eq_true.1 h x hx
 simpa using this
/-- What two results are: bytes of the call's own, and an error. -/
def pack_Put.Two (B : Nat) (xs : List Int) (n : Int) (w : World) (e : Ending) (w' : World) : Prop :=
 ∃ v0_ : Value, e = .returned (.tuple #[v0_, .int .i64 n]) ∧ Kd.R (Kd.int .u8) 5 w' B (fun _ => True) v0_ xs ∧ Below w.heap.size w w'
theorem pack_Put.new (w0 W : World) (hB : Below w0.heap.size w0 W) : WAt w0 (W.alloc (.cells #[.slice none 0 0, .int .i64 0] 54)) W.heap.size (.slice none 0 0) [] :=
 ⟨by simpa using heap_alloc_new W _, hB.size, Kd.R_nil _ _ _ _ _, Bits.nil⟩
theorem pack_Put.calls_early (A0 : Option Addr) (c0 : Nat) (l0 : List Int) (w : World) (n : Int) (hn : (200 < l0.length ∧ n = 1) ∨ (l0.length = 0 ∧ n = 0)) :
  Calls Tryd.prog 51 #[.slice A0 l0.length c0] w (pack_Put.Two w.heap.size [] n w) := by
 rcases hn with ⟨hn, rfl⟩ | ⟨hn, rfl⟩
 ·have h1 : decide (200 < (l0.length : Int)) = true := by simp; omega
  have h2 : decide (200 < l0.length) = true := by simp; omega
  clear hn
  go_enter Tryd.func51, Tryd.ntmps51
  go_wp2
  go_ret2
  exact ⟨_, rfl, Kd.R_nil _ _ _ _ _, Below.refl _ _⟩
 ·rw [hn]
  clear hn
  go_enter Tryd.func51, Tryd.ntmps51
  go_wp2
  go_ret2
  exact ⟨_, rfl, Kd.R_nil _ _ _ _ _, Below.refl _ _⟩
/-- The bits of the first i numbers. -/
def pack_Put.part (l : List Int) (lo wn : Int) (i : Nat) : List Int := bitsN 64 lo ++ bitsN 8 wn ++ ((l.take i).map (fun n => bitsN wn.toNat (n - lo))).flatten
theorem pack_Put.part_snoc (l : List Int) (lo wn : Int) (i : Nat) (h : i < l.length) : pack_Put.part l lo wn (i + 1) = pack_Put.part l lo wn i ++ bitsN wn.toNat (l[i] - lo) := by
 unfold pack_Put.part
 rw [List.take_succ_eq_append_getElem h]
 simp only [List.map_append, List.flatten_append, List.map_cons, List.map_nil, List.flatten_cons, List.flatten_nil, List.append_nil, List.append_assoc]
theorem pack_Put.flat_len (l : List Int) (lo wn : Int) : ((l.map (fun n => bitsN wn.toNat (n - lo))).flatten).length = wn.toNat * l.length := by
 induction l with
 | nil => simp
 | cons a l ih => rw [List.map_cons, List.flatten_cons, List.length_append, ih, bitsN_len, List.length_cons, Nat.mul_succ]; omega
theorem pack_Put.part_len (l : List Int) (lo wn : Int) (i : Nat) (hw : wn ≤ 64) (hl : l.length ≤ 200) : (pack_Put.part l lo wn i).length < 1000000000 := by
 unfold pack_Put.part
 rw [List.length_append, List.length_append, bitsN_len, bitsN_len, pack_Put.flat_len, List.length_take]
 have : wn.toNat * min i l.length ≤ 64 * 200 := Nat.mul_le_mul (by omega) (by omega)
 omega
def pack_Put.Rel (w : World) (g : Nat) (l0 : List Int) (lo wn : Int) (i : Nat) (wr : World) : Prop :=
 ∃ v', WAt w wr g v' (pack_Put.part l0 lo wn i) ∧ Below w.heap.size w wr
theorem cl_id {m : Int} (h0 : 0 ≤ m) (h1 : m ≤ 64) : cl m = m.toNat := by unfold cl mn mx; split <;> split <;> omega
set_option maxHeartbeats 8000000 in
set_option maxRecDepth 100000 in
theorem pack_Put.calls_main (A0 : Option Addr) (c0 : Nat) (l0 : List Int) (w : World) (hr0 : Kd.C (Kd.int .u64) w A0 l0.length l0) (hc0 : l0.length ≤ c0) (h1 : l0.length ≤ 200) (h0 : 0 < l0.length) (hu : Us l0) :
  Calls Tryd.prog 51 #[.slice A0 l0.length c0] w (pack_Put.Two w.heap.size (packB (pack_Put.bits l0)) 0 w) := by
 have HR0 := Aside0.mk hr0
 have HC0 := Aside0.mk hc0
 have HU := Aside0.mk hu
 have HMIN := Aside0.mk (min_spec (k := 201) h0 (by omega) (by omega))
 have HMAX := Aside0.mk (max_spec (k := 201) h0 (by omega) (by omega))
 have hmin := hu _ (min_facts h0).1
 have hmax := hu _ (max_facts h0).1
 have hle : minL l0 ≤ maxL l0 := (max_facts h0).2 _ (min_facts h0).1
 obtain ⟨lo, hlo⟩ : ∃ lo, lo = minL l0 := ⟨_, rfl⟩
 obtain ⟨hi, hhi⟩ : ∃ hi, hi = maxL l0 := ⟨_, rfl⟩
 obtain ⟨wn, hwn⟩ : ∃ wn : Int, wn = (wd (maxL l0 - minL l0) : Int) := ⟨_, rfl⟩
 have HLEN := Aside0.mk (len64_spec (k := 1) (x := maxL l0 - minL l0) (by omega) (by omega) (by omega))
 rw [← hlo] at HMIN hmin HLEN hle
 rw [← hhi] at HMAX hmax HLEN hle
 rw [hlo, hhi, ← hwn, ← hlo, ← hhi] at HLEN
 have hd : IntKind.u64.wrap (hi - lo) = hi - lo := wrap_u64_id (by omega) (by omega)
 have hwl : wd (maxL l0 - minL l0) ≤ 64 := by rw [← hlo, ← hhi]; exact wd_le (by omega) (by omega)
 have hwn0 : 0 ≤ wn := by omega
 have hwn1 : wn < 18446744073709551616 := by omega
 have hwn2 : IntKind.u64.wrap wn = wn := wrap_u64_id hwn0 hwn1
 clear hwl
 have t1 : decide (200 < (l0.length : Int)) = false := by simp; omega
 have t2 : decide (200 < l0.length) = false := by simp; omega
 have t3 : ((l0.length : Int) == 0) = false := by rw [beq_eq_false_iff_ne]; omega
 have HLO := Aside0.mk hlo
 have HHI := Aside0.mk hhi
 have HWN := Aside0.mk hwn
 clear hr0 hc0 hu hlo hhi hwn
 go_enter Tryd.func51, Tryd.ntmps51
 go_wp2_with (first
  | (go_at_call 61; (with_reducible refine (slices_Min_uint64_uint64.calls 201 _ _ l0 lo _ HR0.out HC0.out HMIN.out).mono ?_); rintro e w1 ⟨rfl, hb⟩; have HB1 := Aside0.mk hb; clear hb)
  | (go_at_call 62; (with_reducible refine (slices_Max_uint64_uint64.calls 201 _ _ l0 hi _ (Kd.C_below HR0.out HB1.out) HC0.out HMAX.out).mono ?_); rintro e w2 ⟨rfl, hb⟩; have HB2 := Aside0.mk (below_step HB1.out hb); clear hb HB1)
  | (go_at_call 52; (with_reducible refine (bits_Len64.calls 1 _ wn _ HLEN.out).mono ?_); rintro e w3 ⟨rfl, hdr⟩; have HB3 := Aside0.mk (below_step HB2.out (Drawn0.below hdr)); clear HB2 hdr)
  | (go_at_call 22; (with_reducible refine (put_calls w3.heap.size (.slice none 0 0) [] lo 64 w _ ?hI ?hB hmin.1 hmin.2 (by simp)).mono ?_); (case hI => exact pack_Put.new w w3 HB3.out); (case hB => exact HB3.out.alloc HB3.out.size _); rintro e w4 ⟨rfl, v4, hW, hB, hK, hV⟩; have HW4 := Aside0.mk hW; have HB4 := Aside0.mk hB; clear hW hB hK hV HB3)
  | (go_at_call 22; (with_reducible refine (put_calls w3.heap.size v4 _ wn 8 w _ HW4.out HB4.out hwn0 hwn1 (by simp [bitsN_len, cl, mn, mx])).mono ?_); rintro e w5 ⟨rfl, v5, hW, hB, hK, hV⟩; have HW5 := Aside0.mk hW; have HB5 := Aside0.mk hB; clear hW hB hK hV HW4 HB4))
 have HR : Aside0 (pack_Put.Rel w w3.heap.size l0 lo wn 0 w5) := ⟨⟨v5, by simpa [cl, mn, mx, pack_Put.part] using HW5.out, HB5.out⟩⟩
 clear HW5 HB5 HMIN HMAX HLEN
 go_loopw [31] (fun v31 wr => ∃ (i : Nat) (ii : Int), v31 = .int .i64 ii ∧ Aside0 (ii = (i : Int)) ∧ Aside0 (i ≤ l0.length) ∧ Aside0 (pack_Put.Rel w w3.heap.size l0 lo wn i wr)) (fun v31 _ => ((l0.length : Int) - intOf v31).toNat)
 case atStart => exact ⟨0, _, rfl, ⟨rfl⟩, ⟨Nat.zero_le _⟩, HR⟩
 case round =>
  clear HR
  obtain ⟨i, ii, rfl, HI, HIL, HR⟩ := hrel
  obtain ⟨v6, hW, hB⟩ := HR.out
  have HW := Aside0.mk hW
  have HB := Aside0.mk hB
  have hlb := pack_Put.part_len l0 lo wn i (by rw [HWN.out]; have : wd (maxL l0 - minL l0) ≤ 64 := wd_le (by rw [← HLO.out, ← HHI.out]; omega) (by rw [← HLO.out, ← HHI.out]; omega); omega) h1
  clear HR hW hB
  by_cases hlt : i < l0.length
  ·have hi0 : 0 ≤ ii := by have := HI.out; omega
   have hi1 : ii ≤ 200 := by have := HI.out; omega
   have hi2 : decide (ii < (l0.length : Int)) = true := by have := HI.out; simp; omega
   have hi3 : (ii < (l0.length : Int)) = True := eq_true (by have := HI.out; omega)
   have hi4 : (0 ≤ ii) = True := eq_true hi0
   have hel := HU.out _ (List.getElem_mem hlt)
   have hge : lo ≤ l0[i] := by rw [HLO.out]; exact (min_facts h0).2 _ (List.getElem_mem hlt)
   obtain ⟨ad, e, hx⟩ := Kd.at_int (Kd.C_below HR0.out HB.out) ii hi0 (by have := HI.out; omega)
   have hrd : rd l0 ii = l0[i] := by rw [HI.out, rd_get hlt]
   rw [hrd] at hx
   obtain ⟨xv, hxv⟩ : ∃ xv, xv = l0[i] := ⟨_, rfl⟩
   rw [← hxv] at hx hge hel
   have hsub : IntKind.u64.wrap (xv - lo) = xv - lo := wrap_u64_id (by omega) (by omega)
   have hs0 : 0 ≤ xv - lo := by omega
   have hs1 : xv - lo < 18446744073709551616 := by omega
   have HXV := Aside0.mk hxv
   clear hrd hxv
   cases e
   go_wp2_with (go_at_call 22; (with_reducible refine (put_calls w3.heap.size v6 _ (xv - lo) wn w _ HW.out HB.out hs0 hs1 hlb).mono ?_); rintro e w7 ⟨rfl, v7, hW, hB, hK, hV⟩; have HW7 := Aside0.mk hW; have HB7 := Aside0.mk hB; clear hW hB hK hV HW HB)
   go_roundw
   case rel => exact ⟨i + 1, _, rfl, ⟨by have := HI.out; omega⟩, ⟨hlt⟩, ⟨v7, by
    have := HW7.out
    rw [cl_id hwn0 (by rw [HWN.out]; have : wd (maxL l0 - minL l0) ≤ 64 := wd_le (by rw [← HLO.out, ← HHI.out]; omega) (by rw [← HLO.out, ← HHI.out]; omega); omega), HXV.out] at this
    rw [pack_Put.part_snoc l0 lo wn i hlt]
    exact this, HB7.out⟩⟩
   case measure => simp [intOf]; have := HI.out; omega
  ·have hi2 : decide (ii < (l0.length : Int)) = false := by have := HI.out; simp; omega
   have hil : i = l0.length := by have := HIL.out; omega
   have HIL2 := Aside0.mk hil
   clear hil
   have hlb2 : (pack_Put.part l0 lo wn i).length < 1000000000000 := by omega
   go_wp2_with (go_at_call 24; (with_reducible refine (bytes_calls w3.heap.size v6 _ w _ HW.out hlb2).mono ?_); rintro e w7 ⟨v0, rfl, hR, hB⟩; have HR7 := Aside0.mk hR; have HB7 := Aside0.mk hB; clear hR hB)
   go_ret2
   refine ⟨v0, rfl, ?_, below_step HB.out HB7.out⟩
   have e : pack_Put.part l0 lo wn i = pack_Put.bits l0 := by
    rw [HIL2.out, HWN.out, HLO.out]
    simp [pack_Put.part, pack_Put.bits, pack_Put.body, pack_Put.width]
   rw [← e]
   exact Kd.R_lower HR7.out HB.out.size
theorem pack_Put.calls (A0 : Option Addr) (c0 : Nat) (l0 : List Int) (r1 : List Int) (r2 : Int) (w : World) (hr0 : Kd.C (Kd.int .u64) w A0 l0.length l0) (hc0 : l0.length ≤ c0) (h : pack_Put.f l0 = some (r1, r2)) :
  Calls Tryd.prog 51 #[.slice A0 l0.length c0] w fun e w' => ∃ v0_ : Value, e = .returned (.tuple #[v0_, .int .i64 r2]) ∧ Kd.R (Kd.int .u8) 5 w' w.heap.size (fun _ => True) v0_ r1 ∧ Below w.heap.size w w' := by
 unfold pack_Put.f at h
 by_cases h1 : 200 < l0.length
 ·rw [if_pos h1] at h; injection h with h; injection h with e1 e2; subst e1; subst e2
  exact pack_Put.calls_early A0 c0 l0 w 1 (.inl ⟨h1, rfl⟩)
 ·rw [if_neg h1] at h
  by_cases h2 : l0.length = 0
  ·rw [if_pos h2] at h; injection h with h; injection h with e1 e2; subst e1; subst e2
   exact pack_Put.calls_early A0 c0 l0 w 0 (.inr ⟨h2, rfl⟩)
  ·rw [if_neg h2] at h
   by_cases h3 : pack_Put.ok l0 = true
   ·rw [if_pos h3] at h; injection h with h; injection h with e1 e2; subst e1; subst e2
    exact pack_Put.calls_main A0 c0 l0 w hr0 hc0 (by omega) (by omega) (pack_Put.ok_us h3)
   ·rw [if_neg h3] at h; cases h

end Go.Proofs.YtmlbppfcpejlpaaDoor.X

namespace Go.Proofs.YtmlbppfcpejlpaaDoor.X
open Go.RowKit Go.Proofs.YtmlbppfcpejlpaaDoorW.PrintWords Go.Proofs.YtmlbppfcpejlpaaDoorW.PrintLast Go.Proofs.YtmlbppfcpejlpaaDoorW.PrintMore
attribute [local go_sem] max2_int min2_int max_two min_two max_three min_three max_four min_four   -- for this text's walks alone
set_option linter.unusedVariables false
set_option linter.unusedSimpArgs false

/-! ### varint_Put: function 47 -/
def varint_Put.l0 : Nat → Int → List Int → Option (List Int)
 | 0, _, _ => none
 | k + 1, x1, x5 => if x1 ≥ 128 then (if x5.length < 140737488355328 then (varint_Put.l0 k (x1 / 128) (x5 ++ [Go.bits .or .u8 ((x1) % 256) 128])) else (none)) else (if x5.length < 140737488355328 then (some (x5 ++ [(x1) % 256])) else (none))
def varint_Put.f (k : Nat) (l0 : List Int) (a1 : Int) : Option (List Int) := (bytes_Clone.f l0).bind fun t295 => (varint_Put.l0 k a1 t295)
theorem varint_Put.mono_l : ∀ k, (∀ y0 y1, LeO (varint_Put.l0 k y0 y1) (varint_Put.l0 (k + 1) y0 y1))
 | 0 => fun _ _ r h => by simp [varint_Put.l0] at h
 | k + 1 => by
  have ih0 := varint_Put.mono_l k
  ·intro y0 y1
   unfold varint_Put.l0
   repeat' first
   | (with_reducible exact ih0 _ _)
   | (with_reducible exact LeO.refl _)
   | (with_reducible exact LeO.none _)
   | (with_reducible refine LeO.ite ?_ ?_)
   | (with_reducible refine LeO.bind ?_ (fun _ => ?_))
   | exact ih0 _ _
   | exact LeO.none _
   | refine LeO.ite ?_ ?_
   | refine LeO.bind ?_ (fun _ => ?_)
theorem varint_Put.mono : ∀ a0 a1 k, LeO (varint_Put.f k a0 a1) (varint_Put.f (k + 1) a0 a1) := by
 intro a0 a1 k
 have ih0 := varint_Put.mono_l k
 unfold varint_Put.f
 repeat' first
   | (with_reducible exact ih0 _ _)
   | (with_reducible exact LeO.refl _)
   | (with_reducible exact LeO.none _)
   | (with_reducible refine LeO.ite ?_ ?_)
   | (with_reducible refine LeO.bind ?_ (fun _ => ?_))
   | exact ih0 _ _
   | exact LeO.none _
   | refine LeO.ite ?_ ?_
   | refine LeO.bind ?_ (fun _ => ?_)
set_option maxHeartbeats 8000000 in
set_option maxRecDepth 100000 in
theorem varint_Put.calls (k : Nat) (A0 : Option Addr) (c0 : Nat) (l0 : List Int) (a1 : Int) (r : List Int) (w : World) (hr0 : Kd.C (Kd.int .u8) w A0 l0.length l0) (hc0 : l0.length ≤ c0) (h : varint_Put.f k l0 a1 = some r) :
  Calls Tryd.prog 47 #[.slice A0 l0.length c0, .int .u64 a1] w fun e w' => ∃ v0_ : Value, e = .returned (v0_) ∧ Kd.R (Kd.int .u8) 5 w' w.heap.size (fun _ => True) v0_ r ∧ Below w.heap.size w w' := by
 have HR0 := Aside0.mk hr0
 have HC0 := Aside0.mk hc0
 clear hr0 hc0
 have HB := Aside0.mk (Below.refl w.heap.size w)
 have H : ((bytes_Clone.f l0).bind fun t295 => (varint_Put.l0 k a1 t295)) = some r := h
 clear h
 replace H := Option.bind_eq_some_iff.mp H
 obtain ⟨t295, A30, H⟩ := H
 replace H : (varint_Put.l0 k a1 t295) = some r := H
 have A3 := Aside0.mk A30
 clear A30
 have H' := Aside0.mk H
 clear H
 go_enter Tryd.func47, Tryd.ntmps47
 go_wp2_with (first | ((with_reducible refine gate_callee (f := 38) rfl ?_); refine goesL_ (some 7) rfl rfl Tryd.func38 (by kernel_rfl) rfl #[.slice A0 l0.length c0] rfl (by (try simp only [List.map_toArray, List.map_cons, List.map_nil]); first | done | rfl | (simp only [List.length_drop, List.length_take]; rfl)) ?_; (with_reducible refine (bytes_Clone.calls _ _ l0 t295 _ ?side1 ?side2 A3.out).mono ?_); (case side1 => exact cC HR0.out); (case side2 => exact HC0.out); rintro e w4 ⟨v296, rfl, ho0, hb⟩; refine ⟨_, rfl, ?_⟩; have n0_ := Aside0.mk (Kd.R_lower ho0 (below_size bB)); have n1_ := Aside0.mk (below_step bB hb); clear HB; have HO297 := n0_; have HB := n1_; clear n0_ n1_; (try clear hb ho0)))
 go_loopg [1, 5] k (fun kq v1 v5 w' => ∃ (x1_1 : Int) (x5_1 : List Int), v1 = .int .u64 x1_1 ∧ Aside0 (varint_Put.l0 kq x1_1 x5_1 = some r) ∧ Aside0 (kq ≤ k) ∧ Aside0 (Kd.R (Kd.int .u8) 5 w' w.heap.size (fun _ => True) v5 x5_1) ∧ Aside0 (Below w.heap.size w w'))
 case atStart => exact ⟨(a1), (t295), (by first | rfl | (simp; done) | (simp [*]; done)), H', ⟨Nat.le_refl _⟩, ⟨rR HO297.out⟩, ⟨bB⟩⟩
 case round =>
  clear H'
  (try clear p2);(try clear c3);(try clear c4)
  obtain ⟨x1_1, x5_1, rfl, HA, HK1, HO_5, HB⟩ := hrel
  cases gk with
  | zero => exact absurd HA.out (by simp [varint_Put.l0])
  | succ k1 =>
   have H := HA.out
   clear HA
   simp only [varint_Put.l0] at H
   by_cases c5 : x1_1 ≥ 128
   ·rw [if_pos c5] at H
    have c5b0 : decide (128 ≤ x1_1) = true := decide_eq_true c5
    clear c5
    by_cases c6 : x5_1.length < 140737488355328
    ·rw [if_pos c6] at H
     have LMc6 := Aside0.mk c6
     clear c6
     obtain ⟨y298, hy298⟩ : ∃ y_ : List Int, y_ = (x5_1 ++ [Go.bits .or .u8 ((x1_1) % 256) 128]) := ⟨_, rfl⟩
     replace H : (varint_Put.l0 k1 (x1_1 / 128) y298) = some r := by first | (rw [hy298]; with_reducible exact H) | (have H2_ := (Option.bind_some _ _).symm.trans H; rw [hy298]; with_reducible exact H2_) | (have H2_ := (Option.bind_some _ _).symm.trans H; with_reducible exact H2_) | with_reducible exact H | (rw [hy298]; exact H) | exact H
     have Ny298 := Aside0.mk hy298
     clear hy298
     have H' := Aside0.mk H
     clear H
     go_wp2_with (first | ((with_reducible refine gate_builtin (b := .append) (xs := #[.tmp 12, .tmp 16]) rfl ?_); at_builtin; refine Kd.R_append (Kd.int .u8) (w0 := w) w.heap.size rfl (.tmp 12) (.tmp 16) 23 5 (.int .u8 0) 1 rfl Tryd.underlying23 info5 rfl (by decide) (by omega) u5 x5_1 (Go.bits .or .u8 ((x1_1) % 256) 128) [.int .u8 (Go.bits .or .u8 ((x1_1) % 256) 128)] (fun _ => True) (fun _ => False) rfl rfl ?aP (fun _ hk => hk.elim) ?aF ?aO ?aB ?aS ?aL ?_; (case aP => exact rfl); (case aB => exact bB); (case aF => exact (fun _ _ => trivial)); (case aO => exact (rR HO_5.out)); (case aS => exact (below_size bB)); (case aL => have := LMc6.out; omega); intro v299 w7 ho hb hg hat; rw [← Ny298.out] at ho; have n0_ := Aside0.mk (hb); have n1_ := Aside0.mk (ho); clear HB; clear HO_5; have HB := n0_; have HO300 := n1_; clear n0_ n1_; clear ho hb hg hat))
     go_roundg k1
     case measure => have := HK1.out; omega
     case rel => exact ⟨(x1_1 / 128), (y298), (by first | rfl | (simp; done) | (simp [*]; done)), H', ⟨by have := HK1.out; omega⟩, ⟨rR HO300.out⟩, ⟨bB⟩⟩
    ·rw [if_neg c6] at H
     exact absurd H (by simp)
   ·rw [if_neg c5] at H
    have c5b0 : decide (128 ≤ x1_1) = false := decide_eq_false c5
    clear c5
    by_cases c8 : x5_1.length < 140737488355328
    ·rw [if_pos c8] at H
     have LMc8 := Aside0.mk c8
     clear c8
     obtain ⟨y301, hy301⟩ : ∃ y_ : List Int, y_ = (x5_1 ++ [(x1_1) % 256]) := ⟨_, rfl⟩
     replace H : (some y301) = some r := by first | (rw [hy301]; with_reducible exact H) | (have H2_ := (Option.bind_some _ _).symm.trans H; rw [hy301]; with_reducible exact H2_) | (have H2_ := (Option.bind_some _ _).symm.trans H; with_reducible exact H2_) | with_reducible exact H | (rw [hy301]; exact H) | exact H
     have Ny301 := Aside0.mk hy301
     clear hy301
     obtain rfl := Option.some.inj H
     go_wp2_with (first | ((with_reducible refine gate_builtin (b := .append) (xs := #[.tmp 18, .tmp 21]) rfl ?_); at_builtin; refine Kd.R_append (Kd.int .u8) (w0 := w) w.heap.size rfl (.tmp 18) (.tmp 21) 23 5 (.int .u8 0) 1 rfl Tryd.underlying23 info5 rfl (by decide) (by omega) u5 x5_1 ((x1_1) % 256) [.int .u8 ((x1_1) % 256)] (fun _ => True) (fun _ => False) rfl rfl ?aP (fun _ hk => hk.elim) ?aF ?aO ?aB ?aS ?aL ?_; (case aP => exact rfl); (case aB => exact bB); (case aF => exact (fun _ _ => trivial)); (case aO => exact (rR HO_5.out)); (case aS => exact (below_size bB)); (case aL => have := LMc8.out; omega); intro v302 w9 ho hb hg hat; rw [← Ny301.out] at ho; have n0_ := Aside0.mk (hb); have n1_ := Aside0.mk (ho); clear HB; clear HO_5; have HB := n0_; have HO303 := n1_; clear n0_ n1_; clear ho hb hg hat))
     go_ret
     exact ⟨_, by first | rfl | (simp [errW_none, errW_some] <;> rfl) | (simp [*, errW_none, errW_some] <;> rfl), rR HO303.out, bB⟩
    ·rw [if_neg c8] at H
     exact absurd H (by simp)

end Go.Proofs.YtmlbppfcpejlpaaDoor.X

/- A new writer, and words for walks that hold a writer and a reader. No conditions. -/
namespace Go.Proofs.YtmlbppfcpejlpaaDoor.W04
open Go Go.RowKit Go.Proofs.YtmlbppfcpejlpaaDoorW.PrintWords Go.Proofs.YtmlbppfcpejlpaaDoorW.PrintLast Go.Proofs.YtmlbppfcpejlpaaDoorW.PrintMore Go.Proofs.YtmlbppfcpejlpaaDoor.S Go.Proofs.YtmlbppfcpejlpaaDoor.B Go.Proofs.YtmlbppfcpejlpaaDoor.X
set_option linter.unusedVariables false
set_option linter.unusedSimpArgs false
theorem wat_new (w0 W : World) (hB : Below w0.heap.size w0 W) : WAt w0 (W.alloc (.cells #[.slice none 0 0, .int .i64 0] 54)) W.heap.size (.slice none 0 0) [] :=
 ⟨by simpa using heap_alloc_new W _, hB.size, Kd.R_nil _ _ _ _ _, Bits.nil⟩
end Go.Proofs.YtmlbppfcpejlpaaDoor.W04

namespace Go.Proofs.YtmlbppfcpejlpaaDoor.X
open Go.RowKit Go.Proofs.YtmlbppfcpejlpaaDoorW.PrintWords Go.Proofs.YtmlbppfcpejlpaaDoorW.PrintLast Go.Proofs.YtmlbppfcpejlpaaDoorW.PrintMore
attribute [local go_sem] max2_int min2_int max_two min_two max_three min_three max_four min_four   -- for this text's walks alone
set_option linter.unusedVariables false
set_option linter.unusedSimpArgs false

/-! ### runs_Put: function 50 -/
open Go.Proofs.YtmlbppfcpejlpaaDoor.S Go.Proofs.YtmlbppfcpejlpaaDoor.W04
attribute [local go_sem ↓] Go.wp_at_zero Go.wp_at_succ
/-- How often a value comes at the head. -/
def runs_Put.cnt (x : Int) : List Int → Nat
 | [] => 0
 | a :: l => if a = x then runs_Put.cnt x l + 1 else 0
theorem runs_Put.cnt_le (x : Int) (l : List Int) : runs_Put.cnt x l ≤ l.length := by
 induction l with
 | nil => exact Nat.le_refl _
 | cons a l ih => rw [runs_Put.cnt, List.length_cons]; split <;> omega
theorem runs_Put.cnt_eq (x : Int) (l : List Int) : ∀ i, (h : i < runs_Put.cnt x l) → ∃ hl : i < l.length, l[i] = x := by
 induction l with
 | nil => intro i h; simp [runs_Put.cnt] at h
 | cons a l ih =>
  intro i h
  rw [runs_Put.cnt] at h
  by_cases e : a = x
  ·rw [if_pos e] at h
   cases i with
   | zero => exact ⟨by simp, e⟩
   | succ i =>
    obtain ⟨h1, h2⟩ := ih i (by omega)
    exact ⟨by simp; omega, by simpa using h2⟩
  ·rw [if_neg e] at h; omega
theorem runs_Put.cnt_ne (x : Int) (l : List Int) : (h : runs_Put.cnt x l < l.length) → l[runs_Put.cnt x l] ≠ x := by
 induction l with
 | nil => intro h; simp at h
 | cons a l ih =>
  intro h
  by_cases e : a = x
  ·have hc : runs_Put.cnt x (a :: l) = runs_Put.cnt x l + 1 := by rw [runs_Put.cnt, if_pos e]
   have h2 : runs_Put.cnt x l < l.length := by rw [hc, List.length_cons] at h; omega
   have := ih h2
   simp only [hc, List.getElem_cons_succ]
   exact this
  ·have hc : runs_Put.cnt x (a :: l) = 0 := by rw [runs_Put.cnt, if_neg e]
   simp only [hc, List.getElem_cons_zero]
   exact e
/-- How often the first value comes at the head. -/
def runs_Put.lead (l : List Int) : Nat := runs_Put.cnt (rd l 0) l
theorem runs_Put.lead_le (l : List Int) : runs_Put.lead l ≤ l.length := runs_Put.cnt_le _ _
theorem runs_Put.lead_eq {l : List Int} {i : Nat} (h : i < runs_Put.lead l) : rd l (i : Int) = rd l 0 := by
 obtain ⟨h1, h2⟩ := runs_Put.cnt_eq _ l i h
 rw [rd_get h1, h2]
theorem runs_Put.lead_ne {l : List Int} (h : runs_Put.lead l < l.length) : rd l (runs_Put.lead l : Int) ≠ rd l 0 := by
 rw [rd_get h]
 exact runs_Put.cnt_ne _ l h
theorem runs_Put.lead_pos {l : List Int} (h : 0 < l.length) : 0 < runs_Put.lead l := by
 cases l with
 | nil => simp at h
 | cons a l => simp [runs_Put.lead, runs_Put.cnt, rd]
def runs_Put.idx (l : List Int) : Int := if runs_Put.lead l < l.length then (runs_Put.lead l : Int) else -1
set_option maxHeartbeats 8000000 in
set_option maxRecDepth 100000 in
theorem runs_Put.index_calls (A : Option Addr) (c : Nat) (l : List Int) (b : Nat) (w : World) (hr : Kd.C (Kd.int .u64) w A l.length l) (hc : l.length ≤ c) (h0 : 0 < l.length) (hl : l.length ≤ 200)
  (hb : w.cell? ⟨b, 0, none⟩ = some (.slice A l.length c)) :
  Calls Tryd.prog 59 #[.slice A l.length c, .func (Fn.func 60) #[] #[.pointer (some ⟨b, 0, none⟩)]] w fun e w' => e = .returned (.int .i64 (runs_Put.idx l)) ∧ w = w' := by
 obtain ⟨n, hn⟩ : ∃ n, n = l.length := ⟨_, rfl⟩
 obtain ⟨m, hm⟩ : ∃ m, m = runs_Put.lead l := ⟨_, rfl⟩
 have hmn : m ≤ n := by rw [hm, hn]; exact runs_Put.lead_le l
 have hm0 : 0 < m := by rw [hm]; exact runs_Put.lead_pos h0
 obtain ⟨ix, hix⟩ : ∃ ix, runs_Put.idx l = ix := ⟨_, rfl⟩
 have hix2 : ix = if m < n then (m : Int) else -1 := by rw [← hix, hm, hn]; rfl
 obtain ⟨ad, hA, hx0⟩ := Kd.at_int hr 0 (Int.le_refl 0) (by omega)
 obtain ⟨x0, hx⟩ : ∃ x, rd l 0 = x := ⟨_, rfl⟩
 rw [hx] at hx0
 cases hA
 have c0 : w.cell? ad = some (.int .u64 x0) := by simpa [Addr.add] using hx0
 have HR := Aside0.mk hr
 have HM := Aside0.mk hm
 have HX := Aside0.mk hx
 have HN := Aside0.mk hn
 have HMN := Aside0.mk hmn
 have HIX := Aside0.mk hix2
 rw [hix]
 rw [← hn] at hc hb h0 hl ⊢
 have hz : (0 < (n : Int)) = True := eq_true (by omega)
 have hz2 : ((0 : Int) < n) = True := eq_true (by omega)
 have hz3 : (0 < n) = True := eq_true h0
 clear hr hm hx hn hx0 hmn hix hix2
 go_enter Tryd.func59, Tryd.ntmps59
 go_wp2
 go_loop [8] (fun v8 => ∃ (i : Nat) (ii : Int), v8 = .int .i64 ii ∧ Aside0 (ii = (i : Int)) ∧ Aside0 (i ≤ m)) (fun v8 => ((n : Int) - intOf v8).toNat)
 case atStart => exact ⟨0, 0, rfl, ⟨rfl⟩, ⟨Nat.zero_le _⟩⟩
 case round =>
  obtain ⟨i, ii, rfl, HI, HIM⟩ := hrel
  have hi0 : 0 ≤ ii := by have := HI.out; omega
  have hi1 : ii ≤ 200 := by have := HI.out; have := HIM.out; have := HMN.out; omega
  by_cases hlt : i < n
  ·have hi2 : decide (ii < (n : Int)) = true := by have := HI.out; simp; omega
   have hi3 : (ii < (n : Int)) = True := eq_true (by have := HI.out; omega)
   obtain ⟨ad', hA, hxi⟩ := Kd.at_int HR.out ii hi0 (by rw [← HN.out]; have := HI.out; omega)
   cases hA
   obtain ⟨xi, hxv⟩ : ∃ x, rd l ii = x := ⟨_, rfl⟩
   rw [hxv] at hxi
   by_cases him : i < m
   ·have he : xi = x0 := by rw [← hxv, HI.out, runs_Put.lead_eq (by rw [← HM.out]; exact him)]; exact HX.out
    subst he
    clear hxv
    go_wp2
    go_round
    case rel => exact ⟨i + 1, _, rfl, ⟨by have := HI.out; omega⟩, ⟨him⟩⟩
    case measure => simp [intOf]; have := HI.out; omega
   ·have hmi : i = m := by have := HIM.out; omega
    have hne : xi ≠ x0 := by
     rw [← hxv, ← HX.out, HI.out, hmi, HM.out]
     exact runs_Put.lead_ne (by rw [← HM.out, ← HN.out]; omega)
    have hb1 : (xi != x0) = true := bne_iff_ne.2 hne
    have hb2 : (xi == x0) = false := beq_eq_false_iff_ne.2 hne
    have hxx : ix = ii := by rw [HIX.out, if_pos (by omega), HI.out, hmi]
    have HXX := Aside0.mk hxx
    clear hxv hne hxx hmi
    go_wp2
    go_ret
    exact ⟨(show _ = Ending.returned (Value.int .i64 ix) by rw [HXX.out]; rfl), rfl⟩
  ·have hi2 : decide (ii < (n : Int)) = false := by have := HI.out; simp; omega
   have hxx : ix = -1 := by rw [HIX.out, if_neg (by have := HIM.out; have := HMN.out; omega)]
   have HXX := Aside0.mk hxx
   clear hxx
   go_wp2
   go_ret
   exact ⟨(show _ = Ending.returned (Value.int .i64 ix) by rw [HXX.out]; rfl), rfl⟩
/-- The rounds: the values that are left, the bytes so far. -/
def runs_Put.l0 : Nat → List Int → List Int → Option (List Int)
 | 0, _, _ => none
 | q + 1, l, out => if l.length = 0 then some out else (varint_Put.f 20 out (runs_Put.lead l : Int)).bind fun o1 => (varint_Put.f 20 o1 (rd l 0)).bind fun o2 => runs_Put.l0 q (l.drop (runs_Put.lead l)) o2
def runs_Put.f (l0 : List Int) : Option (List Int × Int) := if 200 < l0.length then some ([], 1) else (runs_Put.l0 201 l0 []).bind fun o => some (o, 0)
def runs_Put.Two (B : Nat) (xs : List Int) (n : Int) (w : World) (e : Ending) (w' : World) : Prop :=
 ∃ v0_ : Value, e = .returned (.tuple #[v0_, .int .i64 n]) ∧ Kd.R (Kd.int .u8) 5 w' B (fun _ => True) v0_ xs ∧ Below w.heap.size w w'
def runs_Put.boxLen (w : World) (b : Nat) : Nat := match w.cell? ⟨b, 0, none⟩ with | some (.slice _ n _) => n | _ => 0
theorem runs_Put.boxLen_of {w : World} {b : Nat} {A : Option Addr} {n c : Nat} (h : w.cell? ⟨b, 0, none⟩ = some (.slice A n c)) : runs_Put.boxLen w b = n := by unfold runs_Put.boxLen; rw [h]
def runs_Put.Rel (w : World) (b : Nat) (res : List Int) (v4 : Value) (wr : World) : Prop :=
 ∃ (l out : List Int) (A : Option Addr) (c q : Nat), wr.heap[b]? = some (.cells #[.slice A l.length c] 22 (0, 0)) ∧ Kd.C (Kd.int .u64) w A l.length l ∧ l.length ≤ c ∧ l.length ≤ 200 ∧ Kd.R (Kd.int .u8) 5 wr w.heap.size (fun _ => True) v4 out ∧ Below w.heap.size w wr ∧ runs_Put.l0 q l out = some res
theorem runs_Put.calls_long (A0 : Option Addr) (c0 : Nat) (l0 : List Int) (w : World) (h : 200 < l0.length) : Calls Tryd.prog 50 #[.slice A0 l0.length c0] w (runs_Put.Two w.heap.size [] 1 w) := by
 have h1 : decide (200 < (l0.length : Int)) = true := by simp; omega
 have h2 : decide (200 < l0.length) = true := by simp; omega
 clear h
 go_enter Tryd.func50, Tryd.ntmps50
 go_wp2
 go_ret2
 exact ⟨_, rfl, Kd.R_nil _ _ _ _ _, (Below.refl _ _).alloc (Nat.le_refl _) _⟩
set_option maxHeartbeats 8000000 in
set_option maxRecDepth 100000 in
theorem runs_Put.calls_main (A0 : Option Addr) (c0 : Nat) (l0 res : List Int) (w : World) (hr0 : Kd.C (Kd.int .u64) w A0 l0.length l0) (hc0 : l0.length ≤ c0) (h1 : l0.length ≤ 200) (hres : runs_Put.l0 201 l0 [] = some res) :
  Calls Tryd.prog 50 #[.slice A0 l0.length c0] w (runs_Put.Two w.heap.size res 0 w) := by
 have hmf : ∀ (fn : Fn) (first cap : Array Value) (w : World), (Instr.makeFunc fn first cap).run Tryd.prog w = .ok (.func fn first cap) w := fun _ _ _ _ => rfl
 have t1 : decide (200 < (l0.length : Int)) = false := by simp; omega
 have t2 : decide (200 < l0.length) = false := by simp; omega
 have HREL : Aside0 (runs_Put.Rel w w.heap.size res (.slice none 0 0) (w.alloc (.cells #[.slice A0 l0.length c0] 22))) :=
  ⟨⟨l0, [], A0, c0, 201, by simpa using heap_alloc_new w _, hr0, hc0, h1, Kd.R_nil _ _ _ _ _, (Below.refl _ _).alloc (Nat.le_refl _) _, hres⟩⟩
 obtain ⟨i0, hi0, _, hsz0, _⟩ := info_parts info34
 have HI0 := Aside0.mk hi0
 have HSZ0 := Aside0.mk hsz0
 clear hr0 hc0 h1 hres hi0 hsz0
 go_enter Tryd.func50, Tryd.ntmps50
 go_wp2
 clear t1 t2
 obtain ⟨b, hb⟩ : ∃ b, w.heap.size = b := ⟨_, rfl⟩
 have hbge : w.heap.size ≤ b := by omega
 rw [hb] at HREL ⊢
 generalize w.alloc (.cells #[.slice A0 l0.length c0] 22) = wz at HREL ⊢
 have HBW : Aside0 (b = w.heap.size) := ⟨hb.symm⟩
 clear hb
 go_loopw [4] (fun v4 wr => Aside0 (runs_Put.Rel w b res v4 wr)) (fun _ wr => runs_Put.boxLen wr b)
 case atStart => exact HREL
 case round =>
  clear HREL
  obtain ⟨l, out, A, c, q, hbox, hr, hc, hl, ho, hB, hq⟩ := hrel.out
  clear hrel
  have hcell : wr.cell? ⟨b, 0, none⟩ = some (.slice A l.length c) := (blk_cell hbox 0).trans rfl
  have HBOX := Aside0.mk hbox
  have HR := Aside0.mk hr
  have HC := Aside0.mk hc
  have HL := Aside0.mk hl
  have HB := Aside0.mk hB
  obtain ⟨A4, c4, e4⟩ := Kd.R_slice ho
  subst e4
  have HO := Aside0.mk ho
  have HQ := Aside0.mk hq
  have HLEN := Aside0.mk (runs_Put.boxLen_of hcell)
  clear hbox hr hc hB ho hq
  by_cases h0 : l.length = 0
  ·have hz : decide (0 < (l.length : Int)) = false := decide_eq_false (by omega)
   have hz2 : decide (0 < l.length) = false := decide_eq_false (by omega)
   have hres : res = out := by
    have := HQ.out
    cases q with
    | zero => cases this
    | succ q => rw [runs_Put.l0, if_pos h0] at this; exact (Option.some.inj this).symm
   have HRES := Aside0.mk hres
   clear hres
   go_wp2
   go_ret2
   exact ⟨_, rfl, by rw [HRES.out]; exact HO.out, HB.out⟩
  ·obtain ⟨q, rfl⟩ : ∃ z, q = z + 1 := by
    cases q with
    | zero => have := HQ.out; cases this
    | succ q => exact ⟨q, rfl⟩
   have hq := HQ.out
   rw [runs_Put.l0, if_neg h0] at hq
   obtain ⟨o1, ho1, hq⟩ := Option.bind_eq_some_iff.1 hq
   obtain ⟨o2, ho2, hq⟩ := Option.bind_eq_some_iff.1 hq
   have hp := runs_Put.lead_pos (l := l) (by omega)
   have hle := runs_Put.lead_le l
   obtain ⟨dv, hdv⟩ : ∃ d : Int, (runs_Put.lead l : Int) = d := ⟨_, rfl⟩
   rw [hdv] at ho1
   obtain ⟨x0, hx⟩ : ∃ x, rd l 0 = x := ⟨_, rfl⟩
   rw [hx] at ho2
   obtain ⟨ad, hA, hx0⟩ := Kd.at_int (Kd.C_below HR.out HB.out) 0 (Int.le_refl 0) (by omega)
   rw [hx] at hx0
   cases hA
   have c0 : wr.cell? ad = some (.int .u64 x0) := by simpa [Addr.add] using hx0
   have hadlt := World.block_lt_of_cell? wr _ c0
   have hz : decide (0 < (l.length : Int)) = true := decide_eq_true (by omega)
   have hz2 : decide (0 < l.length) = true := decide_eq_true (by omega)
   have hz3 : (0 < (l.length : Int)) = True := eq_true (by omega)
   have hz4 : (0 < l.length) = True := eq_true (by omega)
   have hd0 : 0 ≤ dv := by omega
   have hd1 : dv ≤ (l.length : Int) := by omega
   have hd2 : dv ≤ 200 := by omega
   have hdw : IntKind.u64.wrap dv = dv := wrap_u64_id (by omega) (by omega)
   have hdn : decide (dv < 0) = false := decide_eq_false (by omega)
   have HO1 := Aside0.mk ho1
   have HO2 := Aside0.mk ho2
   have HQ' := Aside0.mk hq
   have HDV := Aside0.mk hdv
   have HH0 : Aside0 (0 < l.length) := ⟨by omega⟩
   obtain ⟨A', hcut, hA', hC'⟩ := print_drop_of (P := Tryd.prog) (Value.int .u64) 0 22 34 .i64 Tryd.underlying22 HI0.out HSZ0.out (some ad) c l dv hd0 hd1 HC.out
   have HR' := Aside0.mk (Kd.C_of_reads (h1 := fun _ => rfl) (hA' _ (Kd.reads_of_C HR.out)))
   have HC' := Aside0.mk hC'
   have hdt : dv.toNat = runs_Put.lead l := by omega
   rw [hdt] at hcut HR' HC'
   obtain ⟨l', hl'⟩ : ∃ l', l' = l.drop (runs_Put.lead l) := ⟨_, rfl⟩
   have HL' : Aside0 (l'.length < l.length) := ⟨by rw [hl', List.length_drop]; omega⟩
   rw [← hl'] at hcut HR' HC' HQ'
   have HFR : Aside0 (wr.frozen? ⟨b, 0, none⟩ = false) := ⟨blk_frozen HBOX.out 0⟩
   clear ho1 ho2 hq hx0 hA' hC' hdt hl' h0 hx
   by_cases hld : runs_Put.lead l < l.length
   have hix : runs_Put.idx l = dv := by unfold runs_Put.idx; rw [if_pos hld, hdv]
   rotate_left
   have hix : runs_Put.idx l = -1 := by unfold runs_Put.idx; rw [if_neg hld]
   have hll : (l.length : Int) = dv := by omega
   have hz5 : decide (0 < dv) = true := decide_eq_true (by omega)
   have hz6 : (0 < dv) = True := eq_true (by omega)
   all_goals
    clear hld hdv hp hle
    go_wp2_with (go_at_call 59; (with_reducible refine (runs_Put.index_calls (some ad) c l b _ (Kd.C_below HR.out HB.out) HC.out HH0.out HL.out hcell).mono ?_); rintro e w5 ⟨rfl, rfl⟩)
    have hcelld : wr.drew.cell? ⟨b, 0, none⟩ = some (.slice (some ad) l.length c) := hcell
    have c0d : wr.drew.cell? ad = some (.int .u64 x0) := c0
    have HBOXd : Aside0 (wr.drew.heap[b]? = some (.cells #[.slice (some ad) l.length c] 22 (0, 0))) := ⟨HBOX.out⟩
    have HOd := Aside0.mk (Kd.R_drew HO.out)
    have HBd := Aside0.mk (below_drew1 HB.out)
    go_region_held3 (fun w' => w'.cell? ⟨b, 0, none⟩ = some (.slice (some ad) l.length c) ∧ w'.cell? ad = some (.int .u64 x0)) (first | exact ⟨hcelld, c0d⟩ | exact ⟨hcell6, c06⟩ | exact ⟨hcell7, c07⟩)
     (first
      | (go_at_call 47; (with_reducible refine (varint_Put.calls 20 A4 c4 out dv o1 _ (Kd.R_reads' HOd.out).2.2 (Kd.R_reads' HOd.out).2.1 HO1.out).mono ?_); rintro e w6 ⟨v6, rfl, hR, hB⟩; obtain ⟨A6, c6, e6⟩ := Kd.R_slice hR; subst e6; have hbox6 := blk_below HBOXd.out hB; have hcell6 : w6.cell? ⟨b, 0, none⟩ = some (.slice (some ad) l.length c) := (blk_cell hbox6 0).trans rfl; have c06 := pw_cell_below hB c0d; have HBOX6 := Aside0.mk hbox6; have HR6 := Aside0.mk hR; have HB6 := Aside0.mk (below_step HBd.out hB); clear hR hB hbox6)
      | (go_at_call 47; (with_reducible refine (varint_Put.calls 20 A6 c6 o1 x0 o2 _ (Kd.R_reads' HR6.out).2.2 (Kd.R_reads' HR6.out).2.1 HO2.out).mono ?_); rintro e w7 ⟨v7, rfl, hR, hB⟩; have hbox7 := blk_below HBOX6.out hB; have hcell7 : w7.cell? ⟨b, 0, none⟩ = some (.slice (some ad) l.length c) := (blk_cell hbox7 0).trans rfl; have c07 := pw_cell_below hB c06; have HBOX7 := Aside0.mk hbox7; have HR7 := Aside0.mk hR; have HB7 := Aside0.mk (below_step HB6.out hB); have hfr7 : w7.frozen? ⟨b, 0, none⟩ = false := blk_frozen hbox7 0; clear hR hB hbox7 HR6 HBOX6 hcell6 c06 hcelld c0d HBOXd HOd HBd))
    go_wp2
    have hbox8 := blk_set HBOX7.out 0 (.slice A' l'.length (c - runs_Put.lead l))
    have hbox9 : (w7.setCell ⟨b, 0, none⟩ (.slice A' l'.length (c - runs_Put.lead l))).heap[b]? = some (.cells #[.slice A' l'.length (c - runs_Put.lead l)] 22 (0, 0)) := by simpa using hbox8
    go_roundw
    case rel => exact ⟨⟨l', o2, A', _, q, hbox9, HR'.out, HC'.out, by have := HL'.out; have := HL.out; omega, Kd.R_set (Kd.R_lower HR7.out HB6.out.size) HBOX7.out (by decide) 0 _, HB7.out.setCell hbge _, HQ'.out⟩⟩
    case measure =>
     have e1 := HLEN.out
     have e2 := runs_Put.boxLen_of ((blk_cell hbox9 0).trans rfl)
     have := HL'.out
     rw [e1, e2]; exact this
theorem runs_Put.calls (A0 : Option Addr) (c0 : Nat) (l0 : List Int) (r1 : List Int) (r2 : Int) (w : World) (hr0 : Kd.C (Kd.int .u64) w A0 l0.length l0) (hc0 : l0.length ≤ c0) (h : runs_Put.f l0 = some (r1, r2)) :
  Calls Tryd.prog 50 #[.slice A0 l0.length c0] w fun e w' => ∃ v0_ : Value, e = .returned (.tuple #[v0_, .int .i64 r2]) ∧ Kd.R (Kd.int .u8) 5 w' w.heap.size (fun _ => True) v0_ r1 ∧ Below w.heap.size w w' := by
 unfold runs_Put.f at h
 by_cases h1 : 200 < l0.length
 ·rw [if_pos h1] at h
  injection h with h; injection h with e1 e2; subst e1; subst e2
  exact runs_Put.calls_long A0 c0 l0 w h1
 ·rw [if_neg h1] at h
  obtain ⟨o, ho, h⟩ := Option.bind_eq_some_iff.1 h
  injection h with h; injection h with e1 e2; subst e1; subst e2
  exact runs_Put.calls_main A0 c0 l0 o w hr0 hc0 (by omega) ho

end Go.Proofs.YtmlbppfcpejlpaaDoor.X

namespace Go.Proofs.YtmlbppfcpejlpaaDoor.X
open Go.RowKit Go.Proofs.YtmlbppfcpejlpaaDoorW.PrintWords Go.Proofs.YtmlbppfcpejlpaaDoorW.PrintLast Go.Proofs.YtmlbppfcpejlpaaDoorW.PrintMore
attribute [local go_sem] max2_int min2_int max_two min_two max_three min_three max_four min_four   -- for this text's walks alone
set_option linter.unusedVariables false
set_option linter.unusedSimpArgs false

/-! ### bits_LeadingZeros64: function 36 -/
def bits_LeadingZeros64.f (k : Nat) (a0 : Int) : Option (Int) := (bits_Len64.f k a0).bind fun t102 => (some (wrap64 (64 - t102)))
theorem bits_LeadingZeros64.mono : ∀ a0 k, LeO (bits_LeadingZeros64.f k a0) (bits_LeadingZeros64.f (k + 1) a0) := by
 intro a0 k
 unfold bits_LeadingZeros64.f
 repeat' first
   | (with_reducible exact bits_Len64.mono _ _)
   | (with_reducible exact LeO.refl _)
   | (with_reducible exact LeO.none _)
   | (with_reducible refine LeO.ite ?_ ?_)
   | (with_reducible refine LeO.bind ?_ (fun _ => ?_))
   | exact bits_Len64.mono _ _
   | exact LeO.none _
   | refine LeO.ite ?_ ?_
   | refine LeO.bind ?_ (fun _ => ?_)
set_option maxHeartbeats 8000000 in
set_option maxRecDepth 100000 in
theorem bits_LeadingZeros64.calls (k : Nat) (a0 : Int) (r : Int) (w : World) (h : bits_LeadingZeros64.f k a0 = some r) :
  Calls Tryd.prog 36 #[.int .u64 a0] w fun e w' => e = .returned (.int .i64 r) ∧ Drawn0 w w' := by
 have H : ((bits_Len64.f k a0).bind fun t102 => (some (wrap64 (64 - t102)))) = some r := h
 clear h
 replace H := Option.bind_eq_some_iff.mp H
 obtain ⟨t102, A20, H⟩ := H
 replace H : (some (wrap64 (64 - t102))) = some r := H
 have A2 := Aside0.mk A20
 clear A20
 obtain rfl := Option.some.inj H
 go_enter Tryd.func36, Tryd.ntmps36
 go_wp2_with (first | ((with_reducible refine gate_callee (f := 52) rfl ?_); refine goesL_ (some 4) rfl rfl Tryd.func52 (by kernel_rfl) rfl #[.int .u64 a0] rfl (by (try simp only [List.map_toArray, List.map_cons, List.map_nil]); first | done | rfl | (simp only [List.length_drop, List.length_take]; rfl)) ?_; (with_reducible refine (bits_Len64.calls k a0 t102 _ A2.out).mono ?_); rintro e w' ⟨rfl, ⟨nd, rfl⟩⟩; refine ⟨_, rfl, ?_⟩))
 go_ret
 exact ⟨by first | rfl | (simp; done) | (simp [*]; done), by repeat (first | exact Drawn0.refl _ | apply Drawn0.step)⟩

end Go.Proofs.YtmlbppfcpejlpaaDoor.X

/- The walks of layer 8: the noughts behind a number, out of Go's own table; what is another bit, laid. Where the table stands: a premise (the card ties it). -/
namespace Go.Proofs.YtmlbppfcpejlpaaDoor.W08
open Go Go.RowKit Go.Proofs.YtmlbppfcpejlpaaDoorW.PrintWords Go.Proofs.YtmlbppfcpejlpaaDoorW.PrintLast Go.Proofs.YtmlbppfcpejlpaaDoorW.PrintMore Go.Proofs.YtmlbppfcpejlpaaDoor.S Go.Proofs.YtmlbppfcpejlpaaDoor.B Go.Proofs.YtmlbppfcpejlpaaDoor.X Go.Proofs.YtmlbppfcpejlpaaDoor.W04 Go.Proofs.YtmlbppfcpejlpaaDoor.Q06
attribute [local go_sem] max2_int min2_int max_two min_two max_three min_three max_four min_four
set_option linter.unusedVariables false
set_option linter.unusedSimpArgs false

/-- A region that draws: from here on something is held. -/
theorem restart_all {P : Program} {md : Region.Mode} {ops : Array Oper} {Q : Exit → Act → World → Prop} {S : World → Prop} {ds : List Nat} : ∀ {fuel : Nat} {l : Array Bool} {a : Act} {w : World}, wpAnyLast P md ops Q S ds fuel l a w → wpAnyLast P md ops Q (fun _ => True) ds fuel l a w
  | 0, _, _, _, h => h
  | _ + 1, _, _, _, h => ⟨h.1, fun i hi => wpOp_mono (fun _ _ h' => ⟨fun _ _ => trivial, restart_all h'.2⟩) (h.2 i hi)⟩
theorem restart_ {P : Program} {md : Region.Mode} {ops : Array Oper} {Q : Exit → Act → World → Prop} {S : World → Prop} {ds : List Nat} {fuel : Nat} {l : Array Bool} {a : Act} {w : World} (hS : S w) (h : S w → wpAnyLast P md ops Q S ds fuel l a w) : wpAnyLast P md ops Q (fun _ => True) ds fuel l a w := restart_all (h hS)
/-- The table of math/bits stands in its variable. -/
def Tab (w : World) : Prop := ∀ j, j < 64 → w.cell? ⟨0, j, none⟩ = some (.int .u8 ((Lib.deBruijn64tab.getD j 0 : Nat) : Int))
theorem Tab.below {w W : World} (h : Tab w) (hb : Below w.heap.size w W) : Tab W := fun j hj => pw_cell_below hb (h j hj)
theorem tz_key (x a : Nat) (hx : x < 18446744073709551616) (hx0 : x ≠ 0) (hlow : x &&& (2 ^ 64 - x) = a) :
    IntKind.u64.wrap (Go.bits .and .u64 (x : Int) (IntKind.u64.wrap (-(x : Int))) * 285870213051353865) / 288230376151711744 = ((a * 285870213051353865 % 18446744073709551616 / 288230376151711744 : Nat) : Int) := by
  have e1 : IntKind.u64.wrap (-(x : Int)) = ((18446744073709551616 - x : Nat) : Int) := by rw [IntKind.wrap_u64]; omega
  rw [show (2 : Nat) ^ 64 = 18446744073709551616 by decide] at hlow
  rw [e1, u64_and_nat x _ hx (by omega), hlow, IntKind.wrap_u64]
  omega
set_option maxHeartbeats 2000000 in
theorem tz_core (x : Nat) (k idx : Nat) (w : World) (hx0 : ((x : Int) == 0) = false)
    (key : IntKind.u64.wrap (Go.bits BinOp.and IntKind.u64 (x : Int) (IntKind.u64.wrap (-(x : Int))) * 285870213051353865) / 288230376151711744 = (idx : Int))
    (hi : idx < 64) (hk : k < 64) (hcell : w.cell? ⟨0, idx, none⟩ = some (.int .u8 k)) :
    Calls Tryd.prog 37 #[.int .u64 x] w fun e w' => e = .returned (.int .i64 (k : Int)) ∧ w = w' := by
  go_enter Tryd.func37, Tryd.ntmps37
  go_wp2_with (simp only [key])
  go_ret
  exact ⟨rfl, rfl⟩
theorem tz_calls (x : Nat) (hx : x < 18446744073709551616) (h0 : x ≠ 0) (w : World) (hT : Tab w) :
    Calls Tryd.prog 37 #[.int .u64 (x : Int)] w fun e w' => e = .returned (.int .i64 ((Lib.ctz 64 x : Nat) : Int)) ∧ w = w' := by
  obtain ⟨hlow, hk⟩ := Lib.lowest_bit 64 x h0 (by simpa using hx)
  obtain ⟨hi, htab⟩ := Lib.deBruijn64_at _ hk
  have hcell := hT _ hi
  rw [htab] at hcell
  exact tz_core x _ _ w (by simp; omega) (tz_key x _ hx h0 hlow) hi hk hcell
/-- The noughts behind a number that isn't nought. -/
def tz (x : Int) : Nat := Lib.ctz 64 x.toNat
/-- The bits of what is another bit. -/
def xbits (x : Int) : List Int :=
  if x = 0 then [0] else [1] ++ bitsN 6 ((64 : Int) - (wd x : Int)) ++ bitsN 6 ((wd x : Int) - (tz x : Int) - 1) ++ bitsN (wd x - tz x) (x / 2 ^ tz x)
theorem ctz_lt {x : Int} (h0 : 0 < x) (h1 : x < 18446744073709551616) : tz x < 64 ∧ tz x < wd x ∧ wd x ≤ 64 ∧ (2 : Int) ^ tz x ≤ x := by
  have hx : x.toNat < 2 ^ 64 := by have : (2 : Nat) ^ 64 = 18446744073709551616 := by decide
                                   omega
  obtain ⟨_, hk⟩ := Lib.lowest_bit 64 x.toNat (by omega) hx
  obtain ⟨m, hm, _⟩ := Lib.ctzFrom_spec 64 x.toNat (by omega) hx
  have e : tz x = Lib.ctzFrom 64 x.toNat := by unfold tz Lib.ctz; rw [if_neg (by omega)]
  have hle : 2 ^ tz x ≤ x.toNat := by
    rw [e]
    calc 2 ^ Lib.ctzFrom 64 x.toNat ≤ 2 ^ Lib.ctzFrom 64 x.toNat * (2 * m + 1) := Nat.le_mul_of_pos_right _ (by omega)
      _ = x.toNat := hm.symm
  have hw := (wd_facts (x := x) (by omega)).1
  have hwl : wd x ≤ 64 := wd_le (by omega) (by omega)
  have hle2 : (2 : Int) ^ tz x ≤ x := by
    have : ((2 ^ tz x : Nat) : Int) ≤ ((x.toNat : Nat) : Int) := by exact_mod_cast hle
    rw [Int.toNat_of_nonneg (by omega)] at this
    simpa using this
  refine ⟨hk, ?_, hwl, hle2⟩
  apply Nat.lt_of_not_le
  intro hge
  have h2 : (2 : Int) ^ wd x ≤ 2 ^ tz x := by exact_mod_cast Nat.pow_le_pow_right (by decide : 0 < 2) hge
  omega
theorem lz_spec {x : Int} (h0 : 0 ≤ x) (h1 : x < 18446744073709551616) : bits_LeadingZeros64.f 1 x = some (64 - (wd x : Int)) := by
  have hwl : wd x ≤ 64 := wd_le h0 (by omega)
  unfold bits_LeadingZeros64.f
  rw [len64_spec h0 h1 (by decide), Option.bind_some, wrap64_id (by omega) (by omega)]
def XPut (w0 : World) (g : Nat) (l : List Int) (e : Ending) (w' : World) : Prop := e = .returned (.tuple #[]) ∧ ∃ v', WAt w0 w' g v' l ∧ Below w0.heap.size w0 w'
theorem xput_zero (g : Nat) (v : Value) (l : List Int) (w0 w : World) (hI : WAt w0 w g v l) (hB : Below w0.heap.size w0 w) (hl : l.length < 1000000000) :
    Calls Tryd.prog 23 #[.pointer (some ⟨g, 0, none⟩), .int .u64 0] w (XPut w0 g (l ++ [0])) := by
  have HI := Aside0.mk hI
  have HB := Aside0.mk hB
  clear hI hB
  go_enter Tryd.func23, Tryd.ntmps23
  go_wp2_with (go_at_call 22; (with_reducible refine (put_calls g v l 0 1 w0 w HI.out HB.out (by decide) (by decide) hl).mono ?_); rintro e w1 ⟨rfl, v1, hW, hB, hK, hV⟩; have HW1 := Aside0.mk hW; have HB1 := Aside0.mk hB; clear hW hB hK hV)
  exact bodyPost_ret (v := .tuple #[]) (results_none rfl _ _ _) rfl ⟨rfl, _, HW1.out, HB1.out⟩
set_option maxHeartbeats 8000000 in
set_option maxRecDepth 100000 in
theorem xput_some (g : Nat) (v : Value) (l : List Int) (x : Int) (w0 w : World) (hI : WAt w0 w g v l) (hB : Below w0.heap.size w0 w) (hl : l.length < 100000000) (x0 : 0 < x) (x1 : x < 18446744073709551616) (hT : Tab w0) :
    Calls Tryd.prog 23 #[.pointer (some ⟨g, 0, none⟩), .int .u64 x] w (XPut w0 g (l ++ xbits x)) := by
  obtain ⟨t1, t2, t3, t4⟩ := ctz_lt x0 x1
  have hz := lz_spec (x := x) (by omega) x1
  have hnz : (x == 0) = false := by rw [beq_eq_false_iff_ne]; omega
  obtain ⟨lz, hlz⟩ : ∃ z : Int, 64 - (wd x : Int) = z := ⟨_, rfl⟩
  obtain ⟨tv, htv⟩ : ∃ z : Int, (tz x : Int) = z := ⟨_, rfl⟩
  obtain ⟨nv, hnv⟩ : ∃ z : Int, (wd x : Int) - (tz x : Int) = z := ⟨_, rfl⟩
  obtain ⟨n1, hn1⟩ : ∃ z : Int, (wd x : Int) - (tz x : Int) - 1 = z := ⟨_, rfl⟩
  obtain ⟨sv, hsv⟩ : ∃ z : Int, x / 2 ^ tz x = z := ⟨_, rfl⟩
  have hbits : xbits x = bitsN (cl 1) 1 ++ bitsN (cl 6) lz ++ bitsN (cl 6) n1 ++ bitsN (cl nv) sv := by
    unfold xbits
    rw [if_neg (by omega), hlz, hn1, hsv, show cl nv = wd x - tz x by unfold cl mn mx; split <;> split <;> omega, show cl 1 = 1 by decide, show cl 6 = 6 by decide]
    rfl
  have hsv0 : 0 ≤ sv := by rw [← hsv]; exact Int.ediv_nonneg (by omega) (Int.pow_nonneg (by decide))
  have hsv1 : sv < 18446744073709551616 := by rw [← hsv]; exact Int.lt_of_le_of_lt (Int.ediv_le_self _ (by omega)) x1
  have hsh1 : x / 2 ^ tv.toNat = sv := by rw [← hsv]; congr 2; omega
  have hsh2 : x / 2 ^ min tv.toNat 64 = sv := by rw [show min tv.toNat 64 = tv.toNat by omega]; exact hsh1
  have lz0 : 0 ≤ lz := by omega
  have lz1 : lz ≤ 64 := by omega
  have tv0 : 0 ≤ tv := by omega
  have tv1 : tv ≤ 63 := by omega
  have nv0 : 1 ≤ nv := by omega
  have nv1 : nv ≤ 64 := by omega
  have n10 : 0 ≤ n1 := by omega
  have n11 : n1 ≤ 63 := by omega
  have e1 : 64 - lz - tv = nv := by omega
  have e2 : IntKind.i64.wrap (64 - lz - tv) = nv := by rw [IntKind.wrap_i64]; omega
  have e3 : nv - 1 = n1 := by omega
  have e4 : IntKind.u64.wrap lz = lz := wrap_u64_id (by omega) (by omega)
  have e5 : IntKind.u64.wrap n1 = n1 := wrap_u64_id (by omega) (by omega)
  have n1u : n1 < 18446744073709551616 := by omega
  have lzu : lz < 18446744073709551616 := by omega
  rw [hlz] at hz
  have hct := cl_le nv
  have c1 : cl 1 = 1 := by decide
  have c6 : cl 6 = 6 := by decide
  have HL1 : Aside0 ((l ++ bitsN (cl 1) 1).length < 1000000000) := ⟨by rw [List.length_append, bitsN_len]; omega⟩
  have HL2 : Aside0 ((l ++ bitsN (cl 1) 1 ++ bitsN (cl 6) lz).length < 1000000000) := ⟨by rw [List.length_append, List.length_append, bitsN_len, bitsN_len]; omega⟩
  have HL3 : Aside0 ((l ++ bitsN (cl 1) 1 ++ bitsN (cl 6) lz ++ bitsN (cl 6) n1).length < 1000000000) := ⟨by rw [List.length_append, List.length_append, List.length_append, bitsN_len, bitsN_len, bitsN_len]; omega⟩
  have HL0 : Aside0 (l.length < 1000000000) := ⟨by omega⟩
  have HBITS := Aside0.mk hbits
  have HZ := Aside0.mk hz
  have HI := Aside0.mk hI
  have HB := Aside0.mk hB
  have HT := Aside0.mk hT
  have htz : ((Lib.ctz 64 x.toNat : Nat) : Int) = tv := htv
  have HXN : Aside0 (x.toNat < 18446744073709551616 ∧ x.toNat ≠ 0) := ⟨by omega⟩
  have hxn : ((x.toNat : Nat) : Int) = x := by omega
  have HTZ : ∀ (w : World), Tab w → Calls Tryd.prog 37 #[.int .u64 x] w fun e w' => e = .returned (.int .i64 tv) ∧ w = w' := fun w hT => by
    have := tz_calls x.toNat HXN.out.1 HXN.out.2 w hT
    rw [hxn, htz] at this
    exact this
  have HTZ' := Aside0.mk HTZ
  clear hbits hz hI hB hT htz hxn HTZ hlz htv hnv hn1 hsv t1 t2 t3 t4 hct c1 c6 hl
  go_enter Tryd.func23, Tryd.ntmps23
  go_wp2_with (first
    | (go_at_call 36; (with_reducible refine (bits_LeadingZeros64.calls 1 x lz _ HZ.out).mono ?_); rintro e w1 ⟨rfl, hd⟩; have hb1 := Drawn0.below hd; have HI1 := Aside0.mk (HI.out.below hb1); have HB1 := Aside0.mk (below_step HB.out hb1); clear hd hb1 HI HB)
    | (go_at_call 37; (with_reducible refine (HTZ'.out _ (HT.out.below HB1.out)).mono ?_); rintro e w2 ⟨rfl, rfl⟩)
    | (go_at_call 22; (with_reducible refine (put_calls g v l 1 1 w0 _ HI1.out HB1.out (by decide) (by decide) HL0.out).mono ?_); rintro e w3 ⟨rfl, v3, hW, hB, hK, hV⟩; have HI3 := Aside0.mk hW; have HB3 := Aside0.mk hB; clear hW hB hK hV HI1 HB1)
    | (go_at_call 22; (with_reducible refine (put_calls g v3 _ lz 6 w0 _ HI3.out HB3.out lz0 lzu HL1.out).mono ?_); rintro e w4 ⟨rfl, v4, hW, hB, hK, hV⟩; have HI4 := Aside0.mk hW; have HB4 := Aside0.mk hB; clear hW hB hK hV HI3 HB3)
    | (go_at_call 22; (with_reducible refine (put_calls g v4 _ n1 6 w0 _ HI4.out HB4.out n10 n1u HL2.out).mono ?_); rintro e w5 ⟨rfl, v5, hW, hB, hK, hV⟩; have HI5 := Aside0.mk hW; have HB5 := Aside0.mk hB; clear hW hB hK hV HI4 HB4)
    | (go_at_call 22; (with_reducible refine (put_calls g v5 _ sv nv w0 _ HI5.out HB5.out hsv0 hsv1 HL3.out).mono ?_); rintro e w6 ⟨rfl, v6, hW, hB, hK, hV⟩; have HI6 := Aside0.mk hW; have HB6 := Aside0.mk hB; clear hW hB hK hV HI5 HB5))
  first | go_end0 | exact bodyPost_ret (v := .tuple #[]) (results_none rfl _ _ _) rfl ⟨rfl, v6, by rw [HBITS.out]; simpa only [List.append_assoc] using HI6.out, HB6.out⟩
  all_goals exact ⟨rfl, v6, by rw [HBITS.out]; simpa only [List.append_assoc] using HI6.out, HB6.out⟩
theorem xput_calls (g : Nat) (v : Value) (l : List Int) (x : Int) (w0 w : World) (hI : WAt w0 w g v l) (hB : Below w0.heap.size w0 w) (hl : l.length < 100000000) (x0 : 0 ≤ x) (x1 : x < 18446744073709551616) (hT : Tab w0) :
    Calls Tryd.prog 23 #[.pointer (some ⟨g, 0, none⟩), .int .u64 x] w (XPut w0 g (l ++ xbits x)) := by
  by_cases h : x = 0
  · subst h
    rw [show xbits 0 = [0] by unfold xbits; rw [if_pos rfl]]
    exact xput_zero g v l w0 w hI hB (by omega)
  · exact xput_some g v l x w0 w hI hB hl (by omega) x1 hT
end Go.Proofs.YtmlbppfcpejlpaaDoor.W08

namespace Go.Proofs.YtmlbppfcpejlpaaDoor.X
open Go.RowKit Go.Proofs.YtmlbppfcpejlpaaDoorW.PrintWords Go.Proofs.YtmlbppfcpejlpaaDoorW.PrintLast Go.Proofs.YtmlbppfcpejlpaaDoorW.PrintMore
attribute [local go_sem] max2_int min2_int max_two min_two max_three min_three max_four min_four   -- for this text's walks alone
set_option linter.unusedVariables false
set_option linter.unusedSimpArgs false

/-! ### xors_Put: function 10 -/
open Go.Proofs.YtmlbppfcpejlpaaDoor.S Go.Proofs.YtmlbppfcpejlpaaDoor.B Go.Proofs.YtmlbppfcpejlpaaDoor.W04 Go.Proofs.YtmlbppfcpejlpaaDoor.Q06 Go.Proofs.YtmlbppfcpejlpaaDoor.W08
/-- What is another bit in one number than in the one ahead. -/
def xors_Put.dif (l : List Int) (i : Nat) : Int := Go.bits .xor .u64 (rd l (i : Int)) (rd l ((i : Int) - 1))
def xors_Put.piece (l : List Int) (i : Nat) : List Int := if i = 0 then bitsN 64 (rd l (i : Int)) else xbits (xors_Put.dif l i)
def xors_Put.part (l : List Int) : Nat → List Int
 | 0 => []
 | i + 1 => xors_Put.part l i ++ xors_Put.piece l i
def xors_Put.ok (l : List Int) : Bool := l.all (fun x => decide (0 ≤ x ∧ x < 18446744073709551616))
def xors_Put.f (l0 : List Int) : Option (List Int × Int) := if 200 < l0.length then some ([], 1) else if xors_Put.ok l0 = true then some (packB (xors_Put.part l0 l0.length), 0) else none
theorem xors_Put.ok_us {l : List Int} (h : xors_Put.ok l = true) : Us l := by
 intro x hx
 have := List.all_eq_true.1 h x hx
 simpa using this
theorem xors_Put.xlen (x : Int) : (xbits x).length ≤ 13 + wd x := by
 unfold xbits
 split
 ·simp; omega
 ·rw [List.length_append, List.length_append, List.length_append, bitsN_len, bitsN_len, bitsN_len]; simp only [List.length_cons, List.length_nil]; omega
theorem xors_Put.dif_u {l : List Int} (h : Us l) {i : Nat} (hi : i < l.length) : 0 ≤ xors_Put.dif l i ∧ xors_Put.dif l i < 18446744073709551616 := by
 have hb : ∀ j : Int, 0 ≤ rd l j ∧ rd l j < 18446744073709551616 := fun j => by
  unfold rd
  by_cases hj : j.toNat < l.length
  ·simp [List.getD, hj]
   exact h _ (List.getElem_mem hj)
  ·simp [List.getD, hj]
 obtain ⟨a0, a1⟩ := hb (i : Int)
 obtain ⟨b0, b1⟩ := hb ((i : Int) - 1)
 unfold xors_Put.dif
 obtain ⟨a, ha⟩ : ∃ a : Nat, rd l (i : Int) = a := ⟨(rd l (i : Int)).toNat, by omega⟩
 obtain ⟨b, hb'⟩ : ∃ b : Nat, rd l ((i : Int) - 1) = b := ⟨(rd l ((i : Int) - 1)).toNat, by omega⟩
 rw [ha, hb', u64_xor_nat a b (by omega) (by omega)]
 have : a ^^^ b < 2 ^ 64 := Nat.xor_lt_two_pow (by omega) (by omega)
 omega
theorem xors_Put.piece_len {l : List Int} (h : Us l) {i : Nat} (hi : i < l.length) : (xors_Put.piece l i).length ≤ 77 := by
 unfold xors_Put.piece
 split
 ·rw [bitsN_len]; omega
 ·have h1 := xors_Put.xlen (xors_Put.dif l i)
  have h2 := xors_Put.dif_u h hi
  have h3 : wd (xors_Put.dif l i) ≤ 64 := wd_le h2.1 (by omega)
  omega
theorem xors_Put.part_len {l : List Int} (h : Us l) (i : Nat) (hi : i ≤ l.length) : (xors_Put.part l i).length ≤ 77 * i := by
 induction i with
 | zero => simp [xors_Put.part]
 | succ i ih => rw [xors_Put.part, List.length_append]; have := xors_Put.piece_len h (i := i) hi; have := ih (by omega); omega
def xors_Put.Two (B : Nat) (xs : List Int) (n : Int) (w : World) (e : Ending) (w' : World) : Prop :=
 ∃ v0_ : Value, e = .returned (.tuple #[v0_, .int .i64 n]) ∧ Kd.R (Kd.int .u8) 5 w' B (fun _ => True) v0_ xs ∧ Below w.heap.size w w'
theorem xors_Put.calls_long (A0 : Option Addr) (c0 : Nat) (l0 : List Int) (w : World) (hn : 200 < l0.length) :
  Calls Tryd.prog 10 #[.slice A0 l0.length c0] w (xors_Put.Two w.heap.size [] 1 w) := by
 have h1 : decide (200 < (l0.length : Int)) = true := by simp; omega
 have h2 : decide (200 < l0.length) = true := by simp; omega
 clear hn
 go_enter Tryd.func10, Tryd.ntmps10
 go_wp2
 go_ret2
 exact ⟨_, rfl, Kd.R_nil _ _ _ _ _, Below.refl _ _⟩
def xors_Put.Rel (w : World) (g : Nat) (l0 : List Int) (i : Nat) (wr : World) : Prop := ∃ v', WAt w wr g v' (xors_Put.part l0 i) ∧ Below w.heap.size w wr
set_option maxHeartbeats 8000000 in
set_option maxRecDepth 100000 in
theorem xors_Put.calls_main (A0 : Option Addr) (c0 : Nat) (l0 : List Int) (w : World) (hr0 : Kd.C (Kd.int .u64) w A0 l0.length l0) (hc0 : l0.length ≤ c0) (h1 : l0.length ≤ 200) (hu : Us l0) (hT_ : Tab w) :
  Calls Tryd.prog 10 #[.slice A0 l0.length c0] w (xors_Put.Two w.heap.size (packB (xors_Put.part l0 l0.length)) 0 w) := by
 have HR0 := Aside0.mk hr0
 have HC0 := Aside0.mk hc0
 have HU := Aside0.mk hu
 have HT := Aside0.mk hT_
 have t1 : decide (200 < (l0.length : Int)) = false := by simp; omega
 have t2 : decide (200 < l0.length) = false := by simp; omega
 clear hr0 hc0 hu hT_
 go_enter Tryd.func10, Tryd.ntmps10
 go_wp2
 have HR : Aside0 (xors_Put.Rel w w.heap.size l0 0 (w.alloc (.cells #[.slice none 0 0, .int .i64 0] 54))) := ⟨⟨_, wat_new w w (Below.refl _ _), (Below.refl _ _).alloc (Nat.le_refl _) _⟩⟩
 go_loopw [12] (fun v12 wr => ∃ (i : Nat) (ii : Int), v12 = .int .i64 ii ∧ Aside0 (ii = (i : Int)) ∧ Aside0 (i ≤ l0.length) ∧ Aside0 (xors_Put.Rel w w.heap.size l0 i wr)) (fun v12 _ => ((l0.length : Int) - intOf v12).toNat)
 case atStart => exact ⟨0, _, rfl, ⟨rfl⟩, ⟨Nat.zero_le _⟩, HR⟩
 case round =>
  clear HR
  obtain ⟨i, ii, rfl, HI, HIL, HR⟩ := hrel
  obtain ⟨v6, hW, hB⟩ := HR.out
  have HW := Aside0.mk hW
  have HB := Aside0.mk hB
  have hlen := xors_Put.part_len HU.out i HIL.out
  have hin := HI.out
  clear HR hW hB
  by_cases hlt : i < l0.length
  ·have hi0 : 0 ≤ ii := by omega
   have hi1 : ii ≤ 200 := by omega
   have hi2 : decide (ii < (l0.length : Int)) = true := by simp; omega
   have hi3 : (ii < (l0.length : Int)) = True := eq_true (by omega)
   have hi4 : (0 ≤ ii) = True := eq_true hi0
   have hdu := xors_Put.dif_u HU.out hlt
   have hxu : 0 ≤ rd l0 (i : Int) ∧ rd l0 (i : Int) < 18446744073709551616 := by rw [rd_get hlt]; exact HU.out _ (List.getElem_mem hlt)
   obtain ⟨ad, e, hx⟩ := Kd.at_int (Kd.C_below HR0.out HB.out) ii hi0 (by omega)
   obtain ⟨x, hxe⟩ : ∃ x, rd l0 (i : Int) = x := ⟨_, rfl⟩
   rw [show rd l0 ii = x by rw [hin]; exact hxe] at hx
   rw [hxe] at hxu
   have HP := Aside0.mk (show xors_Put.part l0 (i + 1) = xors_Put.part l0 i ++ xors_Put.piece l0 i from rfl)
   by_cases q0 : i = 0
   ·have e0 : (ii == 0) = true := by rw [beq_iff_eq]; have := HI.out; omega
    have HQ : Aside0 (xors_Put.piece l0 i = bitsN 64 x) := ⟨by unfold xors_Put.piece; rw [if_pos q0, hxe]⟩
    cases e
    clear q0 hxe hdu hin
    go_wp2_with (go_at_call 22; (with_reducible refine (put_calls w.heap.size v6 _ x 64 w _ HW.out HB.out hxu.1 hxu.2 (by omega)).mono ?_); rintro e w7 ⟨rfl, v7, hW, hB, hK, hV⟩; have HW7 := Aside0.mk hW; have HB7 := Aside0.mk hB; clear hW hB hK hV HW HB)
    go_roundw
    case rel => exact ⟨i + 1, _, rfl, ⟨by have := HI.out; omega⟩, ⟨hlt⟩, ⟨v7, by
     have := HW7.out
     rw [HP.out, HQ.out]
     exact this, HB7.out⟩⟩
    case measure => simp [intOf]; have := HI.out; omega
   ·have e0 : (ii == 0) = false := by rw [beq_eq_false_iff_ne]; have := HI.out; omega
    have hj0 : 0 ≤ ii - 1 := by omega
    have hj1 : ii - 1 ≤ 200 := by omega
    have hj2 : (ii - 1 < (l0.length : Int)) = True := eq_true (by omega)
    have hj3 : (0 ≤ ii - 1) = True := eq_true hj0
    obtain ⟨ad2, e2, hy⟩ := Kd.at_int (Kd.C_below HR0.out HB.out) (ii - 1) hj0 (by omega)
    obtain ⟨y, hye⟩ : ∃ y, rd l0 (ii - 1) = y := ⟨_, rfl⟩
    rw [hye] at hy
    rw [show (ii - 1).toNat = ii.toNat - 1 by omega] at hy
    obtain ⟨z, hz⟩ : ∃ z, xors_Put.dif l0 i = z := ⟨_, rfl⟩
    have hxy : Go.bits .xor .u64 x y = z := by rw [← hz, ← hxe, ← hye, hin]; rfl
    have HQ : Aside0 (xors_Put.piece l0 i = xbits z) := ⟨by unfold xors_Put.piece; rw [if_neg q0, hz]⟩
    rw [hz] at hdu
    cases e
    cases e2
    clear q0 hxe hye hz hin hxu
    go_wp2_with (go_at_call 23; (with_reducible refine (xput_calls w.heap.size v6 _ z w _ HW.out HB.out (by omega) hdu.1 hdu.2 HT.out).mono ?_); rintro e w7 ⟨rfl, v7, hW, hB⟩; have HW7 := Aside0.mk hW; have HB7 := Aside0.mk hB; clear hW hB HW HB)
    go_roundw
    case rel => exact ⟨i + 1, _, rfl, ⟨by have := HI.out; omega⟩, ⟨hlt⟩, ⟨v7, by
     have := HW7.out
     rw [HP.out, HQ.out]
     exact this, HB7.out⟩⟩
    case measure => simp [intOf]; have := HI.out; omega
  ·have hi2 : decide (ii < (l0.length : Int)) = false := by simp; omega
   have hil : i = l0.length := by have := HIL.out; omega
   have HIL2 := Aside0.mk hil
   have hlb2 : (xors_Put.part l0 i).length < 1000000000000 := by omega
   clear hil hin
   go_wp2_with (go_at_call 24; (with_reducible refine (bytes_calls w.heap.size v6 _ w _ HW.out hlb2).mono ?_); rintro e w7 ⟨v0, rfl, hR, hB⟩; have HR7 := Aside0.mk hR; have HB7 := Aside0.mk hB; clear hR hB)
   go_ret2
   refine ⟨v0, rfl, ?_, below_step HB.out HB7.out⟩
   rw [← HIL2.out]
   exact Kd.R_lower HR7.out HB.out.size
theorem xors_Put.calls (A0 : Option Addr) (c0 : Nat) (l0 : List Int) (r1 : List Int) (r2 : Int) (w : World) (hr0 : Kd.C (Kd.int .u64) w A0 l0.length l0) (hc0 : l0.length ≤ c0) (hT_ : Tab w) (h : xors_Put.f l0 = some (r1, r2)) :
  Calls Tryd.prog 10 #[.slice A0 l0.length c0] w fun e w' => ∃ v0_ : Value, e = .returned (.tuple #[v0_, .int .i64 r2]) ∧ Kd.R (Kd.int .u8) 5 w' w.heap.size (fun _ => True) v0_ r1 ∧ Below w.heap.size w w' := by
 unfold xors_Put.f at h
 by_cases h1 : 200 < l0.length
 ·rw [if_pos h1] at h; injection h with h; injection h with e1 e2; subst e1; subst e2
  exact xors_Put.calls_long A0 c0 l0 w h1
 ·rw [if_neg h1] at h
  by_cases h3 : xors_Put.ok l0 = true
  ·rw [if_pos h3] at h; injection h with h; injection h with e1 e2; subst e1; subst e2
   exact xors_Put.calls_main A0 c0 l0 w hr0 hc0 (by omega) (xors_Put.ok_us h3) hT_
  ·rw [if_neg h3] at h; cases h

end Go.Proofs.YtmlbppfcpejlpaaDoor.X

namespace Go.Proofs.YtmlbppfcpejlpaaDoor.X
open Go.RowKit Go.Proofs.YtmlbppfcpejlpaaDoorW.PrintWords Go.Proofs.YtmlbppfcpejlpaaDoorW.PrintLast Go.Proofs.YtmlbppfcpejlpaaDoorW.PrintMore
attribute [local go_sem] max2_int min2_int max_two min_two max_three min_three max_four min_four   -- for this text's walks alone
set_option linter.unusedVariables false
set_option linter.unusedSimpArgs false

/-! ### chunk_values: function 34 -/
def chunk_values.f (k : Nat) (l0 : List Int) (a1 : Int) : Option (List Int) := if a1 = 0 then ((chunk_raw.f k l0).bind fun t328 => (some t328)) else (if a1 = 1 then ((xors_Put.f l0).bind fun bt331 => (some bt331.1)) else (if a1 = 2 then ((runs_Put.f l0).bind fun bt335 => (some bt335.1)) else ((pack_Put.f l0).bind fun bt339 => (some bt339.1))))
theorem chunk_values.mono : ∀ a0 a1 k, LeO (chunk_values.f k a0 a1) (chunk_values.f (k + 1) a0 a1) := by
 intro a0 a1 k
 unfold chunk_values.f
 repeat' first
   | (with_reducible exact chunk_raw.mono _ _)
   | (with_reducible exact LeO.refl _)
   | (with_reducible exact LeO.none _)
   | (with_reducible refine LeO.ite ?_ ?_)
   | (with_reducible refine LeO.bind ?_ (fun _ => ?_))
   | exact chunk_raw.mono _ _
   | exact LeO.none _
   | refine LeO.ite ?_ ?_
   | refine LeO.bind ?_ (fun _ => ?_)
set_option maxHeartbeats 8000000 in
set_option maxRecDepth 100000 in
theorem chunk_values.calls (k : Nat) (A0 : Option Addr) (c0 : Nat) (l0 : List Int) (a1 : Int) (r : List Int) (w : World) (hr0 : Kd.C (Kd.int .u64) w A0 l0.length l0) (hc0 : l0.length ≤ c0) (hT_ : Go.Proofs.YtmlbppfcpejlpaaDoor.W08.Tab w) (h : chunk_values.f k l0 a1 = some r) :
  Calls Tryd.prog 34 #[.slice A0 l0.length c0, .int .i64 a1] w fun e w' => ∃ v0_ : Value, e = .returned (v0_) ∧ Kd.R (Kd.int .u8) 5 w' w.heap.size (fun _ => True) v0_ r ∧ Below w.heap.size w w' := by
 have HTAB := Aside0.mk hT_
 clear hT_
 have HR0 := Aside0.mk hr0
 have HC0 := Aside0.mk hc0
 clear hr0 hc0
 have HB := Aside0.mk (Below.refl w.heap.size w)
 have H : (if a1 = 0 then ((chunk_raw.f k l0).bind fun t328 => (some t328)) else (if a1 = 1 then ((xors_Put.f l0).bind fun bt331 => (some bt331.1)) else (if a1 = 2 then ((runs_Put.f l0).bind fun bt335 => (some bt335.1)) else ((pack_Put.f l0).bind fun bt339 => (some bt339.1))))) = some r := h
 clear h
 by_cases c3 : a1 = 0
 ·rw [if_pos c3] at H
  have c3b0 : (a1 == 0) = true := beq_iff_eq.mpr c3
  have c3b1 : (a1 != 0) = false := bne_eq_false_iff_eq.mpr c3
  clear c3
  replace H := Option.bind_eq_some_iff.mp H
  obtain ⟨t328, A40, H⟩ := H
  replace H : (some t328) = some r := H
  have A4 := Aside0.mk A40
  clear A40
  obtain rfl := Option.some.inj H
  go_enter Tryd.func34, Tryd.ntmps34
  go_wp2_with (first | ((with_reducible refine gate_callee (f := 49) rfl ?_); refine goesL_ (some 15) rfl rfl Tryd.func49 (by kernel_rfl) rfl #[.slice A0 l0.length c0] rfl (by (try simp only [List.map_toArray, List.map_cons, List.map_nil]); first | done | rfl | (simp only [List.length_drop, List.length_take]; rfl)) ?_; (with_reducible refine (chunk_raw.calls k _ _ l0 t328 _ ?side1 ?side2 A4.out).mono ?_); (case side1 => exact cC HR0.out); (case side2 => exact HC0.out); rintro e w5 ⟨v329, rfl, ho0, hb⟩; refine ⟨_, rfl, ?_⟩; have n0_ := Aside0.mk (Kd.R_lower ho0 (below_size bB)); have n1_ := Aside0.mk (below_step bB hb); clear HB; have HO330 := n0_; have HB := n1_; clear n0_ n1_; (try clear hb ho0)))
  go_ret
  exact ⟨_, by first | rfl | (simp [errW_none, errW_some] <;> rfl) | (simp [*, errW_none, errW_some] <;> rfl), rR HO330.out, bB⟩
 ·rw [if_neg c3] at H
  have c3b0 : (a1 == 0) = false := beq_eq_false_iff_ne.mpr c3
  have c3b1 : (a1 != 0) = true := bne_iff_ne.mpr c3
  by_cases c6 : a1 = 1
  ·rw [if_pos c6] at H
   have c6b0 : (a1 == 1) = true := beq_iff_eq.mpr c6
   have c6b1 : (a1 != 1) = false := bne_eq_false_iff_eq.mpr c6
   clear c6
   replace H := Option.bind_eq_some_iff.mp H
   obtain ⟨⟨t331, t332⟩, A70, H⟩ := H
   replace H : (some t331) = some r := H
   have A7 := Aside0.mk A70
   clear A70
   obtain rfl := Option.some.inj H
   go_enter Tryd.func34, Tryd.ntmps34
   go_wp2_with (first | ((with_reducible refine gate_callee (f := 10) rfl ?_); refine goesL_ (some 20) rfl rfl Tryd.func10 (by kernel_rfl) rfl #[.slice A0 l0.length c0] rfl (by (try simp only [List.map_toArray, List.map_cons, List.map_nil]); first | done | rfl | (simp only [List.length_drop, List.length_take]; rfl)) ?_; (with_reducible refine (xors_Put.calls _ _ l0 t331 t332 _ ?side1 ?side2 ?sideT A7.out).mono ?_); (case sideT => exact Go.Proofs.YtmlbppfcpejlpaaDoor.W08.Tab.below HTAB.out bB); (case side1 => exact cC HR0.out); (case side2 => exact HC0.out); rintro e w8 ⟨v333, rfl, ho0, hb⟩; refine ⟨_, rfl, ?_⟩; have n0_ := Aside0.mk (Kd.R_lower ho0 (below_size bB)); have n1_ := Aside0.mk (below_step bB hb); clear HB; have HO334 := n0_; have HB := n1_; clear n0_ n1_; (try clear hb ho0)))
   go_ret
   exact ⟨_, by first | rfl | (simp [errW_none, errW_some] <;> rfl) | (simp [*, errW_none, errW_some] <;> rfl), rR HO334.out, bB⟩
  ·rw [if_neg c6] at H
   have c6b0 : (a1 == 1) = false := beq_eq_false_iff_ne.mpr c6
   have c6b1 : (a1 != 1) = true := bne_iff_ne.mpr c6
   by_cases c9 : a1 = 2
   ·rw [if_pos c9] at H
    have c9b0 : (a1 == 2) = true := beq_iff_eq.mpr c9
    have c9b1 : (a1 != 2) = false := bne_eq_false_iff_eq.mpr c9
    clear c9
    replace H := Option.bind_eq_some_iff.mp H
    obtain ⟨⟨t335, t336⟩, A100, H⟩ := H
    replace H : (some t335) = some r := H
    have A10 := Aside0.mk A100
    clear A100
    obtain rfl := Option.some.inj H
    go_enter Tryd.func34, Tryd.ntmps34
    go_wp2_with (first | ((with_reducible refine gate_callee (f := 50) rfl ?_); refine goesL_ (some 27) rfl rfl Tryd.func50 (by kernel_rfl) rfl #[.slice A0 l0.length c0] rfl (by (try simp only [List.map_toArray, List.map_cons, List.map_nil]); first | done | rfl | (simp only [List.length_drop, List.length_take]; rfl)) ?_; (with_reducible refine (runs_Put.calls _ _ l0 t335 t336 _ ?side1 ?side2 A10.out).mono ?_); (case side1 => exact cC HR0.out); (case side2 => exact HC0.out); rintro e w11 ⟨v337, rfl, ho0, hb⟩; refine ⟨_, rfl, ?_⟩; have n0_ := Aside0.mk (Kd.R_lower ho0 (below_size bB)); have n1_ := Aside0.mk (below_step bB hb); clear HB; have HO338 := n0_; have HB := n1_; clear n0_ n1_; (try clear hb ho0)))
    go_ret
    exact ⟨_, by first | rfl | (simp [errW_none, errW_some] <;> rfl) | (simp [*, errW_none, errW_some] <;> rfl), rR HO338.out, bB⟩
   ·rw [if_neg c9] at H
    have c9b0 : (a1 == 2) = false := beq_eq_false_iff_ne.mpr c9
    have c9b1 : (a1 != 2) = true := bne_iff_ne.mpr c9
    replace H := Option.bind_eq_some_iff.mp H
    obtain ⟨⟨t339, t340⟩, A120, H⟩ := H
    replace H : (some t339) = some r := H
    have A12 := Aside0.mk A120
    clear A120
    obtain rfl := Option.some.inj H
    go_enter Tryd.func34, Tryd.ntmps34
    go_wp2_with (first | ((with_reducible refine gate_callee (f := 51) rfl ?_); refine goesL_ (some 9) rfl rfl Tryd.func51 (by kernel_rfl) rfl #[.slice A0 l0.length c0] rfl (by (try simp only [List.map_toArray, List.map_cons, List.map_nil]); first | done | rfl | (simp only [List.length_drop, List.length_take]; rfl)) ?_; (with_reducible refine (pack_Put.calls _ _ l0 t339 t340 _ ?side1 ?side2 A12.out).mono ?_); (case side1 => exact cC HR0.out); (case side2 => exact HC0.out); rintro e w13 ⟨v341, rfl, ho0, hb⟩; refine ⟨_, rfl, ?_⟩; have n0_ := Aside0.mk (Kd.R_lower ho0 (below_size bB)); have n1_ := Aside0.mk (below_step bB hb); clear HB; have HO342 := n0_; have HB := n1_; clear n0_ n1_; (try clear hb ho0)))
    go_ret
    exact ⟨_, by first | rfl | (simp [errW_none, errW_some] <;> rfl) | (simp [*, errW_none, errW_some] <;> rfl), rR HO342.out, bB⟩

end Go.Proofs.YtmlbppfcpejlpaaDoor.X
