/- Texts of this claim, laid together (wip/merge.py): X0, XBitsReaderLeft, XBitsReaderBad, XBitsHeld, XBitsReaderTake, S, B, W04, XBytesClone, W04b, W04d, XRicklaw04Puts, XRickref04Bytes, XRickref04Put, W04e, XSlicesMinUint64Uint64, XSlicesMaxUint64Uint64, XBitsLen64, Q06, Q04, XRickref04Bits, XRickref04Take, Q04b, Q06b, XBytesEqual, XBytesHasprefix, Q06c, Q06s. No conditions. -/
import Derived.Test.YtmlbppfcpejlpaaProg
import Derived.Below
import Derived.Deep.Draws
import Derived.Deep.AppendLies
import Derived.Maps.AppendAt
import Derived.OwnWalk
import Derived.Laws.BytesArg
import Derived.Laws.MakeOwn
import Derived.Laws.OwnMore
import Derived.Deep.OwnRows
import Derived.Tactics
import Derived.Lib.ConvBytes
import Derived.Laws.Slices
import Derived.WalkKit
import Derived.KernelRfl
import Derived.RowKit3
import Derived.Deep.LoopGhost
import Derived.Deep.QuietTactic
import Derived.BigQuiet
import Derived.WideLaws
import Derived.Deep.DeepCutAuto
import Derived.Deep.CutBlock
import Derived.Deep.RegionHeld3
import Derived.Laws.Rows
import Derived.Lib.AppendStr
import Derived.ArgAppend
import Derived.Laws.IdiomCopy
import Derived.OrdersHeld
import Derived.Laws.BitsLemmas
import Derived.RowKit
import Derived.Test.YtmlbppfcpejlpaaWWords
import Derived.Test.YtmlbppfcpejlpaaWLast
import Derived.Test.YtmlbppfcpejlpaaWTab
import Derived.Test.YtmlbppfcpejlpaaWFour
import Derived.Test.YtmlbppfcpejlpaaWQPut
import Derived.Test.YtmlbppfcpejlpaaWApart
import Derived.Test.YtmlbppfcpejlpaaWArr
import Derived.Test.YtmlbppfcpejlpaaWZeros
import Derived.Test.YtmlbppfcpejlpaaWFoot
import Derived.Test.YtmlbppfcpejlpaaWKept
import Derived.Test.YtmlbppfcpejlpaaWShare
import Derived.Test.YtmlbppfcpejlpaaWN
import Derived.Test.YtmlbppfcpejlpaaWFootNe
import Derived.Test.YtmlbppfcpejlpaaWAt
import Derived.Test.YtmlbppfcpejlpaaWEqStruct
import Derived.Test.YtmlbppfcpejlpaaWRepsOne
import Derived.Test.YtmlbppfcpejlpaaWInv
import Derived.Test.YtmlbppfcpejlpaaWInvWords
import Derived.Test.YtmlbppfcpejlpaaWGuard
import Derived.Test.YtmlbppfcpejlpaaWNEv
import Derived.Test.YtmlbppfcpejlpaaWMore
import Derived.StillTailTactics
import Derived.Outline
import Derived.Lib.SliceRun
import Derived.Deep.SlicePairs
-- Printed by this session's own program (wip/xprint.py) over the translation; its external functions are hand-written. Lean checks it.
namespace Go.Proofs.Ytmlbppfcpejlpaa.X
open Go.RowKit Go.Proofs.YtmlbppfcpejlpaaW.PrintWords Go.Proofs.YtmlbppfcpejlpaaW.PrintLast Go.Proofs.YtmlbppfcpejlpaaW.PrintMore
attribute [local go_sem] max2_int min2_int max_two min_two max_three min_three max_four min_four   -- for this text's walks alone
set_option linter.unusedVariables false
set_option linter.unusedSimpArgs false



def errW : Option Int → Value
  | none => .nilIface
  | some c => .iface 0 (.int .i64 c)
theorem errW_none : errW none = .nilIface := rfl
theorem errW_some (c : Int) : errW (some c) = .iface 0 (.int .i64 c) := rfl

theorem info2 : (Try.prog.info? 2).map (fun i => (i.zero, i.size, i.bytes)) = some (some (.int .i64 0), 1, 8) := by kernel_rfl
theorem info5 : (Try.prog.info? 5).map (fun i => (i.zero, i.size, i.bytes)) = some (some (.int .u8 0), 1, 1) := by kernel_rfl
theorem info23 : (Try.prog.info? 23).map (fun i => (i.zero, i.size, i.bytes)) = some (some (.int .u64 0), 1, 8) := by kernel_rfl
theorem info105 : (Try.prog.info? 105).map (fun i => (i.zero, i.size, i.bytes)) = some (some (.agg #[(.int .u64 0), (.int .i64 0), (.int .i64 0)]), 3, 24) := by kernel_rfl
-- the values' own types
def rd_L1 (xs : List (List Int)) (i : Int) : (List Int) := xs.getD i.toNat ([] : List Int)
theorem at_L1 {w : World} {A : Option Addr} {n : Nat} {xs : List (List Int)} (h : Kd.C (Kd.slice 5 (Kd.int .u8)) w A n xs) (i : Int) (h0 : 0 ≤ i) (h1 : i < n) : ∃ ad A0 c0, A = some ad ∧ w.cell? (ad.add i.toNat) = some (.slice A0 (rd_L1 xs i).length c0) ∧ (rd_L1 xs i).length ≤ c0 ∧ (Kd.int .u8).C w A0 (rd_L1 xs i).length (rd_L1 xs i) := by
  obtain ⟨ad, c, e, _, hK, hc0⟩ := Kd.C_get h ([] : List Int) i h0 h1
  have hc : ∀ j u, c[j]? = some u → w.cell? (ad.add (i.toNat * 1 + j)) = some u := hc0
  obtain ⟨A0, c0, rfl, l0, g0⟩ := hK
  exact ⟨ad, A0, c0, e, by have hq := hc 0 _ rfl; rwa [Nat.mul_one, Nat.add_zero] at hq, l0, g0⟩

def rd_L4 (xs : List (List Int)) (i : Int) : (List Int) := xs.getD i.toNat ([] : List Int)
theorem at_L4 {w : World} {A : Option Addr} {n : Nat} {xs : List (List Int)} (h : Kd.C (Kd.slice 3 (Kd.int .i64)) w A n xs) (i : Int) (h0 : 0 ≤ i) (h1 : i < n) : ∃ ad A0 c0, A = some ad ∧ w.cell? (ad.add i.toNat) = some (.slice A0 (rd_L4 xs i).length c0) ∧ (rd_L4 xs i).length ≤ c0 ∧ (Kd.int .i64).C w A0 (rd_L4 xs i).length (rd_L4 xs i) := by
  obtain ⟨ad, c, e, _, hK, hc0⟩ := Kd.C_get h ([] : List Int) i h0 h1
  have hc : ∀ j u, c[j]? = some u → w.cell? (ad.add (i.toNat * 1 + j)) = some u := hc0
  obtain ⟨A0, c0, rfl, l0, g0⟩ := hK
  exact ⟨ad, A0, c0, e, by have hq := hc 0 _ rfl; rwa [Nat.mul_one, Nat.add_zero] at hq, l0, g0⟩

def rd_L5 (xs : List (List Int)) (i : Int) : (List Int) := xs.getD i.toNat ([] : List Int)
theorem at_L5 {w : World} {A : Option Addr} {n : Nat} {xs : List (List Int)} (h : Kd.C (Kd.slice 23 (Kd.int .u64)) w A n xs) (i : Int) (h0 : 0 ≤ i) (h1 : i < n) : ∃ ad A0 c0, A = some ad ∧ w.cell? (ad.add i.toNat) = some (.slice A0 (rd_L5 xs i).length c0) ∧ (rd_L5 xs i).length ≤ c0 ∧ (Kd.int .u64).C w A0 (rd_L5 xs i).length (rd_L5 xs i) := by
  obtain ⟨ad, c, e, _, hK, hc0⟩ := Kd.C_get h ([] : List Int) i h0 h1
  have hc : ∀ j u, c[j]? = some u → w.cell? (ad.add (i.toNat * 1 + j)) = some u := hc0
  obtain ⟨A0, c0, rfl, l0, g0⟩ := hK
  exact ⟨ad, A0, c0, e, by have hq := hc 0 _ rfl; rwa [Nat.mul_one, Nat.add_zero] at hq, l0, g0⟩

/-! #### struct type 105 -/
structure S105 where
  f0 : Int
  f1 : Int
  f2 : Int
def z105 : S105 := ⟨(0 : Int), (0 : Int), (0 : Int)⟩
def k105 : Kd S105 := Kd.iso (Kd.pair (Kd.int .u64) (Kd.pair (Kd.int .i64) (Kd.int .i64))) (fun x : S105 => (x.f0, x.f1, x.f2))
theorem k105_heap : Kd.Heap k105 := Kd.heap_iso _ (Kd.heap_pair (Kd.heap_int .u64) (Kd.heap_pair (Kd.heap_int .i64) (Kd.heap_int .i64)))
theorem k105_open {w : World} {x : S105} {cs : List Value} (h : k105.K w x cs) : cs = [.int .u64 x.f0, .int .i64 x.f1, .int .i64 x.f2] := by
  obtain ⟨_, _, rfl, rfl, ⟨_, _, rfl, rfl, rfl⟩⟩ := h
  exact rfl
theorem k105_openM {w : World} {base : Nat} {ok : Nat → Prop} {x : S105} {cs : List Value} (h : k105.M w base ok x cs) : cs = [.int .u64 x.f0, .int .i64 x.f1, .int .i64 x.f2] := by
  obtain ⟨_, _, rfl, rfl, ⟨_, _, rfl, rfl, rfl⟩⟩ := h
  exact rfl
theorem k105_mk (w : World) (x : S105)  : k105.K w x [.int .u64 x.f0, .int .i64 x.f1, .int .i64 x.f2] := ⟨[.int .u64 x.f0], [.int .i64 x.f1, .int .i64 x.f2], rfl, rfl, ⟨[.int .i64 x.f1], [.int .i64 x.f2], rfl, rfl, rfl⟩⟩
theorem k105_mkM (w : World) (base : Nat) (ok : Nat → Prop) (x : S105)  : k105.M w base ok x [.int .u64 x.f0, .int .i64 x.f1, .int .i64 x.f2] := ⟨[.int .u64 x.f0], [.int .i64 x.f1, .int .i64 x.f2], rfl, rfl, ⟨[.int .i64 x.f1], [.int .i64 x.f2], rfl, rfl, rfl⟩⟩
theorem k105_mkF (W : World) (ok : Nat → Prop) (x : S105) : Kd.FK k105 W ok x [.int .u64 x.f0, .int .i64 x.f1, .int .i64 x.f2] := fun W2 _ => k105_mk W2 x
def rd_T105 (xs : List S105) (i : Int) : S105 := xs.getD i.toNat z105
theorem at_T105 {w : World} {A : Option Addr} {n : Nat} {xs : List S105} (h : Kd.C k105 w A n xs) (i : Int) (h0 : 0 ≤ i) (h1 : i < n) : ∃ ad , A = some ad ∧ w.cell? (ad.add (i.toNat * 3)) = some (.int .u64 (rd_T105 xs i).f0) ∧ w.cell? ⟨(ad.add (i.toNat * 3)).block, (ad.add (i.toNat * 3)).off + 1, none⟩ = some (.int .i64 (rd_T105 xs i).f1) ∧ w.cell? ⟨(ad.add (i.toNat * 3)).block, (ad.add (i.toNat * 3)).off + 2, none⟩ = some (.int .i64 (rd_T105 xs i).f2) := by
  obtain ⟨ad, c, e, _, hK, hc0⟩ := Kd.C_get h z105 i h0 h1
  have hc : ∀ j u, c[j]? = some u → w.cell? (ad.add (i.toNat * 3 + j)) = some u := hc0
  obtain rfl := k105_open hK
  exact ⟨ad, e, hc 0 _ rfl, by rw [← add_field _ _ 1 (by omega)]; exact hc 1 _ rfl, by rw [← add_field _ _ 2 (by omega)]; exact hc 2 _ rfl⟩

def rd_L7 (xs : List (List Int)) (i : Int) : (List Int) := xs.getD i.toNat ([] : List Int)
theorem at_L7 {w : World} {A : Option Addr} {n : Nat} {xs : List (List Int)} (h : Kd.C (Kd.slice 2 (Kd.int .i64)) w A n xs) (i : Int) (h0 : 0 ≤ i) (h1 : i < n) : ∃ ad A0 c0, A = some ad ∧ w.cell? (ad.add i.toNat) = some (.slice A0 (rd_L7 xs i).length c0) ∧ (rd_L7 xs i).length ≤ c0 ∧ (Kd.int .i64).C w A0 (rd_L7 xs i).length (rd_L7 xs i) := by
  obtain ⟨ad, c, e, _, hK, hc0⟩ := Kd.C_get h ([] : List Int) i h0 h1
  have hc : ∀ j u, c[j]? = some u → w.cell? (ad.add (i.toNat * 1 + j)) = some u := hc0
  obtain ⟨A0, c0, rfl, l0, g0⟩ := hK
  exact ⟨ad, A0, c0, e, by have hq := hc 0 _ rfl; rwa [Nat.mul_one, Nat.add_zero] at hq, l0, g0⟩

end Go.Proofs.Ytmlbppfcpejlpaa.X

-- Printed by this session's own program (wip/xprint.py) over the translation; its external functions are hand-written. Lean checks it.
namespace Go.Proofs.Ytmlbppfcpejlpaa.X
open Go.RowKit Go.Proofs.YtmlbppfcpejlpaaW.PrintWords Go.Proofs.YtmlbppfcpejlpaaW.PrintLast Go.Proofs.YtmlbppfcpejlpaaW.PrintMore
attribute [local go_sem] max2_int min2_int max_two min_two max_three min_three max_four min_four   -- for this text's walks alone
set_option linter.unusedVariables false
set_option linter.unusedSimpArgs false

/-- A state of type 81 at block g of W; what its slices lead to came in by w0. -/
def IsS81 (w0 W : World) (g : Nat) (f0 : List Int) (f1 : Int) (f2 : Bool) : Prop := ∃ A0 c0, W.heap[g]? = some (.cells #[.slice A0 f0.length c0, .int .i64 f1, .bool f2] 81 (0, 0)) ∧ w0.heap.size ≤ g ∧ Kd.C (Kd.int .u8) w0 A0 f0.length f0
theorem IsS81.grown {w0 W : World} {g : Nat} {f0 : List Int} {f1 : Int} {f2 : Bool} {W1 : World} {row : Option Nat} (h : IsS81 w0 W g f0 f1 f2) (hw : W.grownBy W1 row) (hne : some g ≠ row) : IsS81 w0 W1 g f0 f1 f2 := by
  obtain ⟨A0, c0, hb, hg, hr0⟩ := h
  exact ⟨A0, c0, blk_grown hb hw hne, hg, hr0⟩
theorem IsS81.own_neN {w0 W : World} {g : Nat} {f0 : List Int} {f1 : Int} {f2 : Bool} {α : Type} {d : Kd α} {e : Nat} {base : Nat} {ok : Nat → Prop} {v : Value} {xs : List α} (h : IsS81 w0 W g f0 f1 f2) (ho : Kd.N d e W base ok v xs) (ht : e ≠ 81) : some g ≠ v.ownBlock := by
  obtain ⟨A0, c0, hb, hg, hr0⟩ := h
  exact Kd.N_ne ho hb ht
theorem IsS81.fresh {w0 W : World} {g : Nat} {f0 : List Int} {f1 : Int} {f2 : Bool} (h : IsS81 w0 W g f0 f1 f2) : ∀ k, W.heap.size ≤ k → k ≠ g := by
  obtain ⟨A0, c0, hb, hg, hr0⟩ := h
  exact Kd.freshB hb
theorem IsS81.kept {w0 W : World} {g : Nat} {f0 : List Int} {f1 : Int} {f2 : Bool} {W1 : World} {S : Nat → Prop} (h : IsS81 w0 W g f0 f1 f2) (hk : Kept W W1 S) (hne : ¬ S g) : IsS81 w0 W1 g f0 f1 f2 := by
  obtain ⟨A0, c0, hb, hg, hr0⟩ := h
  exact ⟨A0, c0, blk_kept hb hk hne, hg, hr0⟩
theorem IsS81.below {w0 W : World} {g : Nat} {f0 : List Int} {f1 : Int} {f2 : Bool} {W1 : World} (h : IsS81 w0 W g f0 f1 f2) (hw : Below W.heap.size W W1) : IsS81 w0 W1 g f0 f1 f2 := h.grown (grown_of_below hw none) (by simp)
theorem IsS81.alloc {w0 W : World} {g : Nat} {f0 : List Int} {f1 : Int} {f2 : Bool} (h : IsS81 w0 W g f0 f1 f2) (o : Obj) : IsS81 w0 (W.alloc o) g f0 f1 f2 := h.below (below_alloc (Below.refl _ _) o)
theorem IsS81.drewN {w0 W : World} {g : Nat} {f0 : List Int} {f1 : Int} {f2 : Bool} (h : IsS81 w0 W g f0 f1 f2) (m : Nat) : IsS81 w0 (W.drewN m) g f0 f1 f2 := h
theorem IsS81.drew {w0 W : World} {g : Nat} {f0 : List Int} {f1 : Int} {f2 : Bool} (h : IsS81 w0 W g f0 f1 f2) : IsS81 w0 W.drew g f0 f1 f2 := h
theorem IsS81.at_ {w0 W : World} {g : Nat} {f0 : List Int} {f1 : Int} {f2 : Bool} {w' : World} {m : Nat} (hq : W.drewN m = w') (h : IsS81 w0 W g f0 f1 f2) : IsS81 w0 w' g f0 f1 f2 := by subst hq; exact IsS81.drewN h m
theorem IsS81.apart {w0 W : World} {g : Nat} {f0 : List Int} {f1 : Int} {f2 : Bool} {α : Type} {d : Kd α} {e : Nat} {base : Nat} {ok : Nat → Prop} {v : Value} {xs : List α} (h : IsS81 w0 W g f0 f1 f2) (ho : d.R e W base ok v xs) (ht : ∀ q, q ∈ e :: d.E → q ≠ 81) : d.R e W base (fun k => ok k ∧ k ≠ g) v xs := by
  obtain ⟨A0, c0, hb, hg, hr0⟩ := h
  exact Kd.R_types ho hb ht
theorem IsS81.own_ne {w0 W : World} {g : Nat} {f0 : List Int} {f1 : Int} {f2 : Bool} {α : Type} {d : Kd α} {e : Nat} {base : Nat} {ok : Nat → Prop} {v : Value} {xs : List α} (h : IsS81 w0 W g f0 f1 f2) (ho : d.R e W base ok v xs) (ht : e ≠ 81) : some g ≠ v.ownBlock := by
  obtain ⟨A0, c0, hb, hg, hr0⟩ := h
  exact Kd.R_ne ho hb ht
theorem IsS81.apartQ {w0 W : World} {g : Nat} {f0 : List Int} {f1 : Int} {f2 : Bool} {α : Type} {d : Kd α} {e : Nat} {base : Nat} {ok : Nat → Prop} {v : Value} {xs : List α} (h : IsS81 w0 W g f0 f1 f2) (ho : d.Q e W base ok v xs) (ht : ∀ q, q ∈ e :: d.E → q ≠ 81) : d.Q e W base (fun k => ok k ∧ k ≠ g) v xs := by
  obtain ⟨A0, c0, hb, hg, hr0⟩ := h
  exact Kd.Q_types ho hb ht
theorem IsS81.own_neQ {w0 W : World} {g : Nat} {f0 : List Int} {f1 : Int} {f2 : Bool} {α : Type} {d : Kd α} {e : Nat} {base : Nat} {ok : Nat → Prop} {v : Value} {xs : List α} (h : IsS81 w0 W g f0 f1 f2) (ho : d.Q e W base ok v xs) (ht : e ≠ 81) : some g ≠ v.ownBlock := by
  obtain ⟨A0, c0, hb, hg, hr0⟩ := h
  exact Kd.Q_ne ho hb ht
theorem IsS81.apartS {w0 W : World} {g : Nat} {f0 : List Int} {f1 : Int} {f2 : Bool} {α : Type} {d : Kd α} {e : Nat} {base : Nat} {ok : Nat → Prop} {v : Value} {xs : List α} (h : IsS81 w0 W g f0 f1 f2) (ho : d.S e W base ok v xs) (ht : ∀ q, q ∈ e :: d.E → q ≠ 81) : d.S e W base (fun k => ok k ∧ k ≠ g) v xs := by
  obtain ⟨A0, c0, hb, hg, hr0⟩ := h
  exact Kd.S_types ho hb ht
theorem IsS81.own_neS {w0 W : World} {g : Nat} {f0 : List Int} {f1 : Int} {f2 : Bool} {α : Type} {d : Kd α} {e : Nat} {base : Nat} {ok : Nat → Prop} {v : Value} {xs : List α} (h : IsS81 w0 W g f0 f1 f2) (ho : d.S e W base ok v xs) (ht : e ≠ 81) : some g ≠ v.ownBlock := by
  obtain ⟨A0, c0, hb, hg, hr0⟩ := h
  exact Kd.S_ne ho hb ht
theorem IsS81.lt {w0 W : World} {g : Nat} {f0 : List Int} {f1 : Int} {f2 : Bool} (h : IsS81 w0 W g f0 f1 f2) : g < W.heap.size := by
  obtain ⟨A0, c0, hb, hg, hr0⟩ := h
  exact blk_lt hb
theorem IsS81.ge {w0 W : World} {g : Nat} {f0 : List Int} {f1 : Int} {f2 : Bool} (h : IsS81 w0 W g f0 f1 f2) : w0.heap.size ≤ g := by
  obtain ⟨A0, c0, hb, hg, hr0⟩ := h
  exact hg
theorem IsS81.ne_blk {w0 W : World} {g : Nat} {f0 : List Int} {f1 : Int} {f2 : Bool} {a : Nat} {cs : Array Value} {t : TypeId} {fr : Nat × Nat} (h : IsS81 w0 W g f0 f1 f2) (hb2 : W.heap[a]? = some (.cells cs t fr)) (ht : t ≠ 81) : g ≠ a := by
  obtain ⟨A0, c0, hb, hg, hr0⟩ := h
  rintro rfl
  rw [hb] at hb2
  injection hb2 with hb2
  injection hb2 with _ ht2
  exact ht ht2.symm
theorem IsS81.far {w0 W : World} {g : Nat} {f0 : List Int} {f1 : Int} {f2 : Bool} {p : Addr} (h : IsS81 w0 W g f0 f1 f2) (hne : g ≠ p.block) (u : Value) : IsS81 w0 (W.setCell p u) g f0 f1 f2 := by
  obtain ⟨A0, c0, hb, hg, hr0⟩ := h
  exact ⟨A0, c0, blk_far hb hne u, hg, hr0⟩
theorem cellS81_0 {W : World} {g : Nat} {A0 : Option Addr} {c0 : Nat} {f0 : List Int} {f1 : Int} {f2 : Bool} (h : W.heap[g]? = some (.cells #[.slice A0 f0.length c0, .int .i64 f1, .bool f2] 81 (0, 0))) : W.cell? ⟨g, 0, none⟩ = some (.slice A0 f0.length c0) := (blk_cell h 0).trans rfl
theorem cellS81_1 {W : World} {g : Nat} {A0 : Option Addr} {c0 : Nat} {f0 : List Int} {f1 : Int} {f2 : Bool} (h : W.heap[g]? = some (.cells #[.slice A0 f0.length c0, .int .i64 f1, .bool f2] 81 (0, 0))) : W.cell? ⟨g, 1, none⟩ = some (.int .i64 f1) := (blk_cell h 1).trans rfl
theorem IsS81.set_1 {w0 W : World} {g : Nat} {f0 : List Int} {f1 : Int} {f2 : Bool} (h : IsS81 w0 W g f0 f1 f2) (x : Int) : IsS81 w0 (W.setCell ⟨g, 1, none⟩ (.int .i64 x)) g f0 x f2 := by
  obtain ⟨A0, c0, hb, hg, hr0⟩ := h
  exact ⟨A0, c0, by simpa using blk_set hb 1 (.int .i64 x), hg, hr0⟩
theorem cellS81_2 {W : World} {g : Nat} {A0 : Option Addr} {c0 : Nat} {f0 : List Int} {f1 : Int} {f2 : Bool} (h : W.heap[g]? = some (.cells #[.slice A0 f0.length c0, .int .i64 f1, .bool f2] 81 (0, 0))) : W.cell? ⟨g, 2, none⟩ = some (.bool f2) := (blk_cell h 2).trans rfl
theorem IsS81.set_2 {w0 W : World} {g : Nat} {f0 : List Int} {f1 : Int} {f2 : Bool} (h : IsS81 w0 W g f0 f1 f2) (x : Bool) : IsS81 w0 (W.setCell ⟨g, 2, none⟩ (.bool x)) g f0 f1 x := by
  obtain ⟨A0, c0, hb, hg, hr0⟩ := h
  exact ⟨A0, c0, by simpa using blk_set hb 2 (.bool x), hg, hr0⟩
theorem IsS81.new (w0 W : World) (A0 : Option Addr) (c0 : Nat) (f0 : List Int) (f1 : Int) (f2 : Bool) (hB : Below w0.heap.size w0 W) (hr0 : Kd.C (Kd.int .u8) w0 A0 f0.length f0) : IsS81 w0 (W.alloc (.cells #[.slice A0 f0.length c0, .int .i64 f1, .bool f2] 81)) W.heap.size f0 f1 f2 := ⟨A0, c0, by simpa using heap_alloc_new W _, hB.size, hr0⟩

/-! ### bits_Reader_Left: function 30 -/
def bits_Reader_Left.f (s0_0 : List Int) (s0_1 : Int) (s0_2 : Bool) : Option (Int × Int × Bool) := some (wrap64 ((wrap64 (8 * (s0_0.length : Int))) - s0_1), s0_1, s0_2)
set_option maxHeartbeats 8000000 in
set_option maxRecDepth 100000 in
theorem bits_Reader_Left.calls (g : Nat) (s0_0 : List Int) (s0_1 : Int) (s0_2 : Bool) (r1 : Int) (r2 : Int) (r3 : Bool) (w0 w : World) (hI : IsS81 w0 w g s0_0 s0_1 s0_2) (hB : Below w0.heap.size w0 w) (h : bits_Reader_Left.f s0_0 s0_1 s0_2 = some (r1, r2, r3)) :
    Calls Try.prog 30 #[.pointer (some ⟨g, 0, none⟩)] w fun e w' => e = .returned (.int .i64 r1) ∧ IsS81 w0 w' g s0_0 r2 r3 ∧ Below w0.heap.size w0 w' ∧ KeepBut w w' g none := by
  have HI0 := Aside0.mk hI
  have HK := Aside0.mk (KeepBut.refl w g none)
  have HL := Aside0.mk hB.size
  clear hI
  have HW0 := Aside0.mk hB.size
  have HB := Aside0.mk hB
  clear hB
  have H : (some (wrap64 ((wrap64 (8 * (s0_0.length : Int))) - s0_1), s0_1, s0_2)) = some (r1, r2, r3) := h
  clear h
  simp only [Option.some.injEq, Prod.mk.injEq] at H
  obtain ⟨rfl, rfl, rfl⟩ := H
  obtain ⟨ASz2_0, cSz2_0, HGz2, hgz2, HSz2_0⟩ := HI0.out
  have hcz2_0 := cellS81_0 HGz2
  have hcz2_1 := cellS81_1 HGz2
  have hcz2_2 := cellS81_2 HGz2
  have hfz2_1 := blk_frozen HGz2 1
  have hfz2_2 := blk_frozen HGz2 2
  clear HGz2 hgz2
  go_enter Try.func30, Try.ntmps30
  go_wp2
  repeat (go_quiet (fail); try go_wp2)
  go_ret
  exact ⟨by first | rfl | (simp [errW_none, errW_some] <;> rfl) | (simp [*, errW_none, errW_some] <;> rfl), by repeat (first | (with_reducible first | exact HI0.out | apply IsS81.alloc | apply IsS81.drewN | apply IsS81.drew | apply IsS81.set_1 | apply IsS81.set_2) | exact HI0.out), by repeat (first | (with_reducible first | exact HB.out | apply below_alloc | apply pw_below_drewN | apply below_drew1 | refine below_set ?_ (IsS81.ge HI0.out)) | exact HB.out), by repeat (first | (with_reducible first | exact HK.out | apply KeepBut.set_ | apply keep_drewN | apply keep_drew | apply keep_alloc) | exact HK.out)⟩

end Go.Proofs.Ytmlbppfcpejlpaa.X

-- Printed by this session's own program (wip/xprint.py) over the translation; its external functions are hand-written. Lean checks it.
namespace Go.Proofs.Ytmlbppfcpejlpaa.X
open Go.RowKit Go.Proofs.YtmlbppfcpejlpaaW.PrintWords Go.Proofs.YtmlbppfcpejlpaaW.PrintLast Go.Proofs.YtmlbppfcpejlpaaW.PrintMore
attribute [local go_sem] max2_int min2_int max_two min_two max_three min_three max_four min_four   -- for this text's walks alone
set_option linter.unusedVariables false
set_option linter.unusedSimpArgs false

/-! ### bits_Reader_Bad: function 29 -/
def bits_Reader_Bad.f (s0_0 : List Int) (s0_1 : Int) (s0_2 : Bool) : Option (Bool × Int × Bool) := some (s0_2, s0_1, s0_2)
set_option maxHeartbeats 8000000 in
set_option maxRecDepth 100000 in
theorem bits_Reader_Bad.calls (g : Nat) (s0_0 : List Int) (s0_1 : Int) (s0_2 : Bool) (r1 : Bool) (r2 : Int) (r3 : Bool) (w0 w : World) (hI : IsS81 w0 w g s0_0 s0_1 s0_2) (hB : Below w0.heap.size w0 w) (h : bits_Reader_Bad.f s0_0 s0_1 s0_2 = some (r1, r2, r3)) :
    Calls Try.prog 29 #[.pointer (some ⟨g, 0, none⟩)] w fun e w' => e = .returned (.bool r1) ∧ IsS81 w0 w' g s0_0 r2 r3 ∧ Below w0.heap.size w0 w' ∧ KeepBut w w' g none := by
  have HI0 := Aside0.mk hI
  have HK := Aside0.mk (KeepBut.refl w g none)
  have HL := Aside0.mk hB.size
  clear hI
  have HW0 := Aside0.mk hB.size
  have HB := Aside0.mk hB
  clear hB
  have H : (some (s0_2, s0_1, s0_2)) = some (r1, r2, r3) := h
  clear h
  simp only [Option.some.injEq, Prod.mk.injEq] at H
  obtain ⟨rfl, rfl, rfl⟩ := H
  obtain ⟨ASz2_0, cSz2_0, HGz2, hgz2, HSz2_0⟩ := HI0.out
  have hcz2_0 := cellS81_0 HGz2
  have hcz2_1 := cellS81_1 HGz2
  have hcz2_2 := cellS81_2 HGz2
  have hfz2_1 := blk_frozen HGz2 1
  have hfz2_2 := blk_frozen HGz2 2
  clear HGz2 hgz2
  go_enter Try.func29, Try.ntmps29
  go_wp2
  go_ret
  exact ⟨by first | rfl | (simp [errW_none, errW_some] <;> rfl) | (simp [*, errW_none, errW_some] <;> rfl), by repeat (first | (with_reducible first | exact HI0.out | apply IsS81.alloc | apply IsS81.drewN | apply IsS81.drew | apply IsS81.set_1 | apply IsS81.set_2) | exact HI0.out), by repeat (first | (with_reducible first | exact HB.out | apply below_alloc | apply pw_below_drewN | apply below_drew1 | refine below_set ?_ (IsS81.ge HI0.out)) | exact HB.out), by repeat (first | (with_reducible first | exact HK.out | apply KeepBut.set_ | apply keep_drewN | apply keep_drew | apply keep_alloc) | exact HK.out)⟩

end Go.Proofs.Ytmlbppfcpejlpaa.X

-- Printed by this session's own program (wip/xprint.py) over the translation; its external functions are hand-written. Lean checks it.
namespace Go.Proofs.Ytmlbppfcpejlpaa.X
open Go.RowKit Go.Proofs.YtmlbppfcpejlpaaW.PrintWords Go.Proofs.YtmlbppfcpejlpaaW.PrintLast Go.Proofs.YtmlbppfcpejlpaaW.PrintMore
attribute [local go_sem] max2_int min2_int max_two min_two max_three min_three max_four min_four   -- for this text's walks alone
set_option linter.unusedVariables false
set_option linter.unusedSimpArgs false

/-! ### bits_held: function 51 -/
def bits_held.f (a0 : Int) : Option (Int) := some (mn (mx a0 0) 64)
set_option maxHeartbeats 8000000 in
set_option maxRecDepth 100000 in
theorem bits_held.calls (a0 : Int) (r : Int) (w : World) (h : bits_held.f a0 = some r) :
    Calls Try.prog 51 #[.int .i64 a0] w fun e w' => e = .returned (.int .i64 r) ∧ Below w.heap.size w w' := by
  have HB := Aside0.mk (Below.refl w.heap.size w)
  have H : (some (mn (mx a0 0) 64)) = some r := h
  clear h
  obtain ⟨ji2, hji2⟩ : ∃ j_ : Int, (mx a0 0) = j_ := ⟨_, rfl⟩
  replace H : (some (mn (ji2) 64)) = some r := by first | (rw [hji2] at H; exact H) | (simp only [hji2] at H ⊢; exact H)
  (try (have hji2l : 0 ≤ ji2 := by (rw [← hji2]; unfold mx; (repeat' split) <;> omega)))
  (try (have hji2m : 0 ≤ ji2 := by omega))
  have hji2_ : (if a0 < 0 then 0 else a0) = ji2 := hji2
  obtain ⟨ji3, hji3⟩ : ∃ j_ : Int, (mn (ji2) 64) = j_ := ⟨_, rfl⟩
  replace H : (some ji3) = some r := by first | (rw [hji3] at H; exact H) | (simp only [hji3] at H ⊢; exact H)
  have hji3_ : (if 64 < (ji2) then 64 else (ji2)) = ji3 := hji3
  obtain rfl := Option.some.inj H
  go_enter Try.func51, Try.ntmps51
  go_wp2
  go_ret
  exact ⟨by first | rfl | (simp [errW_none, errW_some] <;> rfl) | (simp only [← hji2, ← hji3]; first | rfl | (simp [errW_none, errW_some] <;> rfl)) | (simp [*, errW_none, errW_some] <;> rfl), by repeat (first | (with_reducible first | exact HB.out | apply below_alloc | apply pw_below_drewN | apply below_drew1) | exact HB.out)⟩

end Go.Proofs.Ytmlbppfcpejlpaa.X

-- Printed by this session's own program (wip/xprint.py) over the translation; its external functions are hand-written. Lean checks it.
namespace Go.Proofs.Ytmlbppfcpejlpaa.X
open Go.RowKit Go.Proofs.YtmlbppfcpejlpaaW.PrintWords Go.Proofs.YtmlbppfcpejlpaaW.PrintLast Go.Proofs.YtmlbppfcpejlpaaW.PrintMore
attribute [local go_sem] max2_int min2_int max_two min_two max_three min_three max_four min_four   -- for this text's walks alone
set_option linter.unusedVariables false
set_option linter.unusedSimpArgs false

/-! ### bits_Reader_Take: function 28 -/
def bits_Reader_Take.l0 : Nat → Int → Int → Int → List Int → Int → Bool → Option (Int × Int × Bool)
  | 0, _, _, _, _, _, _ => none
  | k + 1, x5, x23, x24, x1000, x1001, x1002 => if x24 < x23 then (if 0 ≤ (wrap64 (Int.tdiv x1001 8)) then (if (wrap64 (Int.tdiv x1001 8)) < (x1000.length : Int) then (if 0 ≤ (wrap64 (7 - (Int.tmod x1001 8))) then (bits_Reader_Take.l0 k (Go.bits .or .u64 (IntKind.u64.wrap (x5 * 2)) (IntKind.u64.wrap (Go.bits .and .u8 (shr .u8 (rd x1000 (wrap64 (Int.tdiv x1001 8))) (wrap64 (7 - (Int.tmod x1001 8)))) 1))) x23 (wrap64 (x24 + 1)) x1000 (wrap64 (x1001 + 1)) x1002) else (none)) else (none)) else (none)) else (some (x5, x1001, x1002))
def bits_Reader_Take.f (k : Nat) (s0_0 : List Int) (s0_1 : Int) (s0_2 : Bool) (a1 : Int) : Option (Int × Int × Bool) := if s0_2 = true then (some (0, s0_1, s0_2)) else ((bits_held.f a1).bind fun t183 => ((bits_Reader_Left.f s0_0 s0_1 s0_2).bind fun bt184 => (if t183 > bt184.1 then (some (0, bt184.2.1, true)) else ((bits_held.f a1).bind fun t187 => (bits_Reader_Take.l0 k 0 t187 0 s0_0 bt184.2.1 bt184.2.2)))))
theorem bits_Reader_Take.mono_l : ∀ k, (∀ y0 y1 y2 y3 y4 y5, LeO (bits_Reader_Take.l0 k y0 y1 y2 y3 y4 y5) (bits_Reader_Take.l0 (k + 1) y0 y1 y2 y3 y4 y5))
  | 0 => fun _ _ _ _ _ _ r h => by simp [bits_Reader_Take.l0] at h
  | k + 1 => by
    have ih0 := bits_Reader_Take.mono_l k
    · intro y0 y1 y2 y3 y4 y5
      unfold bits_Reader_Take.l0
      repeat' first
      | (with_reducible exact ih0 _ _ _ _ _ _)
      | (with_reducible exact LeO.refl _)
      | (with_reducible exact LeO.none _)
      | (with_reducible refine LeO.ite ?_ ?_)
      | (with_reducible refine LeO.bind ?_ (fun _ => ?_))
      | exact ih0 _ _ _ _ _ _
      | exact LeO.none _
      | refine LeO.ite ?_ ?_
      | refine LeO.bind ?_ (fun _ => ?_)
theorem bits_Reader_Take.mono : ∀ a0 a1 a2 a3 k, LeO (bits_Reader_Take.f k a0 a1 a2 a3) (bits_Reader_Take.f (k + 1) a0 a1 a2 a3) := by
  intro a0 a1 a2 a3 k
  have ih0 := bits_Reader_Take.mono_l k
  unfold bits_Reader_Take.f
  repeat' first
      | (with_reducible exact ih0 _ _ _ _ _ _)
      | (with_reducible exact LeO.refl _)
      | (with_reducible exact LeO.none _)
      | (with_reducible refine LeO.ite ?_ ?_)
      | (with_reducible refine LeO.bind ?_ (fun _ => ?_))
      | exact ih0 _ _ _ _ _ _
      | exact LeO.none _
      | refine LeO.ite ?_ ?_
      | refine LeO.bind ?_ (fun _ => ?_)
set_option maxHeartbeats 8000000 in
set_option maxRecDepth 100000 in
theorem bits_Reader_Take.calls (k : Nat) (g : Nat) (s0_0 : List Int) (s0_1 : Int) (s0_2 : Bool) (a1 : Int) (r1 : Int) (r2 : Int) (r3 : Bool) (w0 w : World) (hI : IsS81 w0 w g s0_0 s0_1 s0_2) (hB : Below w0.heap.size w0 w) (h : bits_Reader_Take.f k s0_0 s0_1 s0_2 a1 = some (r1, r2, r3)) :
    Calls Try.prog 28 #[.pointer (some ⟨g, 0, none⟩), .int .i64 a1] w fun e w' => e = .returned (.int .u64 r1) ∧ IsS81 w0 w' g s0_0 r2 r3 ∧ Below w0.heap.size w0 w' ∧ KeepBut w w' g none := by
  have HI0 := Aside0.mk hI
  have HK := Aside0.mk (KeepBut.refl w g none)
  have HL := Aside0.mk hB.size
  clear hI
  have HW0 := Aside0.mk hB.size
  have HB := Aside0.mk hB
  clear hB
  have H : (if s0_2 = true then (some (0, s0_1, s0_2)) else ((bits_held.f a1).bind fun t183 => ((bits_Reader_Left.f s0_0 s0_1 s0_2).bind fun bt184 => (if t183 > bt184.1 then (some (0, bt184.2.1, true)) else ((bits_held.f a1).bind fun t187 => (bits_Reader_Take.l0 k 0 t187 0 s0_0 bt184.2.1 bt184.2.2)))))) = some (r1, r2, r3) := h
  clear h
  by_cases c3 : s0_2 = true
  · subst c3
    have H1 : (some (0, s0_1, true)) = some (r1, r2, r3) := by rw [if_pos rfl] at H; exact H
    clear H
    have H := H1
    clear H1
    simp only [Option.some.injEq, Prod.mk.injEq] at H
    obtain ⟨rfl, rfl, rfl⟩ := H
    obtain ⟨ASz4_0, cSz4_0, HGz4, hgz4, HSz4_0⟩ := HI0.out
    have hcz4_0 := cellS81_0 HGz4
    have hcz4_1 := cellS81_1 HGz4
    have hcz4_2 := cellS81_2 HGz4
    have hfz4_1 := blk_frozen HGz4 1
    have hfz4_2 := blk_frozen HGz4 2
    clear HGz4 hgz4
    go_enter Try.func28, Try.ntmps28
    go_wp2
    repeat (go_quiet (fail); try go_wp2)
    go_ret
    exact ⟨by first | rfl | (simp [errW_none, errW_some] <;> rfl) | (simp [*, errW_none, errW_some] <;> rfl), by repeat (first | (with_reducible first | exact HI0.out | apply IsS81.alloc | apply IsS81.drewN | apply IsS81.drew | apply IsS81.set_1 | apply IsS81.set_2) | exact HI0.out), by repeat (first | (with_reducible first | exact HB.out | apply below_alloc | apply pw_below_drewN | apply below_drew1 | refine below_set ?_ (IsS81.ge HI0.out)) | exact HB.out), by repeat (first | (with_reducible first | exact HK.out | apply KeepBut.set_ | apply keep_drewN | apply keep_drew | apply keep_alloc) | exact HK.out)⟩
  · replace c3 := Bool.eq_false_iff.mpr c3
    subst c3
    have H1 : ((bits_held.f a1).bind fun t183 => ((bits_Reader_Left.f s0_0 s0_1 false).bind fun bt184 => (if t183 > bt184.1 then (some (0, bt184.2.1, true)) else ((bits_held.f a1).bind fun t187 => (bits_Reader_Take.l0 k 0 t187 0 s0_0 bt184.2.1 bt184.2.2))))) = some (r1, r2, r3) := by rw [if_neg (show ¬ (false = true) by decide)] at H; exact H
    clear H
    have H := H1
    clear H1
    replace H := Option.bind_eq_some_iff.mp H
    obtain ⟨t183, A50, H⟩ := H
    replace H : ((bits_Reader_Left.f s0_0 s0_1 false).bind fun bt184 => (if t183 > bt184.1 then (some (0, bt184.2.1, true)) else ((bits_held.f a1).bind fun t187 => (bits_Reader_Take.l0 k 0 t187 0 s0_0 bt184.2.1 bt184.2.2)))) = some (r1, r2, r3) := H
    have A5 := Aside0.mk A50
    clear A50
    replace H := Option.bind_eq_some_iff.mp H
    obtain ⟨⟨t184, t185, t186⟩, A60, H⟩ := H
    replace H : (if t183 > t184 then (some (0, t185, true)) else ((bits_held.f a1).bind fun t187 => (bits_Reader_Take.l0 k 0 t187 0 s0_0 t185 t186))) = some (r1, r2, r3) := H
    have A6 := Aside0.mk A60
    clear A60
    by_cases c7 : t183 > t184
    · rw [if_pos c7] at H
      have c7b0 : decide (t184 < t183) = true := decide_eq_true c7
      clear c7
      simp only [Option.some.injEq, Prod.mk.injEq] at H
      obtain ⟨rfl, rfl, rfl⟩ := H
      obtain ⟨ASz8_0, cSz8_0, HGz8, hgz8, HSz8_0⟩ := HI0.out
      have hcz8_0 := cellS81_0 HGz8
      have hcz8_1 := cellS81_1 HGz8
      have hcz8_2 := cellS81_2 HGz8
      have hfz8_1 := blk_frozen HGz8 1
      have hfz8_2 := blk_frozen HGz8 2
      clear HGz8 hgz8
      go_enter Try.func28, Try.ntmps28
      go_wp2_with (first | (go_at_call 51; (with_reducible refine (bits_held.calls a1 t183 _ A5.out).mono ?_); rintro e w9 ⟨rfl, hb⟩; have n0_ := Aside0.mk (IsS81.below (by repeat (first | (with_reducible first | exact HI0.out | apply IsS81.alloc | apply IsS81.drewN | apply IsS81.drew | apply IsS81.set_1 | apply IsS81.set_2) | exact HI0.out)) hb); have n1_ := Aside0.mk (KeepBut.trans (by repeat (first | (with_reducible first | exact HK.out | apply KeepBut.set_ | apply keep_drewN | apply keep_drew | apply keep_alloc) | exact HK.out)) (KeepBut.of_below hb g none) (.inl rfl)); have n2_ := Aside0.mk (below_step (by repeat (first | (with_reducible first | exact HB.out | apply below_alloc | apply pw_below_drewN | apply below_drew1 | refine below_set ?_ (IsS81.ge HI0.out)) | exact HB.out)) hb); clear HI0; clear HK; clear HB; have HI0 := n0_; have HK := n1_; have HB := n2_; clear n0_ n1_ n2_; (try clear hb); (try clear hb2); (try clear hk); (try clear hi)) | (go_at_call 30; (with_reducible refine (bits_Reader_Left.calls g s0_0 s0_1 false t184 t185 t186 w0 _ ?side1 ?side2 A6.out).mono ?_); (case side1 => repeat (first | (with_reducible first | exact HI0.out | apply IsS81.alloc | apply IsS81.drewN | apply IsS81.drew | apply IsS81.set_1 | apply IsS81.set_2) | exact HI0.out)); (case side2 => repeat (first | (with_reducible first | exact HB.out | apply below_alloc | apply pw_below_drewN | apply below_drew1 | refine below_set ?_ (IsS81.ge HI0.out)) | exact HB.out)); rintro e w10 ⟨rfl, hi, hb, hk⟩; have n0_ := Aside0.mk (KeepBut.trans (by repeat (first | (with_reducible first | exact HK.out | apply KeepBut.set_ | apply keep_drewN | apply keep_drew | apply keep_alloc) | exact HK.out)) hk (.inl rfl)); have n1_ := Aside0.mk (hb); have n2_ := Aside0.mk (hi); clear HK; clear HB; clear HI0; have HK := n0_; have HB := n1_; have HI0 := n2_; clear n0_ n1_ n2_; (try clear hb); (try clear hb2); (try clear hk); (try clear hi); obtain ⟨ASz11_0, cSz11_0, HGz11, hgz11, HSz11_0⟩ := HI0.out; have hcz11_0 := cellS81_0 HGz11; have hcz11_1 := cellS81_1 HGz11; have hcz11_2 := cellS81_2 HGz11; have hfz11_1 := blk_frozen HGz11 1; have hfz11_2 := blk_frozen HGz11 2; clear HGz11 hgz11))
      repeat (go_quiet (first | (go_at_call 51; (with_reducible refine (bits_held.calls a1 t183 _ A5.out).mono ?_); rintro e w9 ⟨rfl, hb⟩; have n0_ := Aside0.mk (IsS81.below (by repeat (first | (with_reducible first | exact HI0.out | apply IsS81.alloc | apply IsS81.drewN | apply IsS81.drew | apply IsS81.set_1 | apply IsS81.set_2) | exact HI0.out)) hb); have n1_ := Aside0.mk (KeepBut.trans (by repeat (first | (with_reducible first | exact HK.out | apply KeepBut.set_ | apply keep_drewN | apply keep_drew | apply keep_alloc) | exact HK.out)) (KeepBut.of_below hb g none) (.inl rfl)); have n2_ := Aside0.mk (below_step (by repeat (first | (with_reducible first | exact HB.out | apply below_alloc | apply pw_below_drewN | apply below_drew1 | refine below_set ?_ (IsS81.ge HI0.out)) | exact HB.out)) hb); clear HI0; clear HK; clear HB; have HI0 := n0_; have HK := n1_; have HB := n2_; clear n0_ n1_ n2_; (try clear hb); (try clear hb2); (try clear hk); (try clear hi)) | (go_at_call 30; (with_reducible refine (bits_Reader_Left.calls g s0_0 s0_1 false t184 t185 t186 w0 _ ?side1 ?side2 A6.out).mono ?_); (case side1 => repeat (first | (with_reducible first | exact HI0.out | apply IsS81.alloc | apply IsS81.drewN | apply IsS81.drew | apply IsS81.set_1 | apply IsS81.set_2) | exact HI0.out)); (case side2 => repeat (first | (with_reducible first | exact HB.out | apply below_alloc | apply pw_below_drewN | apply below_drew1 | refine below_set ?_ (IsS81.ge HI0.out)) | exact HB.out)); rintro e w10 ⟨rfl, hi, hb, hk⟩; have n0_ := Aside0.mk (KeepBut.trans (by repeat (first | (with_reducible first | exact HK.out | apply KeepBut.set_ | apply keep_drewN | apply keep_drew | apply keep_alloc) | exact HK.out)) hk (.inl rfl)); have n1_ := Aside0.mk (hb); have n2_ := Aside0.mk (hi); clear HK; clear HB; clear HI0; have HK := n0_; have HB := n1_; have HI0 := n2_; clear n0_ n1_ n2_; (try clear hb); (try clear hb2); (try clear hk); (try clear hi); obtain ⟨ASz11_0, cSz11_0, HGz11, hgz11, HSz11_0⟩ := HI0.out; have hcz11_0 := cellS81_0 HGz11; have hcz11_1 := cellS81_1 HGz11; have hcz11_2 := cellS81_2 HGz11; have hfz11_1 := blk_frozen HGz11 1; have hfz11_2 := blk_frozen HGz11 2; clear HGz11 hgz11)); try go_wp2_with (first | (go_at_call 51; (with_reducible refine (bits_held.calls a1 t183 _ A5.out).mono ?_); rintro e w9 ⟨rfl, hb⟩; have n0_ := Aside0.mk (IsS81.below (by repeat (first | (with_reducible first | exact HI0.out | apply IsS81.alloc | apply IsS81.drewN | apply IsS81.drew | apply IsS81.set_1 | apply IsS81.set_2) | exact HI0.out)) hb); have n1_ := Aside0.mk (KeepBut.trans (by repeat (first | (with_reducible first | exact HK.out | apply KeepBut.set_ | apply keep_drewN | apply keep_drew | apply keep_alloc) | exact HK.out)) (KeepBut.of_below hb g none) (.inl rfl)); have n2_ := Aside0.mk (below_step (by repeat (first | (with_reducible first | exact HB.out | apply below_alloc | apply pw_below_drewN | apply below_drew1 | refine below_set ?_ (IsS81.ge HI0.out)) | exact HB.out)) hb); clear HI0; clear HK; clear HB; have HI0 := n0_; have HK := n1_; have HB := n2_; clear n0_ n1_ n2_; (try clear hb); (try clear hb2); (try clear hk); (try clear hi)) | (go_at_call 30; (with_reducible refine (bits_Reader_Left.calls g s0_0 s0_1 false t184 t185 t186 w0 _ ?side1 ?side2 A6.out).mono ?_); (case side1 => repeat (first | (with_reducible first | exact HI0.out | apply IsS81.alloc | apply IsS81.drewN | apply IsS81.drew | apply IsS81.set_1 | apply IsS81.set_2) | exact HI0.out)); (case side2 => repeat (first | (with_reducible first | exact HB.out | apply below_alloc | apply pw_below_drewN | apply below_drew1 | refine below_set ?_ (IsS81.ge HI0.out)) | exact HB.out)); rintro e w10 ⟨rfl, hi, hb, hk⟩; have n0_ := Aside0.mk (KeepBut.trans (by repeat (first | (with_reducible first | exact HK.out | apply KeepBut.set_ | apply keep_drewN | apply keep_drew | apply keep_alloc) | exact HK.out)) hk (.inl rfl)); have n1_ := Aside0.mk (hb); have n2_ := Aside0.mk (hi); clear HK; clear HB; clear HI0; have HK := n0_; have HB := n1_; have HI0 := n2_; clear n0_ n1_ n2_; (try clear hb); (try clear hb2); (try clear hk); (try clear hi); obtain ⟨ASz11_0, cSz11_0, HGz11, hgz11, HSz11_0⟩ := HI0.out; have hcz11_0 := cellS81_0 HGz11; have hcz11_1 := cellS81_1 HGz11; have hcz11_2 := cellS81_2 HGz11; have hfz11_1 := blk_frozen HGz11 1; have hfz11_2 := blk_frozen HGz11 2; clear HGz11 hgz11)))
      go_ret
      exact ⟨by first | rfl | (simp [errW_none, errW_some] <;> rfl) | (simp [*, errW_none, errW_some] <;> rfl), by repeat (first | (with_reducible first | exact HI0.out | apply IsS81.alloc | apply IsS81.drewN | apply IsS81.drew | apply IsS81.set_1 | apply IsS81.set_2) | exact HI0.out), by repeat (first | (with_reducible first | exact HB.out | apply below_alloc | apply pw_below_drewN | apply below_drew1 | refine below_set ?_ (IsS81.ge HI0.out)) | exact HB.out), by repeat (first | (with_reducible first | exact HK.out | apply KeepBut.set_ | apply keep_drewN | apply keep_drew | apply keep_alloc) | exact HK.out)⟩
    · rw [if_neg c7] at H
      have c7b0 : decide (t184 < t183) = false := decide_eq_false c7
      clear c7
      replace H := Option.bind_eq_some_iff.mp H
      obtain ⟨t187, A120, H⟩ := H
      replace H : (bits_Reader_Take.l0 k 0 t187 0 s0_0 t185 t186) = some (r1, r2, r3) := H
      have A12 := Aside0.mk A120
      clear A120
      obtain rfl : t183 = t187 := Option.some.inj (A5.out.symm.trans A12.out)
      have H' := Aside0.mk H
      clear H
      obtain ⟨ASz13_0, cSz13_0, HGz13, hgz13, HSz13_0⟩ := HI0.out
      have hcz13_0 := cellS81_0 HGz13
      have hcz13_1 := cellS81_1 HGz13
      have hcz13_2 := cellS81_2 HGz13
      have hfz13_1 := blk_frozen HGz13 1
      have hfz13_2 := blk_frozen HGz13 2
      clear HGz13 hgz13
      go_enter Try.func28, Try.ntmps28
      go_wp2_with (first | (go_at_call 51; (with_reducible refine (bits_held.calls a1 t183 _ A5.out).mono ?_); rintro e w14 ⟨rfl, hb⟩; have n0_ := Aside0.mk (IsS81.below (by repeat (first | (with_reducible first | exact HI0.out | apply IsS81.alloc | apply IsS81.drewN | apply IsS81.drew | apply IsS81.set_1 | apply IsS81.set_2) | exact HI0.out)) hb); have n1_ := Aside0.mk (KeepBut.trans (by repeat (first | (with_reducible first | exact HK.out | apply KeepBut.set_ | apply keep_drewN | apply keep_drew | apply keep_alloc) | exact HK.out)) (KeepBut.of_below hb g none) (.inl rfl)); have n2_ := Aside0.mk (below_step (by repeat (first | (with_reducible first | exact HB.out | apply below_alloc | apply pw_below_drewN | apply below_drew1 | refine below_set ?_ (IsS81.ge HI0.out)) | exact HB.out)) hb); clear HI0; clear HK; clear HB; have HI0 := n0_; have HK := n1_; have HB := n2_; clear n0_ n1_ n2_; (try clear hb); (try clear hb2); (try clear hk); (try clear hi)) | (go_at_call 30; (with_reducible refine (bits_Reader_Left.calls g s0_0 s0_1 false t184 t185 t186 w0 _ ?side1 ?side2 A6.out).mono ?_); (case side1 => repeat (first | (with_reducible first | exact HI0.out | apply IsS81.alloc | apply IsS81.drewN | apply IsS81.drew | apply IsS81.set_1 | apply IsS81.set_2) | exact HI0.out)); (case side2 => repeat (first | (with_reducible first | exact HB.out | apply below_alloc | apply pw_below_drewN | apply below_drew1 | refine below_set ?_ (IsS81.ge HI0.out)) | exact HB.out)); rintro e w15 ⟨rfl, hi, hb, hk⟩; have n0_ := Aside0.mk (KeepBut.trans (by repeat (first | (with_reducible first | exact HK.out | apply KeepBut.set_ | apply keep_drewN | apply keep_drew | apply keep_alloc) | exact HK.out)) hk (.inl rfl)); have n1_ := Aside0.mk (hb); have n2_ := Aside0.mk (hi); clear HK; clear HB; clear HI0; have HK := n0_; have HB := n1_; have HI0 := n2_; clear n0_ n1_ n2_; (try clear hb); (try clear hb2); (try clear hk); (try clear hi)) | (go_at_call 51; (with_reducible refine (bits_held.calls a1 t183 _ A12.out).mono ?_); rintro e w16 ⟨rfl, hb⟩; have n0_ := Aside0.mk (IsS81.below (by repeat (first | (with_reducible first | exact HI0.out | apply IsS81.alloc | apply IsS81.drewN | apply IsS81.drew | apply IsS81.set_1 | apply IsS81.set_2) | exact HI0.out)) hb); have n1_ := Aside0.mk (KeepBut.trans (by repeat (first | (with_reducible first | exact HK.out | apply KeepBut.set_ | apply keep_drewN | apply keep_drew | apply keep_alloc) | exact HK.out)) (KeepBut.of_below hb g none) (.inl rfl)); have n2_ := Aside0.mk (below_step (by repeat (first | (with_reducible first | exact HB.out | apply below_alloc | apply pw_below_drewN | apply below_drew1 | refine below_set ?_ (IsS81.ge HI0.out)) | exact HB.out)) hb); clear HI0; clear HK; clear HB; have HI0 := n0_; have HK := n1_; have HB := n2_; clear n0_ n1_ n2_; (try clear hb); (try clear hb2); (try clear hk); (try clear hi)))
      repeat (go_quiet (first | (go_at_call 51; (with_reducible refine (bits_held.calls a1 t183 _ A5.out).mono ?_); rintro e w14 ⟨rfl, hb⟩; have n0_ := Aside0.mk (IsS81.below (by repeat (first | (with_reducible first | exact HI0.out | apply IsS81.alloc | apply IsS81.drewN | apply IsS81.drew | apply IsS81.set_1 | apply IsS81.set_2) | exact HI0.out)) hb); have n1_ := Aside0.mk (KeepBut.trans (by repeat (first | (with_reducible first | exact HK.out | apply KeepBut.set_ | apply keep_drewN | apply keep_drew | apply keep_alloc) | exact HK.out)) (KeepBut.of_below hb g none) (.inl rfl)); have n2_ := Aside0.mk (below_step (by repeat (first | (with_reducible first | exact HB.out | apply below_alloc | apply pw_below_drewN | apply below_drew1 | refine below_set ?_ (IsS81.ge HI0.out)) | exact HB.out)) hb); clear HI0; clear HK; clear HB; have HI0 := n0_; have HK := n1_; have HB := n2_; clear n0_ n1_ n2_; (try clear hb); (try clear hb2); (try clear hk); (try clear hi)) | (go_at_call 30; (with_reducible refine (bits_Reader_Left.calls g s0_0 s0_1 false t184 t185 t186 w0 _ ?side1 ?side2 A6.out).mono ?_); (case side1 => repeat (first | (with_reducible first | exact HI0.out | apply IsS81.alloc | apply IsS81.drewN | apply IsS81.drew | apply IsS81.set_1 | apply IsS81.set_2) | exact HI0.out)); (case side2 => repeat (first | (with_reducible first | exact HB.out | apply below_alloc | apply pw_below_drewN | apply below_drew1 | refine below_set ?_ (IsS81.ge HI0.out)) | exact HB.out)); rintro e w15 ⟨rfl, hi, hb, hk⟩; have n0_ := Aside0.mk (KeepBut.trans (by repeat (first | (with_reducible first | exact HK.out | apply KeepBut.set_ | apply keep_drewN | apply keep_drew | apply keep_alloc) | exact HK.out)) hk (.inl rfl)); have n1_ := Aside0.mk (hb); have n2_ := Aside0.mk (hi); clear HK; clear HB; clear HI0; have HK := n0_; have HB := n1_; have HI0 := n2_; clear n0_ n1_ n2_; (try clear hb); (try clear hb2); (try clear hk); (try clear hi)) | (go_at_call 51; (with_reducible refine (bits_held.calls a1 t183 _ A12.out).mono ?_); rintro e w16 ⟨rfl, hb⟩; have n0_ := Aside0.mk (IsS81.below (by repeat (first | (with_reducible first | exact HI0.out | apply IsS81.alloc | apply IsS81.drewN | apply IsS81.drew | apply IsS81.set_1 | apply IsS81.set_2) | exact HI0.out)) hb); have n1_ := Aside0.mk (KeepBut.trans (by repeat (first | (with_reducible first | exact HK.out | apply KeepBut.set_ | apply keep_drewN | apply keep_drew | apply keep_alloc) | exact HK.out)) (KeepBut.of_below hb g none) (.inl rfl)); have n2_ := Aside0.mk (below_step (by repeat (first | (with_reducible first | exact HB.out | apply below_alloc | apply pw_below_drewN | apply below_drew1 | refine below_set ?_ (IsS81.ge HI0.out)) | exact HB.out)) hb); clear HI0; clear HK; clear HB; have HI0 := n0_; have HK := n1_; have HB := n2_; clear n0_ n1_ n2_; (try clear hb); (try clear hb2); (try clear hk); (try clear hi))); try go_wp2_with (first | (go_at_call 51; (with_reducible refine (bits_held.calls a1 t183 _ A5.out).mono ?_); rintro e w14 ⟨rfl, hb⟩; have n0_ := Aside0.mk (IsS81.below (by repeat (first | (with_reducible first | exact HI0.out | apply IsS81.alloc | apply IsS81.drewN | apply IsS81.drew | apply IsS81.set_1 | apply IsS81.set_2) | exact HI0.out)) hb); have n1_ := Aside0.mk (KeepBut.trans (by repeat (first | (with_reducible first | exact HK.out | apply KeepBut.set_ | apply keep_drewN | apply keep_drew | apply keep_alloc) | exact HK.out)) (KeepBut.of_below hb g none) (.inl rfl)); have n2_ := Aside0.mk (below_step (by repeat (first | (with_reducible first | exact HB.out | apply below_alloc | apply pw_below_drewN | apply below_drew1 | refine below_set ?_ (IsS81.ge HI0.out)) | exact HB.out)) hb); clear HI0; clear HK; clear HB; have HI0 := n0_; have HK := n1_; have HB := n2_; clear n0_ n1_ n2_; (try clear hb); (try clear hb2); (try clear hk); (try clear hi)) | (go_at_call 30; (with_reducible refine (bits_Reader_Left.calls g s0_0 s0_1 false t184 t185 t186 w0 _ ?side1 ?side2 A6.out).mono ?_); (case side1 => repeat (first | (with_reducible first | exact HI0.out | apply IsS81.alloc | apply IsS81.drewN | apply IsS81.drew | apply IsS81.set_1 | apply IsS81.set_2) | exact HI0.out)); (case side2 => repeat (first | (with_reducible first | exact HB.out | apply below_alloc | apply pw_below_drewN | apply below_drew1 | refine below_set ?_ (IsS81.ge HI0.out)) | exact HB.out)); rintro e w15 ⟨rfl, hi, hb, hk⟩; have n0_ := Aside0.mk (KeepBut.trans (by repeat (first | (with_reducible first | exact HK.out | apply KeepBut.set_ | apply keep_drewN | apply keep_drew | apply keep_alloc) | exact HK.out)) hk (.inl rfl)); have n1_ := Aside0.mk (hb); have n2_ := Aside0.mk (hi); clear HK; clear HB; clear HI0; have HK := n0_; have HB := n1_; have HI0 := n2_; clear n0_ n1_ n2_; (try clear hb); (try clear hb2); (try clear hk); (try clear hi)) | (go_at_call 51; (with_reducible refine (bits_held.calls a1 t183 _ A12.out).mono ?_); rintro e w16 ⟨rfl, hb⟩; have n0_ := Aside0.mk (IsS81.below (by repeat (first | (with_reducible first | exact HI0.out | apply IsS81.alloc | apply IsS81.drewN | apply IsS81.drew | apply IsS81.set_1 | apply IsS81.set_2) | exact HI0.out)) hb); have n1_ := Aside0.mk (KeepBut.trans (by repeat (first | (with_reducible first | exact HK.out | apply KeepBut.set_ | apply keep_drewN | apply keep_drew | apply keep_alloc) | exact HK.out)) (KeepBut.of_below hb g none) (.inl rfl)); have n2_ := Aside0.mk (below_step (by repeat (first | (with_reducible first | exact HB.out | apply below_alloc | apply pw_below_drewN | apply below_drew1 | refine below_set ?_ (IsS81.ge HI0.out)) | exact HB.out)) hb); clear HI0; clear HK; clear HB; have HI0 := n0_; have HK := n1_; have HB := n2_; clear n0_ n1_ n2_; (try clear hb); (try clear hb2); (try clear hk); (try clear hi))))
      go_loopg [5, 24] k (fun kq v5 v24 w' => ∃ (x5_1 : Int) (x24_1 : Int) (x1001_1 : Int), v5 = .int .u64 x5_1 ∧ v24 = .int .i64 x24_1 ∧ Aside0 (bits_Reader_Take.l0 kq x5_1 t183 x24_1 s0_0 x1001_1 t186 = some (r1, r2, r3)) ∧ Aside0 (kq ≤ k) ∧ Aside0 (IsS81 w0 w' g s0_0 x1001_1 t186) ∧ Aside0 (KeepBut w w' g none) ∧ Aside0 (Below w0.heap.size w0 w'))
      case atStart => exact ⟨(0), (0), (t185), (by first | rfl | (simp; done) | (simp [*]; done)), (by first | rfl | (simp; done) | (simp [*]; done)), H', ⟨Nat.le_refl _⟩, ⟨by repeat (first | (with_reducible first | exact HI0.out | apply IsS81.alloc | apply IsS81.drewN | apply IsS81.drew | apply IsS81.set_1 | apply IsS81.set_2) | exact HI0.out)⟩, ⟨by repeat (first | (with_reducible first | exact HK.out | apply KeepBut.set_ | apply keep_drewN | apply keep_drew | apply keep_alloc) | exact HK.out)⟩, ⟨by repeat (first | (with_reducible first | exact HB.out | apply below_alloc | apply pw_below_drewN | apply below_drew1 | refine below_set ?_ (IsS81.ge HI0.out)) | exact HB.out)⟩⟩
      case round =>
        clear H'
        try clear c2
        try clear p2
        try clear c3
        try clear c7
        try clear c7b0
        try clear hcz11_0
        try clear hcz11_1
        try clear hcz11_2
        try clear hcz13_0
        try clear hcz13_1
        try clear hcz13_2
        try clear hcz4_0
        try clear hcz4_1
        try clear hcz4_2
        try clear hcz8_0
        try clear hcz8_1
        try clear hcz8_2
        try clear hfz11_1
        try clear hfz11_2
        try clear hfz13_1
        try clear hfz13_2
        try clear hfz4_1
        try clear hfz4_2
        try clear hfz8_1
        try clear hfz8_2
        obtain ⟨x5_1, x24_1, x1001_1, rfl, rfl, HA, HK1, HI0, HK, HB⟩ := hrel
        cases gk with
        | zero => exact absurd HA.out (by simp [bits_Reader_Take.l0])
        | succ k1 =>
          have H := HA.out
          clear HA
          simp only [bits_Reader_Take.l0] at H
          by_cases c17 : x24_1 < t183
          · rw [if_pos c17] at H
            have c17b0 : decide (x24_1 < t183) = true := decide_eq_true c17
            clear c17
            obtain ⟨ji18, hji18⟩ : ∃ j_ : Int, (wrap64 (Int.tdiv x1001_1 8)) = j_ := ⟨_, rfl⟩
            replace H : (if 0 ≤ (ji18) then (if (ji18) < (s0_0.length : Int) then (if 0 ≤ (wrap64 (7 - (Int.tmod x1001_1 8))) then (bits_Reader_Take.l0 k1 (Go.bits .or .u64 (IntKind.u64.wrap (x5_1 * 2)) (IntKind.u64.wrap (Go.bits .and .u8 (shr .u8 (rd s0_0 (ji18)) (wrap64 (7 - (Int.tmod x1001_1 8)))) 1))) t183 (wrap64 (x24_1 + 1)) s0_0 (wrap64 (x1001_1 + 1)) t186) else (none)) else (none)) else (none)) = some (r1, r2, r3) := by first | (rw [hji18] at H; exact H) | (simp only [hji18] at H ⊢; exact H)
            have hji18w : (IntKind.i64.wrap (Int.tdiv x1001_1 8)) = ji18 := (i64_w _).trans hji18
            by_cases c19 : 0 ≤ (ji18)
            · rw [if_pos c19] at H
              have c19b0 : decide (0 ≤ (ji18)) = true := decide_eq_true c19
              clear c19
              by_cases c20 : (ji18) < (s0_0.length : Int)
              · rw [if_pos c20] at H
                have c20b0 : decide ((ji18) < (s0_0.length : Int)) = true := decide_eq_true c20
                clear c20
                obtain ⟨ji21, hji21⟩ : ∃ j_ : Int, (wrap64 (7 - (Int.tmod x1001_1 8))) = j_ := ⟨_, rfl⟩
                replace H : (if 0 ≤ (ji21) then (bits_Reader_Take.l0 k1 (Go.bits .or .u64 (IntKind.u64.wrap (x5_1 * 2)) (IntKind.u64.wrap (Go.bits .and .u8 (shr .u8 (rd s0_0 (ji18)) (ji21)) 1))) t183 (wrap64 (x24_1 + 1)) s0_0 (wrap64 (x1001_1 + 1)) t186) else (none)) = some (r1, r2, r3) := by first | (rw [hji21] at H; exact H) | (simp only [hji21] at H ⊢; exact H)
                have hji21w : (IntKind.i64.wrap (7 - (Int.tmod x1001_1 8))) = ji21 := (i64_w _).trans hji21
                by_cases c22 : 0 ≤ (ji21)
                · rw [if_pos c22] at H
                  have c22b0 := eq_true c22
                  have c22b1 : decide (0 ≤ (ji21)) = true := decide_eq_true c22
                  clear c22
                  obtain ⟨ji23, hji23⟩ : ∃ j_ : Int, (shr .u8 (rd s0_0 (ji18)) (ji21)) = j_ := ⟨_, rfl⟩
                  replace H : (bits_Reader_Take.l0 k1 (Go.bits .or .u64 (IntKind.u64.wrap (x5_1 * 2)) (IntKind.u64.wrap (Go.bits .and .u8 (ji23) 1))) t183 (wrap64 (x24_1 + 1)) s0_0 (wrap64 (x1001_1 + 1)) t186) = some (r1, r2, r3) := by first | (rw [hji23] at H; exact H) | (simp only [hji23] at H ⊢; exact H)
                  have hji23_ : ((rd s0_0 (ji18)) / 2 ^ min (ji21).toNat 8) = ji23 := hji23
                  have hji23z : (ji21) ≤ 8 → ((rd s0_0 (ji18)) / 2 ^ (ji21).toNat) = ji23 := shr_small hji23
                  have H' := Aside0.mk H
                  clear H
                  obtain ⟨ASz24_0, cSz24_0, HGz24, hgz24, HSz24_0⟩ := HI0.out
                  have hcz24_0 := cellS81_0 HGz24
                  have hcz24_1 := cellS81_1 HGz24
                  have hcz24_2 := cellS81_2 HGz24
                  have hfz24_1 := blk_frozen HGz24 1
                  have hfz24_2 := blk_frozen HGz24 2
                  clear HGz24 hgz24
                  have p188 : 0 ≤ ((ji18) : Int) := of_decide_eq_true (by first | (with_reducible assumption) | assumption)
                  have q188 : (ji18) < (s0_0.length : Int) := of_decide_eq_true (by first | (with_reducible assumption) | assumption)
                  obtain ⟨ad188, e188, hx188_0⟩ := Kd.at_int HSz24_0 (ji18) p188 q188
                  cases e188
                  replace hx188_0 := pw_cell_below HB.out hx188_0
                  replace p188 := eq_true p188
                  replace q188 := eq_true q188
                  go_wp2
                  repeat (go_quiet (fail); try go_wp2)
                  go_roundg k1
                  case measure => have := HK1.out; omega
                  case rel => exact ⟨(Go.bits .or .u64 (IntKind.u64.wrap (x5_1 * 2)) (IntKind.u64.wrap (Go.bits .and .u8 (ji23) 1))), (wrap64 (x24_1 + 1)), (wrap64 (x1001_1 + 1)), (by first | rfl | (simp; done) | (simp only [← hji23] <;> (first | rfl | simp)) | (simp [*]; done)), (by first | rfl | (simp; done) | (simp [*]; done)), H', ⟨by have := HK1.out; omega⟩, ⟨by repeat (first | (with_reducible first | exact HI0.out | apply IsS81.alloc | apply IsS81.drewN | apply IsS81.drew | apply IsS81.set_1 | apply IsS81.set_2) | exact HI0.out)⟩, ⟨by repeat (first | (with_reducible first | exact HK.out | apply KeepBut.set_ | apply keep_drewN | apply keep_drew | apply keep_alloc) | exact HK.out)⟩, ⟨by repeat (first | (with_reducible first | exact HB.out | apply below_alloc | apply pw_below_drewN | apply below_drew1 | refine below_set ?_ (IsS81.ge HI0.out)) | exact HB.out)⟩⟩
                · rw [if_neg c22] at H
                  exact absurd H (by simp)
              · rw [if_neg c20] at H
                exact absurd H (by simp)
            · rw [if_neg c19] at H
              exact absurd H (by simp)
          · rw [if_neg c17] at H
            have c17b0 : decide (x24_1 < t183) = false := decide_eq_false c17
            clear c17
            simp only [Option.some.injEq, Prod.mk.injEq] at H
            obtain ⟨rfl, rfl, rfl⟩ := H
            go_wp2
            repeat (go_quiet (fail); try go_wp2)
            go_ret
            exact ⟨by first | rfl | (simp [errW_none, errW_some] <;> rfl) | (simp [*, errW_none, errW_some] <;> rfl), by repeat (first | (with_reducible first | exact HI0.out | apply IsS81.alloc | apply IsS81.drewN | apply IsS81.drew | apply IsS81.set_1 | apply IsS81.set_2) | exact HI0.out), by repeat (first | (with_reducible first | exact HB.out | apply below_alloc | apply pw_below_drewN | apply below_drew1 | refine below_set ?_ (IsS81.ge HI0.out)) | exact HB.out), by repeat (first | (with_reducible first | exact HK.out | apply KeepBut.set_ | apply keep_drewN | apply keep_drew | apply keep_alloc) | exact HK.out)⟩

end Go.Proofs.Ytmlbppfcpejlpaa.X

/- Plain lemmas on whole numbers, bits and lists of bytes; no program in sight. No conditions. -/
namespace Go.Proofs.Ytmlbppfcpejlpaa.S
open Go Go.RowKit Go.Proofs.YtmlbppfcpejlpaaW.PrintWords Go.Proofs.YtmlbppfcpejlpaaW.PrintMore
set_option linter.unusedVariables false
set_option linter.unusedSimpArgs false

theorem wrap_u64 (n : Int) : IntKind.u64.wrap n = n % 18446744073709551616 := by simp [IntKind.wrap, IntKind.bits, IntKind.signed]
theorem wrap_u64_id {n : Int} (h0 : 0 ≤ n) (h1 : n < 18446744073709551616) : IntKind.u64.wrap n = n := by rw [wrap_u64]; omega
theorem wrap64_eq (n : Int) : wrap64 n = (n + 9223372036854775808) % 18446744073709551616 - 9223372036854775808 := by unfold wrap64; omega
theorem wrap64_id {n : Int} (h0 : -9223372036854775808 ≤ n) (h1 : n < 9223372036854775808) : wrap64 n = n := by unfold wrap64; omega
theorem wf_u8 {x : Int} (h : (Lit.int .u8 x).wf = true) : 0 ≤ x ∧ x < 256 := by
  simp [Lit.wf, IntKind.min, IntKind.max, IntKind.bits, IntKind.signed] at h; omega
theorem wf_u64 {x : Int} (h : (Lit.int .u64 x).wf = true) : 0 ≤ x ∧ x < 18446744073709551616 := by
  simp [Lit.wf, IntKind.min, IntKind.max, IntKind.bits, IntKind.signed] at h; omega
theorem wf_i64 {x : Int} (h : (Lit.int .i64 x).wf = true) : -9223372036854775808 ≤ x ∧ x < 9223372036854775808 := by
  simp [Lit.wf, IntKind.min, IntKind.max, IntKind.bits, IntKind.signed] at h; omega

/-- Bytes: all of them are. -/
def Bs (l : List Int) : Prop := ∀ x ∈ l, 0 ≤ x ∧ x < 256
def Us (l : List Int) : Prop := ∀ x ∈ l, 0 ≤ x ∧ x < 18446744073709551616
theorem Bs.append {a b : List Int} (h : Bs a) (k : Bs b) : Bs (a ++ b) := fun x hx => (List.mem_append.1 hx).elim (h x) (k x)
theorem Bs.take {a : List Int} (h : Bs a) (n : Nat) : Bs (a.take n) := fun x hx => h x (List.mem_of_mem_take hx)
theorem Bs.drop {a : List Int} (h : Bs a) (n : Nat) : Bs (a.drop n) := fun x hx => h x (List.mem_of_mem_drop hx)
theorem Us.take {a : List Int} (h : Us a) (n : Nat) : Us (a.take n) := fun x hx => h x (List.mem_of_mem_take hx)
theorem Us.drop {a : List Int} (h : Us a) (n : Nat) : Us (a.drop n) := fun x hx => h x (List.mem_of_mem_drop hx)
theorem rd_get {l : List Int} {i : Nat} (h : i < l.length) : rd l (i : Int) = l[i] := by
  simp [rd, List.getD_eq_getElem?_getD, List.getElem?_eq_getElem h]

/-! ### bits of bytes -/
theorem or128 {x : Int} (h0 : 0 ≤ x) (h1 : x < 256) : Go.bits .or .u8 x 128 = x % 128 + 128 := by
  have key : ∀ y : Fin 256, Go.bits .or .u8 ((y.val : Nat) : Int) 128 = ((y.val : Nat) : Int) % 128 + 128 := by decide +kernel
  have := key ⟨x.toNat, by omega⟩
  simpa [Int.toNat_of_nonneg h0] using this
theorem and128 {x : Int} (h0 : 0 ≤ x) (h1 : x < 256) : Go.bits .and .u8 x 128 = if x < 128 then 0 else 128 := by
  have key : ∀ y : Fin 256, Go.bits .and .u8 ((y.val : Nat) : Int) 128 = if ((y.val : Nat) : Int) < 128 then 0 else 128 := by decide +kernel
  have := key ⟨x.toNat, by omega⟩
  simpa [Int.toNat_of_nonneg h0] using this
theorem andNot128 {x : Int} (h0 : 0 ≤ x) (h1 : x < 256) : Go.bits .andNot .u8 x 128 = x % 128 := by
  have key : ∀ y : Fin 256, Go.bits .andNot .u8 ((y.val : Nat) : Int) 128 = ((y.val : Nat) : Int) % 128 := by decide +kernel
  have := key ⟨x.toNat, by omega⟩
  simpa [Int.toNat_of_nonneg h0] using this
theorem wraps_u64 (n : Int) (h₀ : 0 ≤ n) (h₁ : n < 2 ^ 64) : IntKind.u64.wrap n = n := by rw [wrap_u64]; omega
/-- Bits that don't meet: together they are the sum. -/
theorem or_join (i : Nat) {x y : Int} (hx0 : 0 ≤ x) (hx : x % 2 ^ i = 0) (hx1 : x < 18446744073709551616) (hy0 : 0 ≤ y) (hy : y < 2 ^ i) (hy1 : y < 18446744073709551616) : Go.bits .or .u64 x y = x + y :=
  bits_join .u64 64 (by decide) wraps_u64 i x y hx0 hx (by omega) hy0 hy (by omega)
theorem or_comm64 {x y : Int} (hx0 : 0 ≤ x) (hx1 : x < 18446744073709551616) (hy0 : 0 ≤ y) (hy1 : y < 18446744073709551616) : Go.bits .or .u64 x y = Go.bits .or .u64 y x := by
  obtain ⟨a, rfl⟩ := Int.eq_ofNat_of_zero_le hx0
  obtain ⟨b, rfl⟩ := Int.eq_ofNat_of_zero_le hy0
  rw [(bits_nat .u64 64 (by decide) wraps_u64 a b (by omega) (by omega)).2, (bits_nat .u64 64 (by decide) wraps_u64 b a (by omega) (by omega)).2, Nat.or_comm]

/-! ### strings of bytes -/
theorem strOf_toList (l : List Int) : (strOfNums l).toList = l.map (fun x => UInt8.ofNat x.toNat) := by
  simp [strOfNums, ByteArray.toList_eq]
end Go.Proofs.Ytmlbppfcpejlpaa.S

/- Plain lemmas on rows of bits and the bytes that they make; no program in sight. No conditions. -/
namespace Go.Proofs.Ytmlbppfcpejlpaa.B
open Go Go.RowKit Go.Proofs.YtmlbppfcpejlpaaW.PrintWords Go.Proofs.YtmlbppfcpejlpaaW.PrintMore Go.Proofs.Ytmlbppfcpejlpaa.S
set_option linter.unusedVariables false
set_option linter.unusedSimpArgs false

/-- The lowest n bits of a number, the highest first. -/
def bitsN : Nat → Int → List Int
  | 0, _ => []
  | n + 1, v => (v / 2 ^ n % 2) :: bitsN n v
theorem bitsN_len (n : Nat) (v : Int) : (bitsN n v).length = n := by induction n with | zero => rfl | succ n ih => simp [bitsN, ih]
def Bits (l : List Int) : Prop := ∀ x ∈ l, x = 0 ∨ x = 1
theorem Bits.nil : Bits [] := fun x hx => by simp at hx
theorem Bits.append {a b : List Int} (h : Bits a) (k : Bits b) : Bits (a ++ b) := fun x hx => (List.mem_append.1 hx).elim (h x) (k x)
theorem Bits.one {b : Int} (h : b = 0 ∨ b = 1) : Bits [b] := fun x hx => by rw [List.mem_singleton.1 hx]; exact h
theorem bitsN_bits (n : Nat) (v : Int) : Bits (bitsN n v) := by
  induction n with
  | zero => exact Bits.nil
  | succ n ih =>
    intro x hx
    rcases List.mem_cons.1 hx with rfl | hx
    · omega
    · exact ih x hx
theorem getD_out (l : List Int) {i : Nat} (h : l.length ≤ i) : l.getD i 0 = 0 := by rw [List.getD_eq_getElem?_getD, List.getElem?_eq_none h]; rfl
theorem getD_bit {l : List Int} (h : Bits l) (i : Nat) : l.getD i 0 = 0 ∨ l.getD i 0 = 1 := by
  by_cases hi : i < l.length
  · rw [List.getD_eq_getElem?_getD, List.getElem?_eq_getElem hi]; exact h _ (List.getElem_mem hi)
  · rw [getD_out l (by omega)]; exact .inl rfl
/-- The byte that begins at bit 8 * i; noughts behind the end. -/
def byteAt (l : List Int) (i : Nat) : Int :=
  l.getD (8 * i) 0 * 128 + l.getD (8 * i + 1) 0 * 64 + l.getD (8 * i + 2) 0 * 32 + l.getD (8 * i + 3) 0 * 16 + l.getD (8 * i + 4) 0 * 8 + l.getD (8 * i + 5) 0 * 4 + l.getD (8 * i + 6) 0 * 2 + l.getD (8 * i + 7) 0
def rows (l : List Int) (n : Nat) : List Int := (List.range n).map (byteAt l)
/-- The bytes of bits. -/
def packB (l : List Int) : List Int := rows l ((l.length + 7) / 8)
theorem rows_len (l : List Int) (n : Nat) : (rows l n).length = n := by simp [rows]
theorem packB_len (l : List Int) : (packB l).length = (l.length + 7) / 8 := rows_len _ _
theorem byteAt_range {l : List Int} (h : Bits l) (i : Nat) : 0 ≤ byteAt l i ∧ byteAt l i < 256 := by
  have h0 := getD_bit h (8 * i); have h1 := getD_bit h (8 * i + 1); have h2 := getD_bit h (8 * i + 2); have h3 := getD_bit h (8 * i + 3)
  have h4 := getD_bit h (8 * i + 4); have h5 := getD_bit h (8 * i + 5); have h6 := getD_bit h (8 * i + 6); have h7 := getD_bit h (8 * i + 7)
  unfold byteAt
  omega
theorem packB_bs {l : List Int} (h : Bits l) : Bs (packB l) := by
  intro x hx
  obtain ⟨i, _, rfl⟩ := List.mem_map.1 hx
  exact byteAt_range h i
theorem rd_rows (l : List Int) {n i : Nat} (h : i < n) : rd (rows l n) (i : Int) = byteAt l i := by
  rw [rd_get (by rw [rows_len]; exact h)]; simp [rows]
theorem packB_full {l : List Int} (h : l.length % 8 = 0) : packB l ++ [0] = rows l (l.length / 8 + 1) := by
  have e : byteAt l (l.length / 8) = 0 := by
    unfold byteAt
    simp [List.getD_eq_getElem?_getD, List.getElem?_eq_none (show l.length ≤ 8 * (l.length / 8) by omega), List.getElem?_eq_none (show l.length ≤ 8 * (l.length / 8) + 1 by omega), List.getElem?_eq_none (show l.length ≤ 8 * (l.length / 8) + 2 by omega), List.getElem?_eq_none (show l.length ≤ 8 * (l.length / 8) + 3 by omega), List.getElem?_eq_none (show l.length ≤ 8 * (l.length / 8) + 4 by omega), List.getElem?_eq_none (show l.length ≤ 8 * (l.length / 8) + 5 by omega), List.getElem?_eq_none (show l.length ≤ 8 * (l.length / 8) + 6 by omega), List.getElem?_eq_none (show l.length ≤ 8 * (l.length / 8) + 7 by omega)]
  unfold packB rows
  rw [show (l.length + 7) / 8 = l.length / 8 by omega, List.range_succ, List.map_append, List.map_singleton, e]
theorem packB_part {l : List Int} (h : l.length % 8 ≠ 0) : packB l = rows l (l.length / 8 + 1) := by
  unfold packB
  rw [show (l.length + 7) / 8 = l.length / 8 + 1 by omega]
theorem getD_snoc (l : List Int) (b : Int) (i : Nat) : (l ++ [b]).getD i 0 = if i = l.length then b else l.getD i 0 := by
  simp only [List.getD_eq_getElem?_getD, List.getElem?_append]
  split
  · rw [if_neg (by omega)]
  · by_cases h : i = l.length
    · subst h; simp
    · rw [if_neg h, List.getElem?_eq_none (show l.length ≤ i by omega), List.getElem?_eq_none (by simp; omega)]
theorem byteAt_snoc_lt (l : List Int) (b : Int) {i : Nat} (h : i < l.length / 8) : byteAt (l ++ [b]) i = byteAt l i := by
  unfold byteAt
  simp only [getD_snoc]
  repeat rw [if_neg (by omega)]
theorem pow_r {r : Nat} (h : r < 8) : r = 0 ∨ r = 1 ∨ r = 2 ∨ r = 3 ∨ r = 4 ∨ r = 5 ∨ r = 6 ∨ r = 7 := by omega
/-- The last byte: what the new bit adds to it, and that its place was free. -/
theorem byteAt_snoc (l : List Int) (hl : Bits l) (b : Int) (hb : b = 0 ∨ b = 1) :
    byteAt (l ++ [b]) (l.length / 8) = byteAt l (l.length / 8) + b * 2 ^ (7 - l.length % 8) ∧ byteAt l (l.length / 8) % 2 ^ (8 - l.length % 8) = 0 := by
  have hq : l.length = 8 * (l.length / 8) + l.length % 8 := by omega
  generalize l.length / 8 = q at *
  have g0 := getD_bit hl (8 * q); have g1 := getD_bit hl (8 * q + 1); have g2 := getD_bit hl (8 * q + 2); have g3 := getD_bit hl (8 * q + 3)
  have g4 := getD_bit hl (8 * q + 4); have g5 := getD_bit hl (8 * q + 5); have g6 := getD_bit hl (8 * q + 6); have g7 := getD_bit hl (8 * q + 7)
  have o : ∀ j, l.length % 8 ≤ j → l.getD (8 * q + j) 0 = 0 := fun j hj => getD_out l (by omega)
  have s : ∀ j, (l ++ [b]).getD (8 * q + j) 0 = if j = l.length % 8 then b else l.getD (8 * q + j) 0 := fun j => by
    rw [getD_snoc]
    by_cases h : j = l.length % 8
    · rw [if_pos (by omega), if_pos h]
    · rw [if_neg (by omega), if_neg h]
  have s0 := s 0; have s1 := s 1; have s2 := s 2; have s3 := s 3; have s4 := s 4; have s5 := s 5; have s6 := s 6; have s7 := s 7
  have o0 := o 0; have o1 := o 1; have o2 := o 2; have o3 := o 3; have o4 := o 4; have o5 := o 5; have o6 := o 6; have o7 := o 7
  clear s o
  simp only [Nat.add_zero] at *
  unfold byteAt
  rw [s0, s1, s2, s3, s4, s5, s6, s7]
  have hr : l.length % 8 < 8 := Nat.mod_lt _ (by decide)
  generalize l.length % 8 = r at *
  clear s0 s1 s2 s3 s4 s5 s6 s7 hq
  generalize l.getD (8 * q) 0 = x0 at *
  generalize l.getD (8 * q + 1) 0 = x1 at *
  generalize l.getD (8 * q + 2) 0 = x2 at *
  generalize l.getD (8 * q + 3) 0 = x3 at *
  generalize l.getD (8 * q + 4) 0 = x4 at *
  generalize l.getD (8 * q + 5) 0 = x5 at *
  generalize l.getD (8 * q + 6) 0 = x6 at *
  generalize l.getD (8 * q + 7) 0 = x7 at *
  rcases pow_r hr with rfl | rfl | rfl | rfl | rfl | rfl | rfl | rfl <;> simp at * <;> omega
theorem or_u8 (l : List Int) (hl : Bits l) (b : Int) (hb : b = 0 ∨ b = 1) :
    Go.bits .or .u8 (byteAt l (l.length / 8)) (b * 2 ^ (7 - l.length % 8)) = byteAt (l ++ [b]) (l.length / 8) := by
  obtain ⟨h1, h2⟩ := byteAt_snoc l hl b hb
  obtain ⟨r0, r1⟩ := byteAt_range hl (l.length / 8)
  have hr : l.length % 8 < 8 := Nat.mod_lt _ (by decide)
  rw [h1]
  generalize byteAt l (l.length / 8) = y at *
  generalize l.length % 8 = r at *
  refine bits_join .u8 8 (by decide) wraps_u8 (8 - r) y _ r0 h2 (by omega) ?_ ?_ ?_ <;>
  rcases pow_r hr with rfl | rfl | rfl | rfl | rfl | rfl | rfl | rfl <;> simp <;> omega
/-- One more bit, as a writer lays it. -/
theorem packB_push (l : List Int) (hl : Bits l) (b : Int) (hb : b = 0 ∨ b = 1) :
    (rows l (l.length / 8 + 1)).set (l.length / 8) (Go.bits .or .u8 (byteAt l (l.length / 8)) (b * 2 ^ (7 - l.length % 8))) = packB (l ++ [b]) := by
  rw [or_u8 l hl b hb]
  unfold packB
  rw [show ((l ++ [b]).length + 7) / 8 = l.length / 8 + 1 by simp; omega]
  apply List.ext_getElem
  · simp [rows_len]
  · intro i h1 h2
    rw [rows_len] at h2
    rw [List.getElem_set]
    simp only [rows, List.getElem_map, List.getElem_range]
    split
    · rename_i h; rw [h]
    · rw [byteAt_snoc_lt l b (by omega)]
/-- How many bits a count stands for. -/
def cl (m : Int) : Nat := (mn (mx m 0) 64).toNat
theorem cl_eq (m : Int) : mn (mx m 0) 64 = (cl m : Int) := by unfold cl mn mx; split <;> split <;> omega
theorem cl_le (m : Int) : cl m ≤ 64 := by unfold cl mn mx; split <;> split <;> omega
theorem byteAt_snoc_ne (l : List Int) (b : Int) {i : Nat} (h : i ≠ l.length / 8) : byteAt (l ++ [b]) i = byteAt l i := by
  unfold byteAt
  simp only [getD_snoc]
  repeat rw [if_neg (by omega)]
theorem rows_push (l : List Int) (hl : Bits l) (b : Int) (hb : b = 0 ∨ b = 1) (N : Nat) (hN : l.length / 8 < N) :
    (rows l N).set (l.length / 8) (Go.bits .or .u8 (byteAt l (l.length / 8)) (b * 2 ^ (7 - l.length % 8))) = rows (l ++ [b]) N := by
  rw [or_u8 l hl b hb]
  apply List.ext_getElem
  · simp [rows_len]
  · intro i h1 h2
    rw [rows_len] at h2
    rw [List.getElem_set]
    simp only [rows, List.getElem_map, List.getElem_range]
    split
    · rename_i h; rw [h]
    · rename_i h; rw [byteAt_snoc_ne l b (fun e => h e.symm)]
theorem rows_nil (N : Nat) : rows [] N = List.replicate N 0 := by
  apply List.ext_getElem
  · simp [rows_len]
  · intro i h1 h2
    simp [rows, byteAt]
/-- The bit at place i of bytes. -/
def bitAt (b : List Int) (i : Nat) : Int := b.getD (i / 8) 0 / 2 ^ (7 - i % 8) % 2
def bitsOf (b : List Int) : List Int := (List.range (8 * b.length)).map (bitAt b)
theorem bitsOf_len (b : List Int) : (bitsOf b).length = 8 * b.length := by simp [bitsOf]
theorem bitsOf_bits (b : List Int) : Bits (bitsOf b) := by
  intro x hx
  obtain ⟨i, _, rfl⟩ := List.mem_map.1 hx
  unfold bitAt
  omega
theorem bitsOf_get (b : List Int) {i : Nat} (h : i < (bitsOf b).length) : (bitsOf b)[i] = bitAt b i := by simp [bitsOf]
/-- A byte's bits are those that it was made of. -/
theorem getD_rng {l : List Int} (h : Bits l) (i : Nat) : 0 ≤ l.getD i 0 ∧ l.getD i 0 ≤ 1 := by
  have := getD_bit h i; omega
theorem byteAt_bit {l : List Int} (hl : Bits l) (q r : Nat) (hr : r < 8) : byteAt l q / 2 ^ (7 - r) % 2 = l.getD (8 * q + r) 0 := by
  have g0 := getD_rng hl (8 * q); have g1 := getD_rng hl (8 * q + 1); have g2 := getD_rng hl (8 * q + 2); have g3 := getD_rng hl (8 * q + 3)
  have g4 := getD_rng hl (8 * q + 4); have g5 := getD_rng hl (8 * q + 5); have g6 := getD_rng hl (8 * q + 6); have g7 := getD_rng hl (8 * q + 7)
  unfold byteAt
  have e0 : l.getD (8 * q + 0) 0 = l.getD (8 * q) 0 := rfl
  have key : ∀ x0 x1 x2 x3 x4 x5 x6 x7 : Int, (0 ≤ x0 ∧ x0 ≤ 1) → (0 ≤ x1 ∧ x1 ≤ 1) → (0 ≤ x2 ∧ x2 ≤ 1) → (0 ≤ x3 ∧ x3 ≤ 1) → (0 ≤ x4 ∧ x4 ≤ 1) → (0 ≤ x5 ∧ x5 ≤ 1) → (0 ≤ x6 ∧ x6 ≤ 1) → (0 ≤ x7 ∧ x7 ≤ 1) →
      let y := x0 * 128 + x1 * 64 + x2 * 32 + x3 * 16 + x4 * 8 + x5 * 4 + x6 * 2 + x7
      y / 128 % 2 = x0 ∧ y / 64 % 2 = x1 ∧ y / 32 % 2 = x2 ∧ y / 16 % 2 = x3 ∧ y / 8 % 2 = x4 ∧ y / 4 % 2 = x5 ∧ y / 2 % 2 = x6 ∧ y / 1 % 2 = x7 := by
    intro x0 x1 x2 x3 x4 x5 x6 x7 h0 h1 h2 h3 h4 h5 h6 h7
    refine ⟨?_, ?_, ?_, ?_, ?_, ?_, ?_, ?_⟩ <;> omega
  obtain ⟨k0, k1, k2, k3, k4, k5, k6, k7⟩ := key _ _ _ _ _ _ _ _ g0 g1 g2 g3 g4 g5 g6 g7
  rcases pow_r hr with rfl | rfl | rfl | rfl | rfl | rfl | rfl | rfl
  · exact k0
  · exact k1
  · exact k2
  · exact k3
  · exact k4
  · exact k5
  · exact k6
  · exact k7
theorem bitAt_packB {l : List Int} (hl : Bits l) {i : Nat} (h : i < 8 * (packB l).length) : bitAt (packB l) i = l.getD i 0 := by
  unfold bitAt
  rw [packB_len] at h
  have hq : i / 8 < (packB l).length := by rw [packB_len]; omega
  rw [List.getD_eq_getElem?_getD, List.getElem?_eq_getElem hq]
  have e : (packB l)[i / 8] = byteAt l (i / 8) := by simp [packB, rows]
  rw [Option.getD_some, e, byteAt_bit hl _ _ (Nat.mod_lt _ (by decide)), show 8 * (i / 8) + i % 8 = i by omega]
theorem bitsOf_packB {l : List Int} (hl : Bits l) : bitsOf (packB l) = l ++ List.replicate (8 * (packB l).length - l.length) 0 := by
  apply List.ext_getElem
  · rw [bitsOf_len, List.length_append, List.length_replicate, packB_len]; omega
  · intro i h1 h2
    rw [bitsOf_get, bitAt_packB hl (by rw [bitsOf_len] at h1; exact h1), List.getElem_append]
    split
    · rename_i h; rw [List.getD_eq_getElem?_getD, List.getElem?_eq_getElem h]; rfl
    · rename_i h; rw [getD_out l (by omega)]; simp
/-- The number that bits tell. -/
def valB (l : List Int) : Int := l.foldl (fun v x => v * 2 + x) 0
theorem valB_snoc (l : List Int) (x : Int) : valB (l ++ [x]) = valB l * 2 + x := by simp [valB]
theorem valB_range {l : List Int} (hl : Bits l) : 0 ≤ valB l ∧ valB l < 2 ^ l.length := by
  suffices h : ∀ (l : List Int) (a : Int) (n : Nat), Bits l → 0 ≤ a → a < 2 ^ n → 0 ≤ l.foldl (fun v x => v * 2 + x) a ∧ l.foldl (fun v x => v * 2 + x) a < 2 ^ (n + l.length) by
    have := h l 0 0 hl (by omega) (by decide)
    simpa [valB] using this
  intro l
  induction l with
  | nil => intro a n _ h0 h1; exact ⟨h0, by simpa using h1⟩
  | cons y l ih =>
    intro a n hb h0 h1
    have hy := hb y List.mem_cons_self
    have := ih (a * 2 + y) (n + 1) (fun x hx => hb x (List.mem_cons_of_mem _ hx)) (by omega) (by rw [Int.pow_succ]; omega)
    rw [List.foldl_cons, List.length_cons, show n + (l.length + 1) = n + 1 + l.length by omega]
    exact this
theorem valB_bitsN (n : Nat) {v : Int} (h0 : 0 ≤ v) : valB (bitsN n v) = v % 2 ^ n := by
  suffices h : ∀ (n : Nat) (a : Int), (bitsN n v).foldl (fun v x => v * 2 + x) a = a * 2 ^ n + v % 2 ^ n by
    have := h n 0
    simpa [valB] using this
  intro n
  induction n with
  | zero => intro a; simp [bitsN, Int.emod_one]
  | succ n ih =>
    intro a
    rw [bitsN, List.foldl_cons, ih]
    have hp : (0 : Int) < 2 ^ n := Int.pow_pos (by decide)
    have e : v % 2 ^ (n + 1) = v / 2 ^ n % 2 * 2 ^ n + v % 2 ^ n := by
      have h1 := Int.emod_add_mul_ediv v (2 ^ (n + 1))
      have h2 := Int.emod_add_mul_ediv v (2 ^ n)
      have h3 := Int.emod_add_mul_ediv (v / 2 ^ n) 2
      have h4 : v / 2 ^ n / 2 = v / 2 ^ (n + 1) := by rw [Int.pow_succ, Int.ediv_ediv_of_nonneg (by omega)]
      rw [← h4] at h1
      generalize v / 2 ^ n / 2 = q at *
      generalize v / 2 ^ n = p at *
      rw [Int.pow_succ] at *
      have e1 : p = p % 2 + 2 * q := h3.symm
      have e2 : 2 ^ n * p = p % 2 * 2 ^ n + 2 ^ n * 2 * q := by
        conv => lhs; rw [e1]
        rw [Int.mul_add, Int.mul_comm (2 ^ n) (p % 2), Int.mul_assoc]
      omega
    rw [e, Int.pow_succ, Int.add_mul, Int.mul_assoc, Int.mul_comm 2 (2 ^ n)]
    omega
theorem bitsN_append (l : List Int) (n : Nat) (v : Int) : (l ++ bitsN n v).length = l.length + n := by rw [List.length_append, bitsN_len]
end Go.Proofs.Ytmlbppfcpejlpaa.B

/- The walks of layer 4's writer: bits put behind each other. No conditions. -/
namespace Go.Proofs.Ytmlbppfcpejlpaa.W04
open Go Go.RowKit Go.Proofs.YtmlbppfcpejlpaaW.PrintWords Go.Proofs.YtmlbppfcpejlpaaW.PrintLast Go.Proofs.YtmlbppfcpejlpaaW.PrintMore Go.Proofs.Ytmlbppfcpejlpaa.S Go.Proofs.Ytmlbppfcpejlpaa.B Go.Proofs.Ytmlbppfcpejlpaa.X
attribute [local go_sem] max2_int min2_int max_two min_two max_three min_three max_four min_four
set_option linter.unusedVariables false
set_option linter.unusedSimpArgs false

/-- A writer at block g: its bytes (the value v) are those of the bits l. -/
def WAt (w0 W : World) (g : Nat) (v : Value) (l : List Int) : Prop :=
  W.heap[g]? = some (.cells #[v, .int .i64 (l.length : Int)] 48 (0, 0)) ∧ w0.heap.size ≤ g ∧ Kd.R (Kd.int .u8) 5 W w0.heap.size (fun _ => True) v (packB l) ∧ Bits l
/-- What may have turned: the writer's block, and the block of its bytes. -/
def Mine (g : Nat) (v : Value) (k : Nat) : Prop := k = g ∨ some k = v.ownBlock
def Put4 (w0 w : World) (g : Nat) (v : Value) (l : List Int) (e : Ending) (w' : World) : Prop :=
  e = .returned (.tuple #[]) ∧ ∃ v', WAt w0 w' g v' l ∧ Below w0.heap.size w0 w' ∧ Kept w w' (Mine g v) ∧ (v'.ownBlock = v.ownBlock ∨ ∃ b, v'.ownBlock = some b ∧ w.heap.size ≤ b)
theorem held_cl (m : Int) : bits_held.f m = some (cl m : Int) := by unfold bits_held.f; rw [cl_eq]

theorem WAt.cell0 {w0 W g v l} (h : WAt w0 W g v l) : W.cell? ⟨g, 0, none⟩ = some v := (blk_cell h.1 0).trans rfl
theorem WAt.cell1 {w0 W g v l} (h : WAt w0 W g v l) : W.cell? ⟨g, 1, none⟩ = some (.int .i64 (l.length : Int)) := (blk_cell h.1 1).trans rfl
theorem WAt.fr {w0 W g v l} (h : WAt w0 W g v l) (i : Nat) : W.frozen? ⟨g, i, none⟩ = false := blk_frozen h.1 i

theorem WAt.below {w0 W W1 g v l} (h : WAt w0 W g v l) (hb : Below W.heap.size W W1) : WAt w0 W1 g v l := ⟨blk_below h.1 hb, h.2.1, Kd.R_below h.2.2.1 hb, h.2.2.2⟩
theorem Kept.below_ {w W W1 : World} {S} (h : Kept w W S) (hb : Below W.heap.size W W1) : Kept w W1 S :=
  ⟨Nat.le_trans h.1 hb.size, fun i hi hs => (hb.block i (Nat.lt_of_lt_of_le hi h.1)).trans (h.2 i hi hs)⟩
/-- What holds at a round's head: j bits are still to come. -/
def Rel (w0 w : World) (g : Nat) (v : Value) (l : List Int) (x : Int) (m : Int) (j : Nat) (wr : World) : Prop :=
  ∃ v' P, WAt w0 wr g v' P ∧ P ++ bitsN j x = l ++ bitsN (cl m) x ∧ Below w0.heap.size w0 wr ∧ Kept w wr (Mine g v) ∧ (v'.ownBlock = v.ownBlock ∨ ∃ b, v'.ownBlock = some b ∧ w.heap.size ≤ b)
theorem own_g {W : World} {g : Nat} {v : Value} {l xs : List Int} (hg : W.heap[g]? = some (.cells #[v, .int .i64 (l.length : Int)] 48 (0, 0))) {v' : Value} {base : Nat} {ok : Nat → Prop} (h : Kd.R (Kd.int .u8) 5 W base ok v' xs) : some g ≠ v'.ownBlock :=
  Kd.R_ne h hg (by decide)

/-- Ahead of a bit's store: there is a byte for it. -/
def Mid (w0 w : World) (g : Nat) (v : Value) (P : List Int) (b2 n2 cap2 : Nat) (W : World) : Prop :=
  W.heap[g]? = some (.cells #[.slice (some ⟨b2, 0, none⟩) n2 cap2, .int .i64 (P.length : Int)] 48 (0, 0)) ∧ w0.heap.size ≤ g ∧ n2 = P.length / 8 + 1 ∧
  Kd.R (Kd.int .u8) 5 W w0.heap.size (fun _ => True) (.slice (some ⟨b2, 0, none⟩) n2 cap2) (rows P (P.length / 8 + 1)) ∧ Below w0.heap.size w0 W ∧ Kept w W (Mine g v) ∧ (some b2 = v.ownBlock ∨ w.heap.size ≤ b2)
theorem mid_full {w0 w wr w5 : World} {g : Nat} {v v1 : Value} {P : List Int} {b2 n2 cap2 : Nat} (hG : wr.heap[g]? = some (.cells #[v1, .int .i64 (P.length : Int)] 48 (0, 0))) (hge : w0.heap.size ≤ g)
    (hR : Kd.R (Kd.int .u8) 5 wr w0.heap.size (fun _ => True) v1 (packB P)) (hk : Kept w wr (Mine g v)) (hv : v1.ownBlock = v.ownBlock ∨ ∃ b, v1.ownBlock = some b ∧ w.heap.size ≤ b)
    (ho : Kd.R (Kd.int .u8) 5 w5 w0.heap.size (fun _ => True) (.slice (some ⟨b2, 0, none⟩) n2 cap2) (rows P (P.length / 8 + 1))) (hb : Below w0.heap.size w0 w5) (hg : wr.grownBy w5 v1.ownBlock)
    (hat : (Value.slice (some ⟨b2, 0, none⟩) n2 cap2).ownBlock = v1.ownBlock ∨ ∃ b, (Value.slice (some ⟨b2, 0, none⟩) n2 cap2).ownBlock = some b ∧ wr.heap.size ≤ b) (hn : n2 = (rows P (P.length / 8 + 1)).length) :
    Mid w0 w g v P b2 n2 cap2 (w5.setCell ⟨g, 0, none⟩ (.slice (some ⟨b2, 0, none⟩) n2 cap2)) := by
  have hG5 := blk_grown hG hg (own_g hG hR)
  refine ⟨by simpa using blk_set hG5 0 (.slice (some ⟨b2, 0, none⟩) n2 cap2), hge, by rw [hn, rows_len], Kd.R_set ho hG5 (by decide) 0 _, hb.setCell (by simpa using hge) _, ?_, ?_⟩
  · refine Kept.setCell (Kept.of_grown hg hk (fun k hk' => ?_)) (.inl (.inl rfl)) _
    rcases hv with hv | ⟨b, hb1, hb2⟩
    · exact .inl (.inr (by rw [← hk', hv]))
    · rw [hk'] at hb1; injection hb1 with hb1; exact .inr (by omega)
  · have e : (Value.slice (some ⟨b2, 0, none⟩) n2 cap2).ownBlock = some b2 := rfl
    rw [e] at hat
    rcases hat with hat | ⟨b, hb1, hb2⟩
    · rcases hv with hv | ⟨b, hb1, hb2⟩
      · exact .inl (hat.trans hv)
      · rw [hb1] at hat; injection hat with hat; exact .inr (by omega)
    · injection hb1 with hb1; have := hk.1; exact .inr (by omega)
theorem mid_part {w0 w wr : World} {g : Nat} {v : Value} {P : List Int} {b2 n2 cap2 : Nat} (hG : wr.heap[g]? = some (.cells #[.slice (some ⟨b2, 0, none⟩) n2 cap2, .int .i64 (P.length : Int)] 48 (0, 0))) (hge : w0.heap.size ≤ g)
    (hR : Kd.R (Kd.int .u8) 5 wr w0.heap.size (fun _ => True) (.slice (some ⟨b2, 0, none⟩) n2 cap2) (rows P (P.length / 8 + 1))) (hb : Below w0.heap.size w0 wr) (hk : Kept w wr (Mine g v)) (hv : (Value.slice (some ⟨b2, 0, none⟩) n2 cap2).ownBlock = v.ownBlock ∨ ∃ b, (Value.slice (some ⟨b2, 0, none⟩) n2 cap2).ownBlock = some b ∧ w.heap.size ≤ b) (hn : n2 = (rows P (P.length / 8 + 1)).length) :
    Mid w0 w g v P b2 n2 cap2 wr := by
  refine ⟨hG, hge, by rw [hn, rows_len], hR, hb, hk, ?_⟩
  have e : (Value.slice (some ⟨b2, 0, none⟩) n2 cap2).ownBlock = some b2 := rfl
  rw [e] at hv
  rcases hv with hv | ⟨b, hb1, hb2⟩
  · exact .inl hv
  · injection hb1 with hb1; exact .inr (by omega)
theorem Mid.drew {w0 w g v P b2 n2 cap2 W} (h : Mid w0 w g v P b2 n2 cap2 W) : Mid w0 w g v P b2 n2 cap2 W.drew :=
  ⟨h.1, h.2.1, h.2.2.1, Kd.R_drew h.2.2.2.1, below_drew h.2.2.2.2.1, h.2.2.2.2.2.1, h.2.2.2.2.2.2⟩
/-- Reads ahead of one store, under a name for the world behind the draw. -/
theorem region_tail {P : Program} {id : Nat} {Q : Exit → Act → World → Prop} {a : Act} {w : World} {l : List Oper} (n : Nat) (hm : P.follows .mixedOrders = true) (hB : Region.lexTailB .any l.toArray n = true)
    (h : ∀ w', w' = w.drew → wpStill P l.toArray w' (fun a' => wpList P l.toArray Q (l.drop n) a' w') (l.take n) a) : (Code.region id l.toArray true).wp P Q a w := wp_region_still_tail n hm hB (h _ rfl)
theorem Mid.byte {w0 w g v P b2 n2 cap2 W} (h : Mid w0 w g v P b2 n2 cap2 W) : W.cell? ⟨b2, ((P.length / 8 : Nat) : Int).toNat, none⟩ = some (.int .u8 (byteAt P (P.length / 8))) ∧ W.frozen? ⟨b2, ((P.length / 8 : Nat) : Int).toNat, none⟩ = false := by
  obtain ⟨hG, hge, hn, hR, hb, hk, hv⟩ := h
  have := Kd.R_celln 0 hR ((P.length / 8 : Nat) : Int) (by omega) (by omega)
  rw [show rdOf (0 : Int) (rows P (P.length / 8 + 1)) ((P.length / 8 : Nat) : Int) = byteAt P (P.length / 8) from rd_rows P (by omega)] at this
  exact this

theorem Mid.ne {w0 w g v P b2 n2 cap2 W} (h : Mid w0 w g v P b2 n2 cap2 W) : g ≠ b2 := fun e => own_g h.1 h.2.2.2.1 (by rw [e]; rfl)
theorem mid_done {w0 w W : World} {g : Nat} {v : Value} {P : List Int} {b2 n2 cap2 : Nat} (h : Mid w0 w g v P b2 n2 cap2 W) (hP : Bits P) {b nb qi : Int} (hb : b = 0 ∨ b = 1) (hq : qi = ((P.length / 8 : Nat) : Int)) (hnb : nb = Go.bits .or .u8 (byteAt P (P.length / 8)) (b * 2 ^ (7 - P.length % 8))) :
    ∃ v', WAt w0 ((W.setCell ⟨b2, qi.toNat, none⟩ (.int .u8 nb)).setCell ⟨g, 1, none⟩ (.int .i64 ((P.length : Int) + 1))) g v' (P ++ [b]) ∧ Below w0.heap.size w0 ((W.setCell ⟨b2, qi.toNat, none⟩ (.int .u8 nb)).setCell ⟨g, 1, none⟩ (.int .i64 ((P.length : Int) + 1))) ∧
      Kept w ((W.setCell ⟨b2, qi.toNat, none⟩ (.int .u8 nb)).setCell ⟨g, 1, none⟩ (.int .i64 ((P.length : Int) + 1))) (Mine g v) ∧ (v'.ownBlock = v.ownBlock ∨ ∃ b, v'.ownBlock = some b ∧ w.heap.size ≤ b) := by
  have hne := h.ne
  obtain ⟨hG, hge, hn, hR, hB, hk, hv⟩ := h
  have hb2 : w0.heap.size ≤ b2 := by
    obtain ⟨inner, ho⟩ := Kd.R_own hR
    exact own_base ho b2 rfl
  have hG2 := blk_far hG (p := ⟨b2, qi.toNat, none⟩) hne (.int .u8 nb)
  have hR2 := Kd.R_putn hR qi nb
  rw [hq, Int.toNat_natCast, hnb, packB_push P hP b hb] at hR2
  refine ⟨.slice (some ⟨b2, 0, none⟩) n2 cap2, ⟨?_, hge, ?_, hP.append (Bits.one hb)⟩, ?_, ?_, ?_⟩
  · have := blk_set hG2 1 (.int .i64 ((P.length : Int) + 1))
    simpa using this
  · rw [hq, Int.toNat_natCast, hnb]
    rw [hq, Int.toNat_natCast, hnb] at hG2
    exact Kd.R_set hR2 hG2 (by decide) 1 _
  · exact (hB.setCell (by simpa using hb2) _).setCell (by simpa using hge) _
  · refine Kept.setCell (Kept.setCell hk ?_ _) (.inl (.inl rfl)) _
    rcases hv with hv | hv
    · exact .inl (.inr hv)
    · exact .inr hv
  · rcases hv with hv | hv
    · exact .inl hv
    · exact .inr ⟨b2, rfl, hv⟩

set_option maxHeartbeats 4000000 in
set_option maxRecDepth 100000 in
theorem put_calls (g : Nat) (v : Value) (l : List Int) (x m : Int) (w0 w : World) (hI : WAt w0 w g v l) (hB : Below w0.heap.size w0 w) (x0 : 0 ≤ x) (x1 : x < 18446744073709551616) (hl : l.length < 1000000000) :
    Calls Try.prog 25 #[.pointer (some ⟨g, 0, none⟩), .int .u64 x, .int .i64 m] w (Put4 w0 w g v (l ++ bitsN (cl m) x)) := by
  have HI := Aside0.mk hI
  have HB := Aside0.mk hB
  have hcl := cl_le m
  clear hI hB
  go_enter Try.func25, Try.ntmps25
  go_wp2_with (go_at_call 51; (with_reducible refine (bits_held.calls m (cl m : Int) _ (held_cl m)).mono ?_); rintro e w1 ⟨rfl, hb⟩; have HI1 := Aside0.mk hb; clear hb)
  have HR : Aside0 (Rel w0 w g v l x m (cl m) w1) := ⟨⟨v, l, HI.out.below HI1.out, rfl, below_step HB.out HI1.out, Kept.below_ (Kept.refl _ _) HI1.out, .inl rfl⟩⟩
  clear HI1
  go_loopw [6] (fun v6 wr => ∃ (j : Nat) (i : Int), v6 = .int .i64 i ∧ Aside0 (i = (j : Int) - 1) ∧ Aside0 (j ≤ 64) ∧ Aside0 (Rel w0 w g v l x m j wr)) (fun v6 _ => (intOf v6 + 1).toNat)
  case atStart => exact ⟨cl m, _, rfl, ⟨rfl⟩, ⟨hcl⟩, HR⟩
  case round =>
    clear HR hcl
    obtain ⟨j, i, rfl, HI6, HJ, HR⟩ := hrel
    cases j with
    | zero =>
      have hi0 : decide (0 ≤ i) = false := by have := HI6.out; simp; omega
      go_wp2
      go_end0
      obtain ⟨v', P, k1, k2, k3, k4, k5⟩ := HR.out
      rw [show bitsN 0 x = [] from rfl, List.append_nil] at k2
      rw [k2] at k1
      exact ⟨rfl, v', k1, k3, k4, k5⟩
    | succ j =>
      obtain ⟨v1, P, hW, hP, hb, hk, hv⟩ := HR.out
      have HJ' := HJ.out
      have hi1 : 0 ≤ i := by have := HI6.out; omega
      have hi2 : i ≤ 63 := by have := HI6.out; omega
      have hi0 : decide (0 ≤ i) = true := by simpa using hi1
      have hP2 : (l ++ bitsN (cl m) x).length < 1000000100 := by rw [List.length_append, bitsN_len]; have := cl_le m; omega
      rw [← hP, List.length_append, bitsN_len] at hP2
      have hc1 := hW.cell1
      have hf0 := hW.fr 0
      obtain ⟨hg, hge, hR, hbits⟩ := hW
      have HHB := Aside0.mk hb
      have HHK := Aside0.mk hk
      have HP := Aside0.mk hP
      have Hbits := Aside0.mk hbits
      clear hb hk hP hbits HR
      by_cases h8 : P.length % 8 = 0
      have hc0 : wr.cell? ⟨g, 0, none⟩ = some v1 := (blk_cell hg 0).trans rfl
      have HG := Aside0.mk hg
      have HRR := Aside0.mk hR
      have HV := Aside0.mk hv
      clear hg hR hv
      have t8 : (((P.length : Int) % 8) == 0) = true := by rw [beq_iff_eq]; omega
      go_wp2_with ((with_reducible refine gate_builtin (b := .append) (xs := #[.tmp 26, .tmp 27]) rfl ?_); at_builtin; refine Kd.R_append (Kd.int .u8) (w0 := w0) w0.heap.size rfl (.tmp 26) (.tmp 27) 22 5 (.int .u8 0) 1 rfl Try.underlying22 info5 rfl (by decide) (by omega) v1 (packB P) 0 [.int .u8 0] (fun _ => True) (fun _ => False) rfl rfl ?aP (fun _ hk => hk.elim) ?aF ?aO ?aB ?aS ?aL ?_; (case aP => exact rfl); (case aB => exact HHB.out); (case aF => exact (fun _ _ => trivial)); (case aO => exact HRR.out); (case aS => exact (below_size HHB.out)); (case aL => rw [packB_len]; omega); intro v2 w5 ho hb hg hat; rw [packB_full h8] at ho; obtain ⟨b2, cap2, rfl, hb2, hl2, cells2, hcells2⟩ := Kd.R_form ho (by rw [rows_len]; omega); obtain ⟨n2, hn2⟩ : ∃ n2, n2 = (rows P (P.length / 8 + 1)).length := ⟨_, rfl⟩; rw [← hn2] at ho hat; (try rw [← hn2]); have HM := Aside0.mk (mid_full HG.out hge HRR.out HHK.out HV.out ho hb hg hat hn2); have hf0' : w5.frozen? ⟨g, 0, none⟩ = false := blk_frozen (blk_grown HG.out hg (own_g HG.out HRR.out)) 0; have hc0' : w5.cell? ⟨g, 0, none⟩ = some v1 := (blk_cell (blk_grown HG.out hg (own_g HG.out HRR.out)) 0).trans rfl; clear hb2 hl2 hcells2 hn2 ho hb hg hat)
      clear hf0' hc0' HG HRR HV hc0
      generalize w5.setCell ⟨g, 0, none⟩ (.slice (some ⟨b2, 0, none⟩) n2 cap2) = w6 at HM ⊢
      rotate_left
      rw [packB_part h8] at hR
      obtain ⟨b2, cap2, rfl, hb2, hl2, cells2, hcells2⟩ := Kd.R_form hR (by rw [rows_len]; omega)
      obtain ⟨n2, hn2⟩ : ∃ n2, n2 = (rows P (P.length / 8 + 1)).length := ⟨_, rfl⟩
      rw [← hn2] at hR hv hg
      have HM := Aside0.mk (mid_part hg hge hR HHB.out HHK.out hv hn2)
      clear hb2 hl2 hcells2 hn2 hg hR hv
      have t8 : (((P.length : Int) % 8) == 0) = false := by rw [beq_eq_false_iff_ne]; omega
      go_wp2
      generalize wr = w6 at HM ⊢
      all_goals
        clear t8 hc1 hf0 HHB HHK
        refine region_tail 24 (by kernel_rfl) (by kernel_rfl) (fun w7 hw7 => ?_)
        have hm := HM.out.drew
        rw [← hw7] at hm
        have HM7 := Aside0.mk hm
        clear HM hw7
        obtain ⟨qi, hqi⟩ : ∃ qi : Int, qi = ((P.length / 8 : Nat) : Int) := ⟨_, rfl⟩
        obtain ⟨kv, hkv⟩ : ∃ kv : Int, kv = 7 - (P.length : Int) % 8 := ⟨_, rfl⟩
        obtain ⟨sv, hsv⟩ : ∃ sv : Int, sv = x / 2 ^ i.toNat := ⟨_, rfl⟩
        obtain ⟨bv, hbv⟩ : ∃ bv : Int, bv = Go.bits .and .u64 sv 1 := ⟨_, rfl⟩
        obtain ⟨hx6, hf6⟩ := hm.byte
        rw [← hqi] at hx6 hf6
        have hc0 : w7.cell? ⟨g, 0, none⟩ = some (.slice (some ⟨b2, 0, none⟩) n2 cap2) := (blk_cell hm.1 0).trans rfl
        have hc1 : w7.cell? ⟨g, 1, none⟩ = some (.int .i64 (P.length : Int)) := (blk_cell hm.1 1).trans rfl
        have hf1 := blk_frozen hm.1 1
        have hq1 : (P.length : Int) / 8 = qi := by rw [hqi]; omega
        have hn2 := hm.2.2.1
        have hq2 : 0 ≤ qi := by omega
        have hq3 : decide (qi < (n2 : Int)) = true := by simp; omega
        have hq4 : qi < (n2 : Int) := by omega
        have hq5 : IntKind.i64.wrap qi = qi := by rw [IntKind.wrap_i64]; omega
        have hk0 : 0 ≤ kv := by omega
        have hk3 : IntKind.i64.wrap kv = kv := by rw [IntKind.wrap_i64]; omega
        have hk7 : kv ≤ 7 := by omega
        have hk1 : IntKind.i64.wrap (7 - (P.length : Int) % 8) = kv := by rw [IntKind.wrap_i64]; omega
        have hk4 : IntKind.i64.wrap (7 - Int.tmod (P.length : Int) 8) = kv := by rw [Int.tmod_eq_emod_of_nonneg (by omega)]; exact hk1
        have hk5 : 7 - Int.tmod (P.length : Int) 8 = kv := by rw [Int.tmod_eq_emod_of_nonneg (by omega)]; omega
        have hk2 : 7 - (P.length : Int) % 8 = kv := hkv.symm
        have hs1 : x / 2 ^ i.toNat = sv := hsv.symm
        have hs2 : x / 2 ^ (min i.toNat 64) = sv := by rw [show min i.toNat 64 = i.toNat by omega]; exact hsv.symm
        have hsb : 0 ≤ sv ∧ sv < 18446744073709551616 := by rw [hsv]; exact ⟨Int.ediv_nonneg x0 (Int.pow_nonneg (by omega)), by have := Int.ediv_le_self (2 ^ i.toNat) x0; omega⟩
        have hb1 : Go.bits .and .u64 sv 1 = bv := hbv.symm
        have hbb : bv = sv % 2 := by rw [hbv]; simpa using bits_mask .u64 64 (by decide) wraps_u64 1 (by decide) sv hsb.1 (by omega)
        have hb2 : 0 ≤ bv := by omega
        have hb3 : bv ≤ 1 := by omega
        have hb4 : IntKind.u8.wrap bv = bv := by rw [IntKind.wrap_u8]; omega
        have hka : decide (kv < 0) = false := by simp; omega
        have hkb : decide (0 ≤ kv) = true := by simp; omega
        have hkt : kv.toNat = 7 - P.length % 8 := by omega
        obtain ⟨shv, hshv⟩ : ∃ shv : Int, shv = bv * 2 ^ kv.toNat := ⟨_, rfl⟩
        have hpw : (2 : Int) ^ kv.toNat ≤ 128 ∧ 0 < (2 : Int) ^ kv.toNat := by
          have : kv.toNat = 0 ∨ kv.toNat = 1 ∨ kv.toNat = 2 ∨ kv.toNat = 3 ∨ kv.toNat = 4 ∨ kv.toNat = 5 ∨ kv.toNat = 6 ∨ kv.toNat = 7 := by omega
          rcases this with h | h | h | h | h | h | h | h <;> rw [h] <;> decide
        have hshb : 0 ≤ shv ∧ shv ≤ 128 := by
          have : bv = 0 ∨ bv = 1 := by omega
          rcases this with h | h <;> rw [hshv, h] <;> omega
        have hsh2 : IntKind.u8.wrap (bv * 2 ^ kv.toNat) = shv := by rw [← hshv, IntKind.wrap_u8]; omega
        have hsh1 : IntKind.u8.wrap (bv * 2 ^ min kv.toNat 8) = shv := by rw [show min kv.toNat 8 = kv.toNat by omega]; exact hsh2
        obtain ⟨nb, hnb⟩ : ∃ nb : Int, nb = Go.bits .or .u8 (byteAt P (P.length / 8)) shv := ⟨_, rfl⟩
        have hor : Go.bits .or .u8 (byteAt P (P.length / 8)) shv = nb := hnb.symm
        have hcx : (w7.setCell ⟨b2, qi.toNat, none⟩ (.int .u8 nb)).cell? ⟨g, 1, none⟩ = some (.int .i64 (P.length : Int)) := (blk_cell (blk_far hm.1 (p := ⟨b2, qi.toNat, none⟩) hm.ne _) 1).trans rfl
        have hfx : (w7.setCell ⟨b2, qi.toNat, none⟩ (.int .u8 nb)).frozen? ⟨g, 1, none⟩ = false := blk_frozen (blk_far hm.1 (p := ⟨b2, qi.toNat, none⟩) hm.ne _) 1
        have HSH := Aside0.mk (show shv = bv * 2 ^ (7 - P.length % 8) by rw [hshv, hkt])
        have HNB := Aside0.mk hnb
        clear hkt hshv hpw hshb hnb
        have HQ := Aside0.mk hqi
        have HKV := Aside0.mk hkv
        have HSV := Aside0.mk hsv
        have HBB := Aside0.mk hbb
        have HN2 := Aside0.mk hn2
        clear hqi hkv hsv hbv hbb hm hsb hn2
        simp only [List.take_succ_cons, List.take_zero, List.drop_succ_cons, List.drop_zero]
        repeat still_step
        refine wpStill_nil ?_
        go_wp2
        go_roundw
        case rel => exact ⟨j, _, rfl, ⟨by have := HI6.out; omega⟩, ⟨by have := HJ.out; omega⟩, ⟨by
          obtain ⟨v', k1, k2, k3, k4⟩ := mid_done HM7.out Hbits.out (b := bv) (nb := nb) (by omega) HQ.out (by rw [HNB.out, HSH.out])
          refine ⟨v', P ++ [bv], k1, ?_, k2, k3, k4⟩
          rw [← HP.out, List.append_assoc]
          congr 1
          show bv :: bitsN j x = bitsN (j + 1) x
          have e : i.toNat = j := by have := HI6.out; omega
          rw [HBB.out, HSV.out, e]; rfl⟩⟩
        case measure => simp [intOf]; have := HI6.out; omega
end Go.Proofs.Ytmlbppfcpejlpaa.W04

-- Printed by this session's own program (wip/xprint.py) over the translation; its external functions are hand-written. Lean checks it.
namespace Go.Proofs.Ytmlbppfcpejlpaa.X
open Go.RowKit Go.Proofs.YtmlbppfcpejlpaaW.PrintWords Go.Proofs.YtmlbppfcpejlpaaW.PrintLast Go.Proofs.YtmlbppfcpejlpaaW.PrintMore
attribute [local go_sem] max2_int min2_int max_two min_two max_three min_three max_four min_four   -- for this text's walks alone
set_option linter.unusedVariables false
set_option linter.unusedSimpArgs false

/-! ### bytes_Clone: function 50 -/
def bytes_Clone.f (l0 : List Int) : Option (List Int) := if l0.length < 140737488355328 then some l0 else none
set_option maxHeartbeats 8000000 in
set_option maxRecDepth 100000 in
theorem bytes_Clone.calls_some (ad : Addr) (c0 : Nat) (l0 : List Int) (w : World) (hr0 : Kd.C (Kd.int .u8) w (some ad) l0.length l0) (hc0 : l0.length ≤ c0) (h : l0.length < 140737488355328) :
    Calls Try.prog 50 #[.slice (some ad) l0.length c0] w fun e w' => ∃ v0_ : Value, e = .returned (v0_) ∧ Kd.R (Kd.int .u8) 5 w' w.heap.size (fun _ => True) v0_ l0 ∧ Below w.heap.size w w' := by
  have HR0 := Aside0.mk hr0
  have HC0 := Aside0.mk hc0
  clear hr0 hc0
  have HB := Aside0.mk (Below.refl w.heap.size w)
  obtain ⟨y101, hy101⟩ : ∃ y_ : List Int, y_ = (([] : List Int)) := ⟨_, rfl⟩
  have LMc2 := Aside0.mk (show y101.length + l0.length < 140737488355328 by rw [hy101]; simpa using h)
  have Ny104 := Aside0.mk (show l0 = y101 ++ l0 by rw [hy101]; rfl)
  have Ny101 := Aside0.mk hy101
  clear hy101 h
  have hq : ∀ (w : World), (binOp .eql 22 (.slice (some ad) l0.length c0) (.slice none 0 0)).run Try.prog w = .ok (.bool false) w := fun w => Lib.run_eql_slice_nil w _ _ (some ad) l0.length c0 0 0 Try.underlying22
  go_enter Try.func50, Try.ntmps50
  go_wp2_with (first | ((with_reducible refine gate_dst (N := 5) rfl ?_); refine Kd.R_lit (Kd.int .u8) _ 5 ?hg (N := 5) ?hd (xs := ([] : List Int)) (inner := []) (ok := fun _ => True) (okp := fun _ => True) ?hr ?hp (fun _ hk => hk) trivial (Below.refl _ _) (Nat.le_refl _) (by simp) ?_; (case hd => rfl); (case hg => rfl); (case hr => first | (go_simp; done) | (go_simp; rfl)); (case hp => exact (Reps.none _ _)); intro v102 w3 ho4 hb hg_ hnew_; clear hg_ hnew_; (first | rw [← Ny101.out] at ho4 | (simp only [Int.reduceToNat] at ho4; rw [← Ny101.out] at ho4)); have n0_ := Aside0.mk (Kd.R_lower ho4 (below_size (by repeat (first | (with_reducible first | exact HB.out | apply below_alloc | apply pw_below_drewN | apply below_drew1) | exact HB.out)))); have n1_ := Aside0.mk (below_step (by repeat (first | (with_reducible first | exact HB.out | apply below_alloc | apply pw_below_drewN | apply below_drew1) | exact HB.out)) hb); clear HB; have HO103 := n0_; have HB := n1_; clear n0_ n1_; clear hb ho4) | ((with_reducible refine gate_builtin (b := .append) (xs := #[.tmp 5, .tmp 6]) rfl ?_); at_builtin; refine Kd.R_append_rows (Kd.int .u8) (w0 := w) w.heap.size rfl (.tmp 5) (.tmp 6) 22 5 (.int .u8 0) 1 rfl Try.underlying22 info5 rfl (by decide) (by omega) v102 y101 l0 _ _ _ (fun _ => True) (fun _ => False) rfl rfl ?aO ?aR (fun _ _ h => h) (fun _ h => h.elim) ?aF ?aB ?aS ?aL ?_; (case aR => repeat (first | exact (Kd.C_below HR0.out HB.out) | (with_reducible refine Kd.C_alloc ?_ _) | (with_reducible refine Kd.C_drewN ?_ _) | (with_reducible refine Kd.C_drew ?_))); (case aB => exact (by repeat (first | (with_reducible first | exact HB.out | apply below_alloc | apply pw_below_drewN | apply below_drew1) | exact HB.out))); (case aF => exact (fun _ _ => trivial)); (case aO => exact (by (with_reducible repeat (first | apply Kd.R_alloc | apply Kd.R_drewN | apply Kd.R_drew)); exact HO103.out)); (case aS => exact (below_size (by repeat (first | (with_reducible first | exact HB.out | apply below_alloc | apply pw_below_drewN | apply below_drew1) | exact HB.out)))); (case aL => have := LMc2.out; omega); intro v105 w5 ho hb hg hat; rw [← Ny104.out] at ho; have n0_ := Aside0.mk (hb); have n1_ := Aside0.mk (ho); clear HB; clear HO103; have HB := n0_; have HO106 := n1_; clear n0_ n1_; clear ho hb hg hat))
  go_ret
  exact ⟨_, by first | rfl | (simp [errW_none, errW_some] <;> rfl) | (simp [*, errW_none, errW_some] <;> rfl), by (with_reducible repeat (first | apply Kd.R_alloc | apply Kd.R_drewN | apply Kd.R_drew)); exact HO106.out, by repeat (first | (with_reducible first | exact HB.out | apply below_alloc | apply pw_below_drewN | apply below_drew1) | exact HB.out)⟩
theorem bytes_Clone.calls (A0 : Option Addr) (c0 : Nat) (l0 : List Int) (r : List Int) (w : World) (hr0 : Kd.C (Kd.int .u8) w A0 l0.length l0) (hc0 : l0.length ≤ c0) (h : bytes_Clone.f l0 = some r) :
    Calls Try.prog 50 #[.slice A0 l0.length c0] w fun e w' => ∃ v0_ : Value, e = .returned (v0_) ∧ Kd.R (Kd.int .u8) 5 w' w.heap.size (fun _ => True) v0_ r ∧ Below w.heap.size w w' := by
  unfold bytes_Clone.f at h
  by_cases hl : l0.length < 140737488355328
  · rw [if_pos hl] at h
    obtain rfl := Option.some.inj h
    cases A0 with
    | some ad => exact bytes_Clone.calls_some ad c0 l0 w hr0 hc0 hl
    | none =>
      have h0 : l0 = [] := by
        cases l0 with
        | nil => rfl
        | cons a l => obtain ⟨ad, e, _⟩ := hr0.2.2 (by simp); cases e
      subst h0
      have hq : ∀ (w : World), (binOp .eql 22 (.slice none 0 c0) (.slice none 0 0)).run Try.prog w = .ok (.bool true) w := fun w => Lib.run_eql_slice_nil w _ _ none 0 c0 0 0 Try.underlying22
      clear hr0 hc0 hl h
      simp only [List.length_nil]
      go_enter Try.func50, Try.ntmps50
      go_wp2
      go_ret
      exact ⟨_, rfl, Kd.R_nil _ _ _ _ _, Below.refl _ _⟩
  · rw [if_neg hl] at h; cases h

end Go.Proofs.Ytmlbppfcpejlpaa.X

/- The walks of layer 4: a writer's bytes, and a new reader. No conditions. -/
namespace Go.Proofs.Ytmlbppfcpejlpaa.W04
open Go Go.RowKit Go.Proofs.YtmlbppfcpejlpaaW.PrintWords Go.Proofs.YtmlbppfcpejlpaaW.PrintLast Go.Proofs.YtmlbppfcpejlpaaW.PrintMore Go.Proofs.Ytmlbppfcpejlpaa.S Go.Proofs.Ytmlbppfcpejlpaa.B Go.Proofs.Ytmlbppfcpejlpaa.X
attribute [local go_sem] max2_int min2_int max_two min_two max_three min_three max_four min_four
set_option linter.unusedVariables false
set_option linter.unusedSimpArgs false

theorem packB_small {l : List Int} (h : l.length < 1000000000000) : bytes_Clone.f (packB l) = some (packB l) := by
  unfold bytes_Clone.f
  rw [if_pos (by rw [packB_len]; omega)]

def Gives (B : Nat) (xs : List Int) (w : World) (e : Ending) (w' : World) : Prop :=
  ∃ v0 : Value, e = .returned v0 ∧ Kd.R (Kd.int .u8) 5 w' B (fun _ => True) v0 xs ∧ Below w.heap.size w w'
set_option maxHeartbeats 4000000 in
theorem bytes_calls (g : Nat) (v : Value) (l : List Int) (w0 w : World) (hI : WAt w0 w g v l) (hl : l.length < 1000000000000) :
    Calls Try.prog 27 #[.pointer (some ⟨g, 0, none⟩)] w (Gives w.heap.size (packB l) w) := by
  obtain ⟨A, c, rfl, hc, hr⟩ := Kd.R_reads hI.2.2.1
  have hc0 := hI.cell0
  have HC := Aside0.mk hc
  have HR := Aside0.mk hr
  have HP := Aside0.mk (packB_small hl)
  clear hI hc hr hl
  go_enter Try.func27, Try.ntmps27
  go_wp2_with (go_at_call 50; (with_reducible refine (bytes_Clone.calls _ _ (packB l) (packB l) _ HR.out HC.out HP.out).mono ?_); rintro e w1 ⟨v0, rfl, hR, hB⟩; have HRR := Aside0.mk hR; have HBB := Aside0.mk hB; clear hR hB)
  go_ret
  exact ⟨_, rfl, HRR.out, HBB.out⟩

/-- A new reader: its own copy of the bytes, made behind the old world and ahead of the one that is told. -/
def NewAt (l : List Int) (w : World) (e : Ending) (w' : World) : Prop :=
  ∃ (g : Nat) (w1 : World), e = .returned (.pointer (some ⟨g, 0, none⟩)) ∧ Below w.heap.size w w1 ∧ IsS81 w1 w' g l 0 false ∧ Below w1.heap.size w1 w'
set_option maxHeartbeats 4000000 in
theorem new_calls (A0 : Option Addr) (c0 : Nat) (l : List Int) (w : World) (hr0 : Kd.C (Kd.int .u8) w A0 l.length l) (hc0 : l.length ≤ c0) (hl : l.length < 140737488355328) :
    Calls Try.prog 33 #[.slice A0 l.length c0] w (NewAt l w) := by
  have HR := Aside0.mk hr0
  have HC := Aside0.mk hc0
  have HP : Aside0 (bytes_Clone.f l = some l) := ⟨by unfold bytes_Clone.f; rw [if_pos hl]⟩
  clear hr0 hc0 hl
  go_enter Try.func33, Try.ntmps33
  go_wp2_with (go_at_call 50; (with_reducible refine (bytes_Clone.calls _ _ l l _ HR.out HC.out HP.out).mono ?_); rintro e w1 ⟨v0, rfl, hR, hB⟩; obtain ⟨A1, c1, rfl, hc1, hr1⟩ := Kd.R_reads hR; have HRR := Aside0.mk hr1; have HBB := Aside0.mk hB; clear hR hB hc1 hr1)
  go_ret
  exact ⟨_, w1, rfl, HBB.out, IsS81.new w1 w1 A1 c1 l 0 false (Below.refl _ _) HRR.out, (Below.refl _ _).alloc (Nat.le_refl _) _⟩
end Go.Proofs.Ytmlbppfcpejlpaa.W04

/- A new writer, and words for walks that hold a writer and a reader. No conditions. -/
namespace Go.Proofs.Ytmlbppfcpejlpaa.W04
open Go Go.RowKit Go.Proofs.YtmlbppfcpejlpaaW.PrintWords Go.Proofs.YtmlbppfcpejlpaaW.PrintLast Go.Proofs.YtmlbppfcpejlpaaW.PrintMore Go.Proofs.Ytmlbppfcpejlpaa.S Go.Proofs.Ytmlbppfcpejlpaa.B Go.Proofs.Ytmlbppfcpejlpaa.X
set_option linter.unusedVariables false
set_option linter.unusedSimpArgs false
theorem wat_new (w0 W : World) (hB : Below w0.heap.size w0 W) : WAt w0 (W.alloc (.cells #[.slice none 0 0, .int .i64 0] 48)) W.heap.size (.slice none 0 0) [] :=
  ⟨by simpa using heap_alloc_new W _, hB.size, Kd.R_nil _ _ _ _ _, Bits.nil⟩
end Go.Proofs.Ytmlbppfcpejlpaa.W04

-- Printed by this session's own program (wip/xprint.py) over the translation; its external functions are hand-written. Lean checks it.
namespace Go.Proofs.Ytmlbppfcpejlpaa.X
open Go.RowKit Go.Proofs.YtmlbppfcpejlpaaW.PrintWords Go.Proofs.YtmlbppfcpejlpaaW.PrintLast Go.Proofs.YtmlbppfcpejlpaaW.PrintMore
attribute [local go_sem] max2_int min2_int max_two min_two max_three min_three max_four min_four   -- for this text's walks alone
set_option linter.unusedVariables false
set_option linter.unusedSimpArgs false

/-! ### ricklaw04_puts: function 26 -/
open Go.Proofs.Ytmlbppfcpejlpaa.S Go.Proofs.Ytmlbppfcpejlpaa.B Go.Proofs.Ytmlbppfcpejlpaa.W04
def ricklaw04_puts.f : Option (Bool) := some true
theorem ricklaw04_puts.str (b : List Int) (h : b = [168]) : ((strOfNums b).toList == ([168] : List UInt8)) = true := by subst h; decide +kernel
set_option maxHeartbeats 8000000 in
set_option maxRecDepth 100000 in
theorem ricklaw04_puts.calls  (r : Bool) (w : World) (h : ricklaw04_puts.f  = some r) :
    Calls Try.prog 26 #[] w fun e w' => e = .returned (.bool r) ∧ Below w.heap.size w w' := by
  obtain rfl := Option.some.inj h
  clear h
  obtain ⟨b, hb⟩ : ∃ b, b = packB (([] ++ bitsN (cl 3) 5) ++ bitsN (cl 2) 1) := ⟨_, rfl⟩
  have h168 : b = [168] := by rw [hb]; decide +kernel
  have hs := ricklaw04_puts.str b h168
  have T1 : Aside0 (bits_Reader_Take.f 65 b 0 false 3 = some (5, 3, false)) := ⟨by rw [h168]; decide +kernel⟩
  have T2 : Aside0 (bits_Reader_Take.f 65 b 3 false 2 = some (1, 5, false)) := ⟨by rw [h168]; decide +kernel⟩
  have T3 : Aside0 (bits_Reader_Left.f b 5 false = some (3, 5, false)) := ⟨by rw [h168]; decide +kernel⟩
  have T4 : Aside0 (bits_Reader_Bad.f b 5 false = some (false, 5, false)) := ⟨rfl⟩
  have hlen : b.length < 140737488355328 := by rw [h168]; decide
  have HBB := Aside0.mk hb
  clear h168 hb
  go_enter Try.func26, Try.ntmps26
  go_wp2_with (first
    | (go_at_call 25; (with_reducible refine (put_calls w.heap.size (.slice none 0 0) [] 5 3 w _ ?hI ?hB (by decide) (by decide) (by simp)).mono ?_); (case hI => exact wat_new w w (Below.refl _ _)); (case hB => exact (Below.refl _ _).alloc (Nat.le_refl _) _); rintro e w1 ⟨rfl, v1, hW, hB, hK, hV⟩; have HW1 := Aside0.mk hW; have HB1 := Aside0.mk hB; clear hW hB hK hV)
    | (go_at_call 25; (with_reducible refine (put_calls w.heap.size v1 _ 1 2 w _ HW1.out HB1.out (by decide) (by decide) (by simp [bitsN_len, cl, mn, mx])).mono ?_); rintro e w2 ⟨rfl, v2, hW, hB, hK, hV⟩; have HW2 := Aside0.mk hW; have HB2 := Aside0.mk hB; clear hW hB hK hV HW1 HB1)
    | (go_at_call 27; (with_reducible refine (bytes_calls w.heap.size v2 _ w _ HW2.out (by simp [bitsN_len, cl, mn, mx])).mono ?_); rintro e w3 ⟨v3, rfl, hR, hB⟩; rw [← HBB.out] at hR; obtain ⟨A3, c3, rfl, hc3, hr3⟩ := Kd.R_reads hR; have HR3 := Aside0.mk hr3; have HC3 := Aside0.mk hc3; have HB3 := Aside0.mk hB; clear hR hB hr3 hc3)
    | (go_at_call 33; (with_reducible refine (new_calls A3 c3 b _ HR3.out HC3.out hlen).mono ?_); rintro e w5 ⟨g, w4, rfl, hb1, hs1, hb2⟩; have HS5 := Aside0.mk hs1; have HB4 := Aside0.mk (below_step HB3.out hb1); have HB5 := Aside0.mk hb2; have HW5 := Aside0.mk (HW2.out.below (below_step (below_step HB3.out hb1) hb2)); clear hb1 hs1 hb2 HW2 HB3)
    | (go_at_call 27; (with_reducible refine (bytes_calls w.heap.size v2 _ w _ HW5.out (by simp [bitsN_len, cl, mn, mx])).mono ?_); rintro e w6 ⟨v6, rfl, hR, hB⟩; rw [← HBB.out] at hR; have hcv := own_string (P := Try.prog) Try.underlying22 Try.underlying5 Try.underlying9 (Kd.own_of_R hR); have HS6 := Aside0.mk (HS5.out.below hB); have HB6 := Aside0.mk (below_step HB5.out hB); clear hR hB HS5 HB5 HW5)
    | (go_at_call 28; (with_reducible refine (bits_Reader_Take.calls 65 g b 0 false 3 5 3 false w4 _ HS6.out HB6.out T1.out).mono ?_); rintro e w7 ⟨rfl, hs1, hb2, hk⟩; have HS7 := Aside0.mk hs1; have HB7 := Aside0.mk hb2; clear hs1 hb2 hk HS6 HB6)
    | (go_at_call 28; (with_reducible refine (bits_Reader_Take.calls 65 g b 3 false 2 1 5 false w4 _ HS7.out HB7.out T2.out).mono ?_); rintro e w8 ⟨rfl, hs1, hb2, hk⟩; have HS8 := Aside0.mk hs1; have HB8 := Aside0.mk hb2; clear hs1 hb2 hk HS7 HB7)
    | (go_at_call 30; (with_reducible refine (bits_Reader_Left.calls g b 5 false 3 5 false w4 _ HS8.out HB8.out T3.out).mono ?_); rintro e w9 ⟨rfl, hs1, hb2, hk⟩; have HS9 := Aside0.mk hs1; have HB9 := Aside0.mk hb2; clear hs1 hb2 hk HS8 HB8)
    | (go_at_call 29; (with_reducible refine (bits_Reader_Bad.calls g b 5 false false 5 false w4 _ HS9.out HB9.out T4.out).mono ?_); rintro e w10 ⟨rfl, hs1, hb2, hk⟩; have HB10 := Aside0.mk hb2; clear hs1 hb2 hk HS9 HB9))
  go_ret
  exact ⟨rfl, below_step HB2.out (below_step HB4.out HB10.out)⟩

end Go.Proofs.Ytmlbppfcpejlpaa.X

-- Printed by this session's own program (wip/xprint.py) over the translation; its external functions are hand-written. Lean checks it.
namespace Go.Proofs.Ytmlbppfcpejlpaa.X
open Go.RowKit Go.Proofs.YtmlbppfcpejlpaaW.PrintWords Go.Proofs.YtmlbppfcpejlpaaW.PrintLast Go.Proofs.YtmlbppfcpejlpaaW.PrintMore
attribute [local go_sem] max2_int min2_int max_two min_two max_three min_three max_four min_four   -- for this text's walks alone
set_option linter.unusedVariables false
set_option linter.unusedSimpArgs false

/-! ### rickref04_Bytes: function 32 -/
def rickref04_Bytes.l0 : Nat → List Int → List Int → Int → Option (List Int)
  | 0, _, _, _ => none
  | k + 1, x0, x3, x4 => if x4 < (x0.length : Int) then (if 0 ≤ (wrap64 (Int.tdiv x4 8)) then (if (wrap64 (Int.tdiv x4 8)) < (x3.length : Int) then (if 0 ≤ x4 then (if 0 ≤ (wrap64 (7 - (Int.tmod x4 8))) then (rickref04_Bytes.l0 k x0 (x3.set ((wrap64 (Int.tdiv x4 8)) : Int).toNat (Go.bits .or .u8 (rd x3 (wrap64 (Int.tdiv x4 8))) (shl .u8 (rd x0 x4) (wrap64 (7 - (Int.tmod x4 8)))))) (wrap64 (x4 + 1))) else (none)) else (none)) else (none)) else (none)) else (some x3)
def rickref04_Bytes.f (k : Nat) (l0 : List Int) : Option (List Int) := if 0 ≤ (wrap64 (Int.tdiv (wrap64 ((l0.length : Int) + 7)) 8)) then (if (wrap64 (Int.tdiv (wrap64 ((l0.length : Int) + 7)) 8) : Int).toNat ≤ 281474976710656 then (rickref04_Bytes.l0 k l0 (List.replicate (wrap64 (Int.tdiv (wrap64 ((l0.length : Int) + 7)) 8) : Int).toNat 0) 0) else (none)) else (none)
theorem rickref04_Bytes.mono_l : ∀ k, (∀ y0 y1 y2, LeO (rickref04_Bytes.l0 k y0 y1 y2) (rickref04_Bytes.l0 (k + 1) y0 y1 y2))
  | 0 => fun _ _ _ r h => by simp [rickref04_Bytes.l0] at h
  | k + 1 => by
    have ih0 := rickref04_Bytes.mono_l k
    · intro y0 y1 y2
      unfold rickref04_Bytes.l0
      repeat' first
      | (with_reducible exact ih0 _ _ _)
      | (with_reducible exact LeO.refl _)
      | (with_reducible exact LeO.none _)
      | (with_reducible refine LeO.ite ?_ ?_)
      | (with_reducible refine LeO.bind ?_ (fun _ => ?_))
      | exact ih0 _ _ _
      | exact LeO.none _
      | refine LeO.ite ?_ ?_
      | refine LeO.bind ?_ (fun _ => ?_)
theorem rickref04_Bytes.mono : ∀ a0 k, LeO (rickref04_Bytes.f k a0) (rickref04_Bytes.f (k + 1) a0) := by
  intro a0 k
  have ih0 := rickref04_Bytes.mono_l k
  unfold rickref04_Bytes.f
  repeat' first
      | (with_reducible exact ih0 _ _ _)
      | (with_reducible exact LeO.refl _)
      | (with_reducible exact LeO.none _)
      | (with_reducible refine LeO.ite ?_ ?_)
      | (with_reducible refine LeO.bind ?_ (fun _ => ?_))
      | exact ih0 _ _ _
      | exact LeO.none _
      | refine LeO.ite ?_ ?_
      | refine LeO.bind ?_ (fun _ => ?_)
def rickref04_Bytes.T5 : Bool × List (List Nat × List Nat) := (true, [([], []), ([], []), ([1], [1]), ([], []), ([], []), ([4], [4]), ([3, 5], [3, 5]), ([6], [6]), ([], []), ([], []), ([8, 9], [8, 9]), ([10], [10]), ([], []), ([12], [12]), ([13], [13]), ([11, 14], [11, 14]), ([7, 15], [7, 15]), ([0, 2, 0, 1, 2, 3, 4, 5, 6, 7, 8, 9, 10, 11, 12, 13, 14, 15, 16], [0, 2]), ([17, 16, 0, 1, 2, 3, 4, 5, 6, 7, 8, 9, 10, 11, 12, 13, 14, 15, 16], [16, 17])])
def rickref04_Bytes.B5 : List Nat := [0, 0, 2, 0, 0, 16, 56, 120, 0, 0, 768, 1792, 0, 4096, 12288, 32512, 65528, 131071, 262143]
theorem rickref04_Bytes.tab5 : rtab .any (opsOf Try.f32 5) = rickref04_Bytes.T5 := by kernel_rfl
theorem rickref04_Bytes.bits5 : waitsOk rickref04_Bytes.T5.2 rickref04_Bytes.B5 = true := by kernel_rfl
set_option maxHeartbeats 8000000 in
set_option maxRecDepth 100000 in
theorem rickref04_Bytes.calls (k : Nat) (A0 : Option Addr) (c0 : Nat) (l0 : List Int) (r : List Int) (w : World) (hr0 : Kd.C (Kd.int .u8) w A0 l0.length l0) (hc0 : l0.length ≤ c0) (h : rickref04_Bytes.f k l0 = some r) :
    Calls Try.prog 32 #[.slice A0 l0.length c0] w fun e w' => ∃ v0_ : Value, e = .returned (v0_) ∧ Kd.R (Kd.int .u8) 5 w' w.heap.size (fun _ => True) v0_ r ∧ Below w.heap.size w w' := by
  have HR0 := Aside0.mk hr0
  have HC0 := Aside0.mk hc0
  clear hr0 hc0
  have HB := Aside0.mk (Below.refl w.heap.size w)
  have H : (if 0 ≤ (wrap64 (Int.tdiv (wrap64 ((l0.length : Int) + 7)) 8)) then (if (wrap64 (Int.tdiv (wrap64 ((l0.length : Int) + 7)) 8) : Int).toNat ≤ 281474976710656 then (rickref04_Bytes.l0 k l0 (List.replicate (wrap64 (Int.tdiv (wrap64 ((l0.length : Int) + 7)) 8) : Int).toNat 0) 0) else (none)) else (none)) = some r := h
  clear h
  obtain ⟨ji2, hji2⟩ : ∃ j_ : Int, (wrap64 (Int.tdiv (wrap64 ((l0.length : Int) + 7)) 8)) = j_ := ⟨_, rfl⟩
  replace H : (if 0 ≤ (ji2) then (if (ji2 : Int).toNat ≤ 281474976710656 then (rickref04_Bytes.l0 k l0 (List.replicate (ji2 : Int).toNat 0) 0) else (none)) else (none)) = some r := by first | (rw [hji2] at H; exact H) | (simp only [hji2] at H ⊢; exact H)
  have hji2w : (IntKind.i64.wrap (Int.tdiv (wrap64 ((l0.length : Int) + 7)) 8)) = ji2 := (i64_w _).trans hji2
  by_cases c3 : 0 ≤ (ji2)
  · rw [if_pos c3] at H
    have c3b0 := eq_true c3
    have c3b1 : decide (0 ≤ (ji2)) = true := decide_eq_true c3
    clear c3
    by_cases c4 : (ji2 : Int).toNat ≤ 281474976710656
    · rw [if_pos c4] at H
      have c4b0 := eq_true c4
      have c4b1 : decide ((ji2 : Int).toNat ≤ 281474976710656) = true := decide_eq_true c4
      clear c4
      obtain ⟨y196, hy196⟩ : ∃ y_ : List Int, y_ = (List.replicate (ji2 : Int).toNat 0) := ⟨_, rfl⟩
      replace H : (rickref04_Bytes.l0 k l0 y196 0) = some r := by first | (rw [hy196]; with_reducible exact H) | (have H2_ := (Option.bind_some _ _).symm.trans H; rw [hy196]; with_reducible exact H2_) | (have H2_ := (Option.bind_some _ _).symm.trans H; with_reducible exact H2_) | with_reducible exact H | (rw [hy196]; exact H) | exact H
      have Ny196 := Aside0.mk hy196
      clear hy196
      have H' := Aside0.mk H
      clear H
      go_enter Try.func32, Try.ntmps32
      go_wp2_with (first | ((with_reducible refine gate_dst (N := 9) rfl ?_); refine Kd.R_make (Kd.int .u8) _ 5 rfl (N := 9) rfl 22 _ _ rfl ji2 rfl rfl Try.underlying22 (.int .u8 0) 1 info5 rfl (by decide) (by omega) 0 (ok := fun _ => True) (okp := fun _ => True) rfl (fun _ hk => hk) trivial (of_decide_eq_true (by first | (with_reducible assumption) | assumption)) (Nat.le_trans (Nat.mul_le_mul_right _ (of_decide_eq_true (by first | (with_reducible assumption) | assumption) : ji2.toNat ≤ 281474976710656)) (by omega)) (Below.refl _ _) (Nat.le_refl _) ?_; intro v197 w5 ho6 hb hg_ hnew_; clear hg_ hnew_; (first | rw [← Ny196.out] at ho6 | (simp only [Int.reduceToNat] at ho6; rw [← Ny196.out] at ho6)); have n0_ := Aside0.mk (Kd.R_lower ho6 (below_size (by repeat (first | (with_reducible first | exact HB.out | apply below_alloc | apply pw_below_drewN | apply below_drew1) | exact HB.out)))); have n1_ := Aside0.mk (below_step (by repeat (first | (with_reducible first | exact HB.out | apply below_alloc | apply pw_below_drewN | apply below_drew1) | exact HB.out)) hb); clear HB; have HO198 := n0_; have HB := n1_; clear n0_ n1_; clear hb ho6))
      go_loopg [4] k (fun kq v4 w' => ∃ (x3_1 : List Int) (x4_1 : Int), v4 = .int .i64 x4_1 ∧ Aside0 (rickref04_Bytes.l0 kq l0 x3_1 x4_1 = some r) ∧ Aside0 (kq ≤ k) ∧ Aside0 (Kd.R (Kd.int .u8) 5 w' w.heap.size (fun _ => True) v197 x3_1) ∧ Aside0 (Below w.heap.size w w'))
      case atStart => exact ⟨(y196), (0), (by first | rfl | (simp; done) | (simp [*]; done)), H', ⟨Nat.le_refl _⟩, ⟨by (with_reducible repeat (first | apply Kd.R_alloc | apply Kd.R_drewN | apply Kd.R_drew)); exact HO198.out⟩, ⟨by repeat (first | (with_reducible first | exact HB.out | apply below_alloc | apply pw_below_drewN | apply below_drew1) | exact HB.out)⟩⟩
      case round =>
        clear H'
        try clear p2
        try clear c3
        try clear c3b0
        try clear c3b1
        try clear c4
        try clear c4b0
        try clear c4b1
        try clear p6
        obtain ⟨x3_1, x4_1, rfl, HA, HK1, HO_3, HB⟩ := hrel
        cases gk with
        | zero => exact absurd HA.out (by simp [rickref04_Bytes.l0])
        | succ k1 =>
          have H := HA.out
          clear HA
          simp only [rickref04_Bytes.l0] at H
          by_cases c7 : x4_1 < (l0.length : Int)
          · rw [if_pos c7] at H
            have c7b0 : decide (x4_1 < (l0.length : Int)) = true := decide_eq_true c7
            clear c7
            obtain ⟨ji8, hji8⟩ : ∃ j_ : Int, (wrap64 (Int.tdiv x4_1 8)) = j_ := ⟨_, rfl⟩
            replace H : (if 0 ≤ (ji8) then (if (ji8) < (x3_1.length : Int) then (if 0 ≤ x4_1 then (if 0 ≤ (wrap64 (7 - (Int.tmod x4_1 8))) then (rickref04_Bytes.l0 k1 l0 (x3_1.set ((ji8) : Int).toNat (Go.bits .or .u8 (rd x3_1 (ji8)) (shl .u8 (rd l0 x4_1) (wrap64 (7 - (Int.tmod x4_1 8)))))) (wrap64 (x4_1 + 1))) else (none)) else (none)) else (none)) else (none)) = some r := by first | (rw [hji8] at H; exact H) | (simp only [hji8] at H ⊢; exact H)
            have hji8w : (IntKind.i64.wrap (Int.tdiv x4_1 8)) = ji8 := (i64_w _).trans hji8
            by_cases c9 : 0 ≤ (ji8)
            · rw [if_pos c9] at H
              have c9b0 : decide (0 ≤ (ji8)) = true := decide_eq_true c9
              clear c9
              by_cases c10 : (ji8) < (x3_1.length : Int)
              · rw [if_pos c10] at H
                have c10b0 : decide ((ji8) < (x3_1.length : Int)) = true := decide_eq_true c10
                clear c10
                by_cases c11 : 0 ≤ x4_1
                · rw [if_pos c11] at H
                  have c11b0 : decide (0 ≤ x4_1) = true := decide_eq_true c11
                  clear c11
                  obtain ⟨ji12, hji12⟩ : ∃ j_ : Int, (wrap64 (7 - (Int.tmod x4_1 8))) = j_ := ⟨_, rfl⟩
                  replace H : (if 0 ≤ (ji12) then (rickref04_Bytes.l0 k1 l0 (x3_1.set ((ji8) : Int).toNat (Go.bits .or .u8 (rd x3_1 (ji8)) (shl .u8 (rd l0 x4_1) (ji12)))) (wrap64 (x4_1 + 1))) else (none)) = some r := by first | (rw [hji12] at H; exact H) | (simp only [hji12] at H ⊢; exact H)
                  have hji12w : (IntKind.i64.wrap (7 - (Int.tmod x4_1 8))) = ji12 := (i64_w _).trans hji12
                  by_cases c13 : 0 ≤ (ji12)
                  · rw [if_pos c13] at H
                    have c13b0 := eq_true c13
                    have c13b1 : decide (0 ≤ (ji12)) = true := decide_eq_true c13
                    clear c13
                    obtain ⟨ji14, hji14⟩ : ∃ j_ : Int, (shl .u8 (rd l0 x4_1) (ji12)) = j_ := ⟨_, rfl⟩
                    replace H : (rickref04_Bytes.l0 k1 l0 (x3_1.set ((ji8) : Int).toNat (Go.bits .or .u8 (rd x3_1 (ji8)) (ji14))) (wrap64 (x4_1 + 1))) = some r := by first | (rw [hji14] at H; exact H) | (simp only [hji14] at H ⊢; exact H)
                    have hji14_ : (IntKind.u8.wrap ((rd l0 x4_1) * 2 ^ min (ji12).toNat 8)) = ji14 := hji14
                    have hji14z : (ji12) ≤ 8 → (IntKind.u8.wrap ((rd l0 x4_1) * 2 ^ (ji12).toNat)) = ji14 := shl_small hji14
                    obtain ⟨y201, hy201⟩ : ∃ y_ : List Int, y_ = (x3_1.set ((ji8) : Int).toNat (Go.bits .or .u8 (rd x3_1 (ji8)) (ji14))) := ⟨_, rfl⟩
                    replace H : (rickref04_Bytes.l0 k1 l0 y201 (wrap64 (x4_1 + 1))) = some r := by first | (rw [hy201]; with_reducible exact H) | (have H2_ := (Option.bind_some _ _).symm.trans H; rw [hy201]; with_reducible exact H2_) | (have H2_ := (Option.bind_some _ _).symm.trans H; with_reducible exact H2_) | with_reducible exact H | (rw [hy201]; exact H) | exact H
                    have Ny201 := Aside0.mk hy201
                    clear hy201
                    have H' := Aside0.mk H
                    clear H
                    try go_wp2
                    have n0_ := Aside0.mk (Kd.R_drew HO_3.out)
                    have n1_ := Aside0.mk (below_drew1 HB.out)
                    clear HO_3
                    clear HB
                    have HO_3 := n0_
                    have HB := n1_
                    clear n0_ n1_
                    obtain ⟨Ao17, co17, eo17⟩ := Kd.R_slice HO_3.out
                    (first | subst eo17 | (injection eo17 with f1_ f2_ f3_; have f4_ := f1_.symm; have f5_ := f3_.symm; clear f1_ f2_ f3_; subst f4_; subst f5_))
                    have p199 : 0 ≤ ((ji8) : Int) := of_decide_eq_true (by first | (with_reducible assumption) | assumption)
                    have q199 : (ji8) < (x3_1.length : Int) := of_decide_eq_true (by first | (with_reducible assumption) | assumption)
                    obtain ⟨ad199, e199, hx199_0⟩ := Kd.at_int (Kd.R_reads' HO_3.out).2.2 (ji8) p199 q199
                    cases e199
                    replace p199 := eq_true p199
                    replace q199 := eq_true q199
                    have p200 : 0 ≤ (x4_1 : Int) := of_decide_eq_true (by first | (with_reducible assumption) | assumption)
                    have q200 : x4_1 < (l0.length : Int) := of_decide_eq_true (by first | (with_reducible assumption) | assumption)
                    obtain ⟨ad200, e200, hx200_0⟩ := Kd.at_int HR0.out x4_1 p200 q200
                    have hw200_0 := hx200_0
                    cases e200
                    replace hx200_0 := (HB.out.cell (World.block_lt_of_cell? w _ hx200_0)).trans hx200_0
                    replace p200 := eq_true p200
                    replace q200 := eq_true q200
                    have p15 : 0 ≤ ((ji8) : Int) := of_decide_eq_true (by first | (with_reducible assumption) | assumption)
                    have q15 : ((ji8) : Int) < ((x3_1.length : Int) : Int) := of_decide_eq_true (by first | (with_reducible assumption) | assumption)
                    obtain ⟨go15, co15, eo15, gb15, gl15, cl15, HG15⟩ := Kd.R_form HO_3.out (by omega)
                    (first | cases eo15 | (injection eo15 with ea_ en_ ec_; (first | subst ea_ | (injection ea_ with ea_; subst ea_)); subst ec_; clear en_))
                    have GB15 := Aside0.mk gb15
                    have GG15 := Aside0.mk HG15
                    clear gb15 gl15 HG15
                    (first | simp only [add_plain] at hx199_0 | skip)
                    obtain ⟨hx15_0, hf15_0⟩ := Kd.R_celln 0 HO_3.out ((ji8) : Int) p15 q15
                    replace p15 := eq_true p15
                    replace q15 := eq_true q15
                    have HP18 := Kd.R_putn HO_3.out ((ji8) : Int) (Go.bits .or .u8 (rd x3_1 (ji8)) (ji14))
                    rw [← Ny201.out] at HP18
                    have HQ18 := Aside0.mk HP18
                    clear HP18
                    refine start_ (n := 19) (S := fun w' => w'.cell? ⟨go15, ((ji8)).toNat, none⟩ = some (.int .u8 (rd x3_1 (ji8))) ∧ w'.cell? (ad200.add (x4_1).toNat) = some (.int .u8 (rd l0 x4_1))) (ds := [18]) #[false, false, false, false, false, false, false, false, false, false, false, false, false, false, false, false, false, false, false] (by kernel_rfl) rfl rfl ⟨hx199_0, ((HB.out.cell (World.block_lt_of_cell? w _ hw200_0)).trans hw200_0)⟩ (fun hHeld => ?_); refine with_tabW rickref04_Bytes.tab5 rickref04_Bytes.bits5 (fun HT_ HW_ => ?_)
                    generalize wr.drew = w16 at HO_3 HB GG15 HQ18 hf15_0 hx15_0 hx199_0 hx200_0 hHeld ⊢
                    refine pure_ (i := 0) (N := some 16) (v := ?_) (a' := ?_) #[true, false, false, false, false, false, false, false, false, false, false, false, false, false, false, false, false, false, false] rfl rfl (any_of HT_.out (by kernel_rfl)) (fun _ _ _ h => h) (Or.inl ⟨by rfl, ?_⟩) ?_ ?_
                    rotate_left
                    · intro w'
                      go_simp
                      with_reducible rfl
                    rotate_left
                    · simp only [Act.put, List.setIfInBounds_toArray, List.set_cons_zero, List.set_cons_succ, i64_w, i32_w]
                      rfl
                    refine pure_ (i := 1) (N := some 17) (v := ?_) (a' := ?_) #[true, true, false, false, false, false, false, false, false, false, false, false, false, false, false, false, false, false, false] rfl rfl (any_of HT_.out (by kernel_rfl)) (fun _ _ _ h => h) (Or.inl ⟨by rfl, ?_⟩) ?_ ?_
                    rotate_left
                    · intro w'
                      go_simp
                      with_reducible rfl
                    rotate_left
                    · simp only [Act.put, List.setIfInBounds_toArray, List.set_cons_zero, List.set_cons_succ, i64_w, i32_w]
                      rfl
                    refine pure_ (i := 2) (N := some 18) (v := ?_) (a' := ?_) #[true, true, true, false, false, false, false, false, false, false, false, false, false, false, false, false, false, false, false] rfl rfl (any_of HT_.out (by kernel_rfl)) (fun _ _ _ h => h) (Or.inl ⟨by rfl, ?_⟩) ?_ ?_
                    rotate_left
                    · intro w'
                      go_simp
                      with_reducible rfl
                    rotate_left
                    · simp only [Act.put, List.setIfInBounds_toArray, List.set_cons_zero, List.set_cons_succ, i64_w, i32_w]
                      rfl
                    refine pure_ (i := 3) (N := some 19) (v := ?_) (a' := ?_) #[true, true, true, true, false, false, false, false, false, false, false, false, false, false, false, false, false, false, false] rfl rfl (any_of HT_.out (by kernel_rfl)) (fun _ _ _ h => h) (Or.inl ⟨by rfl, ?_⟩) ?_ ?_
                    rotate_left
                    · intro w'
                      go_simp
                      with_reducible rfl
                    rotate_left
                    · simp only [Act.put, List.setIfInBounds_toArray, List.set_cons_zero, List.set_cons_succ, i64_w, i32_w]
                      rfl
                    refine pure_ (i := 4) (N := some 20) (v := ?_) (a' := ?_) #[true, true, true, true, true, false, false, false, false, false, false, false, false, false, false, false, false, false, false] rfl rfl (any_of HT_.out (by kernel_rfl)) (fun _ _ _ h => h) (Or.inl ⟨by rfl, ?_⟩) ?_ ?_
                    rotate_left
                    · intro w'
                      go_simp
                      with_reducible rfl
                    rotate_left
                    · simp only [Act.put, List.setIfInBounds_toArray, List.set_cons_zero, List.set_cons_succ, i64_w, i32_w]
                      rfl
                    refine pure_ (i := 5) (N := some 21) (v := ?_) (a' := ?_) #[true, true, true, true, true, true, false, false, false, false, false, false, false, false, false, false, false, false, false] rfl rfl (any_of HT_.out (by kernel_rfl)) (fun _ _ _ h => h) (Or.inl ⟨by rfl, ?_⟩) ?_ ?_
                    rotate_left
                    · intro w'
                      go_simp
                      with_reducible rfl
                    rotate_left
                    · simp only [Act.put, List.setIfInBounds_toArray, List.set_cons_zero, List.set_cons_succ, i64_w, i32_w]
                      rfl
                    refine pure_ (i := 6) (N := some 22) (v := ?_) (a' := ?_) #[true, true, true, true, true, true, true, false, false, false, false, false, false, false, false, false, false, false, false] rfl rfl (any_of HT_.out (by kernel_rfl)) (fun _ _ _ h => h) (Or.inl ⟨by rfl, ?_⟩) ?_ ?_
                    rotate_left
                    · intro w'
                      go_simp
                      with_reducible rfl
                    rotate_left
                    · simp only [Act.put, List.setIfInBounds_toArray, List.set_cons_zero, List.set_cons_succ, i64_w, i32_w]
                      rfl
                    refine pure_ (i := 8) (N := some 24) (v := ?_) (a' := ?_) #[true, true, true, true, true, true, true, false, true, false, false, false, false, false, false, false, false, false, false] rfl rfl (any_of HT_.out (by kernel_rfl)) (fun _ _ _ h => h) (Or.inl ⟨by rfl, ?_⟩) ?_ ?_
                    rotate_left
                    · intro w'
                      go_simp
                      with_reducible rfl
                    rotate_left
                    · simp only [Act.put, List.setIfInBounds_toArray, List.set_cons_zero, List.set_cons_succ, i64_w, i32_w]
                      rfl
                    refine pure_ (i := 9) (N := some 25) (v := ?_) (a' := ?_) #[true, true, true, true, true, true, true, false, true, true, false, false, false, false, false, false, false, false, false] rfl rfl (any_of HT_.out (by kernel_rfl)) (fun _ _ _ h => h) (Or.inl ⟨by rfl, ?_⟩) ?_ ?_
                    rotate_left
                    · intro w'
                      go_simp
                      with_reducible rfl
                    rotate_left
                    · simp only [Act.put, List.setIfInBounds_toArray, List.set_cons_zero, List.set_cons_succ, i64_w, i32_w]
                      rfl
                    refine pure_ (i := 10) (N := some 26) (v := ?_) (a' := ?_) #[true, true, true, true, true, true, true, false, true, true, true, false, false, false, false, false, false, false, false] rfl rfl (any_of HT_.out (by kernel_rfl)) (fun _ _ _ h => h) (Or.inl ⟨by rfl, ?_⟩) ?_ ?_
                    rotate_left
                    · intro w'
                      go_simp
                      with_reducible rfl
                    rotate_left
                    · simp only [Act.put, List.setIfInBounds_toArray, List.set_cons_zero, List.set_cons_succ, i64_w, i32_w]
                      rfl
                    refine pure_ (i := 12) (N := some 28) (v := ?_) (a' := ?_) #[true, true, true, true, true, true, true, false, true, true, true, false, true, false, false, false, false, false, false] rfl rfl (any_of HT_.out (by kernel_rfl)) (fun _ _ _ h => h) (Or.inl ⟨by rfl, ?_⟩) ?_ ?_
                    rotate_left
                    · intro w'
                      go_simp
                      with_reducible rfl
                    rotate_left
                    · simp only [Act.put, List.setIfInBounds_toArray, List.set_cons_zero, List.set_cons_succ, i64_w, i32_w]
                      rfl
                    refine pure_ (i := 13) (N := some 29) (v := ?_) (a' := ?_) #[true, true, true, true, true, true, true, false, true, true, true, false, true, true, false, false, false, false, false] rfl rfl (any_of HT_.out (by kernel_rfl)) (fun _ _ _ h => h) (Or.inl ⟨by rfl, ?_⟩) ?_ ?_
                    rotate_left
                    · intro w'
                      go_simp
                      with_reducible rfl
                    rotate_left
                    · simp only [Act.put, List.setIfInBounds_toArray, List.set_cons_zero, List.set_cons_succ, i64_w, i32_w]
                      rfl
                    refine pure_ (i := 14) (N := some 30) (v := ?_) (a' := ?_) #[true, true, true, true, true, true, true, false, true, true, true, false, true, true, true, false, false, false, false] rfl rfl (any_of HT_.out (by kernel_rfl)) (fun _ _ _ h => h) (Or.inl ⟨by rfl, ?_⟩) ?_ ?_
                    rotate_left
                    · intro w'
                      go_simp
                      with_reducible rfl
                    rotate_left
                    · simp only [Act.put, List.setIfInBounds_toArray, List.set_cons_zero, List.set_cons_succ, i64_w, i32_w]
                      rfl
                    refine take_ (i := 7) (N := some 23) (v := ?_) (a' := ?_) #[true, true, true, true, true, true, true, true, true, true, true, false, true, true, true, false, false, false, false] rfl rfl (take_ofW HT_.out HW_.out (by kernel_rfl)) (fun _ _ _ h => h) (Or.inl ⟨by rfl, ?_⟩) hHeld ?_ ?_
                    rotate_left
                    · rintro w' ⟨s0, s1⟩
                      go_simp
                      with_reducible rfl
                    rotate_left
                    · simp only [Act.put, List.setIfInBounds_toArray, List.set_cons_zero, List.set_cons_succ, i64_w, i32_w]
                      rfl
                    refine take_ (i := 11) (N := some 27) (v := ?_) (a' := ?_) #[true, true, true, true, true, true, true, true, true, true, true, true, true, true, true, false, false, false, false] rfl rfl (take_ofW HT_.out HW_.out (by kernel_rfl)) (fun _ _ _ h => h) (Or.inl ⟨by rfl, ?_⟩) hHeld ?_ ?_
                    rotate_left
                    · rintro w' ⟨s0, s1⟩
                      go_simp
                      with_reducible rfl
                    rotate_left
                    · simp only [Act.put, List.setIfInBounds_toArray, List.set_cons_zero, List.set_cons_succ, i64_w, i32_w]
                      rfl
                    refine pure_ (i := 15) (N := some 31) (v := ?_) (a' := ?_) #[true, true, true, true, true, true, true, true, true, true, true, true, true, true, true, true, false, false, false] rfl rfl (any_of HT_.out (by kernel_rfl)) (fun _ _ _ h => h) (Or.inl ⟨by rfl, ?_⟩) ?_ ?_
                    rotate_left
                    · intro w'
                      go_simp
                      with_reducible rfl
                    rotate_left
                    · simp only [Act.put, List.setIfInBounds_toArray, List.set_cons_zero, List.set_cons_succ, i64_w, i32_w]
                      rfl
                    refine pure_ (i := 16) (N := some 32) (v := ?_) (a' := ?_) #[true, true, true, true, true, true, true, true, true, true, true, true, true, true, true, true, true, false, false] rfl rfl (any_of HT_.out (by kernel_rfl)) (fun _ _ _ h => h) (Or.inl ⟨by rfl, ?_⟩) ?_ ?_
                    rotate_left
                    · intro w'
                      go_simp
                      with_reducible rfl
                    rotate_left
                    · simp only [Act.put, List.setIfInBounds_toArray, List.set_cons_zero, List.set_cons_succ, i64_w, i32_w]
                      rfl
                    refine pure_ (i := 17) (N := some 33) (v := ?_) (a' := ?_) #[true, true, true, true, true, true, true, true, true, true, true, true, true, true, true, true, true, true, false] rfl rfl (any_of HT_.out (by kernel_rfl)) (fun _ _ _ h => h) (Or.inl ⟨by rfl, ?_⟩) ?_ ?_
                    rotate_left
                    · intro w'
                      go_simp
                      with_reducible rfl
                    rotate_left
                    · simp only [Act.put, List.setIfInBounds_toArray, List.set_cons_zero, List.set_cons_succ, i64_w, i32_w]
                      rfl
                    refine last_ (i := 18) (N := none) #[true, true, true, true, true, true, true, true, true, true, true, true, true, true, true, true, true, true, true] rfl rfl (one_of HT_.out (by kernel_rfl)) (by decide) (fun K hK => ?_)
                    refine skip_ (w1 := ?_) (by rfl) rfl ?_ ?_
                    rotate_left
                    · go_simp
                      rfl
                    refine hK.out _ _ ?_
                    clear hK K
                    refine done_ (done_of HT_.out (by kernel_rfl)) ?_
                    try go_wp2
                    go_roundg k1
                    case measure => have := HK1.out; omega
                    case rel => exact ⟨(y201), (wrap64 (x4_1 + 1)), (by first | rfl | (simp; done) | (simp [*]; done)), H', ⟨by have := HK1.out; omega⟩, ⟨by (with_reducible repeat (first | apply Kd.R_alloc | apply Kd.R_drewN | apply Kd.R_drew)); exact HQ18.out⟩, ⟨by repeat (first | (with_reducible first | exact HB.out | apply below_alloc | apply pw_below_drewN | apply below_drew1 | refine below_set ?_ GB15.out) | exact HB.out)⟩⟩
                  · rw [if_neg c13] at H
                    exact absurd H (by simp)
                · rw [if_neg c11] at H
                  exact absurd H (by simp)
              · rw [if_neg c10] at H
                exact absurd H (by simp)
            · rw [if_neg c9] at H
              exact absurd H (by simp)
          · rw [if_neg c7] at H
            have c7b0 : decide (x4_1 < (l0.length : Int)) = false := decide_eq_false c7
            clear c7
            obtain rfl := Option.some.inj H
            go_wp2
            go_ret
            exact ⟨_, by first | rfl | (simp [errW_none, errW_some] <;> rfl) | (simp only [← hji2]; first | rfl | (simp [errW_none, errW_some] <;> rfl)) | (simp [*, errW_none, errW_some] <;> rfl), by (with_reducible repeat (first | apply Kd.R_alloc | apply Kd.R_drewN | apply Kd.R_drew)); exact HO_3.out, by repeat (first | (with_reducible first | exact HB.out | apply below_alloc | apply pw_below_drewN | apply below_drew1) | exact HB.out)⟩
    · rw [if_neg c4] at H
      exact absurd H (by simp)
  · rw [if_neg c3] at H
    exact absurd H (by simp)

end Go.Proofs.Ytmlbppfcpejlpaa.X

-- Printed by this session's own program (wip/xprint.py) over the translation; its external functions are hand-written. Lean checks it.
namespace Go.Proofs.Ytmlbppfcpejlpaa.X
open Go.RowKit Go.Proofs.YtmlbppfcpejlpaaW.PrintWords Go.Proofs.YtmlbppfcpejlpaaW.PrintLast Go.Proofs.YtmlbppfcpejlpaaW.PrintMore
attribute [local go_sem] max2_int min2_int max_two min_two max_three min_three max_four min_four   -- for this text's walks alone
set_option linter.unusedVariables false
set_option linter.unusedSimpArgs false

/-! ### rickref04_Put: function 31 -/
def rickref04_Put.l0 : Nat → List Int → Int → Int → Option (List Int)
  | 0, _, _, _ => none
  | k + 1, x0, x1, x7 => if x7 ≥ 0 then (if 0 ≤ x7 then (if x0.length < 140737488355328 then (rickref04_Put.l0 k (x0 ++ [(Go.bits .and .u64 (shr .u64 x1 x7) 1) % 256]) x1 (wrap64 (x7 - 1))) else (none)) else (none)) else (some x0)
def rickref04_Put.f (k : Nat) (l0 : List Int) (a1 : Int) (a2 : Int) : Option (List Int) := rickref04_Put.l0 k l0 a1 ((mn (mx a2 0) 64) - 1)
theorem rickref04_Put.mono_l : ∀ k, (∀ y0 y1 y2, LeO (rickref04_Put.l0 k y0 y1 y2) (rickref04_Put.l0 (k + 1) y0 y1 y2))
  | 0 => fun _ _ _ r h => by simp [rickref04_Put.l0] at h
  | k + 1 => by
    have ih0 := rickref04_Put.mono_l k
    · intro y0 y1 y2
      unfold rickref04_Put.l0
      repeat' first
      | (with_reducible exact ih0 _ _ _)
      | (with_reducible exact LeO.refl _)
      | (with_reducible exact LeO.none _)
      | (with_reducible refine LeO.ite ?_ ?_)
      | (with_reducible refine LeO.bind ?_ (fun _ => ?_))
      | exact ih0 _ _ _
      | exact LeO.none _
      | refine LeO.ite ?_ ?_
      | refine LeO.bind ?_ (fun _ => ?_)
theorem rickref04_Put.mono : ∀ a0 a1 a2 k, LeO (rickref04_Put.f k a0 a1 a2) (rickref04_Put.f (k + 1) a0 a1 a2) := by
  intro a0 a1 a2 k
  have ih0 := rickref04_Put.mono_l k
  unfold rickref04_Put.f
  repeat' first
      | (with_reducible exact ih0 _ _ _)
      | (with_reducible exact LeO.refl _)
      | (with_reducible exact LeO.none _)
      | (with_reducible refine LeO.ite ?_ ?_)
      | (with_reducible refine LeO.bind ?_ (fun _ => ?_))
      | exact ih0 _ _ _
      | exact LeO.none _
      | refine LeO.ite ?_ ?_
      | refine LeO.bind ?_ (fun _ => ?_)
set_option maxHeartbeats 8000000 in
set_option maxRecDepth 100000 in
theorem rickref04_Put.calls (k : Nat) (P0_ : Nat → Prop) (u9000_ : Value) (l0 : List Int) (a1 : Int) (a2 : Int) (r : List Int) (w0 w : World) (hB : Below w0.heap.size w0 w) (ho0 : Kd.R (Kd.int .u8) 5 w w0.heap.size P0_ u9000_ l0) (h : rickref04_Put.f k l0 a1 a2 = some r) :
    Calls Try.prog 31 #[u9000_, .int .u64 a1, .int .i64 a2] w fun e w' => ∃ v0_ : Value, e = .returned (v0_) ∧ Kd.R (Kd.int .u8) 5 w' w0.heap.size (fun k_ => (P0_ k_ ∨ w.heap.size ≤ k_)) v0_ r ∧ Below w0.heap.size w0 w' ∧ Kept w w' (fun k_ => P0_ k_) := by
  have HO0 := Aside0.mk (show Kd.R (Kd.int .u8) 5 w w0.heap.size (fun k_ => (P0_ k_ ∨ w.heap.size ≤ k_)) u9000_ l0 from Kd.R_mono ho0 (fun k_ hk => (.inl hk)))
  have HK := Aside0.mk (Kept.refl w (fun k_ => P0_ k_))
  have HW0 := Aside0.mk hB.size
  have HB := Aside0.mk hB
  clear hB
  have H : (rickref04_Put.l0 k l0 a1 ((mn (mx a2 0) 64) - 1)) = some r := h
  clear h
  obtain ⟨ji4, hji4⟩ : ∃ j_ : Int, (mx a2 0) = j_ := ⟨_, rfl⟩
  replace H : (rickref04_Put.l0 k l0 a1 ((mn (ji4) 64) - 1)) = some r := by first | (rw [hji4] at H; exact H) | (simp only [hji4] at H ⊢; exact H)
  (try (have hji4l : 0 ≤ ji4 := by (rw [← hji4]; unfold mx; (repeat' split) <;> omega)))
  (try (have hji4m : 0 ≤ ji4 := by omega))
  have hji4_ : (if a2 < 0 then 0 else a2) = ji4 := hji4
  obtain ⟨ji5, hji5⟩ : ∃ j_ : Int, (mn (ji4) 64) = j_ := ⟨_, rfl⟩
  replace H : (rickref04_Put.l0 k l0 a1 ((ji5) - 1)) = some r := by first | (rw [hji5] at H; exact H) | (simp only [hji5] at H ⊢; exact H)
  have hji5_ : (if 64 < (ji4) then 64 else (ji4)) = ji5 := hji5
  have H' := Aside0.mk H
  clear H
  go_enter Try.func31, Try.ntmps31
  go_wp2
  go_loopg [0, 7] k (fun kq v0 v7 w' => ∃ (x0_1 : List Int) (x7_1 : Int), v7 = .int .i64 x7_1 ∧ Aside0 (rickref04_Put.l0 kq x0_1 a1 x7_1 = some r) ∧ Aside0 (kq ≤ k) ∧ Aside0 (Kd.R (Kd.int .u8) 5 w' w0.heap.size (fun k_ => (P0_ k_ ∨ w.heap.size ≤ k_)) v0 x0_1) ∧ Aside0 (Kept w w' (fun k_ => P0_ k_)) ∧ Aside0 (Below w0.heap.size w0 w'))
  case atStart => exact ⟨(l0), ((ji5) - 1), (by first | rfl | (simp; done) | (simp only [← hji5] <;> (first | rfl | simp)) | (simp [*]; done)), H', ⟨Nat.le_refl _⟩, ⟨by (with_reducible repeat (first | apply Kd.R_alloc | apply Kd.R_drewN | apply Kd.R_drew)); exact HO0.out⟩, ⟨by repeat (first | (with_reducible first | exact HK.out | apply Kept.alloc | apply Kept.drewN | apply Kept.drew) | exact HK.out)⟩, ⟨by repeat (first | (with_reducible first | exact HB.out | apply below_alloc | apply pw_below_drewN | apply below_drew1) | exact HB.out)⟩⟩
  case round =>
    clear H'
    try clear p2
    try clear c3
    obtain ⟨x0_1, x7_1, rfl, HA, HK1, HO_0, HK, HB⟩ := hrel
    cases gk with
    | zero => exact absurd HA.out (by simp [rickref04_Put.l0])
    | succ k1 =>
      have H := HA.out
      clear HA
      simp only [rickref04_Put.l0] at H
      by_cases c6 : x7_1 ≥ 0
      · rw [if_pos c6] at H
        have c6b0 : decide (0 ≤ x7_1) = true := decide_eq_true c6
        clear c6
        by_cases c7 : 0 ≤ x7_1
        · rw [if_pos c7] at H
          have c7b0 := eq_true c7
          have c7b1 : decide (0 ≤ x7_1) = true := decide_eq_true c7
          clear c7
          obtain ⟨ji8, hji8⟩ : ∃ j_ : Int, (shr .u64 a1 x7_1) = j_ := ⟨_, rfl⟩
          replace H : (if x0_1.length < 140737488355328 then (rickref04_Put.l0 k1 (x0_1 ++ [(Go.bits .and .u64 (ji8) 1) % 256]) a1 (wrap64 (x7_1 - 1))) else (none)) = some r := by first | (rw [hji8] at H; exact H) | (simp only [hji8] at H ⊢; exact H)
          have hji8_ : (a1 / 2 ^ min x7_1.toNat 64) = ji8 := hji8
          have hji8z : x7_1 ≤ 64 → (a1 / 2 ^ x7_1.toNat) = ji8 := shr_small hji8
          by_cases c9 : x0_1.length < 140737488355328
          · rw [if_pos c9] at H
            have LMc9 := Aside0.mk c9
            clear c9
            obtain ⟨y193, hy193⟩ : ∃ y_ : List Int, y_ = (x0_1 ++ [(Go.bits .and .u64 (ji8) 1) % 256]) := ⟨_, rfl⟩
            replace H : (rickref04_Put.l0 k1 y193 a1 (wrap64 (x7_1 - 1))) = some r := by first | (rw [hy193]; with_reducible exact H) | (have H2_ := (Option.bind_some _ _).symm.trans H; rw [hy193]; with_reducible exact H2_) | (have H2_ := (Option.bind_some _ _).symm.trans H; with_reducible exact H2_) | with_reducible exact H | (rw [hy193]; exact H) | exact H
            have Ny193 := Aside0.mk hy193
            clear hy193
            have H' := Aside0.mk H
            clear H
            go_wp2_with (first | ((with_reducible refine gate_builtin (b := .append) (xs := #[.tmp 16, .tmp 22]) rfl ?_); at_builtin; refine Kd.R_append (Kd.int .u8) (w0 := w0) w0.heap.size rfl (.tmp 16) (.tmp 22) 22 5 (.int .u8 0) 1 rfl Try.underlying22 info5 rfl (by decide) (by omega) u0 x0_1 ((Go.bits .and .u64 (ji8) 1) % 256) [.int .u8 ((Go.bits .and .u64 (ji8) 1) % 256)] (fun k_ => (P0_ k_ ∨ w.heap.size ≤ k_)) (fun _ => False) rfl rfl ?aP (fun _ hk => hk.elim) ?aF ?aO ?aB ?aS ?aL ?_; (case aP => exact rfl); (case aB => exact (by repeat (first | (with_reducible first | exact HB.out | apply below_alloc | apply pw_below_drewN | apply below_drew1) | exact HB.out))); (case aF => exact (fun k_ hk => (.inr (Nat.le_trans (by first | exact HK.out.1 | exact (show Kept w _ (fun k_ => P0_ k_) from by repeat (first | (with_reducible first | exact HK.out | apply Kept.alloc | apply Kept.drewN | apply Kept.drew) | exact HK.out)).1) hk)))); (case aO => exact (by (with_reducible repeat (first | apply Kd.R_alloc | apply Kd.R_drewN | apply Kd.R_drew)); exact HO_0.out)); (case aS => exact (below_size (by repeat (first | (with_reducible first | exact HB.out | apply below_alloc | apply pw_below_drewN | apply below_drew1) | exact HB.out)))); (case aL => have := LMc9.out; omega); intro v194 w10 ho hb hg hat; rw [← Ny193.out] at ho; have n0_ := Aside0.mk (hb); have n1_ := Aside0.mk (Kept.of_grown (S := (fun k_ => P0_ k_)) hg (by repeat (first | (with_reducible first | exact HK.out | apply Kept.alloc | apply Kept.drewN | apply Kept.drew) | exact HK.out)) (fun k_ e_ => (HO_0.out.1 k_ e_))); have n2_ := Aside0.mk (ho); clear HB; clear HK; clear HO_0; have HB := n0_; have HK := n1_; have HO195 := n2_; clear n0_ n1_ n2_; clear ho hb hg hat))
            go_roundg k1
            case measure => have := HK1.out; omega
            case rel => exact ⟨(y193), (wrap64 (x7_1 - 1)), (by first | rfl | (simp; done) | (simp [*]; done)), H', ⟨by have := HK1.out; omega⟩, ⟨by (with_reducible repeat (first | apply Kd.R_alloc | apply Kd.R_drewN | apply Kd.R_drew)); exact HO195.out⟩, ⟨by repeat (first | (with_reducible first | exact HK.out | apply Kept.alloc | apply Kept.drewN | apply Kept.drew) | exact HK.out)⟩, ⟨by repeat (first | (with_reducible first | exact HB.out | apply below_alloc | apply pw_below_drewN | apply below_drew1) | exact HB.out)⟩⟩
          · rw [if_neg c9] at H
            exact absurd H (by simp)
        · rw [if_neg c7] at H
          exact absurd H (by simp)
      · rw [if_neg c6] at H
        have c6b0 : decide (0 ≤ x7_1) = false := decide_eq_false c6
        clear c6
        obtain rfl := Option.some.inj H
        go_wp2
        go_ret
        exact ⟨_, by first | rfl | (simp [errW_none, errW_some] <;> rfl) | (simp only [← hji4, ← hji5]; first | rfl | (simp [errW_none, errW_some] <;> rfl)) | (simp [*, errW_none, errW_some] <;> rfl), by (with_reducible repeat (first | apply Kd.R_alloc | apply Kd.R_drewN | apply Kd.R_drew)); exact HO_0.out, by repeat (first | (with_reducible first | exact HB.out | apply below_alloc | apply pw_below_drewN | apply below_drew1) | exact HB.out), by repeat (first | (with_reducible first | exact HK.out | apply Kept.alloc | apply Kept.drewN | apply Kept.drew) | exact HK.out)⟩

end Go.Proofs.Ytmlbppfcpejlpaa.X

/- The walks of layer 4's functions at no writer and no reader; a slice of pairs. No conditions. -/
namespace Go.Proofs.Ytmlbppfcpejlpaa.W04
open Go Go.RowKit Go.Proofs.YtmlbppfcpejlpaaW.PrintWords Go.Proofs.YtmlbppfcpejlpaaW.PrintLast Go.Proofs.YtmlbppfcpejlpaaW.PrintMore Go.Proofs.Ytmlbppfcpejlpaa.S Go.Proofs.Ytmlbppfcpejlpaa.B Go.Proofs.Ytmlbppfcpejlpaa.X
attribute [local go_sem] max2_int min2_int max_two min_two max_three min_three max_four min_four
set_option linter.unusedVariables false
set_option linter.unusedSimpArgs false

theorem put_nil (x m : Int) (w : World) : Calls Try.prog 25 #[.pointer none, .int .u64 x, .int .i64 m] w fun e w' => e = .returned (.tuple #[]) ∧ w = w' := by
  go_enter Try.func25, Try.ntmps25
  go_wp2
  exact bodyPost_ret (v := .tuple #[]) (results_none rfl _ _ _) rfl ⟨rfl, rfl⟩
theorem bytes_nil (w : World) : Calls Try.prog 27 #[.pointer none] w fun e w' => e = .returned (.slice none 0 0) ∧ w = w' := by
  go_enter Try.func27, Try.ntmps27
  go_wp2
  go_ret
  exact ⟨rfl, rfl⟩
theorem take_nil (m : Int) (w : World) : Calls Try.prog 28 #[.pointer none, .int .i64 m] w fun e w' => e = .returned (.int .u64 0) ∧ w = w' := by
  go_enter Try.func28, Try.ntmps28
  go_wp2
  go_ret
  exact ⟨rfl, rfl⟩
theorem bad_nil (w : World) : Calls Try.prog 29 #[.pointer none] w fun e w' => e = .returned (.bool true) ∧ w = w' := by
  go_enter Try.func29, Try.ntmps29
  go_wp2
  go_ret
  exact ⟨rfl, rfl⟩
theorem left_nil (w : World) : Calls Try.prog 30 #[.pointer none] w fun e w' => e = .returned (.int .i64 0) ∧ w = w' := by
  go_enter Try.func30, Try.ntmps30
  go_wp2
  go_ret
  exact ⟨rfl, rfl⟩
theorem none_calls (w : World) : Calls Try.prog 24 #[] w fun e w' => e = .returned (.tuple #[.pointer none, .pointer none]) ∧ w = w' := by
  go_enter Try.func24, Try.ntmps24
  go_wp2
  go_ret2
  exact ⟨rfl, rfl⟩
/-- A slice of pairs, each a number and a count: what its cells hold. -/
def Pairs (w : World) (A : Option Addr) (n : Nat) (f : Nat → Int × Int) : Prop :=
  n ≤ 9223372036854775807 ∧ ∀ i, i < n → ∃ ad, A = some ad ∧ w.cell? (ad.add (i * 2)) = some (.int .u64 (f i).1) ∧ w.cell? (ad.add (i * 2 + 1)) = some (.int .i64 (f i).2) ∧ ad.block < w.heap.size ∧ 0 ≤ (f i).1 ∧ (f i).1 < 18446744073709551616
theorem R_lt_w {W : World} {base : Nat} {ok : Nat → Prop} {v : Value} {xs : List Int} (h : Kd.R (Kd.int .u8) 5 W base ok v xs) : ∀ k, v.ownBlock = some k → k < W.heap.size := Kd.R_lt h
/-- A row of bits beside a writer: its block is neither the writer's nor that of the writer's bytes. -/
def Beside (w0 W : World) (g : Nat) (v u : Value) (l : List Int) : Prop := Kd.R (Kd.int .u8) 5 W w0.heap.size (fun k => k ≠ g ∧ some k ≠ v.ownBlock) u l
theorem Beside.R {w0 W : World} {g : Nat} {v u : Value} {l : List Int} (h : Beside w0 W g v u l) : Kd.R (Kd.int .u8) 5 W w0.heap.size (fun k => k ≠ g ∧ some k ≠ v.ownBlock) u l := h
theorem Beside.put {w0 W W' : World} {g : Nat} {v v' u : Value} {l : List Int} (h : Beside w0 W g v u l) (hk : Kept W W' (Mine g v)) (hv : v'.ownBlock = v.ownBlock ∨ ∃ b, v'.ownBlock = some b ∧ W.heap.size ≤ b) : Beside w0 W' g v' u l := by
  refine Kd.R_mono (Kd.R_keptB h hk (fun k hk hm => hm.elim hk.1 hk.2)) (fun k hk => ⟨hk.1.1, fun e => ?_⟩)
  rcases hv with hv | ⟨b, hb, hle⟩
  · exact hk.1.2 (e.trans hv)
  · rw [hb] at e
    injection e with e
    have := hk.2.2
    omega
theorem Beside.below {w0 W W' : World} {g : Nat} {v u : Value} {l : List Int} (h : Beside w0 W g v u l) (hb : Below W.heap.size W W') : Beside w0 W' g v u l := Kd.R_below h hb
/-- A writer when a row beside it has grown. -/
theorem WAt.aside {w0 W W' : World} {g : Nat} {v : Value} {l : List Int} (h : WAt w0 W g v l) (hk : Kept W W' (fun k => k ≠ g ∧ some k ≠ v.ownBlock)) : WAt w0 W' g v l :=
  ⟨blk_kept h.1 hk (fun hh => hh.1 rfl), h.2.1, Kd.R_mono (Kd.R_kept (Kd.R_tight2 rfl h.2.2.1) hk (fun k hk hh => hh.2 hk.1)) (fun _ _ => trivial), h.2.2.2⟩
theorem WAt.lt {w0 W : World} {g : Nat} {v : Value} {l : List Int} (h : WAt w0 W g v l) : g < W.heap.size := blk_lt h.1
theorem Beside.ofPut {w0 W W' : World} {g : Nat} {v u : Value} {l l' : List Int} (h : WAt w0 W g v l) (hr : Kd.R (Kd.int .u8) 5 W' w0.heap.size (fun k => (k ≠ g ∧ some k ≠ v.ownBlock) ∨ W.heap.size ≤ k) u l') : Beside w0 W' g v u l' :=
  Kd.R_mono hr (fun k hk => hk.elim id (fun hk => ⟨fun e => by have := h.lt; omega, fun e => by have := Kd.R_lt h.2.2.1 k e.symm; omega⟩))
end Go.Proofs.Ytmlbppfcpejlpaa.W04

-- Printed by this session's own program (wip/xprint.py) over the translation; its external functions are hand-written. Lean checks it.
namespace Go.Proofs.Ytmlbppfcpejlpaa.X
open Go.RowKit Go.Proofs.YtmlbppfcpejlpaaW.PrintWords Go.Proofs.YtmlbppfcpejlpaaW.PrintLast Go.Proofs.YtmlbppfcpejlpaaW.PrintMore
attribute [local go_sem] max2_int min2_int max_two min_two max_three min_three max_four min_four   -- for this text's walks alone
set_option linter.unusedVariables false
set_option linter.unusedSimpArgs false

/-! ### slices_Min_uint64_uint64: function 56 -/
def slices_Min_uint64_uint64.l0 : Nat → List Int → Int → Int → Option (Int)
  | 0, _, _, _ => none
  | k + 1, x0, x3, x4 => if x4 < (x0.length : Int) then (if 0 ≤ x4 then (slices_Min_uint64_uint64.l0 k x0 (mn x3 (rd x0 x4)) (wrap64 (x4 + 1))) else (none)) else (some x3)
def slices_Min_uint64_uint64.f (k : Nat) (l0 : List Int) : Option (Int) := if (l0.length : Int) < 1 then (none) else (if 0 < (l0.length : Int) then (slices_Min_uint64_uint64.l0 k l0 (rd l0 0) 1) else (none))
theorem slices_Min_uint64_uint64.mono_l : ∀ k, (∀ y0 y1 y2, LeO (slices_Min_uint64_uint64.l0 k y0 y1 y2) (slices_Min_uint64_uint64.l0 (k + 1) y0 y1 y2))
  | 0 => fun _ _ _ r h => by simp [slices_Min_uint64_uint64.l0] at h
  | k + 1 => by
    have ih0 := slices_Min_uint64_uint64.mono_l k
    · intro y0 y1 y2
      unfold slices_Min_uint64_uint64.l0
      repeat' first
      | (with_reducible exact ih0 _ _ _)
      | (with_reducible exact LeO.refl _)
      | (with_reducible exact LeO.none _)
      | (with_reducible refine LeO.ite ?_ ?_)
      | (with_reducible refine LeO.bind ?_ (fun _ => ?_))
      | exact ih0 _ _ _
      | exact LeO.none _
      | refine LeO.ite ?_ ?_
      | refine LeO.bind ?_ (fun _ => ?_)
theorem slices_Min_uint64_uint64.mono : ∀ a0 k, LeO (slices_Min_uint64_uint64.f k a0) (slices_Min_uint64_uint64.f (k + 1) a0) := by
  intro a0 k
  have ih0 := slices_Min_uint64_uint64.mono_l k
  unfold slices_Min_uint64_uint64.f
  repeat' first
      | (with_reducible exact ih0 _ _ _)
      | (with_reducible exact LeO.refl _)
      | (with_reducible exact LeO.none _)
      | (with_reducible refine LeO.ite ?_ ?_)
      | (with_reducible refine LeO.bind ?_ (fun _ => ?_))
      | exact ih0 _ _ _
      | exact LeO.none _
      | refine LeO.ite ?_ ?_
      | refine LeO.bind ?_ (fun _ => ?_)
set_option maxHeartbeats 8000000 in
set_option maxRecDepth 100000 in
theorem slices_Min_uint64_uint64.calls (k : Nat) (A0 : Option Addr) (c0 : Nat) (l0 : List Int) (r : Int) (w : World) (hr0 : Kd.C (Kd.int .u64) w A0 l0.length l0) (hc0 : l0.length ≤ c0) (h : slices_Min_uint64_uint64.f k l0 = some r) :
    Calls Try.prog 56 #[.slice A0 l0.length c0] w fun e w' => e = .returned (.int .u64 r) ∧ Below w.heap.size w w' := by
  have HR0 := Aside0.mk hr0
  have HC0 := Aside0.mk hc0
  clear hr0 hc0
  have HB := Aside0.mk (Below.refl w.heap.size w)
  have H : (if (l0.length : Int) < 1 then (none) else (if 0 < (l0.length : Int) then (slices_Min_uint64_uint64.l0 k l0 (rd l0 0) 1) else (none))) = some r := h
  clear h
  by_cases c2 : (l0.length : Int) < 1
  · rw [if_pos c2] at H
    exact absurd H (by simp)
  · rw [if_neg c2] at H
    have c2b0 : decide ((l0.length : Int) < 1) = false := decide_eq_false c2
    have c2b1 : decide (l0.length < 1) = false := decide_eq_false (by omega)
    clear c2
    by_cases c3 : 0 < (l0.length : Int)
    · rw [if_pos c3] at H
      have c3b0 : decide (0 < (l0.length : Int)) = true := decide_eq_true c3
      have c3b1 : decide (0 < l0.length) = true := decide_eq_true (by omega)
      clear c3
      have H' := Aside0.mk H
      clear H
      have p283 : 0 ≤ (0 : Int) := (by omega)
      have q283 : 0 < (l0.length : Int) := of_decide_eq_true (by first | (with_reducible assumption) | assumption)
      obtain ⟨ad283, e283, hx283_0⟩ := Kd.at_int HR0.out 0 p283 q283
      cases e283
      have qi283 : (0 < l0.length) = True := eq_true (by omega)
      (try rw [show ((0 : Int)).toNat = 0 from rfl] at hx283_0)
      (try rw [Addr.add_zero'] at hx283_0)
      replace p283 := eq_true p283
      replace q283 := eq_true q283
      go_enter Try.func56, Try.ntmps56
      go_wp2
      go_loopg [3, 4] k (fun kq v3 v4 w' => ∃ (x3_1 : Int) (x4_1 : Int), v3 = .int .u64 x3_1 ∧ v4 = .int .i64 x4_1 ∧ Aside0 (slices_Min_uint64_uint64.l0 kq l0 x3_1 x4_1 = some r) ∧ Aside0 (kq ≤ k) ∧ Aside0 (Below w.heap.size w w'))
      case atStart => exact ⟨(rd l0 0), (1), (by first | rfl | (simp; done) | (simp [*]; done)), (by first | rfl | (simp; done) | (simp [*]; done)), H', ⟨Nat.le_refl _⟩, ⟨by repeat (first | (with_reducible first | exact HB.out | apply below_alloc | apply pw_below_drewN | apply below_drew1) | exact HB.out)⟩⟩
      case round =>
        clear H'
        try clear c2
        try clear c2b0
        try clear c2b1
        try clear p2
        try clear q2
        try clear hx2
        try clear qi2
        try clear c3
        try clear c3b0
        try clear c3b1
        try clear hx283_0
        try clear p283
        try clear q283
        obtain ⟨x3_1, x4_1, rfl, rfl, HA, HK1, HB⟩ := hrel
        cases gk with
        | zero => exact absurd HA.out (by simp [slices_Min_uint64_uint64.l0])
        | succ k1 =>
          have H := HA.out
          clear HA
          simp only [slices_Min_uint64_uint64.l0] at H
          by_cases c4 : x4_1 < (l0.length : Int)
          · rw [if_pos c4] at H
            have c4b0 : decide (x4_1 < (l0.length : Int)) = true := decide_eq_true c4
            clear c4
            by_cases c5 : 0 ≤ x4_1
            · rw [if_pos c5] at H
              have c5b0 : decide (0 ≤ x4_1) = true := decide_eq_true c5
              clear c5
              obtain ⟨ji6, hji6⟩ : ∃ j_ : Int, (mn x3_1 (rd l0 x4_1)) = j_ := ⟨_, rfl⟩
              replace H : (slices_Min_uint64_uint64.l0 k1 l0 ji6 (wrap64 (x4_1 + 1))) = some r := by first | (rw [hji6] at H; exact H) | (simp only [hji6] at H ⊢; exact H)
              have hji6_ : (if (rd l0 x4_1) < x3_1 then (rd l0 x4_1) else x3_1) = ji6 := hji6
              have H' := Aside0.mk H
              clear H
              have p284 : 0 ≤ (x4_1 : Int) := of_decide_eq_true (by first | (with_reducible assumption) | assumption)
              have q284 : x4_1 < (l0.length : Int) := of_decide_eq_true (by first | (with_reducible assumption) | assumption)
              obtain ⟨ad284, e284, hx284_0⟩ := Kd.at_int HR0.out x4_1 p284 q284
              obtain rfl : ad283 = ad284 := (by injection e284)
              replace hx284_0 := (HB.out.cell (World.block_lt_of_cell? w _ hx284_0)).trans hx284_0
              replace p284 := eq_true p284
              replace q284 := eq_true q284
              go_wp2
              go_roundg k1
              case measure => have := HK1.out; omega
              case rel => exact ⟨(ji6), (wrap64 (x4_1 + 1)), (by first | rfl | (simp; done) | (simp only [← hji6] <;> (first | rfl | simp)) | (simp [*]; done)), (by first | rfl | (simp; done) | (simp [*]; done)), H', ⟨by have := HK1.out; omega⟩, ⟨by repeat (first | (with_reducible first | exact HB.out | apply below_alloc | apply pw_below_drewN | apply below_drew1) | exact HB.out)⟩⟩
            · rw [if_neg c5] at H
              exact absurd H (by simp)
          · rw [if_neg c4] at H
            have c4b0 : decide (x4_1 < (l0.length : Int)) = false := decide_eq_false c4
            clear c4
            obtain rfl := Option.some.inj H
            go_wp2
            go_ret
            exact ⟨by first | rfl | (simp [errW_none, errW_some] <;> rfl) | (simp [*, errW_none, errW_some] <;> rfl), by repeat (first | (with_reducible first | exact HB.out | apply below_alloc | apply pw_below_drewN | apply below_drew1) | exact HB.out)⟩
    · rw [if_neg c3] at H
      exact absurd H (by simp)

end Go.Proofs.Ytmlbppfcpejlpaa.X

-- Printed by this session's own program (wip/xprint.py) over the translation; its external functions are hand-written. Lean checks it.
namespace Go.Proofs.Ytmlbppfcpejlpaa.X
open Go.RowKit Go.Proofs.YtmlbppfcpejlpaaW.PrintWords Go.Proofs.YtmlbppfcpejlpaaW.PrintLast Go.Proofs.YtmlbppfcpejlpaaW.PrintMore
attribute [local go_sem] max2_int min2_int max_two min_two max_three min_three max_four min_four   -- for this text's walks alone
set_option linter.unusedVariables false
set_option linter.unusedSimpArgs false

/-! ### slices_Max_uint64_uint64: function 58 -/
def slices_Max_uint64_uint64.l0 : Nat → List Int → Int → Int → Option (Int)
  | 0, _, _, _ => none
  | k + 1, x0, x3, x4 => if x4 < (x0.length : Int) then (if 0 ≤ x4 then (slices_Max_uint64_uint64.l0 k x0 (mx x3 (rd x0 x4)) (wrap64 (x4 + 1))) else (none)) else (some x3)
def slices_Max_uint64_uint64.f (k : Nat) (l0 : List Int) : Option (Int) := if (l0.length : Int) < 1 then (none) else (if 0 < (l0.length : Int) then (slices_Max_uint64_uint64.l0 k l0 (rd l0 0) 1) else (none))
theorem slices_Max_uint64_uint64.mono_l : ∀ k, (∀ y0 y1 y2, LeO (slices_Max_uint64_uint64.l0 k y0 y1 y2) (slices_Max_uint64_uint64.l0 (k + 1) y0 y1 y2))
  | 0 => fun _ _ _ r h => by simp [slices_Max_uint64_uint64.l0] at h
  | k + 1 => by
    have ih0 := slices_Max_uint64_uint64.mono_l k
    · intro y0 y1 y2
      unfold slices_Max_uint64_uint64.l0
      repeat' first
      | (with_reducible exact ih0 _ _ _)
      | (with_reducible exact LeO.refl _)
      | (with_reducible exact LeO.none _)
      | (with_reducible refine LeO.ite ?_ ?_)
      | (with_reducible refine LeO.bind ?_ (fun _ => ?_))
      | exact ih0 _ _ _
      | exact LeO.none _
      | refine LeO.ite ?_ ?_
      | refine LeO.bind ?_ (fun _ => ?_)
theorem slices_Max_uint64_uint64.mono : ∀ a0 k, LeO (slices_Max_uint64_uint64.f k a0) (slices_Max_uint64_uint64.f (k + 1) a0) := by
  intro a0 k
  have ih0 := slices_Max_uint64_uint64.mono_l k
  unfold slices_Max_uint64_uint64.f
  repeat' first
      | (with_reducible exact ih0 _ _ _)
      | (with_reducible exact LeO.refl _)
      | (with_reducible exact LeO.none _)
      | (with_reducible refine LeO.ite ?_ ?_)
      | (with_reducible refine LeO.bind ?_ (fun _ => ?_))
      | exact ih0 _ _ _
      | exact LeO.none _
      | refine LeO.ite ?_ ?_
      | refine LeO.bind ?_ (fun _ => ?_)
set_option maxHeartbeats 8000000 in
set_option maxRecDepth 100000 in
theorem slices_Max_uint64_uint64.calls (k : Nat) (A0 : Option Addr) (c0 : Nat) (l0 : List Int) (r : Int) (w : World) (hr0 : Kd.C (Kd.int .u64) w A0 l0.length l0) (hc0 : l0.length ≤ c0) (h : slices_Max_uint64_uint64.f k l0 = some r) :
    Calls Try.prog 58 #[.slice A0 l0.length c0] w fun e w' => e = .returned (.int .u64 r) ∧ Below w.heap.size w w' := by
  have HR0 := Aside0.mk hr0
  have HC0 := Aside0.mk hc0
  clear hr0 hc0
  have HB := Aside0.mk (Below.refl w.heap.size w)
  have H : (if (l0.length : Int) < 1 then (none) else (if 0 < (l0.length : Int) then (slices_Max_uint64_uint64.l0 k l0 (rd l0 0) 1) else (none))) = some r := h
  clear h
  by_cases c2 : (l0.length : Int) < 1
  · rw [if_pos c2] at H
    exact absurd H (by simp)
  · rw [if_neg c2] at H
    have c2b0 : decide ((l0.length : Int) < 1) = false := decide_eq_false c2
    have c2b1 : decide (l0.length < 1) = false := decide_eq_false (by omega)
    clear c2
    by_cases c3 : 0 < (l0.length : Int)
    · rw [if_pos c3] at H
      have c3b0 : decide (0 < (l0.length : Int)) = true := decide_eq_true c3
      have c3b1 : decide (0 < l0.length) = true := decide_eq_true (by omega)
      clear c3
      have H' := Aside0.mk H
      clear H
      have p285 : 0 ≤ (0 : Int) := (by omega)
      have q285 : 0 < (l0.length : Int) := of_decide_eq_true (by first | (with_reducible assumption) | assumption)
      obtain ⟨ad285, e285, hx285_0⟩ := Kd.at_int HR0.out 0 p285 q285
      cases e285
      have qi285 : (0 < l0.length) = True := eq_true (by omega)
      (try rw [show ((0 : Int)).toNat = 0 from rfl] at hx285_0)
      (try rw [Addr.add_zero'] at hx285_0)
      replace p285 := eq_true p285
      replace q285 := eq_true q285
      go_enter Try.func58, Try.ntmps58
      go_wp2
      go_loopg [3, 4] k (fun kq v3 v4 w' => ∃ (x3_1 : Int) (x4_1 : Int), v3 = .int .u64 x3_1 ∧ v4 = .int .i64 x4_1 ∧ Aside0 (slices_Max_uint64_uint64.l0 kq l0 x3_1 x4_1 = some r) ∧ Aside0 (kq ≤ k) ∧ Aside0 (Below w.heap.size w w'))
      case atStart => exact ⟨(rd l0 0), (1), (by first | rfl | (simp; done) | (simp [*]; done)), (by first | rfl | (simp; done) | (simp [*]; done)), H', ⟨Nat.le_refl _⟩, ⟨by repeat (first | (with_reducible first | exact HB.out | apply below_alloc | apply pw_below_drewN | apply below_drew1) | exact HB.out)⟩⟩
      case round =>
        clear H'
        try clear c2
        try clear c2b0
        try clear c2b1
        try clear p2
        try clear q2
        try clear hx2
        try clear qi2
        try clear c3
        try clear c3b0
        try clear c3b1
        try clear hx285_0
        try clear p285
        try clear q285
        obtain ⟨x3_1, x4_1, rfl, rfl, HA, HK1, HB⟩ := hrel
        cases gk with
        | zero => exact absurd HA.out (by simp [slices_Max_uint64_uint64.l0])
        | succ k1 =>
          have H := HA.out
          clear HA
          simp only [slices_Max_uint64_uint64.l0] at H
          by_cases c4 : x4_1 < (l0.length : Int)
          · rw [if_pos c4] at H
            have c4b0 : decide (x4_1 < (l0.length : Int)) = true := decide_eq_true c4
            clear c4
            by_cases c5 : 0 ≤ x4_1
            · rw [if_pos c5] at H
              have c5b0 : decide (0 ≤ x4_1) = true := decide_eq_true c5
              clear c5
              obtain ⟨ji6, hji6⟩ : ∃ j_ : Int, (mx x3_1 (rd l0 x4_1)) = j_ := ⟨_, rfl⟩
              replace H : (slices_Max_uint64_uint64.l0 k1 l0 ji6 (wrap64 (x4_1 + 1))) = some r := by first | (rw [hji6] at H; exact H) | (simp only [hji6] at H ⊢; exact H)
              have hji6_ : (if x3_1 < (rd l0 x4_1) then (rd l0 x4_1) else x3_1) = ji6 := hji6
              have H' := Aside0.mk H
              clear H
              have p286 : 0 ≤ (x4_1 : Int) := of_decide_eq_true (by first | (with_reducible assumption) | assumption)
              have q286 : x4_1 < (l0.length : Int) := of_decide_eq_true (by first | (with_reducible assumption) | assumption)
              obtain ⟨ad286, e286, hx286_0⟩ := Kd.at_int HR0.out x4_1 p286 q286
              obtain rfl : ad285 = ad286 := (by injection e286)
              replace hx286_0 := (HB.out.cell (World.block_lt_of_cell? w _ hx286_0)).trans hx286_0
              replace p286 := eq_true p286
              replace q286 := eq_true q286
              go_wp2
              go_roundg k1
              case measure => have := HK1.out; omega
              case rel => exact ⟨(ji6), (wrap64 (x4_1 + 1)), (by first | rfl | (simp; done) | (simp only [← hji6] <;> (first | rfl | simp)) | (simp [*]; done)), (by first | rfl | (simp; done) | (simp [*]; done)), H', ⟨by have := HK1.out; omega⟩, ⟨by repeat (first | (with_reducible first | exact HB.out | apply below_alloc | apply pw_below_drewN | apply below_drew1) | exact HB.out)⟩⟩
            · rw [if_neg c5] at H
              exact absurd H (by simp)
          · rw [if_neg c4] at H
            have c4b0 : decide (x4_1 < (l0.length : Int)) = false := decide_eq_false c4
            clear c4
            obtain rfl := Option.some.inj H
            go_wp2
            go_ret
            exact ⟨by first | rfl | (simp [errW_none, errW_some] <;> rfl) | (simp [*, errW_none, errW_some] <;> rfl), by repeat (first | (with_reducible first | exact HB.out | apply below_alloc | apply pw_below_drewN | apply below_drew1) | exact HB.out)⟩
    · rw [if_neg c3] at H
      exact absurd H (by simp)

end Go.Proofs.Ytmlbppfcpejlpaa.X

-- Printed by this session's own program (wip/xprint.py) over the translation; its external functions are hand-written. Lean checks it.
namespace Go.Proofs.Ytmlbppfcpejlpaa.X
open Go.RowKit Go.Proofs.YtmlbppfcpejlpaaW.PrintWords Go.Proofs.YtmlbppfcpejlpaaW.PrintLast Go.Proofs.YtmlbppfcpejlpaaW.PrintMore
attribute [local go_sem] max2_int min2_int max_two min_two max_three min_three max_four min_four   -- for this text's walks alone
set_option linter.unusedVariables false
set_option linter.unusedSimpArgs false

/-! ### bits_Len64: function 57 -/
def bits_Len64.j0 : Nat → Int → Int → Option (Int)
  | 0, _, _ => none
  | k + 1, x0, x2 => if x0 ≥ 65536 then (if (x0 / 65536) ≥ 256 then (if 0 ≤ (((x0 / 65536) / 256) % 256) then (if (((x0 / 65536) / 256) % 256) < 256 then (some (wrap64 ((wrap64 ((wrap64 (x2 + 16)) + 8)) + (wrap64 (bt (⟨#[0, 1, 2, 2, 3, 3, 3, 3, 4, 4, 4, 4, 4, 4, 4, 4, 5, 5, 5, 5, 5, 5, 5, 5, 5, 5, 5, 5, 5, 5, 5, 5, 6, 6, 6, 6, 6, 6, 6, 6, 6, 6, 6, 6, 6, 6, 6, 6, 6, 6, 6, 6, 6, 6, 6, 6, 6, 6, 6, 6, 6, 6, 6, 6, 7, 7, 7, 7, 7, 7, 7, 7, 7, 7, 7, 7, 7, 7, 7, 7, 7, 7, 7, 7, 7, 7, 7, 7, 7, 7, 7, 7, 7, 7, 7, 7, 7, 7, 7, 7, 7, 7, 7, 7, 7, 7, 7, 7, 7, 7, 7, 7, 7, 7, 7, 7, 7, 7, 7, 7, 7, 7, 7, 7, 7, 7, 7, 7, 8, 8, 8, 8, 8, 8, 8, 8, 8, 8, 8, 8, 8, 8, 8, 8, 8, 8, 8, 8, 8, 8, 8, 8, 8, 8, 8, 8, 8, 8, 8, 8, 8, 8, 8, 8, 8, 8, 8, 8, 8, 8, 8, 8, 8, 8, 8, 8, 8, 8, 8, 8, 8, 8, 8, 8, 8, 8, 8, 8, 8, 8, 8, 8, 8, 8, 8, 8, 8, 8, 8, 8, 8, 8, 8, 8, 8, 8, 8, 8, 8, 8, 8, 8, 8, 8, 8, 8, 8, 8, 8, 8, 8, 8, 8, 8, 8, 8, 8, 8, 8, 8, 8, 8, 8, 8, 8, 8, 8, 8, 8, 8, 8, 8, 8, 8, 8, 8, 8, 8, 8, 8, 8, 8, 8, 8, 8, 8]⟩ : ByteArray) (((x0 / 65536) / 256) % 256)))))) else (none)) else (none)) else (if 0 ≤ ((x0 / 65536) % 256) then (if ((x0 / 65536) % 256) < 256 then (some (wrap64 ((wrap64 (x2 + 16)) + (wrap64 (bt (⟨#[0, 1, 2, 2, 3, 3, 3, 3, 4, 4, 4, 4, 4, 4, 4, 4, 5, 5, 5, 5, 5, 5, 5, 5, 5, 5, 5, 5, 5, 5, 5, 5, 6, 6, 6, 6, 6, 6, 6, 6, 6, 6, 6, 6, 6, 6, 6, 6, 6, 6, 6, 6, 6, 6, 6, 6, 6, 6, 6, 6, 6, 6, 6, 6, 7, 7, 7, 7, 7, 7, 7, 7, 7, 7, 7, 7, 7, 7, 7, 7, 7, 7, 7, 7, 7, 7, 7, 7, 7, 7, 7, 7, 7, 7, 7, 7, 7, 7, 7, 7, 7, 7, 7, 7, 7, 7, 7, 7, 7, 7, 7, 7, 7, 7, 7, 7, 7, 7, 7, 7, 7, 7, 7, 7, 7, 7, 7, 7, 8, 8, 8, 8, 8, 8, 8, 8, 8, 8, 8, 8, 8, 8, 8, 8, 8, 8, 8, 8, 8, 8, 8, 8, 8, 8, 8, 8, 8, 8, 8, 8, 8, 8, 8, 8, 8, 8, 8, 8, 8, 8, 8, 8, 8, 8, 8, 8, 8, 8, 8, 8, 8, 8, 8, 8, 8, 8, 8, 8, 8, 8, 8, 8, 8, 8, 8, 8, 8, 8, 8, 8, 8, 8, 8, 8, 8, 8, 8, 8, 8, 8, 8, 8, 8, 8, 8, 8, 8, 8, 8, 8, 8, 8, 8, 8, 8, 8, 8, 8, 8, 8, 8, 8, 8, 8, 8, 8, 8, 8, 8, 8, 8, 8, 8, 8, 8, 8, 8, 8, 8, 8, 8, 8, 8, 8, 8, 8]⟩ : ByteArray) ((x0 / 65536) % 256)))))) else (none)) else (none))) else (if x0 ≥ 256 then (if 0 ≤ ((x0 / 256) % 256) then (if ((x0 / 256) % 256) < 256 then (some (wrap64 ((wrap64 (x2 + 8)) + (wrap64 (bt (⟨#[0, 1, 2, 2, 3, 3, 3, 3, 4, 4, 4, 4, 4, 4, 4, 4, 5, 5, 5, 5, 5, 5, 5, 5, 5, 5, 5, 5, 5, 5, 5, 5, 6, 6, 6, 6, 6, 6, 6, 6, 6, 6, 6, 6, 6, 6, 6, 6, 6, 6, 6, 6, 6, 6, 6, 6, 6, 6, 6, 6, 6, 6, 6, 6, 7, 7, 7, 7, 7, 7, 7, 7, 7, 7, 7, 7, 7, 7, 7, 7, 7, 7, 7, 7, 7, 7, 7, 7, 7, 7, 7, 7, 7, 7, 7, 7, 7, 7, 7, 7, 7, 7, 7, 7, 7, 7, 7, 7, 7, 7, 7, 7, 7, 7, 7, 7, 7, 7, 7, 7, 7, 7, 7, 7, 7, 7, 7, 7, 8, 8, 8, 8, 8, 8, 8, 8, 8, 8, 8, 8, 8, 8, 8, 8, 8, 8, 8, 8, 8, 8, 8, 8, 8, 8, 8, 8, 8, 8, 8, 8, 8, 8, 8, 8, 8, 8, 8, 8, 8, 8, 8, 8, 8, 8, 8, 8, 8, 8, 8, 8, 8, 8, 8, 8, 8, 8, 8, 8, 8, 8, 8, 8, 8, 8, 8, 8, 8, 8, 8, 8, 8, 8, 8, 8, 8, 8, 8, 8, 8, 8, 8, 8, 8, 8, 8, 8, 8, 8, 8, 8, 8, 8, 8, 8, 8, 8, 8, 8, 8, 8, 8, 8, 8, 8, 8, 8, 8, 8, 8, 8, 8, 8, 8, 8, 8, 8, 8, 8, 8, 8, 8, 8, 8, 8, 8, 8]⟩ : ByteArray) ((x0 / 256) % 256)))))) else (none)) else (none)) else (if 0 ≤ ((x0) % 256) then (if ((x0) % 256) < 256 then (some (wrap64 (x2 + (wrap64 (bt (⟨#[0, 1, 2, 2, 3, 3, 3, 3, 4, 4, 4, 4, 4, 4, 4, 4, 5, 5, 5, 5, 5, 5, 5, 5, 5, 5, 5, 5, 5, 5, 5, 5, 6, 6, 6, 6, 6, 6, 6, 6, 6, 6, 6, 6, 6, 6, 6, 6, 6, 6, 6, 6, 6, 6, 6, 6, 6, 6, 6, 6, 6, 6, 6, 6, 7, 7, 7, 7, 7, 7, 7, 7, 7, 7, 7, 7, 7, 7, 7, 7, 7, 7, 7, 7, 7, 7, 7, 7, 7, 7, 7, 7, 7, 7, 7, 7, 7, 7, 7, 7, 7, 7, 7, 7, 7, 7, 7, 7, 7, 7, 7, 7, 7, 7, 7, 7, 7, 7, 7, 7, 7, 7, 7, 7, 7, 7, 7, 7, 8, 8, 8, 8, 8, 8, 8, 8, 8, 8, 8, 8, 8, 8, 8, 8, 8, 8, 8, 8, 8, 8, 8, 8, 8, 8, 8, 8, 8, 8, 8, 8, 8, 8, 8, 8, 8, 8, 8, 8, 8, 8, 8, 8, 8, 8, 8, 8, 8, 8, 8, 8, 8, 8, 8, 8, 8, 8, 8, 8, 8, 8, 8, 8, 8, 8, 8, 8, 8, 8, 8, 8, 8, 8, 8, 8, 8, 8, 8, 8, 8, 8, 8, 8, 8, 8, 8, 8, 8, 8, 8, 8, 8, 8, 8, 8, 8, 8, 8, 8, 8, 8, 8, 8, 8, 8, 8, 8, 8, 8, 8, 8, 8, 8, 8, 8, 8, 8, 8, 8, 8, 8, 8, 8, 8, 8, 8, 8]⟩ : ByteArray) ((x0) % 256)))))) else (none)) else (none)))
def bits_Len64.f (k : Nat) (a0 : Int) : Option (Int) := if a0 ≥ 4294967296 then (bits_Len64.j0 k (a0 / 4294967296) 32) else (bits_Len64.j0 k a0 0)
theorem bits_Len64.mono_l : ∀ k, (∀ y0 y1, LeO (bits_Len64.j0 k y0 y1) (bits_Len64.j0 (k + 1) y0 y1))
  | 0 => fun _ _ r h => by simp [bits_Len64.j0] at h
  | k + 1 => by
    have ih0 := bits_Len64.mono_l k
    · intro y0 y1
      unfold bits_Len64.j0
      repeat' first
      | (with_reducible exact ih0 _ _)
      | (with_reducible exact LeO.refl _)
      | (with_reducible exact LeO.none _)
      | (with_reducible refine LeO.ite ?_ ?_)
      | (with_reducible refine LeO.bind ?_ (fun _ => ?_))
      | exact ih0 _ _
      | exact LeO.none _
      | refine LeO.ite ?_ ?_
      | refine LeO.bind ?_ (fun _ => ?_)
theorem bits_Len64.mono : ∀ a0 k, LeO (bits_Len64.f k a0) (bits_Len64.f (k + 1) a0) := by
  intro a0 k
  have ih0 := bits_Len64.mono_l k
  unfold bits_Len64.f
  repeat' first
      | (with_reducible exact ih0 _ _)
      | (with_reducible exact LeO.refl _)
      | (with_reducible exact LeO.none _)
      | (with_reducible refine LeO.ite ?_ ?_)
      | (with_reducible refine LeO.bind ?_ (fun _ => ?_))
      | exact ih0 _ _
      | exact LeO.none _
      | refine LeO.ite ?_ ?_
      | refine LeO.bind ?_ (fun _ => ?_)
set_option maxHeartbeats 8000000 in
set_option maxRecDepth 100000 in
theorem bits_Len64.calls (k : Nat) (a0 : Int) (r : Int) (w : World) (h : bits_Len64.f k a0 = some r) :
    Calls Try.prog 57 #[.int .u64 a0] w fun e w' => e = .returned (.int .i64 r) ∧ Drawn0 w w' := by
  have H : (if a0 ≥ 4294967296 then (bits_Len64.j0 k (a0 / 4294967296) 32) else (bits_Len64.j0 k a0 0)) = some r := h
  clear h
  have HC2 := Aside0.mk H
  clear H
  go_enter Try.func57, Try.ntmps57
  go_upto_if 4 with (fail)
  go_cut [0, 2] (fun v0 v2 wc => ∃ (kq : Nat) (x0_1 : Int) (x2_1 : Int), v0 = .int .u64 x0_1 ∧ v2 = .int .i64 x2_1 ∧ Aside0 (bits_Len64.j0 kq x0_1 x2_1 = some r) ∧ Aside0 (kq ≤ k) ∧ Drawn0 w wc)
  case first =>
    have H := HC2.out
    clear HC2
    by_cases c3 : a0 ≥ 4294967296
    · rw [if_pos c3] at H
      have c3b0 : decide (4294967296 ≤ a0) = true := decide_eq_true c3
      clear c3
      (first | rw [c3b0] | (simp only [i64_w, i32_w]; rw [c3b0]) | skip)
      have H' := Aside0.mk H
      clear H
      go_wp2
      go_meet
      case rel => exact ⟨_, (a0 / 4294967296), (32), (by first | rfl | (simp; done) | (simp [*]; done)), (by first | rfl | (simp; done) | (simp [*]; done)), H', ⟨by first | omega | exact Nat.le_refl _⟩, by repeat (first | exact Drawn0.refl _ | apply Drawn0.step)⟩
    · rw [if_neg c3] at H
      have c3b0 : decide (4294967296 ≤ a0) = false := decide_eq_false c3
      clear c3
      (first | rw [c3b0] | (simp only [i64_w, i32_w]; rw [c3b0]) | skip)
      have H' := Aside0.mk H
      clear H
      go_wp2
      go_meet
      case rel => exact ⟨_, (a0), (0), (by first | rfl | (simp; done) | (simp [*]; done)), (by first | rfl | (simp; done) | (simp [*]; done)), H', ⟨by first | omega | exact Nat.le_refl _⟩, by repeat (first | exact Drawn0.refl _ | apply Drawn0.step)⟩
  case rest =>
    clear HC2
    try clear p2
    try clear c3
    try clear c3b0
    obtain ⟨kq, x0_1, x2_1, rfl, rfl, HA, HJ1, ⟨mc1, rfl⟩⟩ := hcut
    cases kq with
    | zero => exact absurd HA.out (by simp [bits_Len64.j0])
    | succ kj1 =>
      have H := HA.out
      clear HA
      simp only [bits_Len64.j0] at H
      by_cases c4 : x0_1 ≥ 65536
      · rw [if_pos c4] at H
        have c4b0 : decide (65536 ≤ x0_1) = true := decide_eq_true c4
        clear c4
        by_cases c5 : (x0_1 / 65536) ≥ 256
        · rw [if_pos c5] at H
          have c5b0 : decide (256 ≤ (x0_1 / 65536)) = true := decide_eq_true c5
          clear c5
          obtain ⟨ji6, hji6⟩ : ∃ j_ : Int, (((x0_1 / 65536) / 256) % 256) = j_ := ⟨_, rfl⟩
          replace H : (if 0 ≤ (ji6) then (if (ji6) < 256 then (some (wrap64 ((wrap64 ((wrap64 (x2_1 + 16)) + 8)) + (wrap64 (bt (⟨#[0, 1, 2, 2, 3, 3, 3, 3, 4, 4, 4, 4, 4, 4, 4, 4, 5, 5, 5, 5, 5, 5, 5, 5, 5, 5, 5, 5, 5, 5, 5, 5, 6, 6, 6, 6, 6, 6, 6, 6, 6, 6, 6, 6, 6, 6, 6, 6, 6, 6, 6, 6, 6, 6, 6, 6, 6, 6, 6, 6, 6, 6, 6, 6, 7, 7, 7, 7, 7, 7, 7, 7, 7, 7, 7, 7, 7, 7, 7, 7, 7, 7, 7, 7, 7, 7, 7, 7, 7, 7, 7, 7, 7, 7, 7, 7, 7, 7, 7, 7, 7, 7, 7, 7, 7, 7, 7, 7, 7, 7, 7, 7, 7, 7, 7, 7, 7, 7, 7, 7, 7, 7, 7, 7, 7, 7, 7, 7, 8, 8, 8, 8, 8, 8, 8, 8, 8, 8, 8, 8, 8, 8, 8, 8, 8, 8, 8, 8, 8, 8, 8, 8, 8, 8, 8, 8, 8, 8, 8, 8, 8, 8, 8, 8, 8, 8, 8, 8, 8, 8, 8, 8, 8, 8, 8, 8, 8, 8, 8, 8, 8, 8, 8, 8, 8, 8, 8, 8, 8, 8, 8, 8, 8, 8, 8, 8, 8, 8, 8, 8, 8, 8, 8, 8, 8, 8, 8, 8, 8, 8, 8, 8, 8, 8, 8, 8, 8, 8, 8, 8, 8, 8, 8, 8, 8, 8, 8, 8, 8, 8, 8, 8, 8, 8, 8, 8, 8, 8, 8, 8, 8, 8, 8, 8, 8, 8, 8, 8, 8, 8, 8, 8, 8, 8, 8, 8]⟩ : ByteArray) (ji6)))))) else (none)) else (none)) = some r := by first | (rw [hji6] at H; exact H) | (simp only [hji6] at H ⊢; exact H)
          by_cases c7 : 0 ≤ (ji6)
          · rw [if_pos c7] at H
            have c7b0 : decide (0 ≤ (ji6)) = true := decide_eq_true c7
            clear c7
            by_cases c8 : (ji6) < 256
            · rw [if_pos c8] at H
              have c8b0 : decide ((ji6) < 256) = true := decide_eq_true c8
              clear c8
              obtain rfl := Option.some.inj H
              have p9 : 0 ≤ ((ji6) : Int) := of_decide_eq_true (by first | (with_reducible assumption) | assumption)
              have q9 : (ji6) < (256 : Int) := of_decide_eq_true (by first | (with_reducible assumption) | assumption)
              have hx9 := bt_at (⟨#[0, 1, 2, 2, 3, 3, 3, 3, 4, 4, 4, 4, 4, 4, 4, 4, 5, 5, 5, 5, 5, 5, 5, 5, 5, 5, 5, 5, 5, 5, 5, 5, 6, 6, 6, 6, 6, 6, 6, 6, 6, 6, 6, 6, 6, 6, 6, 6, 6, 6, 6, 6, 6, 6, 6, 6, 6, 6, 6, 6, 6, 6, 6, 6, 7, 7, 7, 7, 7, 7, 7, 7, 7, 7, 7, 7, 7, 7, 7, 7, 7, 7, 7, 7, 7, 7, 7, 7, 7, 7, 7, 7, 7, 7, 7, 7, 7, 7, 7, 7, 7, 7, 7, 7, 7, 7, 7, 7, 7, 7, 7, 7, 7, 7, 7, 7, 7, 7, 7, 7, 7, 7, 7, 7, 7, 7, 7, 7, 8, 8, 8, 8, 8, 8, 8, 8, 8, 8, 8, 8, 8, 8, 8, 8, 8, 8, 8, 8, 8, 8, 8, 8, 8, 8, 8, 8, 8, 8, 8, 8, 8, 8, 8, 8, 8, 8, 8, 8, 8, 8, 8, 8, 8, 8, 8, 8, 8, 8, 8, 8, 8, 8, 8, 8, 8, 8, 8, 8, 8, 8, 8, 8, 8, 8, 8, 8, 8, 8, 8, 8, 8, 8, 8, 8, 8, 8, 8, 8, 8, 8, 8, 8, 8, 8, 8, 8, 8, 8, 8, 8, 8, 8, 8, 8, 8, 8, 8, 8, 8, 8, 8, 8, 8, 8, 8, 8, 8, 8, 8, 8, 8, 8, 8, 8, 8, 8, 8, 8, 8, 8, 8, 8, 8, 8, 8, 8]⟩ : ByteArray) (ji6)
              replace p9 := eq_true p9
              replace q9 := eq_true q9
              go_wp2
              go_ret
              exact ⟨by first | rfl | (simp; done) | (simp only [← hji6] <;> (first | rfl | simp)) | (simp [*]; done), by repeat (first | exact Drawn0.refl _ | apply Drawn0.step)⟩
            · rw [if_neg c8] at H
              exact absurd H (by simp)
          · rw [if_neg c7] at H
            exact absurd H (by simp)
        · rw [if_neg c5] at H
          have c5b0 : decide (256 ≤ (x0_1 / 65536)) = false := decide_eq_false c5
          clear c5
          obtain ⟨ji10, hji10⟩ : ∃ j_ : Int, ((x0_1 / 65536) % 256) = j_ := ⟨_, rfl⟩
          replace H : (if 0 ≤ (ji10) then (if (ji10) < 256 then (some (wrap64 ((wrap64 (x2_1 + 16)) + (wrap64 (bt (⟨#[0, 1, 2, 2, 3, 3, 3, 3, 4, 4, 4, 4, 4, 4, 4, 4, 5, 5, 5, 5, 5, 5, 5, 5, 5, 5, 5, 5, 5, 5, 5, 5, 6, 6, 6, 6, 6, 6, 6, 6, 6, 6, 6, 6, 6, 6, 6, 6, 6, 6, 6, 6, 6, 6, 6, 6, 6, 6, 6, 6, 6, 6, 6, 6, 7, 7, 7, 7, 7, 7, 7, 7, 7, 7, 7, 7, 7, 7, 7, 7, 7, 7, 7, 7, 7, 7, 7, 7, 7, 7, 7, 7, 7, 7, 7, 7, 7, 7, 7, 7, 7, 7, 7, 7, 7, 7, 7, 7, 7, 7, 7, 7, 7, 7, 7, 7, 7, 7, 7, 7, 7, 7, 7, 7, 7, 7, 7, 7, 8, 8, 8, 8, 8, 8, 8, 8, 8, 8, 8, 8, 8, 8, 8, 8, 8, 8, 8, 8, 8, 8, 8, 8, 8, 8, 8, 8, 8, 8, 8, 8, 8, 8, 8, 8, 8, 8, 8, 8, 8, 8, 8, 8, 8, 8, 8, 8, 8, 8, 8, 8, 8, 8, 8, 8, 8, 8, 8, 8, 8, 8, 8, 8, 8, 8, 8, 8, 8, 8, 8, 8, 8, 8, 8, 8, 8, 8, 8, 8, 8, 8, 8, 8, 8, 8, 8, 8, 8, 8, 8, 8, 8, 8, 8, 8, 8, 8, 8, 8, 8, 8, 8, 8, 8, 8, 8, 8, 8, 8, 8, 8, 8, 8, 8, 8, 8, 8, 8, 8, 8, 8, 8, 8, 8, 8, 8, 8]⟩ : ByteArray) (ji10)))))) else (none)) else (none)) = some r := by first | (rw [hji10] at H; exact H) | (simp only [hji10] at H ⊢; exact H)
          by_cases c11 : 0 ≤ (ji10)
          · rw [if_pos c11] at H
            have c11b0 : decide (0 ≤ (ji10)) = true := decide_eq_true c11
            clear c11
            by_cases c12 : (ji10) < 256
            · rw [if_pos c12] at H
              have c12b0 : decide ((ji10) < 256) = true := decide_eq_true c12
              clear c12
              obtain rfl := Option.some.inj H
              have p13 : 0 ≤ ((ji10) : Int) := of_decide_eq_true (by first | (with_reducible assumption) | assumption)
              have q13 : (ji10) < (256 : Int) := of_decide_eq_true (by first | (with_reducible assumption) | assumption)
              have hx13 := bt_at (⟨#[0, 1, 2, 2, 3, 3, 3, 3, 4, 4, 4, 4, 4, 4, 4, 4, 5, 5, 5, 5, 5, 5, 5, 5, 5, 5, 5, 5, 5, 5, 5, 5, 6, 6, 6, 6, 6, 6, 6, 6, 6, 6, 6, 6, 6, 6, 6, 6, 6, 6, 6, 6, 6, 6, 6, 6, 6, 6, 6, 6, 6, 6, 6, 6, 7, 7, 7, 7, 7, 7, 7, 7, 7, 7, 7, 7, 7, 7, 7, 7, 7, 7, 7, 7, 7, 7, 7, 7, 7, 7, 7, 7, 7, 7, 7, 7, 7, 7, 7, 7, 7, 7, 7, 7, 7, 7, 7, 7, 7, 7, 7, 7, 7, 7, 7, 7, 7, 7, 7, 7, 7, 7, 7, 7, 7, 7, 7, 7, 8, 8, 8, 8, 8, 8, 8, 8, 8, 8, 8, 8, 8, 8, 8, 8, 8, 8, 8, 8, 8, 8, 8, 8, 8, 8, 8, 8, 8, 8, 8, 8, 8, 8, 8, 8, 8, 8, 8, 8, 8, 8, 8, 8, 8, 8, 8, 8, 8, 8, 8, 8, 8, 8, 8, 8, 8, 8, 8, 8, 8, 8, 8, 8, 8, 8, 8, 8, 8, 8, 8, 8, 8, 8, 8, 8, 8, 8, 8, 8, 8, 8, 8, 8, 8, 8, 8, 8, 8, 8, 8, 8, 8, 8, 8, 8, 8, 8, 8, 8, 8, 8, 8, 8, 8, 8, 8, 8, 8, 8, 8, 8, 8, 8, 8, 8, 8, 8, 8, 8, 8, 8, 8, 8, 8, 8, 8, 8]⟩ : ByteArray) (ji10)
              replace p13 := eq_true p13
              replace q13 := eq_true q13
              go_wp2
              go_ret
              exact ⟨by first | rfl | (simp; done) | (simp only [← hji10] <;> (first | rfl | simp)) | (simp [*]; done), by repeat (first | exact Drawn0.refl _ | apply Drawn0.step)⟩
            · rw [if_neg c12] at H
              exact absurd H (by simp)
          · rw [if_neg c11] at H
            exact absurd H (by simp)
      · rw [if_neg c4] at H
        have c4b0 : decide (65536 ≤ x0_1) = false := decide_eq_false c4
        clear c4
        by_cases c14 : x0_1 ≥ 256
        · rw [if_pos c14] at H
          have c14b0 : decide (256 ≤ x0_1) = true := decide_eq_true c14
          clear c14
          obtain ⟨ji15, hji15⟩ : ∃ j_ : Int, ((x0_1 / 256) % 256) = j_ := ⟨_, rfl⟩
          replace H : (if 0 ≤ (ji15) then (if (ji15) < 256 then (some (wrap64 ((wrap64 (x2_1 + 8)) + (wrap64 (bt (⟨#[0, 1, 2, 2, 3, 3, 3, 3, 4, 4, 4, 4, 4, 4, 4, 4, 5, 5, 5, 5, 5, 5, 5, 5, 5, 5, 5, 5, 5, 5, 5, 5, 6, 6, 6, 6, 6, 6, 6, 6, 6, 6, 6, 6, 6, 6, 6, 6, 6, 6, 6, 6, 6, 6, 6, 6, 6, 6, 6, 6, 6, 6, 6, 6, 7, 7, 7, 7, 7, 7, 7, 7, 7, 7, 7, 7, 7, 7, 7, 7, 7, 7, 7, 7, 7, 7, 7, 7, 7, 7, 7, 7, 7, 7, 7, 7, 7, 7, 7, 7, 7, 7, 7, 7, 7, 7, 7, 7, 7, 7, 7, 7, 7, 7, 7, 7, 7, 7, 7, 7, 7, 7, 7, 7, 7, 7, 7, 7, 8, 8, 8, 8, 8, 8, 8, 8, 8, 8, 8, 8, 8, 8, 8, 8, 8, 8, 8, 8, 8, 8, 8, 8, 8, 8, 8, 8, 8, 8, 8, 8, 8, 8, 8, 8, 8, 8, 8, 8, 8, 8, 8, 8, 8, 8, 8, 8, 8, 8, 8, 8, 8, 8, 8, 8, 8, 8, 8, 8, 8, 8, 8, 8, 8, 8, 8, 8, 8, 8, 8, 8, 8, 8, 8, 8, 8, 8, 8, 8, 8, 8, 8, 8, 8, 8, 8, 8, 8, 8, 8, 8, 8, 8, 8, 8, 8, 8, 8, 8, 8, 8, 8, 8, 8, 8, 8, 8, 8, 8, 8, 8, 8, 8, 8, 8, 8, 8, 8, 8, 8, 8, 8, 8, 8, 8, 8, 8]⟩ : ByteArray) (ji15)))))) else (none)) else (none)) = some r := by first | (rw [hji15] at H; exact H) | (simp only [hji15] at H ⊢; exact H)
          by_cases c16 : 0 ≤ (ji15)
          · rw [if_pos c16] at H
            have c16b0 : decide (0 ≤ (ji15)) = true := decide_eq_true c16
            clear c16
            by_cases c17 : (ji15) < 256
            · rw [if_pos c17] at H
              have c17b0 : decide ((ji15) < 256) = true := decide_eq_true c17
              clear c17
              obtain rfl := Option.some.inj H
              have p18 : 0 ≤ ((ji15) : Int) := of_decide_eq_true (by first | (with_reducible assumption) | assumption)
              have q18 : (ji15) < (256 : Int) := of_decide_eq_true (by first | (with_reducible assumption) | assumption)
              have hx18 := bt_at (⟨#[0, 1, 2, 2, 3, 3, 3, 3, 4, 4, 4, 4, 4, 4, 4, 4, 5, 5, 5, 5, 5, 5, 5, 5, 5, 5, 5, 5, 5, 5, 5, 5, 6, 6, 6, 6, 6, 6, 6, 6, 6, 6, 6, 6, 6, 6, 6, 6, 6, 6, 6, 6, 6, 6, 6, 6, 6, 6, 6, 6, 6, 6, 6, 6, 7, 7, 7, 7, 7, 7, 7, 7, 7, 7, 7, 7, 7, 7, 7, 7, 7, 7, 7, 7, 7, 7, 7, 7, 7, 7, 7, 7, 7, 7, 7, 7, 7, 7, 7, 7, 7, 7, 7, 7, 7, 7, 7, 7, 7, 7, 7, 7, 7, 7, 7, 7, 7, 7, 7, 7, 7, 7, 7, 7, 7, 7, 7, 7, 8, 8, 8, 8, 8, 8, 8, 8, 8, 8, 8, 8, 8, 8, 8, 8, 8, 8, 8, 8, 8, 8, 8, 8, 8, 8, 8, 8, 8, 8, 8, 8, 8, 8, 8, 8, 8, 8, 8, 8, 8, 8, 8, 8, 8, 8, 8, 8, 8, 8, 8, 8, 8, 8, 8, 8, 8, 8, 8, 8, 8, 8, 8, 8, 8, 8, 8, 8, 8, 8, 8, 8, 8, 8, 8, 8, 8, 8, 8, 8, 8, 8, 8, 8, 8, 8, 8, 8, 8, 8, 8, 8, 8, 8, 8, 8, 8, 8, 8, 8, 8, 8, 8, 8, 8, 8, 8, 8, 8, 8, 8, 8, 8, 8, 8, 8, 8, 8, 8, 8, 8, 8, 8, 8, 8, 8, 8, 8]⟩ : ByteArray) (ji15)
              replace p18 := eq_true p18
              replace q18 := eq_true q18
              go_wp2
              go_ret
              exact ⟨by first | rfl | (simp; done) | (simp only [← hji15] <;> (first | rfl | simp)) | (simp [*]; done), by repeat (first | exact Drawn0.refl _ | apply Drawn0.step)⟩
            · rw [if_neg c17] at H
              exact absurd H (by simp)
          · rw [if_neg c16] at H
            exact absurd H (by simp)
        · rw [if_neg c14] at H
          have c14b0 : decide (256 ≤ x0_1) = false := decide_eq_false c14
          clear c14
          obtain ⟨ji19, hji19⟩ : ∃ j_ : Int, ((x0_1) % 256) = j_ := ⟨_, rfl⟩
          replace H : (if 0 ≤ (ji19) then (if (ji19) < 256 then (some (wrap64 (x2_1 + (wrap64 (bt (⟨#[0, 1, 2, 2, 3, 3, 3, 3, 4, 4, 4, 4, 4, 4, 4, 4, 5, 5, 5, 5, 5, 5, 5, 5, 5, 5, 5, 5, 5, 5, 5, 5, 6, 6, 6, 6, 6, 6, 6, 6, 6, 6, 6, 6, 6, 6, 6, 6, 6, 6, 6, 6, 6, 6, 6, 6, 6, 6, 6, 6, 6, 6, 6, 6, 7, 7, 7, 7, 7, 7, 7, 7, 7, 7, 7, 7, 7, 7, 7, 7, 7, 7, 7, 7, 7, 7, 7, 7, 7, 7, 7, 7, 7, 7, 7, 7, 7, 7, 7, 7, 7, 7, 7, 7, 7, 7, 7, 7, 7, 7, 7, 7, 7, 7, 7, 7, 7, 7, 7, 7, 7, 7, 7, 7, 7, 7, 7, 7, 8, 8, 8, 8, 8, 8, 8, 8, 8, 8, 8, 8, 8, 8, 8, 8, 8, 8, 8, 8, 8, 8, 8, 8, 8, 8, 8, 8, 8, 8, 8, 8, 8, 8, 8, 8, 8, 8, 8, 8, 8, 8, 8, 8, 8, 8, 8, 8, 8, 8, 8, 8, 8, 8, 8, 8, 8, 8, 8, 8, 8, 8, 8, 8, 8, 8, 8, 8, 8, 8, 8, 8, 8, 8, 8, 8, 8, 8, 8, 8, 8, 8, 8, 8, 8, 8, 8, 8, 8, 8, 8, 8, 8, 8, 8, 8, 8, 8, 8, 8, 8, 8, 8, 8, 8, 8, 8, 8, 8, 8, 8, 8, 8, 8, 8, 8, 8, 8, 8, 8, 8, 8, 8, 8, 8, 8, 8, 8]⟩ : ByteArray) (ji19)))))) else (none)) else (none)) = some r := by first | (rw [hji19] at H; exact H) | (simp only [hji19] at H ⊢; exact H)
          by_cases c20 : 0 ≤ (ji19)
          · rw [if_pos c20] at H
            have c20b0 : decide (0 ≤ (ji19)) = true := decide_eq_true c20
            clear c20
            by_cases c21 : (ji19) < 256
            · rw [if_pos c21] at H
              have c21b0 : decide ((ji19) < 256) = true := decide_eq_true c21
              clear c21
              obtain rfl := Option.some.inj H
              have p22 : 0 ≤ ((ji19) : Int) := of_decide_eq_true (by first | (with_reducible assumption) | assumption)
              have q22 : (ji19) < (256 : Int) := of_decide_eq_true (by first | (with_reducible assumption) | assumption)
              have hx22 := bt_at (⟨#[0, 1, 2, 2, 3, 3, 3, 3, 4, 4, 4, 4, 4, 4, 4, 4, 5, 5, 5, 5, 5, 5, 5, 5, 5, 5, 5, 5, 5, 5, 5, 5, 6, 6, 6, 6, 6, 6, 6, 6, 6, 6, 6, 6, 6, 6, 6, 6, 6, 6, 6, 6, 6, 6, 6, 6, 6, 6, 6, 6, 6, 6, 6, 6, 7, 7, 7, 7, 7, 7, 7, 7, 7, 7, 7, 7, 7, 7, 7, 7, 7, 7, 7, 7, 7, 7, 7, 7, 7, 7, 7, 7, 7, 7, 7, 7, 7, 7, 7, 7, 7, 7, 7, 7, 7, 7, 7, 7, 7, 7, 7, 7, 7, 7, 7, 7, 7, 7, 7, 7, 7, 7, 7, 7, 7, 7, 7, 7, 8, 8, 8, 8, 8, 8, 8, 8, 8, 8, 8, 8, 8, 8, 8, 8, 8, 8, 8, 8, 8, 8, 8, 8, 8, 8, 8, 8, 8, 8, 8, 8, 8, 8, 8, 8, 8, 8, 8, 8, 8, 8, 8, 8, 8, 8, 8, 8, 8, 8, 8, 8, 8, 8, 8, 8, 8, 8, 8, 8, 8, 8, 8, 8, 8, 8, 8, 8, 8, 8, 8, 8, 8, 8, 8, 8, 8, 8, 8, 8, 8, 8, 8, 8, 8, 8, 8, 8, 8, 8, 8, 8, 8, 8, 8, 8, 8, 8, 8, 8, 8, 8, 8, 8, 8, 8, 8, 8, 8, 8, 8, 8, 8, 8, 8, 8, 8, 8, 8, 8, 8, 8, 8, 8, 8, 8, 8, 8]⟩ : ByteArray) (ji19)
              replace p22 := eq_true p22
              replace q22 := eq_true q22
              go_wp2
              go_ret
              exact ⟨by first | rfl | (simp; done) | (simp only [← hji19] <;> (first | rfl | simp)) | (simp [*]; done), by repeat (first | exact Drawn0.refl _ | apply Drawn0.step)⟩
            · rw [if_neg c21] at H
              exact absurd H (by simp)
          · rw [if_neg c20] at H
            exact absurd H (by simp)

end Go.Proofs.Ytmlbppfcpejlpaa.X

/- What the least, the greatest number and a number's count of bits are. No conditions. -/
namespace Go.Proofs.Ytmlbppfcpejlpaa.Q06
open Go Go.RowKit Go.Proofs.YtmlbppfcpejlpaaW.PrintWords Go.Proofs.YtmlbppfcpejlpaaW.PrintMore Go.Proofs.Ytmlbppfcpejlpaa.S Go.Proofs.Ytmlbppfcpejlpaa.B Go.Proofs.Ytmlbppfcpejlpaa.X
set_option linter.unusedVariables false
set_option linter.unusedSimpArgs false

def minL (l : List Int) : Int := (l.drop 1).foldl mn (rd l 0)
def maxL (l : List Int) : Int := (l.drop 1).foldl mx (rd l 0)
theorem succ64 {i : Nat} (h : i < 10000000000000) : wrap64 ((i : Int) + 1) = ((i + 1 : Nat) : Int) := by rw [wrap64_id] <;> omega
theorem min_l0 {l : List Int} (hl : l.length < 1000000000000) (d : Nat) : ∀ (i k : Nat) (m : Int), i + d = l.length → d < k → slices_Min_uint64_uint64.l0 k l m (i : Int) = some ((l.drop i).foldl mn m) := by
  induction d with
  | zero =>
    intro i k m hd hk
    obtain ⟨k, rfl⟩ : ∃ q, k = q + 1 := ⟨k - 1, by omega⟩
    simp only [slices_Min_uint64_uint64.l0]
    rw [if_neg (by omega), List.drop_eq_nil_of_le (by omega)]; rfl
  | succ d ih =>
    intro i k m hd hk
    obtain ⟨k, rfl⟩ : ∃ q, k = q + 1 := ⟨k - 1, by omega⟩
    have hlt : i < l.length := by omega
    simp only [slices_Min_uint64_uint64.l0]
    rw [if_pos (by omega), if_pos (by omega), rd_get hlt, succ64 (by omega), ih (i + 1) k _ (by omega) (by omega), List.drop_eq_getElem_cons hlt]
    rfl
theorem max_l0 {l : List Int} (hl : l.length < 1000000000000) (d : Nat) : ∀ (i k : Nat) (m : Int), i + d = l.length → d < k → slices_Max_uint64_uint64.l0 k l m (i : Int) = some ((l.drop i).foldl mx m) := by
  induction d with
  | zero =>
    intro i k m hd hk
    obtain ⟨k, rfl⟩ : ∃ q, k = q + 1 := ⟨k - 1, by omega⟩
    simp only [slices_Max_uint64_uint64.l0]
    rw [if_neg (by omega), List.drop_eq_nil_of_le (by omega)]; rfl
  | succ d ih =>
    intro i k m hd hk
    obtain ⟨k, rfl⟩ : ∃ q, k = q + 1 := ⟨k - 1, by omega⟩
    have hlt : i < l.length := by omega
    simp only [slices_Max_uint64_uint64.l0]
    rw [if_pos (by omega), if_pos (by omega), rd_get hlt, succ64 (by omega), ih (i + 1) k _ (by omega) (by omega), List.drop_eq_getElem_cons hlt]
    rfl
theorem min_spec {k : Nat} {l : List Int} (h0 : 0 < l.length) (hl : l.length < 1000000000000) (hk : l.length < k) : slices_Min_uint64_uint64.f k l = some (minL l) := by
  unfold slices_Min_uint64_uint64.f
  rw [if_neg (by omega), if_pos (by omega)]
  exact min_l0 hl (l.length - 1) 1 k _ (by omega) (by omega)
theorem max_spec {k : Nat} {l : List Int} (h0 : 0 < l.length) (hl : l.length < 1000000000000) (hk : l.length < k) : slices_Max_uint64_uint64.f k l = some (maxL l) := by
  unfold slices_Max_uint64_uint64.f
  rw [if_neg (by omega), if_pos (by omega)]
  exact max_l0 hl (l.length - 1) 1 k _ (by omega) (by omega)
theorem mn_fold (l : List Int) : ∀ m : Int, l.foldl mn m ≤ m ∧ (∀ x ∈ l, l.foldl mn m ≤ x) ∧ (l.foldl mn m = m ∨ l.foldl mn m ∈ l) := by
  induction l with
  | nil => intro m; simp
  | cons a l ih =>
    intro m
    obtain ⟨h1, h2, h3⟩ := ih (mn m a)
    have hmn : mn m a ≤ m ∧ mn m a ≤ a ∧ (mn m a = m ∨ mn m a = a) := by unfold mn; split <;> omega
    rw [List.foldl_cons]
    refine ⟨by omega, ?_, ?_⟩
    · intro x hx
      rcases List.mem_cons.1 hx with rfl | hx
      · omega
      · exact h2 x hx
    · rcases h3 with h3 | h3
      · rcases hmn.2.2 with h | h
        · exact .inl (h3.trans h)
        · exact .inr (by rw [h3, h]; exact List.mem_cons_self)
      · exact .inr (List.mem_cons_of_mem _ h3)
theorem mx_fold (l : List Int) : ∀ m : Int, m ≤ l.foldl mx m ∧ (∀ x ∈ l, x ≤ l.foldl mx m) ∧ (l.foldl mx m = m ∨ l.foldl mx m ∈ l) := by
  induction l with
  | nil => intro m; simp
  | cons a l ih =>
    intro m
    obtain ⟨h1, h2, h3⟩ := ih (mx m a)
    have hmx : m ≤ mx m a ∧ a ≤ mx m a ∧ (mx m a = m ∨ mx m a = a) := by unfold mx; split <;> omega
    rw [List.foldl_cons]
    refine ⟨by omega, ?_, ?_⟩
    · intro x hx
      rcases List.mem_cons.1 hx with rfl | hx
      · omega
      · exact h2 x hx
    · rcases h3 with h3 | h3
      · rcases hmx.2.2 with h | h
        · exact .inl (h3.trans h)
        · exact .inr (by rw [h3, h]; exact List.mem_cons_self)
      · exact .inr (List.mem_cons_of_mem _ h3)
theorem min_facts {l : List Int} (h0 : 0 < l.length) : minL l ∈ l ∧ ∀ x ∈ l, minL l ≤ x := by
  obtain ⟨a, t, rfl⟩ : ∃ a t, l = a :: t := by cases l with | nil => simp at h0 | cons a t => exact ⟨a, t, rfl⟩
  obtain ⟨h1, h2, h3⟩ := mn_fold t a
  refine ⟨?_, ?_⟩
  · rcases h3 with h3 | h3
    · show t.foldl mn a ∈ _; rw [h3]; exact List.mem_cons_self
    · exact List.mem_cons_of_mem _ h3
  · intro x hx
    rcases List.mem_cons.1 hx with rfl | hx
    · exact h1
    · exact h2 x hx
theorem max_facts {l : List Int} (h0 : 0 < l.length) : maxL l ∈ l ∧ ∀ x ∈ l, x ≤ maxL l := by
  obtain ⟨a, t, rfl⟩ : ∃ a t, l = a :: t := by cases l with | nil => simp at h0 | cons a t => exact ⟨a, t, rfl⟩
  obtain ⟨h1, h2, h3⟩ := mx_fold t a
  refine ⟨?_, ?_⟩
  · rcases h3 with h3 | h3
    · show t.foldl mx a ∈ _; rw [h3]; exact List.mem_cons_self
    · exact List.mem_cons_of_mem _ h3
  · intro x hx
    rcases List.mem_cons.1 hx with rfl | hx
    · exact h1
    · exact h2 x hx

/-- How many bits a number has. -/
def wd (x : Int) : Nat := if x = 0 then 0 else x.toNat.log2 + 1
theorem wd_facts {x : Int} (h0 : 0 ≤ x) : x < 2 ^ wd x ∧ (x ≠ 0 → 2 ^ (wd x - 1) ≤ x) := by
  unfold wd
  by_cases h : x = 0
  · subst h; simp
  · rw [if_neg h]
    obtain ⟨n, rfl⟩ := Int.eq_ofNat_of_zero_le h0
    have hn : n ≠ 0 := by omega
    rw [Int.toNat_natCast]
    refine ⟨?_, fun _ => ?_⟩
    · have := @Nat.lt_log2_self n; exact_mod_cast this
    · have := Nat.log2_self_le hn; rw [Nat.add_sub_cancel]; exact_mod_cast this
theorem wd_uniq {x : Int} {w : Nat} (h0 : 0 ≤ x) (h1 : x < 2 ^ w) (h2 : w ≠ 0 → 2 ^ (w - 1) ≤ x) : wd x = w := by
  obtain ⟨k1, k2⟩ := wd_facts h0
  rcases Nat.lt_trichotomy (wd x) w with h | h | h
  · have h3 := h2 (by omega)
    have : (2 : Int) ^ wd x ≤ 2 ^ (w - 1) := by exact_mod_cast Nat.pow_le_pow_right (by decide) (show wd x ≤ w - 1 by omega)
    omega
  · exact h
  · have hx : x ≠ 0 := by rintro rfl; simp [wd] at h
    have h3 := k2 hx
    have : (2 : Int) ^ w ≤ 2 ^ (wd x - 1) := by exact_mod_cast Nat.pow_le_pow_right (by decide) (show w ≤ wd x - 1 by omega)
    omega
theorem wd_le {x : Int} {w : Nat} (h0 : 0 ≤ x) (h1 : x < 2 ^ w) : wd x ≤ w := by
  obtain ⟨k1, k2⟩ := wd_facts h0
  rcases Nat.lt_or_ge w (wd x) with h | h
  · have hx : x ≠ 0 := by rintro rfl; simp [wd] at h
    have h3 := k2 hx
    have : (2 : Int) ^ w ≤ 2 ^ (wd x - 1) := by exact_mod_cast Nat.pow_le_pow_right (by decide) (show w ≤ wd x - 1 by omega)
    omega
  · exact h
theorem wd_shift {x : Int} (s : Nat) (h0 : 2 ^ s ≤ x) : wd x = wd (x / 2 ^ s) + s := by
  have hp : (0 : Int) < 2 ^ s := Int.pow_pos (by decide)
  have hq0 : 0 < x / 2 ^ s := Int.le_ediv_of_mul_le hp (by omega)
  obtain ⟨k1, k2⟩ := wd_facts (x := x / 2 ^ s) (by omega)
  have k2 := k2 (by omega)
  have hw : wd (x / 2 ^ s) ≠ 0 := by intro h; rw [h] at k1; simp at k1; omega
  have hd := Int.emod_add_mul_ediv x (2 ^ s)
  have hm := Int.emod_lt_of_pos x hp
  have hm0 := Int.emod_nonneg x (show (2 : Int) ^ s ≠ 0 by omega)
  refine wd_uniq (by omega) ?_ (fun _ => ?_)
  · rw [Int.pow_add, Int.mul_comm]
    have : 2 ^ s * (x / 2 ^ s + 1) ≤ 2 ^ s * 2 ^ wd (x / 2 ^ s) := Int.mul_le_mul_of_nonneg_left (by omega) (by omega)
    rw [Int.mul_add] at this
    omega
  · rw [show wd (x / 2 ^ s) + s - 1 = (wd (x / 2 ^ s) - 1) + s by omega, Int.pow_add, Int.mul_comm]
    have : 2 ^ s * 2 ^ (wd (x / 2 ^ s) - 1) ≤ 2 ^ s * (x / 2 ^ s) := Int.mul_le_mul_of_nonneg_left k2 (by omega)
    omega
theorem tab_ok : ∃ T : ByteArray, (∀ y : Fin 256, bt T ((y.val : Nat) : Int) = (wd ((y.val : Nat) : Int) : Int)) ∧ ∀ (k : Nat) (x0 x2 : Int), bits_Len64.j0 (k + 1) x0 x2 =
    if x0 ≥ 65536 then (if (x0 / 65536) ≥ 256 then (if 0 ≤ (((x0 / 65536) / 256) % 256) then (if (((x0 / 65536) / 256) % 256) < 256 then (some (wrap64 ((wrap64 ((wrap64 (x2 + 16)) + 8)) + (wrap64 (bt T (((x0 / 65536) / 256) % 256)))))) else (none)) else (none)) else (if 0 ≤ ((x0 / 65536) % 256) then (if ((x0 / 65536) % 256) < 256 then (some (wrap64 ((wrap64 (x2 + 16)) + (wrap64 (bt T ((x0 / 65536) % 256)))))) else (none)) else (none))) else (if x0 ≥ 256 then (if 0 ≤ ((x0 / 256) % 256) then (if ((x0 / 256) % 256) < 256 then (some (wrap64 ((wrap64 (x2 + 8)) + (wrap64 (bt T ((x0 / 256) % 256)))))) else (none)) else (none)) else (if 0 ≤ ((x0) % 256) then (if ((x0) % 256) < 256 then (some (wrap64 (x2 + (wrap64 (bt T ((x0) % 256)))))) else (none)) else (none))) := by
  refine ⟨_, ?_, fun _ _ _ => rfl⟩
  decide +kernel
theorem len64_spec {k : Nat} {x : Int} (h0 : 0 ≤ x) (h1 : x < 18446744073709551616) (hk : 0 < k) : bits_Len64.f k x = some (wd x : Int) := by
  obtain ⟨k, rfl⟩ : ∃ q, k = q + 1 := ⟨k - 1, by omega⟩
  obtain ⟨T, hT, hj⟩ := tab_ok
  have tab : ∀ y : Int, 0 ≤ y → y < 256 → bt T y = (wd y : Int) := fun y y0 y1 => by
    have := hT ⟨y.toNat, by omega⟩
    simpa [Int.toNat_of_nonneg y0] using this
  have w8 : ∀ y : Int, 0 ≤ y → y < 256 → wd y ≤ 8 := fun y y0 y1 => wd_le y0 (by omega)
  have key : ∀ (y c : Int), 0 ≤ y → y < 4294967296 → 0 ≤ c → c ≤ 32 → bits_Len64.j0 (k + 1) y c = some (c + (wd y : Int)) := by
    intro y c y0 y1 c0 c1
    rw [hj]
    by_cases ha : y ≥ 65536
    · rw [if_pos ha]
      have s1 := wd_shift (x := y) 16 (by omega)
      rw [show (2 : Int) ^ 16 = 65536 by decide] at s1
      by_cases hb : y / 65536 ≥ 256
      · have s2 := wd_shift (x := y / 65536) 8 (by omega)
        rw [show (2 : Int) ^ 8 = 256 by decide] at s2
        have := w8 (y / 65536 / 256) (by omega) (by omega)
        rw [if_pos hb, if_pos (by omega), if_pos (by omega), show y / 65536 / 256 % 256 = y / 65536 / 256 by omega, tab _ (by omega) (by omega)]
        simp only [wrap64_eq]
        congr 1
        omega
      · have := w8 (y / 65536) (by omega) (by omega)
        rw [if_neg hb, if_pos (by omega), if_pos (by omega), show y / 65536 % 256 = y / 65536 by omega, tab _ (by omega) (by omega)]
        simp only [wrap64_eq]
        congr 1
        omega
    · rw [if_neg ha]
      by_cases hb : y ≥ 256
      · have s2 := wd_shift (x := y) 8 (by omega)
        rw [show (2 : Int) ^ 8 = 256 by decide] at s2
        have := w8 (y / 256) (by omega) (by omega)
        rw [if_pos hb, if_pos (by omega), if_pos (by omega), show y / 256 % 256 = y / 256 by omega, tab _ (by omega) (by omega)]
        simp only [wrap64_eq]
        congr 1
        omega
      · have := w8 y (by omega) (by omega)
        rw [if_neg hb, if_pos (by omega), if_pos (by omega), show y % 256 = y by omega, tab _ (by omega) (by omega)]
        simp only [wrap64_eq]
        congr 1
        omega
  unfold bits_Len64.f
  by_cases ha : x ≥ 4294967296
  · have s1 := wd_shift (x := x) 32 (by omega)
    rw [show (2 : Int) ^ 32 = 4294967296 by decide] at s1
    rw [if_pos ha, key _ _ (by omega) (by omega) (by omega) (by omega)]
    congr 1
    omega
  · rw [if_neg ha, key _ _ h0 (by omega) (by omega) (by omega)]
    congr 1
    omega
end Go.Proofs.Ytmlbppfcpejlpaa.Q06

/- What the printed functions of layer 4 (bits) tell: rows of bits, their bytes, and back. No conditions. -/
namespace Go.Proofs.Ytmlbppfcpejlpaa.Q04
open Go Go.RowKit Go.Proofs.YtmlbppfcpejlpaaW.PrintWords Go.Proofs.YtmlbppfcpejlpaaW.PrintMore Go.Proofs.Ytmlbppfcpejlpaa.S Go.Proofs.Ytmlbppfcpejlpaa.B Go.Proofs.Ytmlbppfcpejlpaa.X
set_option linter.unusedVariables false
set_option linter.unusedSimpArgs false

theorem and_one_u8 {x : Int} (h0 : 0 ≤ x) (h1 : x < 256) : Go.bits .and .u8 x 1 = x % 2 := by
  simpa using bits_mask .u8 8 (by decide) wraps_u8 1 (by decide) x h0 (by omega)
theorem and_one_u64 {x : Int} (h0 : 0 ≤ x) (h1 : x < 18446744073709551616) : Go.bits .and .u64 x 1 = x % 2 := by
  simpa using bits_mask .u64 64 (by decide) wraps_u64 1 (by decide) x h0 (by omega)
theorem shr_nat (k : IntKind) (x : Int) {j : Nat} (h : j ≤ k.bits) : shr k x (j : Int) = x / 2 ^ j := by
  unfold shr
  rw [show min ((j : Int).toNat) k.bits = j by rw [Int.toNat_natCast]; omega]
theorem ediv_pow_range {x : Int} (h0 : 0 ≤ x) (j : Nat) : 0 ≤ x / 2 ^ j ∧ x / 2 ^ j ≤ x :=
  ⟨Int.ediv_nonneg h0 (Int.pow_nonneg (by omega)), Int.ediv_le_self _ h0⟩
theorem bit_u64 {v : Int} (h0 : 0 ≤ v) (h1 : v < 18446744073709551616) {j : Nat} (hj : j < 64) : (Go.bits .and .u64 (shr .u64 v (j : Int)) 1) % 256 = v / 2 ^ j % 2 := by
  have := ediv_pow_range h0 j
  rw [shr_nat .u64 v (by simp [IntKind.bits]; omega), and_one_u64 this.1 (by omega)]
  omega
theorem refput_l0 {v : Int} (h0 : 0 ≤ v) (h1 : v < 18446744073709551616) (j : Nat) : ∀ (k : Nat) (l : List Int), j ≤ 64 → j < k → l.length + j < 140737488355328 →
    rickref04_Put.l0 k l v ((j : Int) - 1) = some (l ++ bitsN j v) := by
  induction j with
  | zero =>
    intro k l _ hk _
    obtain ⟨k, rfl⟩ : ∃ q, k = q + 1 := ⟨k - 1, by omega⟩
    simp only [rickref04_Put.l0]
    rw [if_neg (by omega)]
    simp [bitsN]
  | succ j ih =>
    intro k l hj hk hl
    obtain ⟨k, rfl⟩ : ∃ q, k = q + 1 := ⟨k - 1, by omega⟩
    simp only [rickref04_Put.l0]
    rw [if_pos (by omega), if_pos (by omega), if_pos (by omega), show ((j + 1 : Nat) : Int) - 1 = (j : Int) by omega, bit_u64 h0 h1 (by omega), wrap64_id (by omega) (by omega)]
    rw [ih k _ (by omega) (by omega) (by simp; omega), List.append_assoc]
    rfl
theorem refput_spec {k : Nat} {l : List Int} {v m : Int} (h0 : 0 ≤ v) (h1 : v < 18446744073709551616) (hk : 64 < k) (hl : l.length < 1000000000000) :
    rickref04_Put.f k l v m = some (l ++ bitsN (cl m) v) := by
  unfold rickref04_Put.f
  rw [cl_eq]
  have := cl_le m
  exact refput_l0 h0 h1 (cl m) k l (by omega) (by omega) (by omega)

theorem shl_bit {b : Int} (hb : b = 0 ∨ b = 1) {r : Nat} (hr : r < 8) : shl .u8 b (r : Int) = b * 2 ^ r := by
  unfold shl
  rw [show min ((r : Int).toNat) IntKind.u8.bits = r by rw [Int.toNat_natCast]; simp [IntKind.bits]; omega, IntKind.wrap_u8]
  rcases pow_r hr with h | h | h | h | h | h | h | h <;> subst h <;> rcases hb with rfl | rfl <;> decide
theorem refbytes_l0 {l : List Int} (hb : Bits l) (hl : l.length < 1000000000000) (d : Nat) : ∀ (i k : Nat), i + d = l.length → d < k →
    rickref04_Bytes.l0 k l (rows (l.take i) ((l.length + 7) / 8)) (i : Int) = some (packB l) := by
  induction d with
  | zero =>
    intro i k hd hk
    obtain ⟨k, rfl⟩ : ∃ q, k = q + 1 := ⟨k - 1, by omega⟩
    simp only [rickref04_Bytes.l0]
    rw [if_neg (by omega), List.take_of_length_le (by omega)]
    rfl
  | succ d ih =>
    intro i k hd hk
    obtain ⟨k, rfl⟩ : ∃ q, k = q + 1 := ⟨k - 1, by omega⟩
    have hlt : i < l.length := by omega
    have hli : (l.take i).length = i := by rw [List.length_take]; omega
    have hbit := hb _ (List.getElem_mem hlt)
    have e1 : wrap64 (Int.tdiv (i : Int) 8) = ((i / 8 : Nat) : Int) := by
      rw [Int.tdiv_eq_ediv_of_nonneg (by omega), wrap64_id (by omega) (by omega)]; omega
    have e2 : wrap64 (7 - Int.tmod (i : Int) 8) = ((7 - i % 8 : Nat) : Int) := by
      rw [Int.tmod_eq_emod_of_nonneg (by omega), wrap64_id (by omega) (by omega)]; omega
    simp only [rickref04_Bytes.l0]
    rw [e1, e2, if_pos (by omega), if_pos (by omega), if_pos (by rw [rows_len]; omega), if_pos (by omega), if_pos (by omega), rd_get hlt, rd_rows _ (by omega), shl_bit hbit (by omega), Int.toNat_natCast]
    have := rows_push (l.take i) (fun x hx => hb x (List.mem_of_mem_take hx)) l[i] hbit ((l.length + 7) / 8) (by rw [hli]; omega)
    rw [hli] at this
    rw [this, ← List.take_succ_eq_append_getElem hlt, show wrap64 ((i : Int) + 1) = ((i + 1 : Nat) : Int) by rw [wrap64_id] <;> omega]
    exact ih (i + 1) k (by omega) (by omega)
theorem refbytes_spec {k : Nat} {l : List Int} (hb : Bits l) (hl : l.length < 1000000000000) (hk : l.length < k) : rickref04_Bytes.f k l = some (packB l) := by
  have e : wrap64 (Int.tdiv (wrap64 ((l.length : Int) + 7)) 8) = (((l.length + 7) / 8 : Nat) : Int) := by
    rw [wrap64_id (n := (l.length : Int) + 7) (by omega) (by omega), Int.tdiv_eq_ediv_of_nonneg (by omega), wrap64_id (by omega) (by omega)]; omega
  unfold rickref04_Bytes.f
  rw [e, if_pos (by omega), if_pos (by rw [Int.toNat_natCast]; omega), Int.toNat_natCast, ← rows_nil]
  have := refbytes_l0 hb hl l.length 0 k (by omega) hk
  simpa using this
end Go.Proofs.Ytmlbppfcpejlpaa.Q04

-- Printed by this session's own program (wip/xprint.py) over the translation; its external functions are hand-written. Lean checks it.
namespace Go.Proofs.Ytmlbppfcpejlpaa.X
open Go.RowKit Go.Proofs.YtmlbppfcpejlpaaW.PrintWords Go.Proofs.YtmlbppfcpejlpaaW.PrintLast Go.Proofs.YtmlbppfcpejlpaaW.PrintMore
attribute [local go_sem] max2_int min2_int max_two min_two max_three min_three max_four min_four   -- for this text's walks alone
set_option linter.unusedVariables false
set_option linter.unusedSimpArgs false

/-! ### rickref04_Bits: function 34 -/
def rickref04_Bits.l0 : Nat → List Int → List Int → Int → Option (List Int)
  | 0, _, _, _ => none
  | k + 1, x0, x3, x4 => if x4 < (wrap64 (8 * (x0.length : Int))) then (if 0 ≤ (wrap64 (Int.tdiv x4 8)) then (if (wrap64 (Int.tdiv x4 8)) < (x0.length : Int) then (if 0 ≤ (wrap64 (7 - (Int.tmod x4 8))) then (if x3.length < 140737488355328 then (rickref04_Bits.l0 k x0 (x3 ++ [Go.bits .and .u8 (shr .u8 (rd x0 (wrap64 (Int.tdiv x4 8))) (wrap64 (7 - (Int.tmod x4 8)))) 1]) (wrap64 (x4 + 1))) else (none)) else (none)) else (none)) else (none)) else (some x3)
def rickref04_Bits.f (k : Nat) (l0 : List Int) : Option (List Int) := rickref04_Bits.l0 k l0 ([] : List Int) 0
theorem rickref04_Bits.mono_l : ∀ k, (∀ y0 y1 y2, LeO (rickref04_Bits.l0 k y0 y1 y2) (rickref04_Bits.l0 (k + 1) y0 y1 y2))
  | 0 => fun _ _ _ r h => by simp [rickref04_Bits.l0] at h
  | k + 1 => by
    have ih0 := rickref04_Bits.mono_l k
    · intro y0 y1 y2
      unfold rickref04_Bits.l0
      repeat' first
      | (with_reducible exact ih0 _ _ _)
      | (with_reducible exact LeO.refl _)
      | (with_reducible exact LeO.none _)
      | (with_reducible refine LeO.ite ?_ ?_)
      | (with_reducible refine LeO.bind ?_ (fun _ => ?_))
      | exact ih0 _ _ _
      | exact LeO.none _
      | refine LeO.ite ?_ ?_
      | refine LeO.bind ?_ (fun _ => ?_)
theorem rickref04_Bits.mono : ∀ a0 k, LeO (rickref04_Bits.f k a0) (rickref04_Bits.f (k + 1) a0) := by
  intro a0 k
  have ih0 := rickref04_Bits.mono_l k
  unfold rickref04_Bits.f
  repeat' first
      | (with_reducible exact ih0 _ _ _)
      | (with_reducible exact LeO.refl _)
      | (with_reducible exact LeO.none _)
      | (with_reducible refine LeO.ite ?_ ?_)
      | (with_reducible refine LeO.bind ?_ (fun _ => ?_))
      | exact ih0 _ _ _
      | exact LeO.none _
      | refine LeO.ite ?_ ?_
      | refine LeO.bind ?_ (fun _ => ?_)
set_option maxHeartbeats 8000000 in
set_option maxRecDepth 100000 in
theorem rickref04_Bits.calls (k : Nat) (A0 : Option Addr) (c0 : Nat) (l0 : List Int) (r : List Int) (w : World) (hr0 : Kd.C (Kd.int .u8) w A0 l0.length l0) (hc0 : l0.length ≤ c0) (h : rickref04_Bits.f k l0 = some r) :
    Calls Try.prog 34 #[.slice A0 l0.length c0] w fun e w' => ∃ v0_ : Value, e = .returned (v0_) ∧ Kd.R (Kd.int .u8) 5 w' w.heap.size (fun _ => True) v0_ r ∧ Below w.heap.size w w' := by
  have HR0 := Aside0.mk hr0
  have HC0 := Aside0.mk hc0
  clear hr0 hc0
  have HB := Aside0.mk (Below.refl w.heap.size w)
  have H : (rickref04_Bits.l0 k l0 ([] : List Int) 0) = some r := h
  clear h
  have H' := Aside0.mk H
  clear H
  go_enter Try.func34, Try.ntmps34
  go_wp2
  go_loopg [3, 4] k (fun kq v3 v4 w' => ∃ (x3_1 : List Int) (x4_1 : Int), v4 = .int .i64 x4_1 ∧ Aside0 (rickref04_Bits.l0 kq l0 x3_1 x4_1 = some r) ∧ Aside0 (kq ≤ k) ∧ Aside0 (Kd.R (Kd.int .u8) 5 w' w.heap.size (fun _ => True) v3 x3_1) ∧ Aside0 (Below w.heap.size w w'))
  case atStart => exact ⟨(([] : List Int)), (0), (by first | rfl | (simp; done) | (simp [*]; done)), H', ⟨Nat.le_refl _⟩, ⟨by first | exact Kd.R_nil _ _ _ _ _ | exact Kd.N_nil _ _ _ _ _ | exact Kd.V_nil _ _ _ _ _ | exact Kd.Q_nil _ _ _ _ _ | exact Kd.S_nil _ _ _ _ _⟩, ⟨by repeat (first | (with_reducible first | exact HB.out | apply below_alloc | apply pw_below_drewN | apply below_drew1) | exact HB.out)⟩⟩
  case round =>
    clear H'
    obtain ⟨x3_1, x4_1, rfl, HA, HK1, HO_3, HB⟩ := hrel
    cases gk with
    | zero => exact absurd HA.out (by simp [rickref04_Bits.l0])
    | succ k1 =>
      have H := HA.out
      clear HA
      simp only [rickref04_Bits.l0] at H
      by_cases c2 : x4_1 < (wrap64 (8 * (l0.length : Int)))
      · rw [if_pos c2] at H
        have c2b0 : decide (x4_1 < (wrap64 (8 * (l0.length : Int)))) = true := decide_eq_true c2
        clear c2
        obtain ⟨ji3, hji3⟩ : ∃ j_ : Int, (wrap64 (Int.tdiv x4_1 8)) = j_ := ⟨_, rfl⟩
        replace H : (if 0 ≤ (ji3) then (if (ji3) < (l0.length : Int) then (if 0 ≤ (wrap64 (7 - (Int.tmod x4_1 8))) then (if x3_1.length < 140737488355328 then (rickref04_Bits.l0 k1 l0 (x3_1 ++ [Go.bits .and .u8 (shr .u8 (rd l0 (ji3)) (wrap64 (7 - (Int.tmod x4_1 8)))) 1]) (wrap64 (x4_1 + 1))) else (none)) else (none)) else (none)) else (none)) = some r := by first | (rw [hji3] at H; exact H) | (simp only [hji3] at H ⊢; exact H)
        have hji3w : (IntKind.i64.wrap (Int.tdiv x4_1 8)) = ji3 := (i64_w _).trans hji3
        by_cases c4 : 0 ≤ (ji3)
        · rw [if_pos c4] at H
          have c4b0 : decide (0 ≤ (ji3)) = true := decide_eq_true c4
          clear c4
          by_cases c5 : (ji3) < (l0.length : Int)
          · rw [if_pos c5] at H
            have c5b0 : decide ((ji3) < (l0.length : Int)) = true := decide_eq_true c5
            clear c5
            obtain ⟨ji6, hji6⟩ : ∃ j_ : Int, (wrap64 (7 - (Int.tmod x4_1 8))) = j_ := ⟨_, rfl⟩
            replace H : (if 0 ≤ (ji6) then (if x3_1.length < 140737488355328 then (rickref04_Bits.l0 k1 l0 (x3_1 ++ [Go.bits .and .u8 (shr .u8 (rd l0 (ji3)) (ji6)) 1]) (wrap64 (x4_1 + 1))) else (none)) else (none)) = some r := by first | (rw [hji6] at H; exact H) | (simp only [hji6] at H ⊢; exact H)
            have hji6w : (IntKind.i64.wrap (7 - (Int.tmod x4_1 8))) = ji6 := (i64_w _).trans hji6
            by_cases c7 : 0 ≤ (ji6)
            · rw [if_pos c7] at H
              have c7b0 := eq_true c7
              have c7b1 : decide (0 ≤ (ji6)) = true := decide_eq_true c7
              clear c7
              obtain ⟨ji8, hji8⟩ : ∃ j_ : Int, (shr .u8 (rd l0 (ji3)) (ji6)) = j_ := ⟨_, rfl⟩
              replace H : (if x3_1.length < 140737488355328 then (rickref04_Bits.l0 k1 l0 (x3_1 ++ [Go.bits .and .u8 (ji8) 1]) (wrap64 (x4_1 + 1))) else (none)) = some r := by first | (rw [hji8] at H; exact H) | (simp only [hji8] at H ⊢; exact H)
              have hji8_ : ((rd l0 (ji3)) / 2 ^ min (ji6).toNat 8) = ji8 := hji8
              have hji8z : (ji6) ≤ 8 → ((rd l0 (ji3)) / 2 ^ (ji6).toNat) = ji8 := shr_small hji8
              by_cases c9 : x3_1.length < 140737488355328
              · rw [if_pos c9] at H
                have LMc9 := Aside0.mk c9
                clear c9
                obtain ⟨y203, hy203⟩ : ∃ y_ : List Int, y_ = (x3_1 ++ [Go.bits .and .u8 (ji8) 1]) := ⟨_, rfl⟩
                replace H : (rickref04_Bits.l0 k1 l0 y203 (wrap64 (x4_1 + 1))) = some r := by first | (rw [hy203]; with_reducible exact H) | (have H2_ := (Option.bind_some _ _).symm.trans H; rw [hy203]; with_reducible exact H2_) | (have H2_ := (Option.bind_some _ _).symm.trans H; with_reducible exact H2_) | with_reducible exact H | (rw [hy203]; exact H) | exact H
                have Ny203 := Aside0.mk hy203
                clear hy203
                have H' := Aside0.mk H
                clear H
                have p202 : 0 ≤ ((ji3) : Int) := of_decide_eq_true (by first | (with_reducible assumption) | assumption)
                have q202 : (ji3) < (l0.length : Int) := of_decide_eq_true (by first | (with_reducible assumption) | assumption)
                obtain ⟨ad202, e202, hx202_0⟩ := Kd.at_int HR0.out (ji3) p202 q202
                cases e202
                replace hx202_0 := (HB.out.cell (World.block_lt_of_cell? w _ hx202_0)).trans hx202_0
                replace p202 := eq_true p202
                replace q202 := eq_true q202
                go_wp2_with (first | ((with_reducible refine gate_builtin (b := .append) (xs := #[.tmp 12, .tmp 23]) rfl ?_); at_builtin; refine Kd.R_append (Kd.int .u8) (w0 := w) w.heap.size rfl (.tmp 12) (.tmp 23) 22 5 (.int .u8 0) 1 rfl Try.underlying22 info5 rfl (by decide) (by omega) u3 x3_1 (Go.bits .and .u8 (ji8) 1) [.int .u8 (Go.bits .and .u8 (ji8) 1)] (fun _ => True) (fun _ => False) rfl rfl ?aP (fun _ hk => hk.elim) ?aF ?aO ?aB ?aS ?aL ?_; (case aP => exact rfl); (case aB => exact (by repeat (first | (with_reducible first | exact HB.out | apply below_alloc | apply pw_below_drewN | apply below_drew1) | exact HB.out))); (case aF => exact (fun _ _ => trivial)); (case aO => exact (by (with_reducible repeat (first | apply Kd.R_alloc | apply Kd.R_drewN | apply Kd.R_drew)); exact HO_3.out)); (case aS => exact (below_size (by repeat (first | (with_reducible first | exact HB.out | apply below_alloc | apply pw_below_drewN | apply below_drew1) | exact HB.out)))); (case aL => have := LMc9.out; omega); intro v204 w10 ho hb hg hat; rw [← Ny203.out] at ho; have n0_ := Aside0.mk (hb); have n1_ := Aside0.mk (ho); clear HB; clear HO_3; have HB := n0_; have HO205 := n1_; clear n0_ n1_; clear ho hb hg hat))
                go_roundg k1
                case measure => have := HK1.out; omega
                case rel => exact ⟨(y203), (wrap64 (x4_1 + 1)), (by first | rfl | (simp; done) | (simp [*]; done)), H', ⟨by have := HK1.out; omega⟩, ⟨by (with_reducible repeat (first | apply Kd.R_alloc | apply Kd.R_drewN | apply Kd.R_drew)); exact HO205.out⟩, ⟨by repeat (first | (with_reducible first | exact HB.out | apply below_alloc | apply pw_below_drewN | apply below_drew1) | exact HB.out)⟩⟩
              · rw [if_neg c9] at H
                exact absurd H (by simp)
            · rw [if_neg c7] at H
              exact absurd H (by simp)
          · rw [if_neg c5] at H
            exact absurd H (by simp)
        · rw [if_neg c4] at H
          exact absurd H (by simp)
      · rw [if_neg c2] at H
        have c2b0 : decide (x4_1 < (wrap64 (8 * (l0.length : Int)))) = false := decide_eq_false c2
        clear c2
        obtain rfl := Option.some.inj H
        go_wp2
        go_ret
        exact ⟨_, by first | rfl | (simp [errW_none, errW_some] <;> rfl) | (simp [*, errW_none, errW_some] <;> rfl), by (with_reducible repeat (first | apply Kd.R_alloc | apply Kd.R_drewN | apply Kd.R_drew)); exact HO_3.out, by repeat (first | (with_reducible first | exact HB.out | apply below_alloc | apply pw_below_drewN | apply below_drew1) | exact HB.out)⟩

end Go.Proofs.Ytmlbppfcpejlpaa.X

-- Printed by this session's own program (wip/xprint.py) over the translation; its external functions are hand-written. Lean checks it.
namespace Go.Proofs.Ytmlbppfcpejlpaa.X
open Go.RowKit Go.Proofs.YtmlbppfcpejlpaaW.PrintWords Go.Proofs.YtmlbppfcpejlpaaW.PrintLast Go.Proofs.YtmlbppfcpejlpaaW.PrintMore
attribute [local go_sem] max2_int min2_int max_two min_two max_three min_three max_four min_four   -- for this text's walks alone
set_option linter.unusedVariables false
set_option linter.unusedSimpArgs false

/-! ### rickref04_Take: function 35 -/
def rickref04_Take.l0 : Nat → List Int → Int → Int → Int → Option (Int × List Int × Bool)
  | 0, _, _, _, _ => none
  | k + 1, x0, x1, x7, x8 => if x8 < x1 then (if 0 ≤ x8 then (if x8 < (x0.length : Int) then (rickref04_Take.l0 k x0 x1 (IntKind.u64.wrap ((IntKind.u64.wrap (x7 * 2)) + (IntKind.u64.wrap (rd x0 x8)))) (wrap64 (x8 + 1))) else (none)) else (none)) else (if 0 ≤ x1 then (if x1 ≤ (x0.length : Int) then (some (x7, (x0.drop (x1 : Int).toNat), true)) else (none)) else (none))
def rickref04_Take.f (k : Nat) (l0 : List Int) (a1 : Int) : Option (Int × List Int × Bool) := if (mn (mx a1 0) 64) > (l0.length : Int) then (some (0, l0, false)) else (rickref04_Take.l0 k l0 (mn (mx a1 0) 64) 0 0)
theorem rickref04_Take.mono_l : ∀ k, (∀ y0 y1 y2 y3, LeO (rickref04_Take.l0 k y0 y1 y2 y3) (rickref04_Take.l0 (k + 1) y0 y1 y2 y3))
  | 0 => fun _ _ _ _ r h => by simp [rickref04_Take.l0] at h
  | k + 1 => by
    have ih0 := rickref04_Take.mono_l k
    · intro y0 y1 y2 y3
      unfold rickref04_Take.l0
      repeat' first
      | (with_reducible exact ih0 _ _ _ _)
      | (with_reducible exact LeO.refl _)
      | (with_reducible exact LeO.none _)
      | (with_reducible refine LeO.ite ?_ ?_)
      | (with_reducible refine LeO.bind ?_ (fun _ => ?_))
      | exact ih0 _ _ _ _
      | exact LeO.none _
      | refine LeO.ite ?_ ?_
      | refine LeO.bind ?_ (fun _ => ?_)
theorem rickref04_Take.mono : ∀ a0 a1 k, LeO (rickref04_Take.f k a0 a1) (rickref04_Take.f (k + 1) a0 a1) := by
  intro a0 a1 k
  have ih0 := rickref04_Take.mono_l k
  unfold rickref04_Take.f
  repeat' first
      | (with_reducible exact ih0 _ _ _ _)
      | (with_reducible exact LeO.refl _)
      | (with_reducible exact LeO.none _)
      | (with_reducible refine LeO.ite ?_ ?_)
      | (with_reducible refine LeO.bind ?_ (fun _ => ?_))
      | exact ih0 _ _ _ _
      | exact LeO.none _
      | refine LeO.ite ?_ ?_
      | refine LeO.bind ?_ (fun _ => ?_)
set_option maxHeartbeats 8000000 in
set_option maxRecDepth 100000 in
theorem rickref04_Take.calls (k : Nat) (P0_ : Nat → Prop) (A0 : Option Addr) (c0 : Nat) (l0 : List Int) (a1 : Int) (r1 : Int) (r2 : List Int) (r3 : Bool) (w : World) (hs0 : Kd.V (Kd.int .u8) 5 w w.heap.size (fun k_ => P0_ k_) (.slice A0 l0.length c0) l0) (h : rickref04_Take.f k l0 a1 = some (r1, r2, r3)) :
    Calls Try.prog 35 #[.slice A0 l0.length c0, .int .i64 a1] w fun e w' => ∃ v1_ : Value, e = .returned (.tuple #[.int .u64 r1, v1_, .bool r3]) ∧ Kd.V (Kd.int .u8) 5 w' w.heap.size (fun k_ => (P0_ k_ ∨ w.heap.size ≤ k_)) v1_ r2 ∧ Below w.heap.size w w' := by
  have HO0 := Aside0.mk (show Kd.V (Kd.int .u8) 5 w w.heap.size (fun k_ => (P0_ k_ ∨ w.heap.size ≤ k_)) (.slice A0 l0.length c0) l0 from Kd.V_mono hs0 (fun k_ hk => .inl hk))
  have HB := Aside0.mk (Below.refl w.heap.size w)
  have H : (if (mn (mx a1 0) 64) > (l0.length : Int) then (some (0, l0, false)) else (rickref04_Take.l0 k l0 (mn (mx a1 0) 64) 0 0)) = some (r1, r2, r3) := h
  clear h
  obtain ⟨ji3, hji3⟩ : ∃ j_ : Int, (mx a1 0) = j_ := ⟨_, rfl⟩
  replace H : (if (mn (ji3) 64) > (l0.length : Int) then (some (0, l0, false)) else (rickref04_Take.l0 k l0 (mn (ji3) 64) 0 0)) = some (r1, r2, r3) := by first | (rw [hji3] at H; exact H) | (simp only [hji3] at H ⊢; exact H)
  (try (have hji3l : 0 ≤ ji3 := by (rw [← hji3]; unfold mx; (repeat' split) <;> omega)))
  (try (have hji3m : 0 ≤ ji3 := by omega))
  have hji3_ : (if a1 < 0 then 0 else a1) = ji3 := hji3
  obtain ⟨ji4, hji4⟩ : ∃ j_ : Int, (mn (ji3) 64) = j_ := ⟨_, rfl⟩
  replace H : (if (ji4) > (l0.length : Int) then (some (0, l0, false)) else (rickref04_Take.l0 k l0 ji4 0 0)) = some (r1, r2, r3) := by first | (rw [hji4] at H; exact H) | (simp only [hji4] at H ⊢; exact H)
  have hji4_ : (if 64 < (ji3) then 64 else (ji3)) = ji4 := hji4
  by_cases c5 : (ji4) > (l0.length : Int)
  · rw [if_pos c5] at H
    have c5b0 : decide ((l0.length : Int) < (ji4)) = true := decide_eq_true c5
    clear c5
    simp only [Option.some.injEq, Prod.mk.injEq] at H
    obtain ⟨rfl, rfl, rfl⟩ := H
    go_enter Try.func35, Try.ntmps35
    go_wp2
    repeat (go_quiet (fail); try go_wp2)
    go_ret3
    exact ⟨_, by first | rfl | (simp [errW_none, errW_some] <;> rfl) | (simp only [← hji3, ← hji4]; first | rfl | (simp [errW_none, errW_some] <;> rfl)) | (simp [*, errW_none, errW_some] <;> rfl), by (with_reducible repeat (first | apply Kd.V_alloc | apply Kd.V_drewN | apply Kd.V_drew)); exact HO0.out, by repeat (first | (with_reducible first | exact HB.out | apply below_alloc | apply pw_below_drewN | apply below_drew1) | exact HB.out)⟩
  · rw [if_neg c5] at H
    have c5b0 : decide ((l0.length : Int) < (ji4)) = false := decide_eq_false c5
    clear c5
    have H' := Aside0.mk H
    clear H
    go_enter Try.func35, Try.ntmps35
    go_wp2
    repeat (go_quiet (fail); try go_wp2)
    go_loopg [7, 8] k (fun kq v7 v8 w' => ∃ (x7_1 : Int) (x8_1 : Int), v7 = .int .u64 x7_1 ∧ v8 = .int .i64 x8_1 ∧ Aside0 (rickref04_Take.l0 kq l0 ji4 x7_1 x8_1 = some (r1, r2, r3)) ∧ Aside0 (kq ≤ k) ∧ Aside0 (Kd.V (Kd.int .u8) 5 w' w.heap.size (fun k_ => (P0_ k_ ∨ w.heap.size ≤ k_)) (.slice A0 l0.length c0) l0) ∧ Aside0 (Below w.heap.size w w'))
    case atStart => exact ⟨(0), (0), (by first | rfl | (simp; done) | (simp [*]; done)), (by first | rfl | (simp; done) | (simp [*]; done)), H', ⟨Nat.le_refl _⟩, ⟨by (with_reducible repeat (first | apply Kd.V_alloc | apply Kd.V_drewN | apply Kd.V_drew)); exact HO0.out⟩, ⟨by repeat (first | (with_reducible first | exact HB.out | apply below_alloc | apply pw_below_drewN | apply below_drew1) | exact HB.out)⟩⟩
    case round =>
      clear H'
      try clear p2
      try clear c3
      try clear c5
      try clear c5b0
      obtain ⟨x7_1, x8_1, rfl, rfl, HA, HK1, HO_0, HB⟩ := hrel
      cases gk with
      | zero => exact absurd HA.out (by simp [rickref04_Take.l0])
      | succ k1 =>
        have H := HA.out
        clear HA
        simp only [rickref04_Take.l0] at H
        by_cases c6 : x8_1 < ji4
        · rw [if_pos c6] at H
          have c6b0 : decide (x8_1 < ji4) = true := decide_eq_true c6
          clear c6
          by_cases c7 : 0 ≤ x8_1
          · rw [if_pos c7] at H
            have c7b0 : decide (0 ≤ x8_1) = true := decide_eq_true c7
            clear c7
            by_cases c8 : x8_1 < (l0.length : Int)
            · rw [if_pos c8] at H
              have c8b0 : decide (x8_1 < (l0.length : Int)) = true := decide_eq_true c8
              clear c8
              have H' := Aside0.mk H
              clear H
              have p206 : 0 ≤ (x8_1 : Int) := of_decide_eq_true (by first | (with_reducible assumption) | assumption)
              have q206 : x8_1 < (l0.length : Int) := of_decide_eq_true (by first | (with_reducible assumption) | assumption)
              obtain ⟨ad206, e206, hx206_0⟩ := Kd.at_int (Kd.V_reads' HO_0.out).2.2 x8_1 p206 q206
              cases e206
              replace p206 := eq_true p206
              replace q206 := eq_true q206
              go_wp2
              repeat (go_quiet (fail); try go_wp2)
              go_roundg k1
              case measure => have := HK1.out; omega
              case rel => exact ⟨(IntKind.u64.wrap ((IntKind.u64.wrap (x7_1 * 2)) + (IntKind.u64.wrap (rd l0 x8_1)))), (wrap64 (x8_1 + 1)), (by first | rfl | (simp; done) | (simp [*]; done)), (by first | rfl | (simp; done) | (simp [*]; done)), H', ⟨by have := HK1.out; omega⟩, ⟨by (with_reducible repeat (first | apply Kd.V_alloc | apply Kd.V_drewN | apply Kd.V_drew)); exact HO_0.out⟩, ⟨by repeat (first | (with_reducible first | exact HB.out | apply below_alloc | apply pw_below_drewN | apply below_drew1) | exact HB.out)⟩⟩
            · rw [if_neg c8] at H
              exact absurd H (by simp)
          · rw [if_neg c7] at H
            exact absurd H (by simp)
        · rw [if_neg c6] at H
          have c6b0 : decide (x8_1 < ji4) = false := decide_eq_false c6
          clear c6
          by_cases c9 : 0 ≤ ji4
          · rw [if_pos c9] at H
            have c9b0 := eq_true c9
            have c9b1 : decide (0 ≤ ji4) = true := decide_eq_true c9
            clear c9
            by_cases c10 : ji4 ≤ (l0.length : Int)
            · rw [if_pos c10] at H
              have c10b0 := eq_true c10
              have c10b1 : decide (ji4 ≤ (l0.length : Int)) = true := decide_eq_true c10
              clear c10
              obtain ⟨y207, hy207⟩ : ∃ y_ : List Int, y_ = (l0.drop (ji4 : Int).toNat) := ⟨_, rfl⟩
              replace H : (some (x7_1, y207, true)) = some (r1, r2, r3) := by first | (rw [hy207]; with_reducible exact H) | (have H2_ := (Option.bind_some _ _).symm.trans H; rw [hy207]; with_reducible exact H2_) | (have H2_ := (Option.bind_some _ _).symm.trans H; with_reducible exact H2_) | with_reducible exact H | (rw [hy207]; exact H) | exact H
              have Ny207 := Aside0.mk hy207
              clear hy207
              simp only [Option.some.injEq, Prod.mk.injEq] at H
              obtain ⟨rfl, rfl, rfl⟩ := H
              have q11 : (ji4 : Int) ≤ ((l0.length : Int) : Int) := of_decide_eq_true (by first | (with_reducible assumption) | assumption)
              obtain ⟨i011, hi011, _, hsz11, _⟩ := info_parts info5
              have hroom11 : l0.length ≤ c0 := (Kd.V_reads' HO_0.out).2.1
              have hC11 : Kd.F (Kd.int .u8) _ _ A0 l0.length l0 := (Kd.V_at (base := w.heap.size) HO_0.out).2.2
              have q011 : (0 : Int) ≤ (ji4 : Int) := of_decide_eq_true (by first | (with_reducible assumption) | assumption)
              have hcut11 := cut_from (P := Try.prog) 22 5 .i64 Try.underlying22 hi011 1 hsz11 A0 l0.length c0 ji4 q011 q11
              have hr11 := Kd.F_cut (m := (ji4 : Int).toNat) (c := c0) hC11 (by omega) hroom11
              obtain ⟨A11, hA11⟩ : ∃ A1, A1 = (if c0 = (ji4 : Int).toNat then A0 else (A0 : Option Addr).map (·.add ((ji4 : Int).toNat * 1))) := ⟨_, rfl⟩
              obtain ⟨c11, hc11⟩ : ∃ c1, c1 = c0 - (ji4 : Int).toNat := ⟨_, rfl⟩
              have hy11 : y207.length = l0.length - (ji4 : Int).toNat := (by rw [Ny207.out, List.length_drop] <;> omega)
              rw [show (l0).drop (ji4 : Int).toNat = y207 from Ny207.out.symm] at hr11
              replace hr11 : Kd.F (Kd.int .u8) _ _ A11 y207.length y207 := (by rw [hA11]; exact hr11)
              rw [← hy11, ← hA11, ← hc11] at hcut11
              have HO211 := Aside0.mk (show Kd.V (Kd.int .u8) 5 _ w.heap.size _ (.slice A11 y207.length c11) y207 from Kd.V_mk (by rw [hy11, hc11]; exact Nat.sub_le_sub_right hroom11 _) hr11)
              have HC211 := Aside0.mk (show y207.length ≤ c11 from by rw [hy11, hc11]; exact Nat.sub_le_sub_right hroom11 _)
              clear hr11 hC11 hroom11 hi011 hsz11 hc11
              have KY11 := Aside0.mk hy11
              have KA11 := Aside0.mk hA11
              clear hy11 hA11
              replace q11 := eq_true q11
              go_wp2
              repeat (go_quiet (fail); try go_wp2)
              go_ret3
              exact ⟨_, by first | rfl | (simp [errW_none, errW_some] <;> rfl) | (simp only [← hji3, ← hji4]; first | rfl | (simp [errW_none, errW_some] <;> rfl)) | (simp [*, errW_none, errW_some] <;> rfl), by (with_reducible repeat (first | apply Kd.V_alloc | apply Kd.V_drewN | apply Kd.V_drew)); exact HO211.out, by repeat (first | (with_reducible first | exact HB.out | apply below_alloc | apply pw_below_drewN | apply below_drew1) | exact HB.out)⟩
            · rw [if_neg c10] at H
              exact absurd H (by simp)
          · rw [if_neg c9] at H
            exact absurd H (by simp)

end Go.Proofs.Ytmlbppfcpejlpaa.X

/- What the printed functions of layer 4 (bits) tell of taking bits. No conditions. -/
namespace Go.Proofs.Ytmlbppfcpejlpaa.Q04
open Go Go.RowKit Go.Proofs.YtmlbppfcpejlpaaW.PrintWords Go.Proofs.YtmlbppfcpejlpaaW.PrintMore Go.Proofs.Ytmlbppfcpejlpaa.S Go.Proofs.Ytmlbppfcpejlpaa.B Go.Proofs.Ytmlbppfcpejlpaa.X
set_option linter.unusedVariables false
set_option linter.unusedSimpArgs false

theorem bit_u8 {b : List Int} (hb : Bs b) {i : Nat} (hi : i < 8 * b.length) :
    Go.bits .and .u8 (shr .u8 (rd b ((i / 8 : Nat) : Int)) ((7 - i % 8 : Nat) : Int)) 1 = bitAt b i := by
  have hlt : i / 8 < b.length := by omega
  obtain ⟨r0, r1⟩ := hb _ (List.getElem_mem hlt)
  have := ediv_pow_range r0 (7 - i % 8)
  rw [rd_get hlt, shr_nat .u8 _ (by simp [IntKind.bits]; omega), and_one_u8 this.1 (by omega)]
  unfold bitAt
  rw [List.getD_eq_getElem?_getD, List.getElem?_eq_getElem hlt]; rfl
theorem idx8 {i : Nat} (h : i < 10000000000000) : wrap64 (Int.tdiv (i : Int) 8) = ((i / 8 : Nat) : Int) ∧ wrap64 (7 - Int.tmod (i : Int) 8) = ((7 - i % 8 : Nat) : Int) := by
  constructor
  · rw [Int.tdiv_eq_ediv_of_nonneg (by omega), wrap64_id (by omega) (by omega)]; omega
  · rw [Int.tmod_eq_emod_of_nonneg (by omega), wrap64_id (by omega) (by omega)]; omega
theorem succ64 {i : Nat} (h : i < 10000000000000) : wrap64 ((i : Int) + 1) = ((i + 1 : Nat) : Int) := by rw [wrap64_id] <;> omega
theorem refbits_l0 {b : List Int} (hb : Bs b) (hl : b.length < 1000000000000) (d : Nat) : ∀ (i k : Nat), i + d = 8 * b.length → d < k →
    rickref04_Bits.l0 k b ((bitsOf b).take i) (i : Int) = some (bitsOf b) := by
  induction d with
  | zero =>
    intro i k hd hk
    obtain ⟨k, rfl⟩ : ∃ q, k = q + 1 := ⟨k - 1, by omega⟩
    simp only [rickref04_Bits.l0]
    rw [wrap64_id (n := 8 * (b.length : Int)) (by omega) (by omega), if_neg (by omega), List.take_of_length_le (by rw [bitsOf_len]; omega)]
  | succ d ih =>
    intro i k hd hk
    obtain ⟨k, rfl⟩ : ∃ q, k = q + 1 := ⟨k - 1, by omega⟩
    obtain ⟨e1, e2⟩ := idx8 (i := i) (by omega)
    have hlt : i < (bitsOf b).length := by rw [bitsOf_len]; omega
    simp only [rickref04_Bits.l0]
    rw [wrap64_id (n := 8 * (b.length : Int)) (by omega) (by omega), if_pos (by omega), e1, e2, if_pos (by omega), if_pos (by omega), if_pos (by omega), if_pos (by rw [List.length_take]; omega), bit_u8 hb (by omega), succ64 (by omega)]
    have := ih (i + 1) k (by omega) (by omega)
    rw [List.take_succ_eq_append_getElem hlt, bitsOf_get] at this
    exact this
theorem refbits_spec {k : Nat} {b : List Int} (hb : Bs b) (hl : b.length < 1000000000000) (hk : 8 * b.length < k) : rickref04_Bits.f k b = some (bitsOf b) := by
  unfold rickref04_Bits.f
  have := refbits_l0 hb hl (8 * b.length) 0 k (by omega) hk
  simpa using this

theorem pow_le64 {n : Nat} (h : n ≤ 64) : (2 : Int) ^ n ≤ 18446744073709551616 := by
  have : (2 : Int) ^ n ≤ 2 ^ 64 := by exact_mod_cast Nat.pow_le_pow_right (by decide) h
  simpa using this
theorem reftake_l0 {l : List Int} (hb : Bits l) (n : Nat) (hn : n ≤ 64) (hnl : n ≤ l.length) (hl : l.length < 1000000000000) (d : Nat) : ∀ (i k : Nat), i + d = n → d < k →
    rickref04_Take.l0 k l (n : Int) (valB (l.take i)) (i : Int) = some (valB (l.take n), l.drop n, true) := by
  induction d with
  | zero =>
    intro i k hd hk
    obtain ⟨k, rfl⟩ : ∃ q, k = q + 1 := ⟨k - 1, by omega⟩
    obtain rfl : i = n := by omega
    simp only [rickref04_Take.l0]
    rw [if_neg (by omega), if_pos (by omega), if_pos (by omega), Int.toNat_natCast]
  | succ d ih =>
    intro i k hd hk
    obtain ⟨k, rfl⟩ : ∃ q, k = q + 1 := ⟨k - 1, by omega⟩
    have hlt : i < l.length := by omega
    have hbi : Bits (l.take (i + 1)) := fun x hx => hb x (List.mem_of_mem_take hx)
    have hr := valB_range hbi
    have hr0 := valB_range (l := l.take i) (fun x hx => hb x (List.mem_of_mem_take hx))
    rw [List.length_take, show min (i + 1) l.length = i + 1 by omega] at hr
    have hp := pow_le64 (n := i + 1) (by omega)
    rw [List.take_succ_eq_append_getElem hlt, valB_snoc] at hr
    have hbit := hb _ (List.getElem_mem hlt)
    simp only [rickref04_Take.l0]
    rw [if_pos (by omega), if_pos (by omega), if_pos (by omega), rd_get hlt, wrap_u64_id (n := valB (l.take i) * 2) (by omega) (by omega), wrap_u64_id (n := l[i]) (by omega) (by omega), wrap_u64_id (by omega) (by omega), ← valB_snoc, ← List.take_succ_eq_append_getElem hlt, succ64 (by omega)]
    exact ih (i + 1) k (by omega) (by omega)
theorem reftake_spec {k : Nat} {l : List Int} {m : Int} (hb : Bits l) (hl : l.length < 1000000000000) (hk : 64 < k) :
    rickref04_Take.f k l m = some (if cl m ≤ l.length then (valB (l.take (cl m)), l.drop (cl m), true) else (0, l, false)) := by
  unfold rickref04_Take.f
  rw [cl_eq]
  have := cl_le m
  by_cases h : cl m ≤ l.length
  · rw [if_neg (by omega), if_pos h]
    have := reftake_l0 hb (cl m) (by omega) h hl (cl m) 0 k (by omega) (by omega)
    simpa [valB] using this
  · rw [if_pos (by omega), if_neg h]

theorem or_one {x b : Int} (h0 : 0 ≤ x) (h1 : x % 2 = 0) (h2 : x < 18446744073709551616) (hb : b = 0 ∨ b = 1) : Go.bits .or .u64 x b = x + b :=
  or_join 1 h0 (by simpa using h1) h2 (by omega) (by simp; omega) (by omega)
theorem take_l0 {b : List Int} (hb : Bs b) (hl : b.length < 1000000000000) (n at0 : Nat) (hn : n ≤ 64) (hnl : at0 + n ≤ 8 * b.length) (d : Nat) : ∀ (i k : Nat), i + d = n → d < k →
    bits_Reader_Take.l0 k (valB (((bitsOf b).drop at0).take i)) (n : Int) (i : Int) b ((at0 + i : Nat) : Int) false = some (valB (((bitsOf b).drop at0).take n), ((at0 + n : Nat) : Int), false) := by
  induction d with
  | zero =>
    intro i k hd hk
    obtain ⟨k, rfl⟩ : ∃ q, k = q + 1 := ⟨k - 1, by omega⟩
    obtain rfl : i = n := by omega
    simp only [bits_Reader_Take.l0]
    rw [if_neg (by omega)]
  | succ d ih =>
    intro i k hd hk
    obtain ⟨k, rfl⟩ : ∃ q, k = q + 1 := ⟨k - 1, by omega⟩
    obtain ⟨e1, e2⟩ := idx8 (i := at0 + i) (by omega)
    have hlen : ((bitsOf b).drop at0).length = 8 * b.length - at0 := by rw [List.length_drop, bitsOf_len]
    have hlt : i < ((bitsOf b).drop at0).length := by omega
    have hB := bitsOf_bits b
    have hbd : Bits ((bitsOf b).drop at0) := fun x hx => hB x (List.mem_of_mem_drop hx)
    have hr := valB_range (l := ((bitsOf b).drop at0).take (i + 1)) (fun x hx => hbd x (List.mem_of_mem_take hx))
    have hr0 := valB_range (l := ((bitsOf b).drop at0).take i) (fun x hx => hbd x (List.mem_of_mem_take hx))
    rw [List.length_take, show min (i + 1) ((bitsOf b).drop at0).length = i + 1 by omega] at hr
    have hp := pow_le64 (n := i + 1) (by omega)
    rw [List.take_succ_eq_append_getElem hlt, valB_snoc] at hr
    have hbit := hbd _ (List.getElem_mem hlt)
    have hget : ((bitsOf b).drop at0)[i] = bitAt b (at0 + i) := by rw [List.getElem_drop, bitsOf_get]
    simp only [bits_Reader_Take.l0]
    rw [if_pos (by omega), e1, e2, if_pos (by omega), if_pos (by omega), if_pos (by omega), bit_u8 hb (by omega), ← hget, wrap_u64_id (n := valB _ * 2) (by omega) (by omega), wrap_u64_id (n := ((bitsOf b).drop at0)[i]) (by omega) (by omega), or_one (by omega) (by omega) (by omega) hbit, ← valB_snoc, ← List.take_succ_eq_append_getElem hlt, succ64 (by omega), succ64 (by omega)]
    exact ih (i + 1) k (by omega) (by omega)
theorem left_spec {b : List Int} {at0 : Nat} (hl : b.length < 1000000000000) (ha : at0 ≤ 8 * b.length) : bits_Reader_Left.f b (at0 : Int) false = some (((8 * b.length - at0 : Nat) : Int), (at0 : Int), false) := by
  unfold bits_Reader_Left.f
  have e : wrap64 (wrap64 (8 * (b.length : Int)) - (at0 : Int)) = ((8 * b.length - at0 : Nat) : Int) := by
    rw [wrap64_id (n := 8 * (b.length : Int)) (by omega) (by omega), wrap64_id (by omega) (by omega)]; omega
  rw [e]
theorem held_spec (m : Int) : bits_held.f m = some (cl m : Int) := by unfold bits_held.f; rw [cl_eq]
theorem take_bad {k : Nat} {b : List Int} {m at0 : Int} : bits_Reader_Take.f k b at0 true m = some (0, at0, true) := by
  unfold bits_Reader_Take.f
  exact if_pos rfl
theorem take_short {k : Nat} {b : List Int} {m : Int} {at0 : Nat} (hl : b.length < 1000000000000) (ha : at0 ≤ 8 * b.length) (h : ¬ at0 + cl m ≤ 8 * b.length) : bits_Reader_Take.f k b (at0 : Int) false m = some (0, (at0 : Int), true) := by
  unfold bits_Reader_Take.f
  rw [if_neg (by decide), held_spec, Option.bind_some, left_spec hl ha, Option.bind_some]
  exact if_pos (by omega)
theorem take_ok {k : Nat} {b : List Int} {m : Int} {at0 : Nat} (hb : Bs b) (hl : b.length < 1000000000000) (h : at0 + cl m ≤ 8 * b.length) (hk : 64 < k) : bits_Reader_Take.f k b (at0 : Int) false m = some (valB (((bitsOf b).drop at0).take (cl m)), ((at0 + cl m : Nat) : Int), false) := by
  have hc := cl_le m
  unfold bits_Reader_Take.f
  rw [if_neg (by decide), held_spec, Option.bind_some, left_spec hl (by omega), Option.bind_some]
  refine (if_neg (by omega)).trans ?_
  exact take_l0 hb hl (cl m) at0 (by omega) h (cl m) 0 k (by omega) (by omega)
end Go.Proofs.Ytmlbppfcpejlpaa.Q04

/- Whole numbers told by bits at a place. No conditions. -/
namespace Go.Proofs.Ytmlbppfcpejlpaa.Q06
open Go Go.RowKit Go.Proofs.YtmlbppfcpejlpaaW.PrintWords Go.Proofs.YtmlbppfcpejlpaaW.PrintMore Go.Proofs.Ytmlbppfcpejlpaa.S Go.Proofs.Ytmlbppfcpejlpaa.B Go.Proofs.Ytmlbppfcpejlpaa.X Go.Proofs.Ytmlbppfcpejlpaa.Q04
set_option linter.unusedVariables false
set_option linter.unusedSimpArgs false

/-- The number of the n bits at a place. -/
def gv (b : List Int) (at0 n : Nat) : Int := valB (((bitsOf b).drop at0).take n)
theorem gv_range (b : List Int) (at0 n : Nat) : 0 ≤ gv b at0 n ∧ gv b at0 n < 2 ^ n := by
  have hb : Bits (((bitsOf b).drop at0).take n) := fun x hx => bitsOf_bits b x (List.mem_of_mem_drop (List.mem_of_mem_take hx))
  have h := valB_range hb
  refine ⟨h.1, Int.lt_of_lt_of_le h.2 ?_⟩
  exact_mod_cast Nat.pow_le_pow_right (by decide) (List.length_take_le _ _)
theorem gv_range64 (b : List Int) (at0 : Nat) {n : Nat} (hn : n ≤ 64) : 0 ≤ gv b at0 n ∧ gv b at0 n < 18446744073709551616 := by
  have h := gv_range b at0 n
  have := pow_le64 hn
  omega
theorem cl_id {m : Int} (h0 : 0 ≤ m) (h1 : m ≤ 64) : cl m = m.toNat := by unfold cl mn mx; split <;> split <;> omega
theorem take_good {b : List Int} {m : Int} {at0 : Nat} (hb : Bs b) (hl : b.length < 1000000000000) (h0 : 0 ≤ m) (h1 : m ≤ 64) (h : at0 + m.toNat ≤ 8 * b.length) :
    bits_Reader_Take.f 65 b (at0 : Int) false m = some (gv b at0 m.toNat, ((at0 + m.toNat : Nat) : Int), false) := by
  have := take_ok (k := 65) (m := m) hb hl (by rw [cl_id h0 h1]; exact h) (by omega)
  rw [cl_id h0 h1] at this
  exact this
theorem take_any {b : List Int} {m : Int} {at0 : Nat} {bad : Bool} (hb : Bs b) (hl : b.length < 1000000000000) (ha : at0 ≤ 8 * b.length) (h0 : 0 ≤ m) (h1 : m ≤ 64) :
    ∃ (tv : Int) (a1 : Nat) (bad1 : Bool), bits_Reader_Take.f 65 b (at0 : Int) bad m = some (tv, (a1 : Int), bad1) ∧ 0 ≤ tv ∧ tv < 18446744073709551616 ∧ a1 ≤ 8 * b.length ∧
      ((bad = true ∧ bad1 = true ∧ tv = 0 ∧ a1 = at0) ∨ (bad = false ∧ bad1 = false ∧ at0 + m.toNat ≤ 8 * b.length ∧ a1 = at0 + m.toNat ∧ tv = gv b at0 m.toNat) ∨ (bad = false ∧ bad1 = true ∧ 8 * b.length < at0 + m.toNat ∧ tv = 0 ∧ a1 = at0)) := by
  cases bad with
  | true => exact ⟨0, at0, true, take_bad, by omega, by omega, ha, .inl ⟨rfl, rfl, rfl, rfl⟩⟩
  | false =>
    by_cases h : at0 + m.toNat ≤ 8 * b.length
    · have := gv_range64 b at0 (n := m.toNat) (by omega)
      exact ⟨_, _, false, take_good hb hl h0 h1 h, this.1, this.2, h, .inr (.inl ⟨rfl, rfl, h, rfl, rfl⟩)⟩
    · exact ⟨0, at0, true, take_short hl ha (by rw [cl_id h0 h1]; exact h), by omega, by omega, ha, .inr (.inr ⟨rfl, rfl, by omega, rfl, rfl⟩)⟩
theorem gv_byte {b : List Int} (hb : Bs b) {q : Nat} (hq : q < b.length) : gv b (8 * q) 8 = b[q] := by
  have e : ((bitsOf b).drop (8 * q)).take 8 = (List.range 8).map (fun j => bitAt b (8 * q + j)) := by
    apply List.ext_getElem
    · rw [List.length_take, List.length_drop, bitsOf_len, List.length_map, List.length_range]; omega
    · intro i h1 h2
      rw [List.getElem_take, List.getElem_drop, bitsOf_get, List.getElem_map, List.getElem_range]
  obtain ⟨r0, r1⟩ := hb _ (List.getElem_mem hq)
  have hbit : ∀ j, j < 8 → bitAt b (8 * q + j) = b[q] / 2 ^ (7 - j) % 2 := fun j hj => by
    unfold bitAt
    rw [show (8 * q + j) / 8 = q by omega, show (8 * q + j) % 8 = j by omega, List.getD_eq_getElem?_getD, List.getElem?_eq_getElem hq]; rfl
  unfold gv
  rw [e, show List.range 8 = [0, 1, 2, 3, 4, 5, 6, 7] by rfl]
  simp only [List.map_cons, List.map_nil, valB, List.foldl_cons, List.foldl_nil]
  rw [hbit 0 (by omega), hbit 1 (by omega), hbit 2 (by omega), hbit 3 (by omega), hbit 4 (by omega), hbit 5 (by omega), hbit 6 (by omega), hbit 7 (by omega)]
  generalize b[q] = y at *
  simp only [Nat.reduceSub, show (2 : Int) ^ 7 = 128 by decide, show (2 : Int) ^ 6 = 64 by decide, show (2 : Int) ^ 5 = 32 by decide, show (2 : Int) ^ 4 = 16 by decide, show (2 : Int) ^ 3 = 8 by decide, show (2 : Int) ^ 2 = 4 by decide, show (2 : Int) ^ 1 = 2 by decide, show (2 : Int) ^ 0 = 1 by decide]
  omega
def okB (l : List Int) : Bool := l.all (fun x => decide (0 ≤ x ∧ x < 256)) && decide (l.length < 1000000000)
theorem okB_bs {l : List Int} (h : okB l = true) : Bs l ∧ l.length < 1000000000 := by
  unfold okB at h
  rw [Bool.and_eq_true] at h
  exact ⟨fun x hx => by simpa using List.all_eq_true.1 h.1 x hx, by simpa using h.2⟩
theorem bs_okB {l : List Int} (h : Bs l) (hl : l.length < 1000000000) : okB l = true := by
  unfold okB
  rw [Bool.and_eq_true]
  exact ⟨List.all_eq_true.2 (fun x hx => by simpa using h x hx), by simpa using hl⟩
end Go.Proofs.Ytmlbppfcpejlpaa.Q06

-- Printed by this session's own program (wip/xprint.py) over the translation; its external functions are hand-written. Lean checks it.
namespace Go.Proofs.Ytmlbppfcpejlpaa.X
open Go.RowKit Go.Proofs.YtmlbppfcpejlpaaW.PrintWords Go.Proofs.YtmlbppfcpejlpaaW.PrintLast Go.Proofs.YtmlbppfcpejlpaaW.PrintMore
attribute [local go_sem] max2_int min2_int max_two min_two max_three min_three max_four min_four   -- for this text's walks alone
set_option linter.unusedVariables false
set_option linter.unusedSimpArgs false

/-! ### bytes_Equal: function 66 -/
def bytes_Equal.f (l0 : List Int) (l1 : List Int) : Option (Bool) := some ((strOfNums l0).toList == (strOfNums l1).toList)
set_option maxHeartbeats 8000000 in
set_option maxRecDepth 100000 in
theorem bytes_Equal.calls (A0 : Option Addr) (c0 : Nat) (l0 : List Int) (A1 : Option Addr) (c1 : Nat) (l1 : List Int) (r : Bool) (w : World) (hr0 : Kd.C (Kd.int .u8) w A0 l0.length l0) (hc0 : l0.length ≤ c0) (hr1 : Kd.C (Kd.int .u8) w A1 l1.length l1) (hc1 : l1.length ≤ c1) (h : bytes_Equal.f l0 l1 = some r) :
    Calls Try.prog 66 #[.slice A0 l0.length c0, .slice A1 l1.length c1] w fun e w' => e = .returned (.bool r) ∧ Drawn0 w w' := by
  have HR0 := Aside0.mk hr0
  have HC0 := Aside0.mk hc0
  clear hr0 hc0
  have HR1 := Aside0.mk hr1
  have HC1 := Aside0.mk hc1
  clear hr1 hc1
  have H : (some ((strOfNums l0).toList == (strOfNums l1).toList)) = some r := h
  clear h
  obtain rfl := Option.some.inj H
  have hcv3 := Kd.C_string (P := Try.prog) (A := A0) (c := c0) Try.underlying22 Try.underlying5 Try.underlying9 HR0.out
  have hcv4 := Kd.C_string (P := Try.prog) (A := A1) (c := c1) Try.underlying22 Try.underlying5 Try.underlying9 HR1.out
  go_enter Try.func66, Try.ntmps66
  go_wp2
  go_ret
  exact ⟨by first | rfl | (simp; done) | (simp [*]; done), by repeat (first | exact Drawn0.refl _ | apply Drawn0.step)⟩

end Go.Proofs.Ytmlbppfcpejlpaa.X

-- Printed by this session's own program (wip/xprint.py) over the translation; its external functions are hand-written. Lean checks it.
namespace Go.Proofs.Ytmlbppfcpejlpaa.X
open Go.RowKit Go.Proofs.YtmlbppfcpejlpaaW.PrintWords Go.Proofs.YtmlbppfcpejlpaaW.PrintLast Go.Proofs.YtmlbppfcpejlpaaW.PrintMore
attribute [local go_sem] max2_int min2_int max_two min_two max_three min_three max_four min_four   -- for this text's walks alone
set_option linter.unusedVariables false
set_option linter.unusedSimpArgs false

/-! ### bytes_HasPrefix: function 60 -/
def bytes_HasPrefix.f (l0 : List Int) (l1 : List Int) : Option (Bool) := if (l0.length : Int) ≥ (l1.length : Int) then (if 0 ≤ (l1.length : Int) then (if (l1.length : Int) ≤ (l0.length : Int) then ((bytes_Equal.f (l0.take ((l1.length : Int) : Int).toNat) l1).bind fun t311 => (some t311)) else (none)) else (none)) else (some false)
set_option maxHeartbeats 8000000 in
set_option maxRecDepth 100000 in
theorem bytes_HasPrefix.calls (A0 : Option Addr) (c0 : Nat) (l0 : List Int) (A1 : Option Addr) (c1 : Nat) (l1 : List Int) (r : Bool) (w : World) (hr0 : Kd.C (Kd.int .u8) w A0 l0.length l0) (hc0 : l0.length ≤ c0) (hr1 : Kd.C (Kd.int .u8) w A1 l1.length l1) (hc1 : l1.length ≤ c1) (h : bytes_HasPrefix.f l0 l1 = some r) :
    Calls Try.prog 60 #[.slice A0 l0.length c0, .slice A1 l1.length c1] w fun e w' => e = .returned (.bool r) ∧ Drawn0 w w' := by
  have HR0 := Aside0.mk hr0
  have HC0 := Aside0.mk hc0
  clear hr0 hc0
  have HR1 := Aside0.mk hr1
  have HC1 := Aside0.mk hc1
  clear hr1 hc1
  have H : (if (l0.length : Int) ≥ (l1.length : Int) then (if 0 ≤ (l1.length : Int) then (if (l1.length : Int) ≤ (l0.length : Int) then ((bytes_Equal.f (l0.take ((l1.length : Int) : Int).toNat) l1).bind fun t311 => (some t311)) else (none)) else (none)) else (some false)) = some r := h
  clear h
  by_cases c3 : (l0.length : Int) ≥ (l1.length : Int)
  · rw [if_pos c3] at H
    have c3b0 : decide ((l1.length : Int) ≤ (l0.length : Int)) = true := decide_eq_true c3
    have c3b1 : decide (l1.length ≤ l0.length) = true := decide_eq_true (Int.ofNat_le.mp c3)
    clear c3
    by_cases c4 : 0 ≤ (l1.length : Int)
    · rw [if_pos c4] at H
      have c4b0 := eq_true c4
      have c4b1 : decide (0 ≤ (l1.length : Int)) = true := decide_eq_true c4
      clear c4
      by_cases c5 : (l1.length : Int) ≤ (l0.length : Int)
      · rw [if_pos c5] at H
        have c5b0 := eq_true c5
        have c5b1 : decide ((l1.length : Int) ≤ (l0.length : Int)) = true := decide_eq_true c5
        clear c5
        replace H := Option.bind_eq_some_iff.mp H
        obtain ⟨t311, A60, H⟩ := H
        replace H : (some t311) = some r := H
        have A6 := Aside0.mk A60
        clear A60
        obtain rfl := Option.some.inj H
        obtain ⟨i07, hi07, _, hsz7, _⟩ := info_parts info5
        obtain ⟨hcut7, hA7, hC7⟩ := print_take_of (P := Try.prog) (Value.int .u8) 0 22 5 .i64 Try.underlying22 hi07 hsz7 A0 c0 l0 (l1.length : Int) (of_decide_eq_true (by first | (with_reducible assumption) | assumption)) (of_decide_eq_true (by first | (with_reducible assumption) | assumption)) HC0.out
        have HR310 := Aside0.mk (Kd.C_of_reads (h1 := fun _ => rfl) (hA7 _ (Kd.reads_of_C HR0.out)))
        have HC310 := Aside0.mk hC7
        clear hA7 hC7 hi07 hsz7
        obtain ⟨yq7, hyq7⟩ : ∃ y_ : List Int, y_ = l0.take ((l1.length : Int) : Int).toNat := ⟨_, rfl⟩
        rw [← hyq7] at hcut7 HR310 HC310
        have eyq7 : (l0.take ((l1.length : Int) : Int).toNat) = yq7 := hyq7.symm
        (try rw [eyq7] at A6)
        (try rw [eyq7] at H)
        (try rw [eyq7] at c5b1)
        (try rw [eyq7] at c5b0)
        (try rw [eyq7] at c4b1)
        (try rw [eyq7] at c4b0)
        (try rw [eyq7] at c3b1)
        (try rw [eyq7] at c3b0)
        (try rw [eyq7] at HC1)
        (try rw [eyq7] at HC0)
        have Nyq7 := Aside0.mk hyq7
        clear eyq7 hyq7
        go_enter Try.func60, Try.ntmps60
        go_wp2_with (first | (go_at_call 66; (with_reducible refine (bytes_Equal.calls _ _ yq7 _ _ l1 t311 _ ?side1 ?side2 ?side3 ?side4 A6.out).mono ?_); (case side1 => repeat (first | exact HR310.out | (with_reducible refine Kd.C_alloc ?_ _) | (with_reducible refine Kd.C_drewN ?_ _) | (with_reducible refine Kd.C_drew ?_))); (case side2 => exact HC310.out); (case side3 => repeat (first | exact HR1.out | (with_reducible refine Kd.C_alloc ?_ _) | (with_reducible refine Kd.C_drewN ?_ _) | (with_reducible refine Kd.C_drew ?_))); (case side4 => exact HC1.out); rintro e w' ⟨rfl, ⟨nd, rfl⟩⟩))
        go_ret
        exact ⟨by first | rfl | (simp; done) | (simp [*]; done), by repeat (first | exact Drawn0.refl _ | apply Drawn0.step)⟩
      · rw [if_neg c5] at H
        exact absurd H (by simp)
    · rw [if_neg c4] at H
      exact absurd H (by simp)
  · rw [if_neg c3] at H
    have c3b0 : decide ((l1.length : Int) ≤ (l0.length : Int)) = false := decide_eq_false c3
    have c3b1 : decide (l1.length ≤ l0.length) = false := decide_eq_false (fun h => c3 (Int.ofNat_le.mpr h))
    clear c3
    obtain rfl := Option.some.inj H
    go_enter Try.func60, Try.ntmps60
    go_wp2
    go_ret
    exact ⟨by first | rfl | (simp; done) | (simp [*]; done), by repeat (first | exact Drawn0.refl _ | apply Drawn0.step)⟩

end Go.Proofs.Ytmlbppfcpejlpaa.X

/- Bytes of whole numbers, laid end to end; prefixes. No conditions. -/
namespace Go.Proofs.Ytmlbppfcpejlpaa.Q06
open Go Go.RowKit Go.Proofs.YtmlbppfcpejlpaaW.PrintWords Go.Proofs.YtmlbppfcpejlpaaW.PrintMore Go.Proofs.Ytmlbppfcpejlpaa.S Go.Proofs.Ytmlbppfcpejlpaa.B Go.Proofs.Ytmlbppfcpejlpaa.X Go.Proofs.Ytmlbppfcpejlpaa.Q04
set_option linter.unusedVariables false
set_option linter.unusedSimpArgs false

theorem getD_append_left {a b : List Int} {i : Nat} (h : i < a.length) : (a ++ b).getD i 0 = a.getD i 0 := by
  simp only [List.getD_eq_getElem?_getD, List.getElem?_append_left h]
theorem getD_append_right {a b : List Int} {i : Nat} (h : a.length ≤ i) : (a ++ b).getD i 0 = b.getD (i - a.length) 0 := by
  simp only [List.getD_eq_getElem?_getD, List.getElem?_append_right h]
theorem packB_append {a b : List Int} (h : a.length % 8 = 0) : packB (a ++ b) = packB a ++ packB b := by
  apply List.ext_getElem
  · rw [packB_len, List.length_append, List.length_append, packB_len, packB_len]; omega
  · intro i h1 h2
    have e : ∀ (l : List Int) (i : Nat) (h : i < (packB l).length), (packB l)[i] = byteAt l i := fun l i h => by simp [packB, rows]
    rw [e, List.getElem_append]
    split
    · rename_i hi
      rw [packB_len] at hi
      rw [e]
      unfold byteAt
      repeat rw [getD_append_left (by omega)]
    · rename_i hi
      rw [packB_len] at hi
      rw [e]
      unfold byteAt
      have q : ∀ j, (a ++ b).getD (8 * i + j) 0 = b.getD (8 * (i - (packB a).length) + j) 0 := fun j => by
        rw [getD_append_right (by omega), packB_len]; congr 1; omega
      have q0 := q 0
      simp only [Nat.add_zero] at q0
      rw [q0, q 1, q 2, q 3, q 4, q 5, q 6, q 7]
theorem bitsN_getD (n : Nat) (v : Int) : ∀ j, j < n → (bitsN n v).getD j 0 = v / 2 ^ (n - 1 - j) % 2 := by
  induction n with
  | zero => intro j h; omega
  | succ n ih =>
    intro j h
    cases j with
    | zero => simp [bitsN]
    | succ j =>
      have := ih j (by omega)
      rw [bitsN, List.getD_cons_succ, this, show n + 1 - 1 - (j + 1) = n - 1 - j by omega]
theorem byte_split (y : Int) : y / 128 % 2 * 128 + y / 64 % 2 * 64 + y / 32 % 2 * 32 + y / 16 % 2 * 16 + y / 8 % 2 * 8 + y / 4 % 2 * 4 + y / 2 % 2 * 2 + y % 2 = y % 256 := by omega
theorem packB_bitsN (m : Nat) (v : Int) : packB (bitsN (8 * m) v) = (List.range m).map (fun i => v / 2 ^ (8 * (m - 1 - i)) % 256) := by
  apply List.ext_getElem
  · rw [packB_len, bitsN_len, List.length_map, List.length_range]; omega
  · intro i h1 h2
    rw [List.length_map, List.length_range] at h2
    rw [List.getElem_map, List.getElem_range]
    have e : (packB (bitsN (8 * m) v))[i] = byteAt (bitsN (8 * m) v) i := by simp [packB, rows]
    rw [e, ← byte_split]
    unfold byteAt
    have q : ∀ j, j < 8 → (bitsN (8 * m) v).getD (8 * i + j) 0 = v / 2 ^ (8 * (m - 1 - i)) / 2 ^ (7 - j) % 2 := fun j hj => by
      rw [bitsN_getD _ _ _ (by omega), Int.ediv_ediv_of_nonneg (Int.pow_nonneg (by omega)), ← Int.pow_add]
      congr 3; omega
    have q0 := q 0 (by omega)
    simp only [Nat.add_zero] at q0
    rw [q0, q 1 (by omega), q 2 (by omega), q 3 (by omega), q 4 (by omega), q 5 (by omega), q 6 (by omega), q 7 (by omega)]
    simp only [Nat.reduceSub, show (2 : Int) ^ 7 = 128 by decide, show (2 : Int) ^ 6 = 64 by decide, show (2 : Int) ^ 5 = 32 by decide, show (2 : Int) ^ 4 = 16 by decide, show (2 : Int) ^ 3 = 8 by decide, show (2 : Int) ^ 2 = 4 by decide, show (2 : Int) ^ 1 = 2 by decide, show (2 : Int) ^ 0 = 1 by decide, Int.ediv_one]
theorem packB_8 {v : Int} (h0 : 0 ≤ v) (h1 : v < 256) : packB (bitsN 8 v) = [v] := by
  have := packB_bitsN 1 v
  simp at this
  rw [this, Int.emod_eq_of_lt h0 h1]
theorem bitsOf_append (a b : List Int) : bitsOf (a ++ b) = bitsOf a ++ bitsOf b := by
  apply List.ext_getElem
  · simp only [bitsOf_len, List.length_append]; omega
  · intro i h1 h2
    rw [bitsOf_get, List.getElem_append]
    split
    · rename_i hi
      rw [bitsOf_len] at hi
      rw [bitsOf_get]
      unfold bitAt
      rw [getD_append_left (by omega)]
    · rename_i hi
      rw [bitsOf_len] at hi
      rw [bitsOf_get]
      unfold bitAt
      rw [getD_append_right (by omega), bitsOf_len]
      congr 2
      · congr 1; omega
      · congr 1; omega
/-- Of bits that were laid as bytes, some are told at their place. -/
theorem gv_packB {L more : List Int} (hL : Bits L) {at0 n : Nat} (h : at0 + n ≤ L.length) : gv (packB L ++ more) at0 n = valB ((L.drop at0).take n) := by
  unfold gv
  rw [bitsOf_append, bitsOf_packB hL, List.append_assoc, List.drop_append_of_le_length (by omega), List.take_append_of_le_length (by rw [List.length_drop]; omega)]

theorem u8_inj {x y : Int} (hx : 0 ≤ x ∧ x < 256) (hy : 0 ≤ y ∧ y < 256) (h : UInt8.ofNat x.toNat = UInt8.ofNat y.toNat) : x = y := by
  have := congrArg UInt8.toNat h
  simp at this
  omega
theorem strOf_inj {a b : List Int} (ha : Bs a) (hb : Bs b) (h : (strOfNums a).toList = (strOfNums b).toList) : a = b := by
  rw [strOf_toList, strOf_toList] at h
  induction a generalizing b with
  | nil => cases b with | nil => rfl | cons y b => simp at h
  | cons x a ih =>
    cases b with
    | nil => simp at h
    | cons y b =>
      simp only [List.map_cons, List.cons.injEq] at h
      rw [u8_inj (ha x List.mem_cons_self) (hb y List.mem_cons_self) h.1, ih (fun z hz => ha z (List.mem_cons_of_mem _ hz)) (fun z hz => hb z (List.mem_cons_of_mem _ hz)) h.2]
theorem prefix_yes (b more : List Int) : bytes_HasPrefix.f (b ++ more) b = some true := by
  unfold bytes_HasPrefix.f
  rw [if_pos (by rw [List.length_append]; omega), if_pos (by omega), if_pos (by rw [List.length_append]; omega), Int.toNat_natCast, List.take_left]
  simp [bytes_Equal.f]
theorem prefix_spec {a b : List Int} (ha : Bs a) (hb : Bs b) : bytes_HasPrefix.f a b = some (decide (a.take b.length = b)) := by
  unfold bytes_HasPrefix.f
  by_cases h : b.length ≤ a.length
  · rw [if_pos (by omega), if_pos (by omega), if_pos (by omega), Int.toNat_natCast]
    simp only [bytes_Equal.f, Option.bind_some]
    congr 1
    by_cases e : a.take b.length = b
    · rw [e]; simp
    · rw [decide_eq_false e]
      rw [beq_eq_false_iff_ne]
      exact fun h => e (strOf_inj (ha.take _) hb h)
  · rw [if_neg (by omega), decide_eq_false]
    intro e
    have := congrArg List.length e
    rw [List.length_take] at this
    omega
end Go.Proofs.Ytmlbppfcpejlpaa.Q06

/- A row of bits that begins at a place of bytes, and numbers taken from there. No conditions. -/
namespace Go.Proofs.Ytmlbppfcpejlpaa.Q06
open Go Go.RowKit Go.Proofs.YtmlbppfcpejlpaaW.PrintWords Go.Proofs.YtmlbppfcpejlpaaW.PrintMore Go.Proofs.Ytmlbppfcpejlpaa.S Go.Proofs.Ytmlbppfcpejlpaa.B Go.Proofs.Ytmlbppfcpejlpaa.X Go.Proofs.Ytmlbppfcpejlpaa.Q04
set_option linter.unusedVariables false
set_option linter.unusedSimpArgs false

/-- The bits from a place on begin with P. -/
def Starts (b : List Int) (a : Nat) (P : List Int) : Prop := a ≤ 8 * b.length ∧ ∃ R, (bitsOf b).drop a = P ++ R
theorem Starts.of {L : List Int} (hL : Bits L) (more : List Int) : Starts (packB L ++ more) 0 L := by
  refine ⟨Nat.zero_le _, List.replicate (8 * (packB L).length - L.length) 0 ++ bitsOf more, ?_⟩
  rw [bitsOf_append, bitsOf_packB hL, List.drop_zero, List.append_assoc]
theorem Starts.le {b : List Int} {a : Nat} {P : List Int} (h : Starts b a P) : a + P.length ≤ 8 * b.length := by
  obtain ⟨h0, R, hR⟩ := h
  have := congrArg List.length hR
  rw [List.length_drop, bitsOf_len, List.length_append] at this
  omega
theorem Starts.next {b : List Int} {a : Nat} {P Q : List Int} (h : Starts b a (P ++ Q)) : Starts b (a + P.length) Q := by
  have hle := h.le
  obtain ⟨h0, R, hR⟩ := h
  refine ⟨by rw [List.length_append] at hle; omega, R, ?_⟩
  rw [← List.drop_drop, hR, List.append_assoc, List.drop_left]
theorem Starts.left {b : List Int} {a : Nat} {P Q : List Int} (h : Starts b a (P ++ Q)) : Starts b a P := by
  obtain ⟨h0, R, hR⟩ := h
  exact ⟨h0, Q ++ R, by rw [hR, List.append_assoc]⟩
theorem Starts.take {b : List Int} (hb : Bs b) (hl : b.length < 1000000000) {a n : Nat} {v m : Int} {Q : List Int} (h : Starts b a (bitsN n v ++ Q)) (hn : n ≤ 64) (hm : m = (n : Int)) (hv : 0 ≤ v) (k : Nat) (hk : 64 < k) :
    bits_Reader_Take.f k b (a : Int) false m = some (v % 2 ^ n, ((a + n : Nat) : Int), false) ∧ Starts b (a + n) Q := by
  have hc : cl m = n := by rw [cl_id (by omega) (by omega)]; omega
  have hle := h.left.le
  rw [bitsN_len] at hle
  have h2 := h.next
  rw [bitsN_len] at h2
  refine ⟨?_, h2⟩
  rw [take_ok hb (by omega) (by rw [hc]; exact hle) hk, hc]
  obtain ⟨_, R, hR⟩ := h
  rw [hR, List.append_assoc, List.take_append_of_le_length (by rw [bitsN_len]; exact Nat.le_refl _), List.take_of_length_le (by rw [bitsN_len]; exact Nat.le_refl _), valB_bitsN n hv]
end Go.Proofs.Ytmlbppfcpejlpaa.Q06
