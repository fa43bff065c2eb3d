/-
  No cell of these rows narrows 'for every input' (looked for: loops, veiled, ifaces, maps, wideKeys, modest, calm, conditions, laid).
  DERIVED. THE GIVEN ROWS OF THIS SEAT. 14 by the template 'for every input the law returns true; each argument reads behind the call as it read before'; 0 by the template 'total and deterministic' (their statements: YtmlbppfcpejlpaaTotals.lean).
  GIVEN WITH THE SEED: the statements are not yours to turn. If you find one false, say at which input.
  Laid BY PROGRAM, IN A SANDBOX (cutbox-rows.mjs): the forced cells as the released guide's own fill.sh prints them over the translation f48ff7eb9a372e90… (all of the seat's roots in one cut). By AI agents, Wed Nov 11 2026. No macro, syntax, notation, axiom, sorry.
-/
import Derived.Test.YtmlbppfcpejlpaaChecked
import GoSem.Claim
import GoSem.ClaimJoined
import GoSem.ClaimMapViews
import Derived.JoinedTies
import Derived.KernelRfl
namespace Go.Proofs.Ytmlbppfcpejlpaa
/- THE CELL 'sum', in the pinned program and in every row, IS THE sha256 OF THE DUMP (.gsa) THAT YtmlbppfcpejlpaaProg.lean LOADS. Nothing in Lean hashes anything: it is a label: what it is worth is what the hold of that sum in a sandbox is worth. -/
noncomputable def Try.pinned : Pinned := { name := "ytmlbppfcpejlpaa", sum := "f48ff7eb9a372e90231274c829a3f4c32fcd024ba6fec024369e0e4413d299bd", checked := Try.checked }
namespace Rows
def none {H : Type} : Left H := { results := [], args := [] }

/-- 'ricklaw05.VarintPuts': WHATEVER THE INPUT: true; the input reads as it did. -/
def varintPutsSpec : ChangeSpec := { name := "varintPuts", fn := fun _ => fun
  | [d1, d2, d3] => { results := [.lit (.bool true)], args := [d1, d2, d3] }
  | _ => none }
def varintPutsRow : OpenClaim := { program := "ytmlbppfcpejlpaa", sum := "f48ff7eb9a372e90231274c829a3f4c32fcd024ba6fec024369e0e4413d299bd", func := "rick/ricklaw05.VarintPuts", spec := "varintPuts", apart := false }
def VarintPutsSaid : Prop := varintPutsRow.holds Try.pinned (OpenSpec.ofChange varintPutsSpec)

/-- ITS FALSE NEIGHBOUR: 'it returns false'. Refute it at one input. -/
def varintPutsWrong : ChangeSpec := { name := "varintPuts", fn := fun _ => fun
  | [d1, d2, d3] => { results := [.lit (.bool false)], args := [d1, d2, d3] }
  | _ => none }
def VarintPutsWrongFalsely : Prop := varintPutsRow.holds Try.pinned (OpenSpec.ofChange varintPutsWrong)

/-- 'ricklaw05.VarintZigs': WHATEVER THE INPUT: true; the input reads as it did. -/
def varintZigsSpec : ChangeSpec := { name := "varintZigs", fn := fun _ => fun
  | [d1, d2] => { results := [.lit (.bool true)], args := [d1, d2] }
  | _ => none }
def varintZigsRow : OpenClaim := { program := "ytmlbppfcpejlpaa", sum := "f48ff7eb9a372e90231274c829a3f4c32fcd024ba6fec024369e0e4413d299bd", func := "rick/ricklaw05.VarintZigs", spec := "varintZigs", apart := false }
def VarintZigsSaid : Prop := varintZigsRow.holds Try.pinned (OpenSpec.ofChange varintZigsSpec)

/-- ITS FALSE NEIGHBOUR: 'it returns false'. Refute it at one input. -/
def varintZigsWrong : ChangeSpec := { name := "varintZigs", fn := fun _ => fun
  | [d1, d2] => { results := [.lit (.bool false)], args := [d1, d2] }
  | _ => none }
def VarintZigsWrongFalsely : Prop := varintZigsRow.holds Try.pinned (OpenSpec.ofChange varintZigsWrong)

/-- 'ricklaw05.VarintRows': WHATEVER THE INPUT: true; the input reads as it did. -/
def varintRowsSpec : ChangeSpec := { name := "varintRows", fn := fun _ => fun
  | [d] => { results := [.lit (.bool true)], args := [d] }
  | _ => none }
def varintRowsRow : OpenClaim := { program := "ytmlbppfcpejlpaa", sum := "f48ff7eb9a372e90231274c829a3f4c32fcd024ba6fec024369e0e4413d299bd", func := "rick/ricklaw05.VarintRows", spec := "varintRows", apart := false }
def VarintRowsSaid : Prop := varintRowsRow.holds Try.pinned (OpenSpec.ofChange varintRowsSpec)

/-- ITS FALSE NEIGHBOUR: 'it returns false'. Refute it at one input. -/
def varintRowsWrong : ChangeSpec := { name := "varintRows", fn := fun _ => fun
  | [d] => { results := [.lit (.bool false)], args := [d] }
  | _ => none }
def VarintRowsWrongFalsely : Prop := varintRowsRow.holds Try.pinned (OpenSpec.ofChange varintRowsWrong)

/-- 'ricklaw05.VarintLengths': WHATEVER THE INPUT: true; the input reads as it did. -/
def varintLengthsSpec : ChangeSpec := { name := "varintLengths", fn := fun _ => fun
  | [d] => { results := [.lit (.bool true)], args := [d] }
  | _ => none }
def varintLengthsRow : OpenClaim := { program := "ytmlbppfcpejlpaa", sum := "f48ff7eb9a372e90231274c829a3f4c32fcd024ba6fec024369e0e4413d299bd", func := "rick/ricklaw05.VarintLengths", spec := "varintLengths", apart := false }
def VarintLengthsSaid : Prop := varintLengthsRow.holds Try.pinned (OpenSpec.ofChange varintLengthsSpec)

/-- ITS FALSE NEIGHBOUR: 'it returns false'. Refute it at one input. -/
def varintLengthsWrong : ChangeSpec := { name := "varintLengths", fn := fun _ => fun
  | [d] => { results := [.lit (.bool false)], args := [d] }
  | _ => none }
def VarintLengthsWrongFalsely : Prop := varintLengthsRow.holds Try.pinned (OpenSpec.ofChange varintLengthsWrong)

/-- 'ricklaw04.BitsPuts': WHATEVER THE INPUT: true; the input reads as it did. -/
def bitsPutsSpec : ChangeSpec := { name := "bitsPuts", fn := fun _ => fun
  | [d] => { results := [.lit (.bool true)], args := [d] }
  | _ => none }
def bitsPutsRow : OpenClaim := { program := "ytmlbppfcpejlpaa", sum := "f48ff7eb9a372e90231274c829a3f4c32fcd024ba6fec024369e0e4413d299bd", func := "rick/ricklaw04.BitsPuts", spec := "bitsPuts", apart := false }
def BitsPutsSaid : Prop := bitsPutsRow.holds Try.pinned (OpenSpec.ofChange bitsPutsSpec)

/-- ITS FALSE NEIGHBOUR: 'it returns false'. Refute it at one input. -/
def bitsPutsWrong : ChangeSpec := { name := "bitsPuts", fn := fun _ => fun
  | [d] => { results := [.lit (.bool false)], args := [d] }
  | _ => none }
def BitsPutsWrongFalsely : Prop := bitsPutsRow.holds Try.pinned (OpenSpec.ofChange bitsPutsWrong)

/-- 'ricklaw04.BitsTakes': WHATEVER THE INPUT: true; the input reads as it did. -/
def bitsTakesSpec : ChangeSpec := { name := "bitsTakes", fn := fun _ => fun
  | [d1, d2] => { results := [.lit (.bool true)], args := [d1, d2] }
  | _ => none }
def bitsTakesRow : OpenClaim := { program := "ytmlbppfcpejlpaa", sum := "f48ff7eb9a372e90231274c829a3f4c32fcd024ba6fec024369e0e4413d299bd", func := "rick/ricklaw04.BitsTakes", spec := "bitsTakes", apart := false }
def BitsTakesSaid : Prop := bitsTakesRow.holds Try.pinned (OpenSpec.ofChange bitsTakesSpec)

/-- ITS FALSE NEIGHBOUR: 'it returns false'. Refute it at one input. -/
def bitsTakesWrong : ChangeSpec := { name := "bitsTakes", fn := fun _ => fun
  | [d1, d2] => { results := [.lit (.bool false)], args := [d1, d2] }
  | _ => none }
def BitsTakesWrongFalsely : Prop := bitsTakesRow.holds Try.pinned (OpenSpec.ofChange bitsTakesWrong)

/-- 'ricklaw04.BitsPlaces': WHATEVER THE INPUT: true; the input reads as it did. -/
def bitsPlacesSpec : ChangeSpec := { name := "bitsPlaces", fn := fun _ => fun
  | [d1, d2] => { results := [.lit (.bool true)], args := [d1, d2] }
  | _ => none }
def bitsPlacesRow : OpenClaim := { program := "ytmlbppfcpejlpaa", sum := "f48ff7eb9a372e90231274c829a3f4c32fcd024ba6fec024369e0e4413d299bd", func := "rick/ricklaw04.BitsPlaces", spec := "bitsPlaces", apart := false }
def BitsPlacesSaid : Prop := bitsPlacesRow.holds Try.pinned (OpenSpec.ofChange bitsPlacesSpec)

/-- ITS FALSE NEIGHBOUR: 'it returns false'. Refute it at one input. -/
def bitsPlacesWrong : ChangeSpec := { name := "bitsPlaces", fn := fun _ => fun
  | [d1, d2] => { results := [.lit (.bool false)], args := [d1, d2] }
  | _ => none }
def BitsPlacesWrongFalsely : Prop := bitsPlacesRow.holds Try.pinned (OpenSpec.ofChange bitsPlacesWrong)

/-- 'ricklaw09.RunsPuts': WHATEVER THE INPUT: true; the input reads as it did. -/
def runsPutsSpec : ChangeSpec := { name := "runsPuts", fn := fun _ => fun
  | [d1, d2] => { results := [.lit (.bool true)], args := [d1, d2] }
  | _ => none }
def runsPutsRow : OpenClaim := { program := "ytmlbppfcpejlpaa", sum := "f48ff7eb9a372e90231274c829a3f4c32fcd024ba6fec024369e0e4413d299bd", func := "rick/ricklaw09.RunsPuts", spec := "runsPuts", unfollowed := true, recurses := true, apart := false }
def RunsPutsSaid : Prop := runsPutsRow.holds Try.pinned (OpenSpec.ofChange runsPutsSpec)

/-- ITS FALSE NEIGHBOUR: 'it returns false'. Refute it at one input. -/
def runsPutsWrong : ChangeSpec := { name := "runsPuts", fn := fun _ => fun
  | [d1, d2] => { results := [.lit (.bool false)], args := [d1, d2] }
  | _ => none }
def RunsPutsWrongFalsely : Prop := runsPutsRow.holds Try.pinned (OpenSpec.ofChange runsPutsWrong)

/-- 'ricklaw09.RunsMany': WHATEVER THE INPUT: true; the input reads as it did. -/
def runsManySpec : ChangeSpec := { name := "runsMany", fn := fun _ => fun
  | [d1, d2] => { results := [.lit (.bool true)], args := [d1, d2] }
  | _ => none }
def runsManyRow : OpenClaim := { program := "ytmlbppfcpejlpaa", sum := "f48ff7eb9a372e90231274c829a3f4c32fcd024ba6fec024369e0e4413d299bd", func := "rick/ricklaw09.RunsMany", spec := "runsMany", unfollowed := true, recurses := true, apart := false }
def RunsManySaid : Prop := runsManyRow.holds Try.pinned (OpenSpec.ofChange runsManySpec)

/-- ITS FALSE NEIGHBOUR: 'it returns false'. Refute it at one input. -/
def runsManyWrong : ChangeSpec := { name := "runsMany", fn := fun _ => fun
  | [d1, d2] => { results := [.lit (.bool false)], args := [d1, d2] }
  | _ => none }
def RunsManyWrongFalsely : Prop := runsManyRow.holds Try.pinned (OpenSpec.ofChange runsManyWrong)

/-- 'ricklaw06.PackPuts': WHATEVER THE INPUT: true; the input reads as it did. -/
def packPutsSpec : ChangeSpec := { name := "packPuts", fn := fun _ => fun
  | [d1, d2] => { results := [.lit (.bool true)], args := [d1, d2] }
  | _ => none }
def packPutsRow : OpenClaim := { program := "ytmlbppfcpejlpaa", sum := "f48ff7eb9a372e90231274c829a3f4c32fcd024ba6fec024369e0e4413d299bd", func := "rick/ricklaw06.PackPuts", spec := "packPuts", apart := false }
def PackPutsSaid : Prop := packPutsRow.holds Try.pinned (OpenSpec.ofChange packPutsSpec)

/-- ITS FALSE NEIGHBOUR: 'it returns false'. Refute it at one input. -/
def packPutsWrong : ChangeSpec := { name := "packPuts", fn := fun _ => fun
  | [d1, d2] => { results := [.lit (.bool false)], args := [d1, d2] }
  | _ => none }
def PackPutsWrongFalsely : Prop := packPutsRow.holds Try.pinned (OpenSpec.ofChange packPutsWrong)

/-- 'ricklaw06.PackGets': WHATEVER THE INPUT: true; the input reads as it did. -/
def packGetsSpec : ChangeSpec := { name := "packGets", fn := fun _ => fun
  | [d1, d2] => { results := [.lit (.bool true)], args := [d1, d2] }
  | _ => none }
def packGetsRow : OpenClaim := { program := "ytmlbppfcpejlpaa", sum := "f48ff7eb9a372e90231274c829a3f4c32fcd024ba6fec024369e0e4413d299bd", func := "rick/ricklaw06.PackGets", spec := "packGets", apart := false }
def PackGetsSaid : Prop := packGetsRow.holds Try.pinned (OpenSpec.ofChange packGetsSpec)

/-- ITS FALSE NEIGHBOUR: 'it returns false'. Refute it at one input. -/
def packGetsWrong : ChangeSpec := { name := "packGets", fn := fun _ => fun
  | [d1, d2] => { results := [.lit (.bool false)], args := [d1, d2] }
  | _ => none }
def PackGetsWrongFalsely : Prop := packGetsRow.holds Try.pinned (OpenSpec.ofChange packGetsWrong)

/-- 'ricklaw06.PackSame': WHATEVER THE INPUT: true; the input reads as it did. -/
def packSameSpec : ChangeSpec := { name := "packSame", fn := fun _ => fun
  | [d1, d2, d3] => { results := [.lit (.bool true)], args := [d1, d2, d3] }
  | _ => none }
def packSameRow : OpenClaim := { program := "ytmlbppfcpejlpaa", sum := "f48ff7eb9a372e90231274c829a3f4c32fcd024ba6fec024369e0e4413d299bd", func := "rick/ricklaw06.PackSame", spec := "packSame", apart := false }
def PackSameSaid : Prop := packSameRow.holds Try.pinned (OpenSpec.ofChange packSameSpec)

/-- ITS FALSE NEIGHBOUR: 'it returns false'. Refute it at one input. -/
def packSameWrong : ChangeSpec := { name := "packSame", fn := fun _ => fun
  | [d1, d2, d3] => { results := [.lit (.bool false)], args := [d1, d2, d3] }
  | _ => none }
def PackSameWrongFalsely : Prop := packSameRow.holds Try.pinned (OpenSpec.ofChange packSameWrong)

/-- 'ricklaw07.TimesEven': WHATEVER THE INPUT: true; the input reads as it did. -/
def timesEvenSpec : ChangeSpec := { name := "timesEven", fn := fun _ => fun
  | [d1, d2, d3] => { results := [.lit (.bool true)], args := [d1, d2, d3] }
  | _ => none }
def timesEvenRow : OpenClaim := { program := "ytmlbppfcpejlpaa", sum := "f48ff7eb9a372e90231274c829a3f4c32fcd024ba6fec024369e0e4413d299bd", func := "rick/ricklaw07.TimesEven", spec := "timesEven", apart := false }
def TimesEvenSaid : Prop := timesEvenRow.holds Try.pinned (OpenSpec.ofChange timesEvenSpec)

/-- ITS FALSE NEIGHBOUR: 'it returns false'. Refute it at one input. -/
def timesEvenWrong : ChangeSpec := { name := "timesEven", fn := fun _ => fun
  | [d1, d2, d3] => { results := [.lit (.bool false)], args := [d1, d2, d3] }
  | _ => none }
def TimesEvenWrongFalsely : Prop := timesEvenRow.holds Try.pinned (OpenSpec.ofChange timesEvenWrong)

/-- 'ricklaw07.TimesClasses': WHATEVER THE INPUT: true; the input reads as it did. -/
def timesClassesSpec : ChangeSpec := { name := "timesClasses", fn := fun _ => fun
  | [d1, d2, d3] => { results := [.lit (.bool true)], args := [d1, d2, d3] }
  | _ => none }
def timesClassesRow : OpenClaim := { program := "ytmlbppfcpejlpaa", sum := "f48ff7eb9a372e90231274c829a3f4c32fcd024ba6fec024369e0e4413d299bd", func := "rick/ricklaw07.TimesClasses", spec := "timesClasses", apart := false }
def TimesClassesSaid : Prop := timesClassesRow.holds Try.pinned (OpenSpec.ofChange timesClassesSpec)

/-- ITS FALSE NEIGHBOUR: 'it returns false'. Refute it at one input. -/
def timesClassesWrong : ChangeSpec := { name := "timesClasses", fn := fun _ => fun
  | [d1, d2, d3] => { results := [.lit (.bool false)], args := [d1, d2, d3] }
  | _ => none }
def TimesClassesWrongFalsely : Prop := timesClassesRow.holds Try.pinned (OpenSpec.ofChange timesClassesWrong)

/- THE SECOND FORM. 'bulk': how many values and letters a reading holds, each counted each time it is reached (what is shared counts as often as it is met; a slice's spare places count too). A statement '..UptoSaid' is the law's where the arguments, and the package variables that the reading takes, are together of bulk at most 1048576: NARROWER than '..Said'. Prove '..Said' where nothing that the law and all that it calls make is longer than what came in: it says more and counts as full. Else prove '..UptoSaid'. A law counts once. -/
mutual
def uptoBulk {H : Type} : DataW H → Nat
  | .lit (.string bytes) => bytes.length + 1
  | .lit _ => 1
  | .nil => 1
  | .ptr d => uptoBulk d + 1
  | .slice elems spare => uptoBulkAll elems + uptoBulkAll spare + 1
  | .agg parts => uptoBulkAll parts + 1
  | .iface _ d => uptoBulk d + 1
  | .map entries => uptoBulkEntries entries + 1
  | .held _ => 1
def uptoBulkAll {H : Type} : List (DataW H) → Nat
  | [] => 0
  | d :: r => uptoBulk d + uptoBulkAll r
def uptoBulkEntries {H : Type} : List (Lit × DataW H) → Nat
  | [] => 0
  | x :: r => uptoBulkEntry x + uptoBulkEntries r
def uptoBulkEntry {H : Type} : Lit × DataW H → Nat
  | (.string bytes, d) => bytes.length + uptoBulk d + 1
  | (_, d) => uptoBulk d + 1
 end
def uptoSmall : (H : Type) → List (DataW H) → Bool := fun _ ds => decide (uptoBulkAll ds ≤ 1048576)
def OpenSpec.upto (s : _root_.Go.ChangeSpec) : _root_.Go.OpenSpec := { _root_.Go.OpenSpec.ofChange s with cond := some uptoSmall }

/-- 'ricklaw05.VarintPuts', WHERE WHAT IT READS IS OF BULK AT MOST 1048576: true; the input reads as it did. -/
def varintPutsUptoRow : OpenClaim := { program := "ytmlbppfcpejlpaa", sum := "f48ff7eb9a372e90231274c829a3f4c32fcd024ba6fec024369e0e4413d299bd", func := "rick/ricklaw05.VarintPuts", spec := "varintPuts", apart := false, narrowed := true }
def VarintPutsUptoSaid : Prop := varintPutsUptoRow.holds Try.pinned (OpenSpec.upto varintPutsSpec)

/-- 'ricklaw05.VarintZigs', WHERE WHAT IT READS IS OF BULK AT MOST 1048576: true; the input reads as it did. -/
def varintZigsUptoRow : OpenClaim := { program := "ytmlbppfcpejlpaa", sum := "f48ff7eb9a372e90231274c829a3f4c32fcd024ba6fec024369e0e4413d299bd", func := "rick/ricklaw05.VarintZigs", spec := "varintZigs", apart := false, narrowed := true }
def VarintZigsUptoSaid : Prop := varintZigsUptoRow.holds Try.pinned (OpenSpec.upto varintZigsSpec)

/-- 'ricklaw05.VarintRows', WHERE WHAT IT READS IS OF BULK AT MOST 1048576: true; the input reads as it did. -/
def varintRowsUptoRow : OpenClaim := { program := "ytmlbppfcpejlpaa", sum := "f48ff7eb9a372e90231274c829a3f4c32fcd024ba6fec024369e0e4413d299bd", func := "rick/ricklaw05.VarintRows", spec := "varintRows", apart := false, narrowed := true }
def VarintRowsUptoSaid : Prop := varintRowsUptoRow.holds Try.pinned (OpenSpec.upto varintRowsSpec)

/-- 'ricklaw05.VarintLengths', WHERE WHAT IT READS IS OF BULK AT MOST 1048576: true; the input reads as it did. -/
def varintLengthsUptoRow : OpenClaim := { program := "ytmlbppfcpejlpaa", sum := "f48ff7eb9a372e90231274c829a3f4c32fcd024ba6fec024369e0e4413d299bd", func := "rick/ricklaw05.VarintLengths", spec := "varintLengths", apart := false, narrowed := true }
def VarintLengthsUptoSaid : Prop := varintLengthsUptoRow.holds Try.pinned (OpenSpec.upto varintLengthsSpec)

/-- 'ricklaw04.BitsPuts', WHERE WHAT IT READS IS OF BULK AT MOST 1048576: true; the input reads as it did. -/
def bitsPutsUptoRow : OpenClaim := { program := "ytmlbppfcpejlpaa", sum := "f48ff7eb9a372e90231274c829a3f4c32fcd024ba6fec024369e0e4413d299bd", func := "rick/ricklaw04.BitsPuts", spec := "bitsPuts", apart := false, narrowed := true }
def BitsPutsUptoSaid : Prop := bitsPutsUptoRow.holds Try.pinned (OpenSpec.upto bitsPutsSpec)

/-- 'ricklaw04.BitsTakes', WHERE WHAT IT READS IS OF BULK AT MOST 1048576: true; the input reads as it did. -/
def bitsTakesUptoRow : OpenClaim := { program := "ytmlbppfcpejlpaa", sum := "f48ff7eb9a372e90231274c829a3f4c32fcd024ba6fec024369e0e4413d299bd", func := "rick/ricklaw04.BitsTakes", spec := "bitsTakes", apart := false, narrowed := true }
def BitsTakesUptoSaid : Prop := bitsTakesUptoRow.holds Try.pinned (OpenSpec.upto bitsTakesSpec)

/-- 'ricklaw04.BitsPlaces', WHERE WHAT IT READS IS OF BULK AT MOST 1048576: true; the input reads as it did. -/
def bitsPlacesUptoRow : OpenClaim := { program := "ytmlbppfcpejlpaa", sum := "f48ff7eb9a372e90231274c829a3f4c32fcd024ba6fec024369e0e4413d299bd", func := "rick/ricklaw04.BitsPlaces", spec := "bitsPlaces", apart := false, narrowed := true }
def BitsPlacesUptoSaid : Prop := bitsPlacesUptoRow.holds Try.pinned (OpenSpec.upto bitsPlacesSpec)

/-- 'ricklaw09.RunsPuts', WHERE WHAT IT READS IS OF BULK AT MOST 1048576: true; the input reads as it did. -/
def runsPutsUptoRow : OpenClaim := { program := "ytmlbppfcpejlpaa", sum := "f48ff7eb9a372e90231274c829a3f4c32fcd024ba6fec024369e0e4413d299bd", func := "rick/ricklaw09.RunsPuts", spec := "runsPuts", unfollowed := true, recurses := true, apart := false, narrowed := true }
def RunsPutsUptoSaid : Prop := runsPutsUptoRow.holds Try.pinned (OpenSpec.upto runsPutsSpec)

/-- 'ricklaw09.RunsMany', WHERE WHAT IT READS IS OF BULK AT MOST 1048576: true; the input reads as it did. -/
def runsManyUptoRow : OpenClaim := { program := "ytmlbppfcpejlpaa", sum := "f48ff7eb9a372e90231274c829a3f4c32fcd024ba6fec024369e0e4413d299bd", func := "rick/ricklaw09.RunsMany", spec := "runsMany", unfollowed := true, recurses := true, apart := false, narrowed := true }
def RunsManyUptoSaid : Prop := runsManyUptoRow.holds Try.pinned (OpenSpec.upto runsManySpec)

/-- 'ricklaw06.PackPuts', WHERE WHAT IT READS IS OF BULK AT MOST 1048576: true; the input reads as it did. -/
def packPutsUptoRow : OpenClaim := { program := "ytmlbppfcpejlpaa", sum := "f48ff7eb9a372e90231274c829a3f4c32fcd024ba6fec024369e0e4413d299bd", func := "rick/ricklaw06.PackPuts", spec := "packPuts", apart := false, narrowed := true }
def PackPutsUptoSaid : Prop := packPutsUptoRow.holds Try.pinned (OpenSpec.upto packPutsSpec)

/-- 'ricklaw06.PackGets', WHERE WHAT IT READS IS OF BULK AT MOST 1048576: true; the input reads as it did. -/
def packGetsUptoRow : OpenClaim := { program := "ytmlbppfcpejlpaa", sum := "f48ff7eb9a372e90231274c829a3f4c32fcd024ba6fec024369e0e4413d299bd", func := "rick/ricklaw06.PackGets", spec := "packGets", apart := false, narrowed := true }
def PackGetsUptoSaid : Prop := packGetsUptoRow.holds Try.pinned (OpenSpec.upto packGetsSpec)

/-- 'ricklaw06.PackSame', WHERE WHAT IT READS IS OF BULK AT MOST 1048576: true; the input reads as it did. -/
def packSameUptoRow : OpenClaim := { program := "ytmlbppfcpejlpaa", sum := "f48ff7eb9a372e90231274c829a3f4c32fcd024ba6fec024369e0e4413d299bd", func := "rick/ricklaw06.PackSame", spec := "packSame", apart := false, narrowed := true }
def PackSameUptoSaid : Prop := packSameUptoRow.holds Try.pinned (OpenSpec.upto packSameSpec)

/-- 'ricklaw07.TimesEven', WHERE WHAT IT READS IS OF BULK AT MOST 1048576: true; the input reads as it did. -/
def timesEvenUptoRow : OpenClaim := { program := "ytmlbppfcpejlpaa", sum := "f48ff7eb9a372e90231274c829a3f4c32fcd024ba6fec024369e0e4413d299bd", func := "rick/ricklaw07.TimesEven", spec := "timesEven", apart := false, narrowed := true }
def TimesEvenUptoSaid : Prop := timesEvenUptoRow.holds Try.pinned (OpenSpec.upto timesEvenSpec)

/-- 'ricklaw07.TimesClasses', WHERE WHAT IT READS IS OF BULK AT MOST 1048576: true; the input reads as it did. -/
def timesClassesUptoRow : OpenClaim := { program := "ytmlbppfcpejlpaa", sum := "f48ff7eb9a372e90231274c829a3f4c32fcd024ba6fec024369e0e4413d299bd", func := "rick/ricklaw07.TimesClasses", spec := "timesClasses", apart := false, narrowed := true }
def TimesClassesUptoSaid : Prop := timesClassesUptoRow.holds Try.pinned (OpenSpec.upto timesClassesSpec)

end Rows
end Go.Proofs.Ytmlbppfcpejlpaa
