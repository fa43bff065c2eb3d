/-
  NARROWER THAN 'FOR EVERY INPUT', by the rows' own cells (each row's printed sentence says how): XorsPuts: laid · XorsGets: laid · XorsBits: laid · XorsSame: laid · ChunkCodecs: laid · ChunkRights: laid · ChunkSizes: laid.
  DERIVED. THE GIVEN ROWS OF THIS SEAT. 7 by the template 'for every input the law returns true; each argument reads behind the call as it read before'; 0 by the template 'total and deterministic' (their statements: YtmlbppfcpejlpaaDoorTotals.lean).
  GIVEN WITH THE SEED: the statements are not yours to turn. If you find one false, say at which input.
  Laid BY PROGRAM, IN A SANDBOX (cutbox-rows.mjs): the forced cells as the released guide's own fill.sh prints them over the translation 533c1fffa3083830… (all of the seat's roots in one cut). By AI agents, Wed Nov 11 2026. No macro, syntax, notation, axiom, sorry.
-/
import Derived.Test.YtmlbppfcpejlpaaDoorChecked
import GoSem.Claim
import GoSem.ClaimJoined
import GoSem.ClaimMapViews
import Derived.JoinedTies
import Derived.KernelRfl
namespace Go.Proofs.YtmlbppfcpejlpaaDoor
/- THE CELL 'sum', in the pinned program and in every row, IS THE sha256 OF THE DUMP (.gsa) THAT YtmlbppfcpejlpaaDoorProg.lean LOADS. Nothing in Lean hashes anything: it is a label: what it is worth is what the hold of that sum in a sandbox is worth. -/
noncomputable def Tryd.pinned : Pinned := { name := "ytmlbppfcpejlpaadoor", sum := "533c1fffa30838303979c1eb3535179d7bf8e8a4312d6f18ade7d3b487a7158a", checked := Tryd.checked }
namespace Rows
def none {H : Type} : Left H := { results := [], args := [] }

/- WHAT THE LISTED PACKAGE-LEVEL VARIABLES READ AS WHEN THE CALL BEGINS. Each datum BY PROGRAM (the guide's laid-datum.mjs) off the statement by which the dump's own 'gosem.cut.vars' lays the variable. In a bare row this is a premise. The card (YtmlbppfcpejlpaaDoorCards.lean) ties it to the program's text. -/
def laid_math_bits_deBruijn64tab {H : Type} : DataW H := .agg [.lit (.int .u8 0), .lit (.int .u8 1), .lit (.int .u8 56), .lit (.int .u8 2), .lit (.int .u8 57), .lit (.int .u8 49), .lit (.int .u8 28), .lit (.int .u8 3), .lit (.int .u8 61), .lit (.int .u8 58), .lit (.int .u8 42), .lit (.int .u8 50), .lit (.int .u8 38), .lit (.int .u8 29), .lit (.int .u8 17), .lit (.int .u8 4), .lit (.int .u8 62), .lit (.int .u8 47), .lit (.int .u8 59), .lit (.int .u8 36), .lit (.int .u8 45), .lit (.int .u8 43), .lit (.int .u8 51), .lit (.int .u8 22), .lit (.int .u8 53), .lit (.int .u8 39), .lit (.int .u8 33), .lit (.int .u8 30), .lit (.int .u8 24), .lit (.int .u8 18), .lit (.int .u8 12), .lit (.int .u8 5), .lit (.int .u8 63), .lit (.int .u8 55), .lit (.int .u8 48), .lit (.int .u8 27), .lit (.int .u8 60), .lit (.int .u8 41), .lit (.int .u8 37), .lit (.int .u8 16), .lit (.int .u8 46), .lit (.int .u8 35), .lit (.int .u8 44), .lit (.int .u8 21), .lit (.int .u8 52), .lit (.int .u8 32), .lit (.int .u8 23), .lit (.int .u8 11), .lit (.int .u8 54), .lit (.int .u8 26), .lit (.int .u8 40), .lit (.int .u8 15), .lit (.int .u8 34), .lit (.int .u8 20), .lit (.int .u8 31), .lit (.int .u8 10), .lit (.int .u8 25), .lit (.int .u8 14), .lit (.int .u8 19), .lit (.int .u8 9), .lit (.int .u8 13), .lit (.int .u8 8), .lit (.int .u8 7), .lit (.int .u8 6)]

/-- 'ricklaw08.XorsPuts': WHATEVER THE INPUT: true; the input reads as it did. -/
def xorsPutsSpec : ChangeSpec := { name := "xorsPuts", fn := fun _ => fun
  | [d1, d2] => { results := [.lit (.bool true)], args := [d1, d2] }
  | _ => none }
def xorsPutsRow : OpenClaim := { program := "ytmlbppfcpejlpaadoor", sum := "533c1fffa30838303979c1eb3535179d7bf8e8a4312d6f18ade7d3b487a7158a", func := "rick/ricklaw08.XorsPuts", spec := "xorsPuts", named := ["math/bits.deBruijn64tab"], apart := false, laid := [("math/bits.deBruijn64tab", laid_math_bits_deBruijn64tab)] }
def XorsPutsSaid : Prop := xorsPutsRow.holds Tryd.pinned (OpenSpec.ofChange xorsPutsSpec)

/-- ITS FALSE NEIGHBOUR: 'it returns false'. Refute it at one input. -/
def xorsPutsWrong : ChangeSpec := { name := "xorsPuts", fn := fun _ => fun
  | [d1, d2] => { results := [.lit (.bool false)], args := [d1, d2] }
  | _ => none }
def XorsPutsWrongFalsely : Prop := xorsPutsRow.holds Tryd.pinned (OpenSpec.ofChange xorsPutsWrong)

/-- 'ricklaw08.XorsGets': WHATEVER THE INPUT: true; the input reads as it did. -/
def xorsGetsSpec : ChangeSpec := { name := "xorsGets", fn := fun _ => fun
  | [d1, d2] => { results := [.lit (.bool true)], args := [d1, d2] }
  | _ => none }
def xorsGetsRow : OpenClaim := { program := "ytmlbppfcpejlpaadoor", sum := "533c1fffa30838303979c1eb3535179d7bf8e8a4312d6f18ade7d3b487a7158a", func := "rick/ricklaw08.XorsGets", spec := "xorsGets", named := ["math/bits.deBruijn64tab"], apart := false, laid := [("math/bits.deBruijn64tab", laid_math_bits_deBruijn64tab)] }
def XorsGetsSaid : Prop := xorsGetsRow.holds Tryd.pinned (OpenSpec.ofChange xorsGetsSpec)

/-- ITS FALSE NEIGHBOUR: 'it returns false'. Refute it at one input. -/
def xorsGetsWrong : ChangeSpec := { name := "xorsGets", fn := fun _ => fun
  | [d1, d2] => { results := [.lit (.bool false)], args := [d1, d2] }
  | _ => none }
def XorsGetsWrongFalsely : Prop := xorsGetsRow.holds Tryd.pinned (OpenSpec.ofChange xorsGetsWrong)

/-- 'ricklaw08.XorsBits': WHATEVER THE INPUT: true; the input reads as it did. -/
def xorsBitsSpec : ChangeSpec := { name := "xorsBits", fn := fun _ => fun
  | [d1, d2] => { results := [.lit (.bool true)], args := [d1, d2] }
  | _ => none }
def xorsBitsRow : OpenClaim := { program := "ytmlbppfcpejlpaadoor", sum := "533c1fffa30838303979c1eb3535179d7bf8e8a4312d6f18ade7d3b487a7158a", func := "rick/ricklaw08.XorsBits", spec := "xorsBits", named := ["math/bits.deBruijn64tab"], apart := false, laid := [("math/bits.deBruijn64tab", laid_math_bits_deBruijn64tab)] }
def XorsBitsSaid : Prop := xorsBitsRow.holds Tryd.pinned (OpenSpec.ofChange xorsBitsSpec)

/-- ITS FALSE NEIGHBOUR: 'it returns false'. Refute it at one input. -/
def xorsBitsWrong : ChangeSpec := { name := "xorsBits", fn := fun _ => fun
  | [d1, d2] => { results := [.lit (.bool false)], args := [d1, d2] }
  | _ => none }
def XorsBitsWrongFalsely : Prop := xorsBitsRow.holds Tryd.pinned (OpenSpec.ofChange xorsBitsWrong)

/-- 'ricklaw08.XorsSame': WHATEVER THE INPUT: true; the input reads as it did. -/
def xorsSameSpec : ChangeSpec := { name := "xorsSame", fn := fun _ => fun
  | [d1, d2] => { results := [.lit (.bool true)], args := [d1, d2] }
  | _ => none }
def xorsSameRow : OpenClaim := { program := "ytmlbppfcpejlpaadoor", sum := "533c1fffa30838303979c1eb3535179d7bf8e8a4312d6f18ade7d3b487a7158a", func := "rick/ricklaw08.XorsSame", spec := "xorsSame", named := ["math/bits.deBruijn64tab"], apart := false, laid := [("math/bits.deBruijn64tab", laid_math_bits_deBruijn64tab)] }
def XorsSameSaid : Prop := xorsSameRow.holds Tryd.pinned (OpenSpec.ofChange xorsSameSpec)

/-- ITS FALSE NEIGHBOUR: 'it returns false'. Refute it at one input. -/
def xorsSameWrong : ChangeSpec := { name := "xorsSame", fn := fun _ => fun
  | [d1, d2] => { results := [.lit (.bool false)], args := [d1, d2] }
  | _ => none }
def XorsSameWrongFalsely : Prop := xorsSameRow.holds Tryd.pinned (OpenSpec.ofChange xorsSameWrong)

/-- 'ricklaw10.ChunkCodecs': WHATEVER THE INPUT: true; the input reads as it did. -/
def chunkCodecsSpec : ChangeSpec := { name := "chunkCodecs", fn := fun _ => fun
  | [d1, d2] => { results := [.lit (.bool true)], args := [d1, d2] }
  | _ => none }
def chunkCodecsRow : OpenClaim := { program := "ytmlbppfcpejlpaadoor", sum := "533c1fffa30838303979c1eb3535179d7bf8e8a4312d6f18ade7d3b487a7158a", func := "rick/ricklaw10.ChunkCodecs", spec := "chunkCodecs", unfollowed := true, recurses := true, named := ["math/bits.deBruijn64tab"], apart := false, laid := [("math/bits.deBruijn64tab", laid_math_bits_deBruijn64tab)] }
def ChunkCodecsSaid : Prop := chunkCodecsRow.holds Tryd.pinned (OpenSpec.ofChange chunkCodecsSpec)

/-- ITS FALSE NEIGHBOUR: 'it returns false'. Refute it at one input. -/
def chunkCodecsWrong : ChangeSpec := { name := "chunkCodecs", fn := fun _ => fun
  | [d1, d2] => { results := [.lit (.bool false)], args := [d1, d2] }
  | _ => none }
def ChunkCodecsWrongFalsely : Prop := chunkCodecsRow.holds Tryd.pinned (OpenSpec.ofChange chunkCodecsWrong)

/-- 'ricklaw10.ChunkRights': WHATEVER THE INPUT: true; the input reads as it did. -/
def chunkRightsSpec : ChangeSpec := { name := "chunkRights", fn := fun _ => fun
  | [d1, d2, d3] => { results := [.lit (.bool true)], args := [d1, d2, d3] }
  | _ => none }
def chunkRightsRow : OpenClaim := { program := "ytmlbppfcpejlpaadoor", sum := "533c1fffa30838303979c1eb3535179d7bf8e8a4312d6f18ade7d3b487a7158a", func := "rick/ricklaw10.ChunkRights", spec := "chunkRights", unfollowed := true, recurses := true, named := ["math/bits.deBruijn64tab"], apart := false, laid := [("math/bits.deBruijn64tab", laid_math_bits_deBruijn64tab)] }
def ChunkRightsSaid : Prop := chunkRightsRow.holds Tryd.pinned (OpenSpec.ofChange chunkRightsSpec)

/-- ITS FALSE NEIGHBOUR: 'it returns false'. Refute it at one input. -/
def chunkRightsWrong : ChangeSpec := { name := "chunkRights", fn := fun _ => fun
  | [d1, d2, d3] => { results := [.lit (.bool false)], args := [d1, d2, d3] }
  | _ => none }
def ChunkRightsWrongFalsely : Prop := chunkRightsRow.holds Tryd.pinned (OpenSpec.ofChange chunkRightsWrong)

/-- 'ricklaw10.ChunkSizes': WHATEVER THE INPUT: true; the input reads as it did. -/
def chunkSizesSpec : ChangeSpec := { name := "chunkSizes", fn := fun _ => fun
  | [d1, d2, d3] => { results := [.lit (.bool true)], args := [d1, d2, d3] }
  | _ => none }
def chunkSizesRow : OpenClaim := { program := "ytmlbppfcpejlpaadoor", sum := "533c1fffa30838303979c1eb3535179d7bf8e8a4312d6f18ade7d3b487a7158a", func := "rick/ricklaw10.ChunkSizes", spec := "chunkSizes", unfollowed := true, recurses := true, named := ["math/bits.deBruijn64tab"], apart := false, laid := [("math/bits.deBruijn64tab", laid_math_bits_deBruijn64tab)] }
def ChunkSizesSaid : Prop := chunkSizesRow.holds Tryd.pinned (OpenSpec.ofChange chunkSizesSpec)

/-- ITS FALSE NEIGHBOUR: 'it returns false'. Refute it at one input. -/
def chunkSizesWrong : ChangeSpec := { name := "chunkSizes", fn := fun _ => fun
  | [d1, d2, d3] => { results := [.lit (.bool false)], args := [d1, d2, d3] }
  | _ => none }
def ChunkSizesWrongFalsely : Prop := chunkSizesRow.holds Tryd.pinned (OpenSpec.ofChange chunkSizesWrong)

/- THE SECOND FORM. 'bulk': how many values and letters a reading holds, each counted each time it is reached (what is shared counts as often as it is met; a slice's spare places count too). A statement '..UptoSaid' is the law's where the arguments, and the package variables that the reading takes, are together of bulk at most 1048576: NARROWER than '..Said'. Prove '..Said' where nothing that the law and all that it calls make is longer than what came in: it says more and counts as full. Else prove '..UptoSaid'. A law counts once. -/
mutual
def uptoBulk {H : Type} : DataW H → Nat
  | .lit (.string bytes) => bytes.length + 1
  | .lit _ => 1
  | .nil => 1
  | .ptr d => uptoBulk d + 1
  | .slice elems spare => uptoBulkAll elems + uptoBulkAll spare + 1
  | .agg parts => uptoBulkAll parts + 1
  | .iface _ d => uptoBulk d + 1
  | .map entries => uptoBulkEntries entries + 1
  | .held _ => 1
def uptoBulkAll {H : Type} : List (DataW H) → Nat
  | [] => 0
  | d :: r => uptoBulk d + uptoBulkAll r
def uptoBulkEntries {H : Type} : List (Lit × DataW H) → Nat
  | [] => 0
  | x :: r => uptoBulkEntry x + uptoBulkEntries r
def uptoBulkEntry {H : Type} : Lit × DataW H → Nat
  | (.string bytes, d) => bytes.length + uptoBulk d + 1
  | (_, d) => uptoBulk d + 1
 end
def uptoSmall : (H : Type) → List (DataW H) → Bool := fun _ ds => decide (uptoBulkAll ds ≤ 1048576)
def OpenSpec.upto (s : _root_.Go.ChangeSpec) : _root_.Go.OpenSpec := { _root_.Go.OpenSpec.ofChange s with cond := some uptoSmall }

/-- 'ricklaw08.XorsPuts', WHERE WHAT IT READS IS OF BULK AT MOST 1048576: true; the input reads as it did. -/
def xorsPutsUptoRow : OpenClaim := { program := "ytmlbppfcpejlpaadoor", sum := "533c1fffa30838303979c1eb3535179d7bf8e8a4312d6f18ade7d3b487a7158a", func := "rick/ricklaw08.XorsPuts", spec := "xorsPuts", named := ["math/bits.deBruijn64tab"], apart := false, laid := [("math/bits.deBruijn64tab", laid_math_bits_deBruijn64tab)], narrowed := true }
def XorsPutsUptoSaid : Prop := xorsPutsUptoRow.holds Tryd.pinned (OpenSpec.upto xorsPutsSpec)

/-- 'ricklaw08.XorsGets', WHERE WHAT IT READS IS OF BULK AT MOST 1048576: true; the input reads as it did. -/
def xorsGetsUptoRow : OpenClaim := { program := "ytmlbppfcpejlpaadoor", sum := "533c1fffa30838303979c1eb3535179d7bf8e8a4312d6f18ade7d3b487a7158a", func := "rick/ricklaw08.XorsGets", spec := "xorsGets", named := ["math/bits.deBruijn64tab"], apart := false, laid := [("math/bits.deBruijn64tab", laid_math_bits_deBruijn64tab)], narrowed := true }
def XorsGetsUptoSaid : Prop := xorsGetsUptoRow.holds Tryd.pinned (OpenSpec.upto xorsGetsSpec)

/-- 'ricklaw08.XorsBits', WHERE WHAT IT READS IS OF BULK AT MOST 1048576: true; the input reads as it did. -/
def xorsBitsUptoRow : OpenClaim := { program := "ytmlbppfcpejlpaadoor", sum := "533c1fffa30838303979c1eb3535179d7bf8e8a4312d6f18ade7d3b487a7158a", func := "rick/ricklaw08.XorsBits", spec := "xorsBits", named := ["math/bits.deBruijn64tab"], apart := false, laid := [("math/bits.deBruijn64tab", laid_math_bits_deBruijn64tab)], narrowed := true }
def XorsBitsUptoSaid : Prop := xorsBitsUptoRow.holds Tryd.pinned (OpenSpec.upto xorsBitsSpec)

/-- 'ricklaw08.XorsSame', WHERE WHAT IT READS IS OF BULK AT MOST 1048576: true; the input reads as it did. -/
def xorsSameUptoRow : OpenClaim := { program := "ytmlbppfcpejlpaadoor", sum := "533c1fffa30838303979c1eb3535179d7bf8e8a4312d6f18ade7d3b487a7158a", func := "rick/ricklaw08.XorsSame", spec := "xorsSame", named := ["math/bits.deBruijn64tab"], apart := false, laid := [("math/bits.deBruijn64tab", laid_math_bits_deBruijn64tab)], narrowed := true }
def XorsSameUptoSaid : Prop := xorsSameUptoRow.holds Tryd.pinned (OpenSpec.upto xorsSameSpec)

/-- 'ricklaw10.ChunkCodecs', WHERE WHAT IT READS IS OF BULK AT MOST 1048576: true; the input reads as it did. -/
def chunkCodecsUptoRow : OpenClaim := { program := "ytmlbppfcpejlpaadoor", sum := "533c1fffa30838303979c1eb3535179d7bf8e8a4312d6f18ade7d3b487a7158a", func := "rick/ricklaw10.ChunkCodecs", spec := "chunkCodecs", unfollowed := true, recurses := true, named := ["math/bits.deBruijn64tab"], apart := false, laid := [("math/bits.deBruijn64tab", laid_math_bits_deBruijn64tab)], narrowed := true }
def ChunkCodecsUptoSaid : Prop := chunkCodecsUptoRow.holds Tryd.pinned (OpenSpec.upto chunkCodecsSpec)

/-- 'ricklaw10.ChunkRights', WHERE WHAT IT READS IS OF BULK AT MOST 1048576: true; the input reads as it did. -/
def chunkRightsUptoRow : OpenClaim := { program := "ytmlbppfcpejlpaadoor", sum := "533c1fffa30838303979c1eb3535179d7bf8e8a4312d6f18ade7d3b487a7158a", func := "rick/ricklaw10.ChunkRights", spec := "chunkRights", unfollowed := true, recurses := true, named := ["math/bits.deBruijn64tab"], apart := false, laid := [("math/bits.deBruijn64tab", laid_math_bits_deBruijn64tab)], narrowed := true }
def ChunkRightsUptoSaid : Prop := chunkRightsUptoRow.holds Tryd.pinned (OpenSpec.upto chunkRightsSpec)

/-- 'ricklaw10.ChunkSizes', WHERE WHAT IT READS IS OF BULK AT MOST 1048576: true; the input reads as it did. -/
def chunkSizesUptoRow : OpenClaim := { program := "ytmlbppfcpejlpaadoor", sum := "533c1fffa30838303979c1eb3535179d7bf8e8a4312d6f18ade7d3b487a7158a", func := "rick/ricklaw10.ChunkSizes", spec := "chunkSizes", unfollowed := true, recurses := true, named := ["math/bits.deBruijn64tab"], apart := false, laid := [("math/bits.deBruijn64tab", laid_math_bits_deBruijn64tab)], narrowed := true }
def ChunkSizesUptoSaid : Prop := chunkSizesUptoRow.holds Tryd.pinned (OpenSpec.upto chunkSizesSpec)

end Rows
end Go.Proofs.YtmlbppfcpejlpaaDoor
