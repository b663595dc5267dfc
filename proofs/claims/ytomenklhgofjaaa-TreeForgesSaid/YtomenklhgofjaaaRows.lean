/-
  No cell of these rows narrows 'for every input' (looked for: loops, veiled, ifaces, maps, wideKeys, modest, calm, conditions, laid).
  DERIVED. THE GIVEN ROWS OF THIS SEAT. 11 by the template 'for every input the law returns true; each argument reads behind the call as it read before'; 0 by the template 'total and deterministic' (their statements: YtomenklhgofjaaaTotals.lean).
  GIVEN WITH THE SEED: the statements are not yours to turn. If you find one false, say at which input.
  Laid BY PROGRAM, IN A SANDBOX (cutbox-rows.mjs): the forced cells as the released guide's own fill.sh prints them over the translation 813e02db14b77ee8… (all of the seat's roots in one cut). By AI agents, Wed Nov 11 2026. No macro, syntax, notation, axiom, sorry.
-/
import Derived.Test.YtomenklhgofjaaaChecked
import GoSem.Claim
import GoSem.ClaimJoined
import GoSem.ClaimMapViews
import Derived.JoinedTies
import Derived.KernelRfl
namespace Go.Proofs.Ytomenklhgofjaaa
/- THE CELL 'sum', in the pinned program and in every row, IS THE sha256 OF THE DUMP (.gsa) THAT YtomenklhgofjaaaProg.lean LOADS. Nothing in Lean hashes anything: it is a label: what it is worth is what the hold of that sum in a sandbox is worth. -/
noncomputable def Try.pinned : Pinned := { name := "ytomenklhgofjaaa", sum := "813e02db14b77ee8cce8cedde0527bc0ca59c4a6b9fbf71c4064d41834f7dbe1", checked := Try.checked }
namespace Rows
def none {H : Type} : Left H := { results := [], args := [] }

/-- 'tinderboxlaw33.MacSums': WHATEVER THE INPUT: true; the input reads as it did. -/
def macSumsSpec : ChangeSpec := { name := "macSums", fn := fun _ => fun
  | [d1, d2] => { results := [.lit (.bool true)], args := [d1, d2] }
  | _ => none }
def macSumsRow : OpenClaim := { program := "ytomenklhgofjaaa", sum := "813e02db14b77ee8cce8cedde0527bc0ca59c4a6b9fbf71c4064d41834f7dbe1", func := "tinderbox/tinderboxlaw33.MacSums", spec := "macSums", inPlace := ["math/bits.Add64"], unfollowed := true, recurses := true, apart := false }
def MacSumsSaid : Prop := macSumsRow.holds Try.pinned (OpenSpec.ofChange macSumsSpec)

/-- ITS FALSE NEIGHBOUR: 'it returns false'. Refute it at one input. -/
def macSumsWrong : ChangeSpec := { name := "macSums", fn := fun _ => fun
  | [d1, d2] => { results := [.lit (.bool false)], args := [d1, d2] }
  | _ => none }
def MacSumsWrongFalsely : Prop := macSumsRow.holds Try.pinned (OpenSpec.ofChange macSumsWrong)

/-- 'tinderboxlaw33.MacDerives': WHATEVER THE INPUT: true; the input reads as it did. -/
def macDerivesSpec : ChangeSpec := { name := "macDerives", fn := fun _ => fun
  | [d1, d2, d3] => { results := [.lit (.bool true)], args := [d1, d2, d3] }
  | _ => none }
def macDerivesRow : OpenClaim := { program := "ytomenklhgofjaaa", sum := "813e02db14b77ee8cce8cedde0527bc0ca59c4a6b9fbf71c4064d41834f7dbe1", func := "tinderbox/tinderboxlaw33.MacDerives", spec := "macDerives", inPlace := ["math/bits.Add64"], unfollowed := true, recurses := true, apart := false }
def MacDerivesSaid : Prop := macDerivesRow.holds Try.pinned (OpenSpec.ofChange macDerivesSpec)

/-- ITS FALSE NEIGHBOUR: 'it returns false'. Refute it at one input. -/
def macDerivesWrong : ChangeSpec := { name := "macDerives", fn := fun _ => fun
  | [d1, d2, d3] => { results := [.lit (.bool false)], args := [d1, d2, d3] }
  | _ => none }
def MacDerivesWrongFalsely : Prop := macDerivesRow.holds Try.pinned (OpenSpec.ofChange macDerivesWrong)

/-- 'tinderboxlaw33.MacSame': WHATEVER THE INPUT: true; the input reads as it did. -/
def macSameSpec : ChangeSpec := { name := "macSame", fn := fun _ => fun
  | [d1, d2] => { results := [.lit (.bool true)], args := [d1, d2] }
  | _ => none }
def macSameRow : OpenClaim := { program := "ytomenklhgofjaaa", sum := "813e02db14b77ee8cce8cedde0527bc0ca59c4a6b9fbf71c4064d41834f7dbe1", func := "tinderbox/tinderboxlaw33.MacSame", spec := "macSame", inPlace := ["math/bits.Add64"], unfollowed := true, recurses := true, apart := false }
def MacSameSaid : Prop := macSameRow.holds Try.pinned (OpenSpec.ofChange macSameSpec)

/-- ITS FALSE NEIGHBOUR: 'it returns false'. Refute it at one input. -/
def macSameWrong : ChangeSpec := { name := "macSame", fn := fun _ => fun
  | [d1, d2] => { results := [.lit (.bool false)], args := [d1, d2] }
  | _ => none }
def MacSameWrongFalsely : Prop := macSameRow.holds Try.pinned (OpenSpec.ofChange macSameWrong)

/-- 'tinderboxlaw02.ShaSums': WHATEVER THE INPUT: true; the input reads as it did. -/
def shaSumsSpec : ChangeSpec := { name := "shaSums", fn := fun _ => fun
  | [d] => { results := [.lit (.bool true)], args := [d] }
  | _ => none }
def shaSumsRow : OpenClaim := { program := "ytomenklhgofjaaa", sum := "813e02db14b77ee8cce8cedde0527bc0ca59c4a6b9fbf71c4064d41834f7dbe1", func := "tinderbox/tinderboxlaw02.ShaSums", spec := "shaSums", inPlace := ["math/bits.Add64", "internal/abi.NoEscape"], unfollowed := true, recurses := true, apart := false }
def ShaSumsSaid : Prop := shaSumsRow.holds Try.pinned (OpenSpec.ofChange shaSumsSpec)

/-- ITS FALSE NEIGHBOUR: 'it returns false'. Refute it at one input. -/
def shaSumsWrong : ChangeSpec := { name := "shaSums", fn := fun _ => fun
  | [d] => { results := [.lit (.bool false)], args := [d] }
  | _ => none }
def ShaSumsWrongFalsely : Prop := shaSumsRow.holds Try.pinned (OpenSpec.ofChange shaSumsWrong)

/-- 'tinderboxlaw02.ShaLengths': WHATEVER THE INPUT: true; the input reads as it did. -/
def shaLengthsSpec : ChangeSpec := { name := "shaLengths", fn := fun _ => fun
  | [d1, d2] => { results := [.lit (.bool true)], args := [d1, d2] }
  | _ => none }
def shaLengthsRow : OpenClaim := { program := "ytomenklhgofjaaa", sum := "813e02db14b77ee8cce8cedde0527bc0ca59c4a6b9fbf71c4064d41834f7dbe1", func := "tinderbox/tinderboxlaw02.ShaLengths", spec := "shaLengths", inPlace := ["math/bits.Add64", "internal/abi.NoEscape"], unfollowed := true, recurses := true, apart := false }
def ShaLengthsSaid : Prop := shaLengthsRow.holds Try.pinned (OpenSpec.ofChange shaLengthsSpec)

/-- ITS FALSE NEIGHBOUR: 'it returns false'. Refute it at one input. -/
def shaLengthsWrong : ChangeSpec := { name := "shaLengths", fn := fun _ => fun
  | [d1, d2] => { results := [.lit (.bool false)], args := [d1, d2] }
  | _ => none }
def ShaLengthsWrongFalsely : Prop := shaLengthsRow.holds Try.pinned (OpenSpec.ofChange shaLengthsWrong)

/-- 'tinderboxlaw02.ShaHex': WHATEVER THE INPUT: true; the input reads as it did. -/
def shaHexSpec : ChangeSpec := { name := "shaHex", fn := fun _ => fun
  | [d] => { results := [.lit (.bool true)], args := [d] }
  | _ => none }
def shaHexRow : OpenClaim := { program := "ytomenklhgofjaaa", sum := "813e02db14b77ee8cce8cedde0527bc0ca59c4a6b9fbf71c4064d41834f7dbe1", func := "tinderbox/tinderboxlaw02.ShaHex", spec := "shaHex", inPlace := ["internal/abi.NoEscape", "internal/bytealg.IndexByteString", "math/bits.Add64"], unfollowed := true, recurses := true, apart := false }
def ShaHexSaid : Prop := shaHexRow.holds Try.pinned (OpenSpec.ofChange shaHexSpec)

/-- ITS FALSE NEIGHBOUR: 'it returns false'. Refute it at one input. -/
def shaHexWrong : ChangeSpec := { name := "shaHex", fn := fun _ => fun
  | [d] => { results := [.lit (.bool false)], args := [d] }
  | _ => none }
def ShaHexWrongFalsely : Prop := shaHexRow.holds Try.pinned (OpenSpec.ofChange shaHexWrong)

/-- 'tinderboxlaw37.TreeRoots': WHATEVER THE INPUT: true; the input reads as it did. -/
def treeRootsSpec : ChangeSpec := { name := "treeRoots", fn := fun _ => fun
  | [d] => { results := [.lit (.bool true)], args := [d] }
  | _ => none }
def treeRootsRow : OpenClaim := { program := "ytomenklhgofjaaa", sum := "813e02db14b77ee8cce8cedde0527bc0ca59c4a6b9fbf71c4064d41834f7dbe1", func := "tinderbox/tinderboxlaw37.TreeRoots", spec := "treeRoots", inPlace := ["math/bits.Add64"], unfollowed := true, recurses := true, apart := false }
def TreeRootsSaid : Prop := treeRootsRow.holds Try.pinned (OpenSpec.ofChange treeRootsSpec)

/-- ITS FALSE NEIGHBOUR: 'it returns false'. Refute it at one input. -/
def treeRootsWrong : ChangeSpec := { name := "treeRoots", fn := fun _ => fun
  | [d] => { results := [.lit (.bool false)], args := [d] }
  | _ => none }
def TreeRootsWrongFalsely : Prop := treeRootsRow.holds Try.pinned (OpenSpec.ofChange treeRootsWrong)

/-- 'tinderboxlaw37.TreeForges': WHATEVER THE INPUT: true; the input reads as it did. -/
def treeForgesSpec : ChangeSpec := { name := "treeForges", fn := fun _ => fun
  | [d1, d2, d3] => { results := [.lit (.bool true)], args := [d1, d2, d3] }
  | _ => none }
def treeForgesRow : OpenClaim := { program := "ytomenklhgofjaaa", sum := "813e02db14b77ee8cce8cedde0527bc0ca59c4a6b9fbf71c4064d41834f7dbe1", func := "tinderbox/tinderboxlaw37.TreeForges", spec := "treeForges", inPlace := ["math/bits.Add64"], unfollowed := true, recurses := true, apart := false }
def TreeForgesSaid : Prop := treeForgesRow.holds Try.pinned (OpenSpec.ofChange treeForgesSpec)

/-- ITS FALSE NEIGHBOUR: 'it returns false'. Refute it at one input. -/
def treeForgesWrong : ChangeSpec := { name := "treeForges", fn := fun _ => fun
  | [d1, d2, d3] => { results := [.lit (.bool false)], args := [d1, d2, d3] }
  | _ => none }
def TreeForgesWrongFalsely : Prop := treeForgesRow.holds Try.pinned (OpenSpec.ofChange treeForgesWrong)

/-- 'tinderboxlaw37.TreePieces': WHATEVER THE INPUT: true; the input reads as it did. -/
def treePiecesSpec : ChangeSpec := { name := "treePieces", fn := fun _ => fun
  | [d1, d2] => { results := [.lit (.bool true)], args := [d1, d2] }
  | _ => none }
def treePiecesRow : OpenClaim := { program := "ytomenklhgofjaaa", sum := "813e02db14b77ee8cce8cedde0527bc0ca59c4a6b9fbf71c4064d41834f7dbe1", func := "tinderbox/tinderboxlaw37.TreePieces", spec := "treePieces", inPlace := ["math/bits.Add64"], unfollowed := true, recurses := true, apart := false }
def TreePiecesSaid : Prop := treePiecesRow.holds Try.pinned (OpenSpec.ofChange treePiecesSpec)

/-- ITS FALSE NEIGHBOUR: 'it returns false'. Refute it at one input. -/
def treePiecesWrong : ChangeSpec := { name := "treePieces", fn := fun _ => fun
  | [d1, d2] => { results := [.lit (.bool false)], args := [d1, d2] }
  | _ => none }
def TreePiecesWrongFalsely : Prop := treePiecesRow.holds Try.pinned (OpenSpec.ofChange treePiecesWrong)

/-- 'tinderboxlaw37.TreeGathers': WHATEVER THE INPUT: true; the input reads as it did. -/
def treeGathersSpec : ChangeSpec := { name := "treeGathers", fn := fun _ => fun
  | [d1, d2, d3] => { results := [.lit (.bool true)], args := [d1, d2, d3] }
  | _ => none }
def treeGathersRow : OpenClaim := { program := "ytomenklhgofjaaa", sum := "813e02db14b77ee8cce8cedde0527bc0ca59c4a6b9fbf71c4064d41834f7dbe1", func := "tinderbox/tinderboxlaw37.TreeGathers", spec := "treeGathers", inPlace := ["math/bits.Add64"], unfollowed := true, recurses := true, apart := false }
def TreeGathersSaid : Prop := treeGathersRow.holds Try.pinned (OpenSpec.ofChange treeGathersSpec)

/-- ITS FALSE NEIGHBOUR: 'it returns false'. Refute it at one input. -/
def treeGathersWrong : ChangeSpec := { name := "treeGathers", fn := fun _ => fun
  | [d1, d2, d3] => { results := [.lit (.bool false)], args := [d1, d2, d3] }
  | _ => none }
def TreeGathersWrongFalsely : Prop := treeGathersRow.holds Try.pinned (OpenSpec.ofChange treeGathersWrong)

/-- 'tinderboxlaw37.TreeNone': WHATEVER THE INPUT: true; the input reads as it did. -/
def treeNoneSpec : ChangeSpec := { name := "treeNone", fn := fun _ => fun
  | [d1, d2, d3] => { results := [.lit (.bool true)], args := [d1, d2, d3] }
  | _ => none }
def treeNoneRow : OpenClaim := { program := "ytomenklhgofjaaa", sum := "813e02db14b77ee8cce8cedde0527bc0ca59c4a6b9fbf71c4064d41834f7dbe1", func := "tinderbox/tinderboxlaw37.TreeNone", spec := "treeNone", inPlace := ["math/bits.Add64"], unfollowed := true, recurses := true, apart := false }
def TreeNoneSaid : Prop := treeNoneRow.holds Try.pinned (OpenSpec.ofChange treeNoneSpec)

/-- ITS FALSE NEIGHBOUR: 'it returns false'. Refute it at one input. -/
def treeNoneWrong : ChangeSpec := { name := "treeNone", fn := fun _ => fun
  | [d1, d2, d3] => { results := [.lit (.bool false)], args := [d1, d2, d3] }
  | _ => none }
def TreeNoneWrongFalsely : Prop := treeNoneRow.holds Try.pinned (OpenSpec.ofChange treeNoneWrong)

/- THE SECOND FORM. 'bulk': how many values and letters a reading holds, each counted each time it is reached (what is shared counts as often as it is met; a slice's spare places count too). A statement '..UptoSaid' is the law's where the arguments, and the package variables that the reading takes, are together of bulk at most 1048576: NARROWER than '..Said'. Prove '..Said' where nothing that the law and all that it calls make is longer than what came in: it says more and counts as full. Else prove '..UptoSaid'. A law counts once. -/
mutual
def uptoBulk {H : Type} : DataW H → Nat
  | .lit (.string bytes) => bytes.length + 1
  | .lit _ => 1
  | .nil => 1
  | .ptr d => uptoBulk d + 1
  | .slice elems spare => uptoBulkAll elems + uptoBulkAll spare + 1
  | .agg parts => uptoBulkAll parts + 1
  | .iface _ d => uptoBulk d + 1
  | .map entries => uptoBulkEntries entries + 1
  | .held _ => 1
def uptoBulkAll {H : Type} : List (DataW H) → Nat
  | [] => 0
  | d :: r => uptoBulk d + uptoBulkAll r
def uptoBulkEntries {H : Type} : List (Lit × DataW H) → Nat
  | [] => 0
  | x :: r => uptoBulkEntry x + uptoBulkEntries r
def uptoBulkEntry {H : Type} : Lit × DataW H → Nat
  | (.string bytes, d) => bytes.length + uptoBulk d + 1
  | (_, d) => uptoBulk d + 1
 end
def uptoSmall : (H : Type) → List (DataW H) → Bool := fun _ ds => decide (uptoBulkAll ds ≤ 1048576)
def OpenSpec.upto (s : _root_.Go.ChangeSpec) : _root_.Go.OpenSpec := { _root_.Go.OpenSpec.ofChange s with cond := some uptoSmall }

/-- 'tinderboxlaw33.MacSums', WHERE WHAT IT READS IS OF BULK AT MOST 1048576: true; the input reads as it did. -/
def macSumsUptoRow : OpenClaim := { program := "ytomenklhgofjaaa", sum := "813e02db14b77ee8cce8cedde0527bc0ca59c4a6b9fbf71c4064d41834f7dbe1", func := "tinderbox/tinderboxlaw33.MacSums", spec := "macSums", inPlace := ["math/bits.Add64"], unfollowed := true, recurses := true, apart := false, narrowed := true }
def MacSumsUptoSaid : Prop := macSumsUptoRow.holds Try.pinned (OpenSpec.upto macSumsSpec)

/-- 'tinderboxlaw33.MacDerives', WHERE WHAT IT READS IS OF BULK AT MOST 1048576: true; the input reads as it did. -/
def macDerivesUptoRow : OpenClaim := { program := "ytomenklhgofjaaa", sum := "813e02db14b77ee8cce8cedde0527bc0ca59c4a6b9fbf71c4064d41834f7dbe1", func := "tinderbox/tinderboxlaw33.MacDerives", spec := "macDerives", inPlace := ["math/bits.Add64"], unfollowed := true, recurses := true, apart := false, narrowed := true }
def MacDerivesUptoSaid : Prop := macDerivesUptoRow.holds Try.pinned (OpenSpec.upto macDerivesSpec)

/-- 'tinderboxlaw33.MacSame', WHERE WHAT IT READS IS OF BULK AT MOST 1048576: true; the input reads as it did. -/
def macSameUptoRow : OpenClaim := { program := "ytomenklhgofjaaa", sum := "813e02db14b77ee8cce8cedde0527bc0ca59c4a6b9fbf71c4064d41834f7dbe1", func := "tinderbox/tinderboxlaw33.MacSame", spec := "macSame", inPlace := ["math/bits.Add64"], unfollowed := true, recurses := true, apart := false, narrowed := true }
def MacSameUptoSaid : Prop := macSameUptoRow.holds Try.pinned (OpenSpec.upto macSameSpec)

/-- 'tinderboxlaw02.ShaSums', WHERE WHAT IT READS IS OF BULK AT MOST 1048576: true; the input reads as it did. -/
def shaSumsUptoRow : OpenClaim := { program := "ytomenklhgofjaaa", sum := "813e02db14b77ee8cce8cedde0527bc0ca59c4a6b9fbf71c4064d41834f7dbe1", func := "tinderbox/tinderboxlaw02.ShaSums", spec := "shaSums", inPlace := ["math/bits.Add64", "internal/abi.NoEscape"], unfollowed := true, recurses := true, apart := false, narrowed := true }
def ShaSumsUptoSaid : Prop := shaSumsUptoRow.holds Try.pinned (OpenSpec.upto shaSumsSpec)

/-- 'tinderboxlaw02.ShaLengths', WHERE WHAT IT READS IS OF BULK AT MOST 1048576: true; the input reads as it did. -/
def shaLengthsUptoRow : OpenClaim := { program := "ytomenklhgofjaaa", sum := "813e02db14b77ee8cce8cedde0527bc0ca59c4a6b9fbf71c4064d41834f7dbe1", func := "tinderbox/tinderboxlaw02.ShaLengths", spec := "shaLengths", inPlace := ["math/bits.Add64", "internal/abi.NoEscape"], unfollowed := true, recurses := true, apart := false, narrowed := true }
def ShaLengthsUptoSaid : Prop := shaLengthsUptoRow.holds Try.pinned (OpenSpec.upto shaLengthsSpec)

/-- 'tinderboxlaw02.ShaHex', WHERE WHAT IT READS IS OF BULK AT MOST 1048576: true; the input reads as it did. -/
def shaHexUptoRow : OpenClaim := { program := "ytomenklhgofjaaa", sum := "813e02db14b77ee8cce8cedde0527bc0ca59c4a6b9fbf71c4064d41834f7dbe1", func := "tinderbox/tinderboxlaw02.ShaHex", spec := "shaHex", inPlace := ["internal/abi.NoEscape", "internal/bytealg.IndexByteString", "math/bits.Add64"], unfollowed := true, recurses := true, apart := false, narrowed := true }
def ShaHexUptoSaid : Prop := shaHexUptoRow.holds Try.pinned (OpenSpec.upto shaHexSpec)

/-- 'tinderboxlaw37.TreeRoots', WHERE WHAT IT READS IS OF BULK AT MOST 1048576: true; the input reads as it did. -/
def treeRootsUptoRow : OpenClaim := { program := "ytomenklhgofjaaa", sum := "813e02db14b77ee8cce8cedde0527bc0ca59c4a6b9fbf71c4064d41834f7dbe1", func := "tinderbox/tinderboxlaw37.TreeRoots", spec := "treeRoots", inPlace := ["math/bits.Add64"], unfollowed := true, recurses := true, apart := false, narrowed := true }
def TreeRootsUptoSaid : Prop := treeRootsUptoRow.holds Try.pinned (OpenSpec.upto treeRootsSpec)

/-- 'tinderboxlaw37.TreeForges', WHERE WHAT IT READS IS OF BULK AT MOST 1048576: true; the input reads as it did. -/
def treeForgesUptoRow : OpenClaim := { program := "ytomenklhgofjaaa", sum := "813e02db14b77ee8cce8cedde0527bc0ca59c4a6b9fbf71c4064d41834f7dbe1", func := "tinderbox/tinderboxlaw37.TreeForges", spec := "treeForges", inPlace := ["math/bits.Add64"], unfollowed := true, recurses := true, apart := false, narrowed := true }
def TreeForgesUptoSaid : Prop := treeForgesUptoRow.holds Try.pinned (OpenSpec.upto treeForgesSpec)

/-- 'tinderboxlaw37.TreePieces', WHERE WHAT IT READS IS OF BULK AT MOST 1048576: true; the input reads as it did. -/
def treePiecesUptoRow : OpenClaim := { program := "ytomenklhgofjaaa", sum := "813e02db14b77ee8cce8cedde0527bc0ca59c4a6b9fbf71c4064d41834f7dbe1", func := "tinderbox/tinderboxlaw37.TreePieces", spec := "treePieces", inPlace := ["math/bits.Add64"], unfollowed := true, recurses := true, apart := false, narrowed := true }
def TreePiecesUptoSaid : Prop := treePiecesUptoRow.holds Try.pinned (OpenSpec.upto treePiecesSpec)

/-- 'tinderboxlaw37.TreeGathers', WHERE WHAT IT READS IS OF BULK AT MOST 1048576: true; the input reads as it did. -/
def treeGathersUptoRow : OpenClaim := { program := "ytomenklhgofjaaa", sum := "813e02db14b77ee8cce8cedde0527bc0ca59c4a6b9fbf71c4064d41834f7dbe1", func := "tinderbox/tinderboxlaw37.TreeGathers", spec := "treeGathers", inPlace := ["math/bits.Add64"], unfollowed := true, recurses := true, apart := false, narrowed := true }
def TreeGathersUptoSaid : Prop := treeGathersUptoRow.holds Try.pinned (OpenSpec.upto treeGathersSpec)

/-- 'tinderboxlaw37.TreeNone', WHERE WHAT IT READS IS OF BULK AT MOST 1048576: true; the input reads as it did. -/
def treeNoneUptoRow : OpenClaim := { program := "ytomenklhgofjaaa", sum := "813e02db14b77ee8cce8cedde0527bc0ca59c4a6b9fbf71c4064d41834f7dbe1", func := "tinderbox/tinderboxlaw37.TreeNone", spec := "treeNone", inPlace := ["math/bits.Add64"], unfollowed := true, recurses := true, apart := false, narrowed := true }
def TreeNoneUptoSaid : Prop := treeNoneUptoRow.holds Try.pinned (OpenSpec.upto treeNoneSpec)

end Rows
end Go.Proofs.Ytomenklhgofjaaa
