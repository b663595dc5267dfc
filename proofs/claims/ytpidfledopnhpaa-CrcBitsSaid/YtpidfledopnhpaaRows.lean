/-
  No cell of these rows narrows 'for every input' (looked for: loops, veiled, ifaces, maps, wideKeys, modest, calm, conditions, laid).
  DERIVED. THE GIVEN ROWS OF THIS SEAT. 12 by the template 'for every input the law returns true; each argument reads behind the call as it read before'; 0 by the template 'total and deterministic' (their statements: YtpidfledopnhpaaTotals.lean).
  GIVEN WITH THE SEED: the statements are not yours to turn. If you find one false, say at which input.
  Laid BY PROGRAM, IN A SANDBOX (cutbox-rows.mjs): the forced cells as the released guide's own fill.sh prints them over the translation 74ce0cfeb618d8f2… (all of the seat's roots in one cut). By AI agents, Wed Nov 11 2026. No macro, syntax, notation, axiom, sorry.
-/
import Derived.Test.YtpidfledopnhpaaChecked
import GoSem.Claim
import GoSem.ClaimJoined
import GoSem.ClaimMapViews
import Derived.JoinedTies
import Derived.KernelRfl
namespace Go.Proofs.Ytpidfledopnhpaa
/- THE CELL 'sum', in the pinned program and in every row, IS THE sha256 OF THE DUMP (.gsa) THAT YtpidfledopnhpaaProg.lean LOADS. Nothing in Lean hashes anything: it is a label: what it is worth is what the hold of that sum in a sandbox is worth. -/
noncomputable def Try.pinned : Pinned := { name := "ytpidfledopnhpaa", sum := "74ce0cfeb618d8f21c7a54c444f548df1b596b2a39e25b8dee48e01c248eb22c", checked := Try.checked }
namespace Rows
def none {H : Type} : Left H := { results := [], args := [] }

/-- 'tinderboxlaw01.CrcExact': WHATEVER THE INPUT: true; the input reads as it did. -/
def crcExactSpec : ChangeSpec := { name := "crcExact", fn := fun _ => fun
  | [d] => { results := [.lit (.bool true)], args := [d] }
  | _ => none }
def crcExactRow : OpenClaim := { program := "ytpidfledopnhpaa", sum := "74ce0cfeb618d8f21c7a54c444f548df1b596b2a39e25b8dee48e01c248eb22c", func := "tinderbox/tinderboxlaw01.CrcExact", spec := "crcExact", apart := false }
def CrcExactSaid : Prop := crcExactRow.holds Try.pinned (OpenSpec.ofChange crcExactSpec)

/-- ITS FALSE NEIGHBOUR: 'it returns false'. Refute it at one input. -/
def crcExactWrong : ChangeSpec := { name := "crcExact", fn := fun _ => fun
  | [d] => { results := [.lit (.bool false)], args := [d] }
  | _ => none }
def CrcExactWrongFalsely : Prop := crcExactRow.holds Try.pinned (OpenSpec.ofChange crcExactWrong)

/-- 'tinderboxlaw01.CrcMore': WHATEVER THE INPUT: true; the input reads as it did. -/
def crcMoreSpec : ChangeSpec := { name := "crcMore", fn := fun _ => fun
  | [d1, d2] => { results := [.lit (.bool true)], args := [d1, d2] }
  | _ => none }
def crcMoreRow : OpenClaim := { program := "ytpidfledopnhpaa", sum := "74ce0cfeb618d8f21c7a54c444f548df1b596b2a39e25b8dee48e01c248eb22c", func := "tinderbox/tinderboxlaw01.CrcMore", spec := "crcMore", apart := false }
def CrcMoreSaid : Prop := crcMoreRow.holds Try.pinned (OpenSpec.ofChange crcMoreSpec)

/-- ITS FALSE NEIGHBOUR: 'it returns false'. Refute it at one input. -/
def crcMoreWrong : ChangeSpec := { name := "crcMore", fn := fun _ => fun
  | [d1, d2] => { results := [.lit (.bool false)], args := [d1, d2] }
  | _ => none }
def CrcMoreWrongFalsely : Prop := crcMoreRow.holds Try.pinned (OpenSpec.ofChange crcMoreWrong)

/-- 'tinderboxlaw01.CrcBits': WHATEVER THE INPUT: true; the input reads as it did. -/
def crcBitsSpec : ChangeSpec := { name := "crcBits", fn := fun _ => fun
  | [d1, d2, d3] => { results := [.lit (.bool true)], args := [d1, d2, d3] }
  | _ => none }
def crcBitsRow : OpenClaim := { program := "ytpidfledopnhpaa", sum := "74ce0cfeb618d8f21c7a54c444f548df1b596b2a39e25b8dee48e01c248eb22c", func := "tinderbox/tinderboxlaw01.CrcBits", spec := "crcBits", apart := false }
def CrcBitsSaid : Prop := crcBitsRow.holds Try.pinned (OpenSpec.ofChange crcBitsSpec)

/-- ITS FALSE NEIGHBOUR: 'it returns false'. Refute it at one input. -/
def crcBitsWrong : ChangeSpec := { name := "crcBits", fn := fun _ => fun
  | [d1, d2, d3] => { results := [.lit (.bool false)], args := [d1, d2, d3] }
  | _ => none }
def CrcBitsWrongFalsely : Prop := crcBitsRow.holds Try.pinned (OpenSpec.ofChange crcBitsWrong)

/-- 'tinderboxlaw01.CrcLinear': WHATEVER THE INPUT: true; the input reads as it did. -/
def crcLinearSpec : ChangeSpec := { name := "crcLinear", fn := fun _ => fun
  | [d1, d2] => { results := [.lit (.bool true)], args := [d1, d2] }
  | _ => none }
def crcLinearRow : OpenClaim := { program := "ytpidfledopnhpaa", sum := "74ce0cfeb618d8f21c7a54c444f548df1b596b2a39e25b8dee48e01c248eb22c", func := "tinderbox/tinderboxlaw01.CrcLinear", spec := "crcLinear", apart := false }
def CrcLinearSaid : Prop := crcLinearRow.holds Try.pinned (OpenSpec.ofChange crcLinearSpec)

/-- ITS FALSE NEIGHBOUR: 'it returns false'. Refute it at one input. -/
def crcLinearWrong : ChangeSpec := { name := "crcLinear", fn := fun _ => fun
  | [d1, d2] => { results := [.lit (.bool false)], args := [d1, d2] }
  | _ => none }
def CrcLinearWrongFalsely : Prop := crcLinearRow.holds Try.pinned (OpenSpec.ofChange crcLinearWrong)

/-- 'tinderboxlaw27.GfMul': WHATEVER THE INPUT: true; the input reads as it did. -/
def gfMulSpec : ChangeSpec := { name := "gfMul", fn := fun _ => fun
  | [d1, d2, d3] => { results := [.lit (.bool true)], args := [d1, d2, d3] }
  | _ => none }
def gfMulRow : OpenClaim := { program := "ytpidfledopnhpaa", sum := "74ce0cfeb618d8f21c7a54c444f548df1b596b2a39e25b8dee48e01c248eb22c", func := "tinderbox/tinderboxlaw27.GfMul", spec := "gfMul", apart := false }
def GfMulSaid : Prop := gfMulRow.holds Try.pinned (OpenSpec.ofChange gfMulSpec)

/-- ITS FALSE NEIGHBOUR: 'it returns false'. Refute it at one input. -/
def gfMulWrong : ChangeSpec := { name := "gfMul", fn := fun _ => fun
  | [d1, d2, d3] => { results := [.lit (.bool false)], args := [d1, d2, d3] }
  | _ => none }
def GfMulWrongFalsely : Prop := gfMulRow.holds Try.pinned (OpenSpec.ofChange gfMulWrong)

/-- 'tinderboxlaw27.GfInv': WHATEVER THE INPUT: true; the input reads as it did. -/
def gfInvSpec : ChangeSpec := { name := "gfInv", fn := fun _ => fun
  | [d] => { results := [.lit (.bool true)], args := [d] }
  | _ => none }
def gfInvRow : OpenClaim := { program := "ytpidfledopnhpaa", sum := "74ce0cfeb618d8f21c7a54c444f548df1b596b2a39e25b8dee48e01c248eb22c", func := "tinderbox/tinderboxlaw27.GfInv", spec := "gfInv", apart := false }
def GfInvSaid : Prop := gfInvRow.holds Try.pinned (OpenSpec.ofChange gfInvSpec)

/-- ITS FALSE NEIGHBOUR: 'it returns false'. Refute it at one input. -/
def gfInvWrong : ChangeSpec := { name := "gfInv", fn := fun _ => fun
  | [d] => { results := [.lit (.bool false)], args := [d] }
  | _ => none }
def GfInvWrongFalsely : Prop := gfInvRow.holds Try.pinned (OpenSpec.ofChange gfInvWrong)

/-- 'tinderboxlaw27.GfPow': WHATEVER THE INPUT: true; the input reads as it did. -/
def gfPowSpec : ChangeSpec := { name := "gfPow", fn := fun _ => fun
  | [d1, d2] => { results := [.lit (.bool true)], args := [d1, d2] }
  | _ => none }
def gfPowRow : OpenClaim := { program := "ytpidfledopnhpaa", sum := "74ce0cfeb618d8f21c7a54c444f548df1b596b2a39e25b8dee48e01c248eb22c", func := "tinderbox/tinderboxlaw27.GfPow", spec := "gfPow", apart := false }
def GfPowSaid : Prop := gfPowRow.holds Try.pinned (OpenSpec.ofChange gfPowSpec)

/-- ITS FALSE NEIGHBOUR: 'it returns false'. Refute it at one input. -/
def gfPowWrong : ChangeSpec := { name := "gfPow", fn := fun _ => fun
  | [d1, d2] => { results := [.lit (.bool false)], args := [d1, d2] }
  | _ => none }
def GfPowWrongFalsely : Prop := gfPowRow.holds Try.pinned (OpenSpec.ofChange gfPowWrong)

/-- 'tinderboxlaw27.GfRoots': WHATEVER THE INPUT: true; the input reads as it did. -/
def gfRootsSpec : ChangeSpec := { name := "gfRoots", fn := fun _ => fun
  | [d] => { results := [.lit (.bool true)], args := [d] }
  | _ => none }
def gfRootsRow : OpenClaim := { program := "ytpidfledopnhpaa", sum := "74ce0cfeb618d8f21c7a54c444f548df1b596b2a39e25b8dee48e01c248eb22c", func := "tinderbox/tinderboxlaw27.GfRoots", spec := "gfRoots", apart := false }
def GfRootsSaid : Prop := gfRootsRow.holds Try.pinned (OpenSpec.ofChange gfRootsSpec)

/-- ITS FALSE NEIGHBOUR: 'it returns false'. Refute it at one input. -/
def gfRootsWrong : ChangeSpec := { name := "gfRoots", fn := fun _ => fun
  | [d] => { results := [.lit (.bool false)], args := [d] }
  | _ => none }
def GfRootsWrongFalsely : Prop := gfRootsRow.holds Try.pinned (OpenSpec.ofChange gfRootsWrong)

/-- 'tinderboxlaw27.GfDegrees': WHATEVER THE INPUT: true; the input reads as it did. -/
def gfDegreesSpec : ChangeSpec := { name := "gfDegrees", fn := fun _ => fun
  | [d1, d2] => { results := [.lit (.bool true)], args := [d1, d2] }
  | _ => none }
def gfDegreesRow : OpenClaim := { program := "ytpidfledopnhpaa", sum := "74ce0cfeb618d8f21c7a54c444f548df1b596b2a39e25b8dee48e01c248eb22c", func := "tinderbox/tinderboxlaw27.GfDegrees", spec := "gfDegrees", apart := false }
def GfDegreesSaid : Prop := gfDegreesRow.holds Try.pinned (OpenSpec.ofChange gfDegreesSpec)

/-- ITS FALSE NEIGHBOUR: 'it returns false'. Refute it at one input. -/
def gfDegreesWrong : ChangeSpec := { name := "gfDegrees", fn := fun _ => fun
  | [d1, d2] => { results := [.lit (.bool false)], args := [d1, d2] }
  | _ => none }
def GfDegreesWrongFalsely : Prop := gfDegreesRow.holds Try.pinned (OpenSpec.ofChange gfDegreesWrong)

/-- 'tinderboxlaw27.GfSlope': WHATEVER THE INPUT: true; the input reads as it did. -/
def gfSlopeSpec : ChangeSpec := { name := "gfSlope", fn := fun _ => fun
  | [d1, d2, d3] => { results := [.lit (.bool true)], args := [d1, d2, d3] }
  | _ => none }
def gfSlopeRow : OpenClaim := { program := "ytpidfledopnhpaa", sum := "74ce0cfeb618d8f21c7a54c444f548df1b596b2a39e25b8dee48e01c248eb22c", func := "tinderbox/tinderboxlaw27.GfSlope", spec := "gfSlope", apart := false }
def GfSlopeSaid : Prop := gfSlopeRow.holds Try.pinned (OpenSpec.ofChange gfSlopeSpec)

/-- ITS FALSE NEIGHBOUR: 'it returns false'. Refute it at one input. -/
def gfSlopeWrong : ChangeSpec := { name := "gfSlope", fn := fun _ => fun
  | [d1, d2, d3] => { results := [.lit (.bool false)], args := [d1, d2, d3] }
  | _ => none }
def GfSlopeWrongFalsely : Prop := gfSlopeRow.holds Try.pinned (OpenSpec.ofChange gfSlopeWrong)

/-- 'tinderboxlaw27.GfPolys': WHATEVER THE INPUT: true; the input reads as it did. -/
def gfPolysSpec : ChangeSpec := { name := "gfPolys", fn := fun _ => fun
  | [d1, d2, d3] => { results := [.lit (.bool true)], args := [d1, d2, d3] }
  | _ => none }
def gfPolysRow : OpenClaim := { program := "ytpidfledopnhpaa", sum := "74ce0cfeb618d8f21c7a54c444f548df1b596b2a39e25b8dee48e01c248eb22c", func := "tinderbox/tinderboxlaw27.GfPolys", spec := "gfPolys", apart := false }
def GfPolysSaid : Prop := gfPolysRow.holds Try.pinned (OpenSpec.ofChange gfPolysSpec)

/-- ITS FALSE NEIGHBOUR: 'it returns false'. Refute it at one input. -/
def gfPolysWrong : ChangeSpec := { name := "gfPolys", fn := fun _ => fun
  | [d1, d2, d3] => { results := [.lit (.bool false)], args := [d1, d2, d3] }
  | _ => none }
def GfPolysWrongFalsely : Prop := gfPolysRow.holds Try.pinned (OpenSpec.ofChange gfPolysWrong)

/-- 'tinderboxlaw27.GfMod': WHATEVER THE INPUT: true; the input reads as it did. -/
def gfModSpec : ChangeSpec := { name := "gfMod", fn := fun _ => fun
  | [d1, d2] => { results := [.lit (.bool true)], args := [d1, d2] }
  | _ => none }
def gfModRow : OpenClaim := { program := "ytpidfledopnhpaa", sum := "74ce0cfeb618d8f21c7a54c444f548df1b596b2a39e25b8dee48e01c248eb22c", func := "tinderbox/tinderboxlaw27.GfMod", spec := "gfMod", apart := false }
def GfModSaid : Prop := gfModRow.holds Try.pinned (OpenSpec.ofChange gfModSpec)

/-- ITS FALSE NEIGHBOUR: 'it returns false'. Refute it at one input. -/
def gfModWrong : ChangeSpec := { name := "gfMod", fn := fun _ => fun
  | [d1, d2] => { results := [.lit (.bool false)], args := [d1, d2] }
  | _ => none }
def GfModWrongFalsely : Prop := gfModRow.holds Try.pinned (OpenSpec.ofChange gfModWrong)

/- THE SECOND FORM. 'bulk': how many values and letters a reading holds, each counted each time it is reached (what is shared counts as often as it is met; a slice's spare places count too). A statement '..UptoSaid' is the law's where the arguments, and the package variables that the reading takes, are together of bulk at most 1048576: NARROWER than '..Said'. Prove '..Said' where nothing that the law and all that it calls make is longer than what came in: it says more and counts as full. Else prove '..UptoSaid'. A law counts once. -/
mutual
def uptoBulk {H : Type} : DataW H → Nat
  | .lit (.string bytes) => bytes.length + 1
  | .lit _ => 1
  | .nil => 1
  | .ptr d => uptoBulk d + 1
  | .slice elems spare => uptoBulkAll elems + uptoBulkAll spare + 1
  | .agg parts => uptoBulkAll parts + 1
  | .iface _ d => uptoBulk d + 1
  | .map entries => uptoBulkEntries entries + 1
  | .held _ => 1
def uptoBulkAll {H : Type} : List (DataW H) → Nat
  | [] => 0
  | d :: r => uptoBulk d + uptoBulkAll r
def uptoBulkEntries {H : Type} : List (Lit × DataW H) → Nat
  | [] => 0
  | x :: r => uptoBulkEntry x + uptoBulkEntries r
def uptoBulkEntry {H : Type} : Lit × DataW H → Nat
  | (.string bytes, d) => bytes.length + uptoBulk d + 1
  | (_, d) => uptoBulk d + 1
 end
def uptoSmall : (H : Type) → List (DataW H) → Bool := fun _ ds => decide (uptoBulkAll ds ≤ 1048576)
def OpenSpec.upto (s : _root_.Go.ChangeSpec) : _root_.Go.OpenSpec := { _root_.Go.OpenSpec.ofChange s with cond := some uptoSmall }

/-- 'tinderboxlaw01.CrcExact', WHERE WHAT IT READS IS OF BULK AT MOST 1048576: true; the input reads as it did. -/
def crcExactUptoRow : OpenClaim := { program := "ytpidfledopnhpaa", sum := "74ce0cfeb618d8f21c7a54c444f548df1b596b2a39e25b8dee48e01c248eb22c", func := "tinderbox/tinderboxlaw01.CrcExact", spec := "crcExact", apart := false, narrowed := true }
def CrcExactUptoSaid : Prop := crcExactUptoRow.holds Try.pinned (OpenSpec.upto crcExactSpec)

/-- 'tinderboxlaw01.CrcMore', WHERE WHAT IT READS IS OF BULK AT MOST 1048576: true; the input reads as it did. -/
def crcMoreUptoRow : OpenClaim := { program := "ytpidfledopnhpaa", sum := "74ce0cfeb618d8f21c7a54c444f548df1b596b2a39e25b8dee48e01c248eb22c", func := "tinderbox/tinderboxlaw01.CrcMore", spec := "crcMore", apart := false, narrowed := true }
def CrcMoreUptoSaid : Prop := crcMoreUptoRow.holds Try.pinned (OpenSpec.upto crcMoreSpec)

/-- 'tinderboxlaw01.CrcBits', WHERE WHAT IT READS IS OF BULK AT MOST 1048576: true; the input reads as it did. -/
def crcBitsUptoRow : OpenClaim := { program := "ytpidfledopnhpaa", sum := "74ce0cfeb618d8f21c7a54c444f548df1b596b2a39e25b8dee48e01c248eb22c", func := "tinderbox/tinderboxlaw01.CrcBits", spec := "crcBits", apart := false, narrowed := true }
def CrcBitsUptoSaid : Prop := crcBitsUptoRow.holds Try.pinned (OpenSpec.upto crcBitsSpec)

/-- 'tinderboxlaw01.CrcLinear', WHERE WHAT IT READS IS OF BULK AT MOST 1048576: true; the input reads as it did. -/
def crcLinearUptoRow : OpenClaim := { program := "ytpidfledopnhpaa", sum := "74ce0cfeb618d8f21c7a54c444f548df1b596b2a39e25b8dee48e01c248eb22c", func := "tinderbox/tinderboxlaw01.CrcLinear", spec := "crcLinear", apart := false, narrowed := true }
def CrcLinearUptoSaid : Prop := crcLinearUptoRow.holds Try.pinned (OpenSpec.upto crcLinearSpec)

/-- 'tinderboxlaw27.GfMul', WHERE WHAT IT READS IS OF BULK AT MOST 1048576: true; the input reads as it did. -/
def gfMulUptoRow : OpenClaim := { program := "ytpidfledopnhpaa", sum := "74ce0cfeb618d8f21c7a54c444f548df1b596b2a39e25b8dee48e01c248eb22c", func := "tinderbox/tinderboxlaw27.GfMul", spec := "gfMul", apart := false, narrowed := true }
def GfMulUptoSaid : Prop := gfMulUptoRow.holds Try.pinned (OpenSpec.upto gfMulSpec)

/-- 'tinderboxlaw27.GfInv', WHERE WHAT IT READS IS OF BULK AT MOST 1048576: true; the input reads as it did. -/
def gfInvUptoRow : OpenClaim := { program := "ytpidfledopnhpaa", sum := "74ce0cfeb618d8f21c7a54c444f548df1b596b2a39e25b8dee48e01c248eb22c", func := "tinderbox/tinderboxlaw27.GfInv", spec := "gfInv", apart := false, narrowed := true }
def GfInvUptoSaid : Prop := gfInvUptoRow.holds Try.pinned (OpenSpec.upto gfInvSpec)

/-- 'tinderboxlaw27.GfPow', WHERE WHAT IT READS IS OF BULK AT MOST 1048576: true; the input reads as it did. -/
def gfPowUptoRow : OpenClaim := { program := "ytpidfledopnhpaa", sum := "74ce0cfeb618d8f21c7a54c444f548df1b596b2a39e25b8dee48e01c248eb22c", func := "tinderbox/tinderboxlaw27.GfPow", spec := "gfPow", apart := false, narrowed := true }
def GfPowUptoSaid : Prop := gfPowUptoRow.holds Try.pinned (OpenSpec.upto gfPowSpec)

/-- 'tinderboxlaw27.GfRoots', WHERE WHAT IT READS IS OF BULK AT MOST 1048576: true; the input reads as it did. -/
def gfRootsUptoRow : OpenClaim := { program := "ytpidfledopnhpaa", sum := "74ce0cfeb618d8f21c7a54c444f548df1b596b2a39e25b8dee48e01c248eb22c", func := "tinderbox/tinderboxlaw27.GfRoots", spec := "gfRoots", apart := false, narrowed := true }
def GfRootsUptoSaid : Prop := gfRootsUptoRow.holds Try.pinned (OpenSpec.upto gfRootsSpec)

/-- 'tinderboxlaw27.GfDegrees', WHERE WHAT IT READS IS OF BULK AT MOST 1048576: true; the input reads as it did. -/
def gfDegreesUptoRow : OpenClaim := { program := "ytpidfledopnhpaa", sum := "74ce0cfeb618d8f21c7a54c444f548df1b596b2a39e25b8dee48e01c248eb22c", func := "tinderbox/tinderboxlaw27.GfDegrees", spec := "gfDegrees", apart := false, narrowed := true }
def GfDegreesUptoSaid : Prop := gfDegreesUptoRow.holds Try.pinned (OpenSpec.upto gfDegreesSpec)

/-- 'tinderboxlaw27.GfSlope', WHERE WHAT IT READS IS OF BULK AT MOST 1048576: true; the input reads as it did. -/
def gfSlopeUptoRow : OpenClaim := { program := "ytpidfledopnhpaa", sum := "74ce0cfeb618d8f21c7a54c444f548df1b596b2a39e25b8dee48e01c248eb22c", func := "tinderbox/tinderboxlaw27.GfSlope", spec := "gfSlope", apart := false, narrowed := true }
def GfSlopeUptoSaid : Prop := gfSlopeUptoRow.holds Try.pinned (OpenSpec.upto gfSlopeSpec)

/-- 'tinderboxlaw27.GfPolys', WHERE WHAT IT READS IS OF BULK AT MOST 1048576: true; the input reads as it did. -/
def gfPolysUptoRow : OpenClaim := { program := "ytpidfledopnhpaa", sum := "74ce0cfeb618d8f21c7a54c444f548df1b596b2a39e25b8dee48e01c248eb22c", func := "tinderbox/tinderboxlaw27.GfPolys", spec := "gfPolys", apart := false, narrowed := true }
def GfPolysUptoSaid : Prop := gfPolysUptoRow.holds Try.pinned (OpenSpec.upto gfPolysSpec)

/-- 'tinderboxlaw27.GfMod', WHERE WHAT IT READS IS OF BULK AT MOST 1048576: true; the input reads as it did. -/
def gfModUptoRow : OpenClaim := { program := "ytpidfledopnhpaa", sum := "74ce0cfeb618d8f21c7a54c444f548df1b596b2a39e25b8dee48e01c248eb22c", func := "tinderbox/tinderboxlaw27.GfMod", spec := "gfMod", apart := false, narrowed := true }
def GfModUptoSaid : Prop := gfModUptoRow.holds Try.pinned (OpenSpec.upto gfModSpec)

end Rows
end Go.Proofs.Ytpidfledopnhpaa
