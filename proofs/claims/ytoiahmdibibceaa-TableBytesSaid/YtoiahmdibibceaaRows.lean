/-
  No cell of these rows narrows 'for every input' (looked for: loops, veiled, ifaces, maps, wideKeys, modest, calm, conditions, laid).
  DERIVED. THE GIVEN ROWS OF THIS SEAT. 12 by the template 'for every input the law returns true; each argument reads behind the call as it read before'; 0 by the template 'total and deterministic' (their statements: YtoiahmdibibceaaTotals.lean).
  GIVEN WITH THE SEED: the statements are not yours to turn. If you find one false, say at which input.
  Laid BY PROGRAM, IN A SANDBOX (cutbox-rows.mjs): the forced cells as the released guide's own fill.sh prints them over the translation 98f3a396a6a9cc73… (all of the seat's roots in one cut). By AI agents, Wed Nov 11 2026. No macro, syntax, notation, axiom, sorry.
-/
import Derived.Test.YtoiahmdibibceaaChecked
import GoSem.Claim
import GoSem.ClaimJoined
import GoSem.ClaimMapViews
import Derived.JoinedTies
import Derived.KernelRfl
namespace Go.Proofs.Ytoiahmdibibceaa
/- THE CELL 'sum', in the pinned program and in every row, IS THE sha256 OF THE DUMP (.gsa) THAT YtoiahmdibibceaaProg.lean LOADS. Nothing in Lean hashes anything: it is a label: what it is worth is what the hold of that sum in a sandbox is worth. -/
noncomputable def Try.pinned : Pinned := { name := "ytoiahmdibibceaa", sum := "98f3a396a6a9cc73a5065de8c1043ba6084158a2f44822c8279b045bee9a50d7", checked := Try.checked }
namespace Rows
def none {H : Type} : Left H := { results := [], args := [] }

/-- 'tinderboxlaw04.CodeTexts': WHATEVER THE INPUT: true; the input reads as it did. -/
def codeTextsSpec : ChangeSpec := { name := "codeTexts", fn := fun _ => fun
  | [d1, d2, d3] => { results := [.lit (.bool true)], args := [d1, d2, d3] }
  | _ => none }
def codeTextsRow : OpenClaim := { program := "ytoiahmdibibceaa", sum := "98f3a396a6a9cc73a5065de8c1043ba6084158a2f44822c8279b045bee9a50d7", func := "tinderbox/tinderboxlaw04.CodeTexts", spec := "codeTexts", apart := false }
def CodeTextsSaid : Prop := codeTextsRow.holds Try.pinned (OpenSpec.ofChange codeTextsSpec)

/-- ITS FALSE NEIGHBOUR: 'it returns false'. Refute it at one input. -/
def codeTextsWrong : ChangeSpec := { name := "codeTexts", fn := fun _ => fun
  | [d1, d2, d3] => { results := [.lit (.bool false)], args := [d1, d2, d3] }
  | _ => none }
def CodeTextsWrongFalsely : Prop := codeTextsRow.holds Try.pinned (OpenSpec.ofChange codeTextsWrong)

/-- 'tinderboxlaw04.CodeForms': WHATEVER THE INPUT: true; the input reads as it did. -/
def codeFormsSpec : ChangeSpec := { name := "codeForms", fn := fun _ => fun
  | [d] => { results := [.lit (.bool true)], args := [d] }
  | _ => none }
def codeFormsRow : OpenClaim := { program := "ytoiahmdibibceaa", sum := "98f3a396a6a9cc73a5065de8c1043ba6084158a2f44822c8279b045bee9a50d7", func := "tinderbox/tinderboxlaw04.CodeForms", spec := "codeForms", apart := false }
def CodeFormsSaid : Prop := codeFormsRow.holds Try.pinned (OpenSpec.ofChange codeFormsSpec)

/-- ITS FALSE NEIGHBOUR: 'it returns false'. Refute it at one input. -/
def codeFormsWrong : ChangeSpec := { name := "codeForms", fn := fun _ => fun
  | [d] => { results := [.lit (.bool false)], args := [d] }
  | _ => none }
def CodeFormsWrongFalsely : Prop := codeFormsRow.holds Try.pinned (OpenSpec.ofChange codeFormsWrong)

/-- 'tinderboxlaw04.CodeNone': WHATEVER THE INPUT: true; the input reads as it did. -/
def codeNoneSpec : ChangeSpec := { name := "codeNone", fn := fun _ => fun
  | [d] => { results := [.lit (.bool true)], args := [d] }
  | _ => none }
def codeNoneRow : OpenClaim := { program := "ytoiahmdibibceaa", sum := "98f3a396a6a9cc73a5065de8c1043ba6084158a2f44822c8279b045bee9a50d7", func := "tinderbox/tinderboxlaw04.CodeNone", spec := "codeNone", apart := false }
def CodeNoneSaid : Prop := codeNoneRow.holds Try.pinned (OpenSpec.ofChange codeNoneSpec)

/-- ITS FALSE NEIGHBOUR: 'it returns false'. Refute it at one input. -/
def codeNoneWrong : ChangeSpec := { name := "codeNone", fn := fun _ => fun
  | [d] => { results := [.lit (.bool false)], args := [d] }
  | _ => none }
def CodeNoneWrongFalsely : Prop := codeNoneRow.holds Try.pinned (OpenSpec.ofChange codeNoneWrong)

/-- 'tinderboxlaw21.TableTrials': WHATEVER THE INPUT: true; the input reads as it did. -/
def tableTrialsSpec : ChangeSpec := { name := "tableTrials", fn := fun _ => fun
  | [d1, d2, d3] => { results := [.lit (.bool true)], args := [d1, d2, d3] }
  | _ => none }
def tableTrialsRow : OpenClaim := { program := "ytoiahmdibibceaa", sum := "98f3a396a6a9cc73a5065de8c1043ba6084158a2f44822c8279b045bee9a50d7", func := "tinderbox/tinderboxlaw21.TableTrials", spec := "tableTrials", apart := false }
def TableTrialsSaid : Prop := tableTrialsRow.holds Try.pinned (OpenSpec.ofChange tableTrialsSpec)

/-- ITS FALSE NEIGHBOUR: 'it returns false'. Refute it at one input. -/
def tableTrialsWrong : ChangeSpec := { name := "tableTrials", fn := fun _ => fun
  | [d1, d2, d3] => { results := [.lit (.bool false)], args := [d1, d2, d3] }
  | _ => none }
def TableTrialsWrongFalsely : Prop := tableTrialsRow.holds Try.pinned (OpenSpec.ofChange tableTrialsWrong)

/-- 'tinderboxlaw21.TableActs': WHATEVER THE INPUT: true; the input reads as it did. -/
def tableActsSpec : ChangeSpec := { name := "tableActs", fn := fun _ => fun
  | [d1, d2] => { results := [.lit (.bool true)], args := [d1, d2] }
  | _ => none }
def tableActsRow : OpenClaim := { program := "ytoiahmdibibceaa", sum := "98f3a396a6a9cc73a5065de8c1043ba6084158a2f44822c8279b045bee9a50d7", func := "tinderbox/tinderboxlaw21.TableActs", spec := "tableActs", apart := false }
def TableActsSaid : Prop := tableActsRow.holds Try.pinned (OpenSpec.ofChange tableActsSpec)

/-- ITS FALSE NEIGHBOUR: 'it returns false'. Refute it at one input. -/
def tableActsWrong : ChangeSpec := { name := "tableActs", fn := fun _ => fun
  | [d1, d2] => { results := [.lit (.bool false)], args := [d1, d2] }
  | _ => none }
def TableActsWrongFalsely : Prop := tableActsRow.holds Try.pinned (OpenSpec.ofChange tableActsWrong)

/-- 'tinderboxlaw21.TablePlays': WHATEVER THE INPUT: true; the input reads as it did. -/
def tablePlaysSpec : ChangeSpec := { name := "tablePlays", fn := fun _ => fun
  | [d1, d2] => { results := [.lit (.bool true)], args := [d1, d2] }
  | _ => none }
def tablePlaysRow : OpenClaim := { program := "ytoiahmdibibceaa", sum := "98f3a396a6a9cc73a5065de8c1043ba6084158a2f44822c8279b045bee9a50d7", func := "tinderbox/tinderboxlaw21.TablePlays", spec := "tablePlays", apart := false }
def TablePlaysSaid : Prop := tablePlaysRow.holds Try.pinned (OpenSpec.ofChange tablePlaysSpec)

/-- ITS FALSE NEIGHBOUR: 'it returns false'. Refute it at one input. -/
def tablePlaysWrong : ChangeSpec := { name := "tablePlays", fn := fun _ => fun
  | [d1, d2] => { results := [.lit (.bool false)], args := [d1, d2] }
  | _ => none }
def TablePlaysWrongFalsely : Prop := tablePlaysRow.holds Try.pinned (OpenSpec.ofChange tablePlaysWrong)

/-- 'tinderboxlaw07.RecChecks': WHATEVER THE INPUT: true; the input reads as it did. -/
def recChecksSpec : ChangeSpec := { name := "recChecks", fn := fun _ => fun
  | [d] => { results := [.lit (.bool true)], args := [d] }
  | _ => none }
def recChecksRow : OpenClaim := { program := "ytoiahmdibibceaa", sum := "98f3a396a6a9cc73a5065de8c1043ba6084158a2f44822c8279b045bee9a50d7", func := "tinderbox/tinderboxlaw07.RecChecks", spec := "recChecks", apart := false }
def RecChecksSaid : Prop := recChecksRow.holds Try.pinned (OpenSpec.ofChange recChecksSpec)

/-- ITS FALSE NEIGHBOUR: 'it returns false'. Refute it at one input. -/
def recChecksWrong : ChangeSpec := { name := "recChecks", fn := fun _ => fun
  | [d] => { results := [.lit (.bool false)], args := [d] }
  | _ => none }
def RecChecksWrongFalsely : Prop := recChecksRow.holds Try.pinned (OpenSpec.ofChange recChecksWrong)

/-- 'tinderboxlaw07.RecRows': WHATEVER THE INPUT: true; the input reads as it did. -/
def recRowsSpec : ChangeSpec := { name := "recRows", fn := fun _ => fun
  | [d] => { results := [.lit (.bool true)], args := [d] }
  | _ => none }
def recRowsRow : OpenClaim := { program := "ytoiahmdibibceaa", sum := "98f3a396a6a9cc73a5065de8c1043ba6084158a2f44822c8279b045bee9a50d7", func := "tinderbox/tinderboxlaw07.RecRows", spec := "recRows", apart := false }
def RecRowsSaid : Prop := recRowsRow.holds Try.pinned (OpenSpec.ofChange recRowsSpec)

/-- ITS FALSE NEIGHBOUR: 'it returns false'. Refute it at one input. -/
def recRowsWrong : ChangeSpec := { name := "recRows", fn := fun _ => fun
  | [d] => { results := [.lit (.bool false)], args := [d] }
  | _ => none }
def RecRowsWrongFalsely : Prop := recRowsRow.holds Try.pinned (OpenSpec.ofChange recRowsWrong)

/-- 'tinderboxlaw07.RecReads': WHATEVER THE INPUT: true; the input reads as it did. -/
def recReadsSpec : ChangeSpec := { name := "recReads", fn := fun _ => fun
  | [d] => { results := [.lit (.bool true)], args := [d] }
  | _ => none }
def recReadsRow : OpenClaim := { program := "ytoiahmdibibceaa", sum := "98f3a396a6a9cc73a5065de8c1043ba6084158a2f44822c8279b045bee9a50d7", func := "tinderbox/tinderboxlaw07.RecReads", spec := "recReads", apart := false }
def RecReadsSaid : Prop := recReadsRow.holds Try.pinned (OpenSpec.ofChange recReadsSpec)

/-- ITS FALSE NEIGHBOUR: 'it returns false'. Refute it at one input. -/
def recReadsWrong : ChangeSpec := { name := "recReads", fn := fun _ => fun
  | [d] => { results := [.lit (.bool false)], args := [d] }
  | _ => none }
def RecReadsWrongFalsely : Prop := recReadsRow.holds Try.pinned (OpenSpec.ofChange recReadsWrong)

/-- 'tinderboxlaw21.TableBytes': WHATEVER THE INPUT: true; the input reads as it did. -/
def tableBytesSpec : ChangeSpec := { name := "tableBytes", fn := fun _ => fun
  | [d1, d2] => { results := [.lit (.bool true)], args := [d1, d2] }
  | _ => none }
def tableBytesRow : OpenClaim := { program := "ytoiahmdibibceaa", sum := "98f3a396a6a9cc73a5065de8c1043ba6084158a2f44822c8279b045bee9a50d7", func := "tinderbox/tinderboxlaw21.TableBytes", spec := "tableBytes", apart := false }
def TableBytesSaid : Prop := tableBytesRow.holds Try.pinned (OpenSpec.ofChange tableBytesSpec)

/-- ITS FALSE NEIGHBOUR: 'it returns false'. Refute it at one input. -/
def tableBytesWrong : ChangeSpec := { name := "tableBytes", fn := fun _ => fun
  | [d1, d2] => { results := [.lit (.bool false)], args := [d1, d2] }
  | _ => none }
def TableBytesWrongFalsely : Prop := tableBytesRow.holds Try.pinned (OpenSpec.ofChange tableBytesWrong)

/-- 'tinderboxlaw09.GroupReads': WHATEVER THE INPUT: true; the input reads as it did. -/
def groupReadsSpec : ChangeSpec := { name := "groupReads", fn := fun _ => fun
  | [d] => { results := [.lit (.bool true)], args := [d] }
  | _ => none }
def groupReadsRow : OpenClaim := { program := "ytoiahmdibibceaa", sum := "98f3a396a6a9cc73a5065de8c1043ba6084158a2f44822c8279b045bee9a50d7", func := "tinderbox/tinderboxlaw09.GroupReads", spec := "groupReads", apart := false }
def GroupReadsSaid : Prop := groupReadsRow.holds Try.pinned (OpenSpec.ofChange groupReadsSpec)

/-- ITS FALSE NEIGHBOUR: 'it returns false'. Refute it at one input. -/
def groupReadsWrong : ChangeSpec := { name := "groupReads", fn := fun _ => fun
  | [d] => { results := [.lit (.bool false)], args := [d] }
  | _ => none }
def GroupReadsWrongFalsely : Prop := groupReadsRow.holds Try.pinned (OpenSpec.ofChange groupReadsWrong)

/-- 'tinderboxlaw09.GroupMost': WHATEVER THE INPUT: true; the input reads as it did. -/
def groupMostSpec : ChangeSpec := { name := "groupMost", fn := fun _ => fun
  | [d1, d2] => { results := [.lit (.bool true)], args := [d1, d2] }
  | _ => none }
def groupMostRow : OpenClaim := { program := "ytoiahmdibibceaa", sum := "98f3a396a6a9cc73a5065de8c1043ba6084158a2f44822c8279b045bee9a50d7", func := "tinderbox/tinderboxlaw09.GroupMost", spec := "groupMost", apart := false }
def GroupMostSaid : Prop := groupMostRow.holds Try.pinned (OpenSpec.ofChange groupMostSpec)

/-- ITS FALSE NEIGHBOUR: 'it returns false'. Refute it at one input. -/
def groupMostWrong : ChangeSpec := { name := "groupMost", fn := fun _ => fun
  | [d1, d2] => { results := [.lit (.bool false)], args := [d1, d2] }
  | _ => none }
def GroupMostWrongFalsely : Prop := groupMostRow.holds Try.pinned (OpenSpec.ofChange groupMostWrong)

/- THE SECOND FORM. 'bulk': how many values and letters a reading holds, each counted each time it is reached (what is shared counts as often as it is met; a slice's spare places count too). A statement '..UptoSaid' is the law's where the arguments, and the package variables that the reading takes, are together of bulk at most 1048576: NARROWER than '..Said'. Prove '..Said' where nothing that the law and all that it calls make is longer than what came in: it says more and counts as full. Else prove '..UptoSaid'. A law counts once. -/
mutual
def uptoBulk {H : Type} : DataW H → Nat
  | .lit (.string bytes) => bytes.length + 1
  | .lit _ => 1
  | .nil => 1
  | .ptr d => uptoBulk d + 1
  | .slice elems spare => uptoBulkAll elems + uptoBulkAll spare + 1
  | .agg parts => uptoBulkAll parts + 1
  | .iface _ d => uptoBulk d + 1
  | .map entries => uptoBulkEntries entries + 1
  | .held _ => 1
def uptoBulkAll {H : Type} : List (DataW H) → Nat
  | [] => 0
  | d :: r => uptoBulk d + uptoBulkAll r
def uptoBulkEntries {H : Type} : List (Lit × DataW H) → Nat
  | [] => 0
  | x :: r => uptoBulkEntry x + uptoBulkEntries r
def uptoBulkEntry {H : Type} : Lit × DataW H → Nat
  | (.string bytes, d) => bytes.length + uptoBulk d + 1
  | (_, d) => uptoBulk d + 1
 end
def uptoSmall : (H : Type) → List (DataW H) → Bool := fun _ ds => decide (uptoBulkAll ds ≤ 1048576)
def OpenSpec.upto (s : _root_.Go.ChangeSpec) : _root_.Go.OpenSpec := { _root_.Go.OpenSpec.ofChange s with cond := some uptoSmall }

/-- 'tinderboxlaw04.CodeTexts', WHERE WHAT IT READS IS OF BULK AT MOST 1048576: true; the input reads as it did. -/
def codeTextsUptoRow : OpenClaim := { program := "ytoiahmdibibceaa", sum := "98f3a396a6a9cc73a5065de8c1043ba6084158a2f44822c8279b045bee9a50d7", func := "tinderbox/tinderboxlaw04.CodeTexts", spec := "codeTexts", apart := false, narrowed := true }
def CodeTextsUptoSaid : Prop := codeTextsUptoRow.holds Try.pinned (OpenSpec.upto codeTextsSpec)

/-- 'tinderboxlaw04.CodeForms', WHERE WHAT IT READS IS OF BULK AT MOST 1048576: true; the input reads as it did. -/
def codeFormsUptoRow : OpenClaim := { program := "ytoiahmdibibceaa", sum := "98f3a396a6a9cc73a5065de8c1043ba6084158a2f44822c8279b045bee9a50d7", func := "tinderbox/tinderboxlaw04.CodeForms", spec := "codeForms", apart := false, narrowed := true }
def CodeFormsUptoSaid : Prop := codeFormsUptoRow.holds Try.pinned (OpenSpec.upto codeFormsSpec)

/-- 'tinderboxlaw04.CodeNone', WHERE WHAT IT READS IS OF BULK AT MOST 1048576: true; the input reads as it did. -/
def codeNoneUptoRow : OpenClaim := { program := "ytoiahmdibibceaa", sum := "98f3a396a6a9cc73a5065de8c1043ba6084158a2f44822c8279b045bee9a50d7", func := "tinderbox/tinderboxlaw04.CodeNone", spec := "codeNone", apart := false, narrowed := true }
def CodeNoneUptoSaid : Prop := codeNoneUptoRow.holds Try.pinned (OpenSpec.upto codeNoneSpec)

/-- 'tinderboxlaw21.TableTrials', WHERE WHAT IT READS IS OF BULK AT MOST 1048576: true; the input reads as it did. -/
def tableTrialsUptoRow : OpenClaim := { program := "ytoiahmdibibceaa", sum := "98f3a396a6a9cc73a5065de8c1043ba6084158a2f44822c8279b045bee9a50d7", func := "tinderbox/tinderboxlaw21.TableTrials", spec := "tableTrials", apart := false, narrowed := true }
def TableTrialsUptoSaid : Prop := tableTrialsUptoRow.holds Try.pinned (OpenSpec.upto tableTrialsSpec)

/-- 'tinderboxlaw21.TableActs', WHERE WHAT IT READS IS OF BULK AT MOST 1048576: true; the input reads as it did. -/
def tableActsUptoRow : OpenClaim := { program := "ytoiahmdibibceaa", sum := "98f3a396a6a9cc73a5065de8c1043ba6084158a2f44822c8279b045bee9a50d7", func := "tinderbox/tinderboxlaw21.TableActs", spec := "tableActs", apart := false, narrowed := true }
def TableActsUptoSaid : Prop := tableActsUptoRow.holds Try.pinned (OpenSpec.upto tableActsSpec)

/-- 'tinderboxlaw21.TablePlays', WHERE WHAT IT READS IS OF BULK AT MOST 1048576: true; the input reads as it did. -/
def tablePlaysUptoRow : OpenClaim := { program := "ytoiahmdibibceaa", sum := "98f3a396a6a9cc73a5065de8c1043ba6084158a2f44822c8279b045bee9a50d7", func := "tinderbox/tinderboxlaw21.TablePlays", spec := "tablePlays", apart := false, narrowed := true }
def TablePlaysUptoSaid : Prop := tablePlaysUptoRow.holds Try.pinned (OpenSpec.upto tablePlaysSpec)

/-- 'tinderboxlaw07.RecChecks', WHERE WHAT IT READS IS OF BULK AT MOST 1048576: true; the input reads as it did. -/
def recChecksUptoRow : OpenClaim := { program := "ytoiahmdibibceaa", sum := "98f3a396a6a9cc73a5065de8c1043ba6084158a2f44822c8279b045bee9a50d7", func := "tinderbox/tinderboxlaw07.RecChecks", spec := "recChecks", apart := false, narrowed := true }
def RecChecksUptoSaid : Prop := recChecksUptoRow.holds Try.pinned (OpenSpec.upto recChecksSpec)

/-- 'tinderboxlaw07.RecRows', WHERE WHAT IT READS IS OF BULK AT MOST 1048576: true; the input reads as it did. -/
def recRowsUptoRow : OpenClaim := { program := "ytoiahmdibibceaa", sum := "98f3a396a6a9cc73a5065de8c1043ba6084158a2f44822c8279b045bee9a50d7", func := "tinderbox/tinderboxlaw07.RecRows", spec := "recRows", apart := false, narrowed := true }
def RecRowsUptoSaid : Prop := recRowsUptoRow.holds Try.pinned (OpenSpec.upto recRowsSpec)

/-- 'tinderboxlaw07.RecReads', WHERE WHAT IT READS IS OF BULK AT MOST 1048576: true; the input reads as it did. -/
def recReadsUptoRow : OpenClaim := { program := "ytoiahmdibibceaa", sum := "98f3a396a6a9cc73a5065de8c1043ba6084158a2f44822c8279b045bee9a50d7", func := "tinderbox/tinderboxlaw07.RecReads", spec := "recReads", apart := false, narrowed := true }
def RecReadsUptoSaid : Prop := recReadsUptoRow.holds Try.pinned (OpenSpec.upto recReadsSpec)

/-- 'tinderboxlaw21.TableBytes', WHERE WHAT IT READS IS OF BULK AT MOST 1048576: true; the input reads as it did. -/
def tableBytesUptoRow : OpenClaim := { program := "ytoiahmdibibceaa", sum := "98f3a396a6a9cc73a5065de8c1043ba6084158a2f44822c8279b045bee9a50d7", func := "tinderbox/tinderboxlaw21.TableBytes", spec := "tableBytes", apart := false, narrowed := true }
def TableBytesUptoSaid : Prop := tableBytesUptoRow.holds Try.pinned (OpenSpec.upto tableBytesSpec)

/-- 'tinderboxlaw09.GroupReads', WHERE WHAT IT READS IS OF BULK AT MOST 1048576: true; the input reads as it did. -/
def groupReadsUptoRow : OpenClaim := { program := "ytoiahmdibibceaa", sum := "98f3a396a6a9cc73a5065de8c1043ba6084158a2f44822c8279b045bee9a50d7", func := "tinderbox/tinderboxlaw09.GroupReads", spec := "groupReads", apart := false, narrowed := true }
def GroupReadsUptoSaid : Prop := groupReadsUptoRow.holds Try.pinned (OpenSpec.upto groupReadsSpec)

/-- 'tinderboxlaw09.GroupMost', WHERE WHAT IT READS IS OF BULK AT MOST 1048576: true; the input reads as it did. -/
def groupMostUptoRow : OpenClaim := { program := "ytoiahmdibibceaa", sum := "98f3a396a6a9cc73a5065de8c1043ba6084158a2f44822c8279b045bee9a50d7", func := "tinderbox/tinderboxlaw09.GroupMost", spec := "groupMost", apart := false, narrowed := true }
def GroupMostUptoSaid : Prop := groupMostUptoRow.holds Try.pinned (OpenSpec.upto groupMostSpec)

end Rows
end Go.Proofs.Ytoiahmdibibceaa
