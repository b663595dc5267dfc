/-
  DERIVED. GIVEN WITH THE SEED: THE CARDS: each row of YtjmabdgebhndhaaDoorRows.lean that lists a variable, with what it lists TIED to the program's text (the seventh form; the later family's looks); each row that meets fmt, with fmt's text TOLD by the authors' own Lean function (tested against real Go, not proved from fmt's source: count such statements apart). THE CARD IS WHAT COUNTS. Prove the row's statement (the work); the ties are given (YtjmabdgebhndhaaDoorTie.lean); close each card by the builder's one call (the guide's Derived/Test/ToyasCard.lean, 'card_holds'). Laid BY PROGRAM, IN A SANDBOX (cutbox-door.mjs). By AI agents, Wed Nov 11 2026. No macro, syntax, notation, axiom, sorry.
-/
import Derived.Test.YtjmabdgebhndhaaDoorRows
import GoSem.ClaimSeven
namespace Go.Proofs.YtjmabdgebhndhaaDoor
namespace Rows

/-- THE TIED CARD OF 'tinderboxlaw20.ManifestTexts'. -/
def manifestTextsCard : Claim7 := { stood := { row := manifestTextsRow, standIns := [], harness := (true, "f19e475175cb1ae37ca3ae7c0e4f69bcc852b5c8a91a8646f062558e5a478d5f"), looks := false }, kinds := [], alts := [], laidByText := true, laidKinds := [.data, .pinned], laidTests := true, laidLooks := .later }
def ManifestTextsCardSaid : Prop := Claim7.holds Tryd.pinned (.plain (OpenSpec.ofChange manifestTextsSpec)) manifestTextsCard

/-- THE TIED CARD OF 'tinderboxlaw20.ManifestOf'. -/
def manifestOfCard : Claim7 := { stood := { row := manifestOfRow, standIns := [], harness := (true, "f19e475175cb1ae37ca3ae7c0e4f69bcc852b5c8a91a8646f062558e5a478d5f"), looks := false }, kinds := [], alts := [], laidByText := true, laidKinds := [.data, .pinned], laidTests := true, laidLooks := .later }
def ManifestOfCardSaid : Prop := Claim7.holds Tryd.pinned (.plain (OpenSpec.ofChange manifestOfSpec)) manifestOfCard

/-- THE TIED CARD OF 'tinderboxlaw20.ManifestChecks'. -/
def manifestChecksCard : Claim7 := { stood := { row := manifestChecksRow, standIns := [], harness := (true, "f19e475175cb1ae37ca3ae7c0e4f69bcc852b5c8a91a8646f062558e5a478d5f"), looks := false }, kinds := [], alts := [], laidByText := true, laidKinds := [.data, .pinned], laidTests := true, laidLooks := .later }
def ManifestChecksCardSaid : Prop := Claim7.holds Tryd.pinned (.plain (OpenSpec.ofChange manifestChecksSpec)) manifestChecksCard

/-- THE TIED CARD OF 'tinderboxlaw20.ManifestBytes'. -/
def manifestBytesCard : Claim7 := { stood := { row := manifestBytesRow, standIns := [], harness := (true, "f19e475175cb1ae37ca3ae7c0e4f69bcc852b5c8a91a8646f062558e5a478d5f"), looks := false }, kinds := [], alts := [], laidByText := true, laidKinds := [.data, .pinned], laidTests := true, laidLooks := .later }
def ManifestBytesCardSaid : Prop := Claim7.holds Tryd.pinned (.plain (OpenSpec.ofChange manifestBytesSpec)) manifestBytesCard

/-- THE TIED CARD OF 'tinderboxlaw20.ManifestCounts'. -/
def manifestCountsCard : Claim7 := { stood := { row := manifestCountsRow, standIns := [], harness := (true, "f19e475175cb1ae37ca3ae7c0e4f69bcc852b5c8a91a8646f062558e5a478d5f"), looks := false }, kinds := [], alts := [], laidByText := true, laidKinds := [.data, .data, .data, .data, .pinned], laidTests := true, laidLooks := .later }
def ManifestCountsCardSaid : Prop := Claim7.holds Tryd.pinned (.plain (OpenSpec.ofChange manifestCountsSpec)) manifestCountsCard

/-- THE SECOND FORM's CARD OF 'tinderboxlaw20.ManifestTexts'. -/
def manifestTextsUptoCard : Claim7 := { stood := { row := manifestTextsUptoRow, standIns := [], harness := (true, "f19e475175cb1ae37ca3ae7c0e4f69bcc852b5c8a91a8646f062558e5a478d5f"), looks := false }, kinds := [], alts := [], laidByText := true, laidKinds := [.data, .pinned], laidTests := true, laidLooks := .later }
def ManifestTextsUptoCardSaid : Prop := Claim7.holds Tryd.pinned (.plain (OpenSpec.upto manifestTextsSpec)) manifestTextsUptoCard

/-- THE SECOND FORM's CARD OF 'tinderboxlaw20.ManifestOf'. -/
def manifestOfUptoCard : Claim7 := { stood := { row := manifestOfUptoRow, standIns := [], harness := (true, "f19e475175cb1ae37ca3ae7c0e4f69bcc852b5c8a91a8646f062558e5a478d5f"), looks := false }, kinds := [], alts := [], laidByText := true, laidKinds := [.data, .pinned], laidTests := true, laidLooks := .later }
def ManifestOfUptoCardSaid : Prop := Claim7.holds Tryd.pinned (.plain (OpenSpec.upto manifestOfSpec)) manifestOfUptoCard

/-- THE SECOND FORM's CARD OF 'tinderboxlaw20.ManifestChecks'. -/
def manifestChecksUptoCard : Claim7 := { stood := { row := manifestChecksUptoRow, standIns := [], harness := (true, "f19e475175cb1ae37ca3ae7c0e4f69bcc852b5c8a91a8646f062558e5a478d5f"), looks := false }, kinds := [], alts := [], laidByText := true, laidKinds := [.data, .pinned], laidTests := true, laidLooks := .later }
def ManifestChecksUptoCardSaid : Prop := Claim7.holds Tryd.pinned (.plain (OpenSpec.upto manifestChecksSpec)) manifestChecksUptoCard

/-- THE SECOND FORM's CARD OF 'tinderboxlaw20.ManifestBytes'. -/
def manifestBytesUptoCard : Claim7 := { stood := { row := manifestBytesUptoRow, standIns := [], harness := (true, "f19e475175cb1ae37ca3ae7c0e4f69bcc852b5c8a91a8646f062558e5a478d5f"), looks := false }, kinds := [], alts := [], laidByText := true, laidKinds := [.data, .pinned], laidTests := true, laidLooks := .later }
def ManifestBytesUptoCardSaid : Prop := Claim7.holds Tryd.pinned (.plain (OpenSpec.upto manifestBytesSpec)) manifestBytesUptoCard

/-- THE SECOND FORM's CARD OF 'tinderboxlaw20.ManifestCounts'. -/
def manifestCountsUptoCard : Claim7 := { stood := { row := manifestCountsUptoRow, standIns := [], harness := (true, "f19e475175cb1ae37ca3ae7c0e4f69bcc852b5c8a91a8646f062558e5a478d5f"), looks := false }, kinds := [], alts := [], laidByText := true, laidKinds := [.data, .data, .data, .data, .pinned], laidTests := true, laidLooks := .later }
def ManifestCountsUptoCardSaid : Prop := Claim7.holds Tryd.pinned (.plain (OpenSpec.upto manifestCountsSpec)) manifestCountsUptoCard
end Rows
end Go.Proofs.YtjmabdgebhndhaaDoor
