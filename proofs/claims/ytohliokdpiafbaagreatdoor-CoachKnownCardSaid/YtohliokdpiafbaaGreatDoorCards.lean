/-
  DERIVED. GIVEN WITH THE SEED: THE CARDS: each row of YtohliokdpiafbaaGreatDoorRows.lean that lists a variable, with what it lists TIED to the program's text (the seventh form; the later family's looks); each row that meets fmt, with fmt's text TOLD by the authors' own Lean function (tested against real Go, not proved from fmt's source: count such statements apart). THE CARD IS WHAT COUNTS. Prove the row's statement (the work); the ties are given (YtohliokdpiafbaaGreatDoorTie.lean); close each card by the builder's one call (the guide's Derived/Test/ToyasCard.lean, 'card_holds'). Laid BY PROGRAM, IN A SANDBOX (cutbox-door.mjs). By AI agents, Wed Nov 11 2026. No macro, syntax, notation, axiom, sorry.
-/
import Derived.Test.YtohliokdpiafbaaGreatDoorRows
import GoSem.ClaimSeven
namespace Go.Proofs.YtohliokdpiafbaaGreatDoor
namespace Rows

/-- THE TIED CARD OF 'parlourlaw43.CoachTexts'. -/
def coachTextsCard : Claim7 := { stood := { row := coachTextsRow, standIns := [], harness := (true, "1a1ffd28fb0969951fd0d9fd19b129e9c4f35086981f6db5c4d133f6a208ce5d"), looks := true }, kinds := [], alts := [], goes := true, laidByText := true, laidKinds := [.data, .data, .data, .data], laidTests := true, laidLooks := .later }
def CoachTextsCardSaid : Prop := Claim7.holds Tryz.pinned (.plain (OpenSpec.ofChange coachTextsSpec)) coachTextsCard

/-- THE TIED CARD OF 'parlourlaw43.CoachReviews'. -/
def coachReviewsCard : Claim7 := { stood := { row := coachReviewsRow, standIns := [], harness := (true, "1a1ffd28fb0969951fd0d9fd19b129e9c4f35086981f6db5c4d133f6a208ce5d"), looks := true }, kinds := [], alts := [], goes := true, laidByText := true, laidKinds := [.data, .data, .data, .data], laidTests := true, laidLooks := .later }
def CoachReviewsCardSaid : Prop := Claim7.holds Tryz.pinned (.plain (OpenSpec.ofChange coachReviewsSpec)) coachReviewsCard

/-- THE TIED CARD OF 'parlourlaw43.CoachCosts'. -/
def coachCostsCard : Claim7 := { stood := { row := coachCostsRow, standIns := [], harness := (true, "1a1ffd28fb0969951fd0d9fd19b129e9c4f35086981f6db5c4d133f6a208ce5d"), looks := true }, kinds := [], alts := [], goes := true, laidByText := true, laidKinds := [.data, .data, .data, .data], laidTests := true, laidLooks := .later }
def CoachCostsCardSaid : Prop := Claim7.holds Tryz.pinned (.plain (OpenSpec.ofChange coachCostsSpec)) coachCostsCard

/-- THE TIED CARD OF 'parlourlaw43.CoachKnown'. -/
def coachKnownCard : Claim7 := { stood := { row := coachKnownRow, standIns := [], harness := (true, "1a1ffd28fb0969951fd0d9fd19b129e9c4f35086981f6db5c4d133f6a208ce5d"), looks := true }, kinds := [], alts := [], goes := true, laidByText := true, laidKinds := [.data, .data, .data, .data], laidTests := true, laidLooks := .later }
def CoachKnownCardSaid : Prop := Claim7.holds Tryz.pinned (.plain (OpenSpec.ofChange coachKnownSpec)) coachKnownCard

/-- THE TIED CARD OF 'parlourlaw43.CoachLeaks'. -/
def coachLeaksCard : Claim7 := { stood := { row := coachLeaksRow, standIns := [], harness := (true, "1a1ffd28fb0969951fd0d9fd19b129e9c4f35086981f6db5c4d133f6a208ce5d"), looks := true }, kinds := [], alts := [], goes := true, laidByText := true, laidKinds := [.data, .data, .data, .data], laidTests := true, laidLooks := .later }
def CoachLeaksCardSaid : Prop := Claim7.holds Tryz.pinned (.plain (OpenSpec.ofChange coachLeaksSpec)) coachLeaksCard

/-- THE TIED CARD OF 'parlourlaw43.CoachScales'. -/
def coachScalesCard : Claim7 := { stood := { row := coachScalesRow, standIns := [], harness := (true, "1a1ffd28fb0969951fd0d9fd19b129e9c4f35086981f6db5c4d133f6a208ce5d"), looks := true }, kinds := [], alts := [], goes := true, laidByText := true, laidKinds := [.data, .data, .data, .data], laidTests := true, laidLooks := .later }
def CoachScalesCardSaid : Prop := Claim7.holds Tryz.pinned (.plain (OpenSpec.ofChange coachScalesSpec)) coachScalesCard

/-- THE TIED CARD OF 'parlourlaw43.CoachPaths'. -/
def coachPathsCard : Claim7 := { stood := { row := coachPathsRow, standIns := [], harness := (true, "1a1ffd28fb0969951fd0d9fd19b129e9c4f35086981f6db5c4d133f6a208ce5d"), looks := true }, kinds := [], alts := [], goes := true, laidByText := true, laidKinds := [.data, .data, .data, .data], laidTests := true, laidLooks := .later }
def CoachPathsCardSaid : Prop := Claim7.holds Tryz.pinned (.plain (OpenSpec.ofChange coachPathsSpec)) coachPathsCard

/-- THE SECOND FORM's CARD OF 'parlourlaw43.CoachTexts'. -/
def coachTextsUptoCard : Claim7 := { stood := { row := coachTextsUptoRow, standIns := [], harness := (true, "1a1ffd28fb0969951fd0d9fd19b129e9c4f35086981f6db5c4d133f6a208ce5d"), looks := true }, kinds := [], alts := [], goes := true, laidByText := true, laidKinds := [.data, .data, .data, .data], laidTests := true, laidLooks := .later }
def CoachTextsUptoCardSaid : Prop := Claim7.holds Tryz.pinned (.plain (OpenSpec.upto coachTextsSpec)) coachTextsUptoCard

/-- THE SECOND FORM's CARD OF 'parlourlaw43.CoachReviews'. -/
def coachReviewsUptoCard : Claim7 := { stood := { row := coachReviewsUptoRow, standIns := [], harness := (true, "1a1ffd28fb0969951fd0d9fd19b129e9c4f35086981f6db5c4d133f6a208ce5d"), looks := true }, kinds := [], alts := [], goes := true, laidByText := true, laidKinds := [.data, .data, .data, .data], laidTests := true, laidLooks := .later }
def CoachReviewsUptoCardSaid : Prop := Claim7.holds Tryz.pinned (.plain (OpenSpec.upto coachReviewsSpec)) coachReviewsUptoCard

/-- THE SECOND FORM's CARD OF 'parlourlaw43.CoachCosts'. -/
def coachCostsUptoCard : Claim7 := { stood := { row := coachCostsUptoRow, standIns := [], harness := (true, "1a1ffd28fb0969951fd0d9fd19b129e9c4f35086981f6db5c4d133f6a208ce5d"), looks := true }, kinds := [], alts := [], goes := true, laidByText := true, laidKinds := [.data, .data, .data, .data], laidTests := true, laidLooks := .later }
def CoachCostsUptoCardSaid : Prop := Claim7.holds Tryz.pinned (.plain (OpenSpec.upto coachCostsSpec)) coachCostsUptoCard

/-- THE SECOND FORM's CARD OF 'parlourlaw43.CoachKnown'. -/
def coachKnownUptoCard : Claim7 := { stood := { row := coachKnownUptoRow, standIns := [], harness := (true, "1a1ffd28fb0969951fd0d9fd19b129e9c4f35086981f6db5c4d133f6a208ce5d"), looks := true }, kinds := [], alts := [], goes := true, laidByText := true, laidKinds := [.data, .data, .data, .data], laidTests := true, laidLooks := .later }
def CoachKnownUptoCardSaid : Prop := Claim7.holds Tryz.pinned (.plain (OpenSpec.upto coachKnownSpec)) coachKnownUptoCard

/-- THE SECOND FORM's CARD OF 'parlourlaw43.CoachLeaks'. -/
def coachLeaksUptoCard : Claim7 := { stood := { row := coachLeaksUptoRow, standIns := [], harness := (true, "1a1ffd28fb0969951fd0d9fd19b129e9c4f35086981f6db5c4d133f6a208ce5d"), looks := true }, kinds := [], alts := [], goes := true, laidByText := true, laidKinds := [.data, .data, .data, .data], laidTests := true, laidLooks := .later }
def CoachLeaksUptoCardSaid : Prop := Claim7.holds Tryz.pinned (.plain (OpenSpec.upto coachLeaksSpec)) coachLeaksUptoCard

/-- THE SECOND FORM's CARD OF 'parlourlaw43.CoachScales'. -/
def coachScalesUptoCard : Claim7 := { stood := { row := coachScalesUptoRow, standIns := [], harness := (true, "1a1ffd28fb0969951fd0d9fd19b129e9c4f35086981f6db5c4d133f6a208ce5d"), looks := true }, kinds := [], alts := [], goes := true, laidByText := true, laidKinds := [.data, .data, .data, .data], laidTests := true, laidLooks := .later }
def CoachScalesUptoCardSaid : Prop := Claim7.holds Tryz.pinned (.plain (OpenSpec.upto coachScalesSpec)) coachScalesUptoCard

/-- THE SECOND FORM's CARD OF 'parlourlaw43.CoachPaths'. -/
def coachPathsUptoCard : Claim7 := { stood := { row := coachPathsUptoRow, standIns := [], harness := (true, "1a1ffd28fb0969951fd0d9fd19b129e9c4f35086981f6db5c4d133f6a208ce5d"), looks := true }, kinds := [], alts := [], goes := true, laidByText := true, laidKinds := [.data, .data, .data, .data], laidTests := true, laidLooks := .later }
def CoachPathsUptoCardSaid : Prop := Claim7.holds Tryz.pinned (.plain (OpenSpec.upto coachPathsSpec)) coachPathsUptoCard
end Rows
end Go.Proofs.YtohliokdpiafbaaGreatDoor
