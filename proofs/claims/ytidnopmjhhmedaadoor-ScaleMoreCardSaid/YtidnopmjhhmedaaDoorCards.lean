/-
  DERIVED. GIVEN WITH THE SEED: THE CARDS: each row of YtidnopmjhhmedaaDoorRows.lean that lists a variable, with what it lists TIED to the program's text (the seventh form; the later family's looks); each row that meets fmt, with fmt's text TOLD by the authors' own Lean function (tested against real Go, not proved from fmt's source: count such statements apart). THE CARD IS WHAT COUNTS. Prove the row's statement (the work); the ties are given (YtidnopmjhhmedaaDoorTie.lean); close each card by the builder's one call (the guide's Derived/Test/ToyasCard.lean, 'card_holds'). Laid BY PROGRAM, IN A SANDBOX (cutbox-door.mjs). By AI agents, Wed Nov 11 2026. No macro, syntax, notation, axiom, sorry.
-/
import Derived.Test.YtidnopmjhhmedaaDoorRows
import GoSem.ClaimSeven
namespace Go.Proofs.YtidnopmjhhmedaaDoor
namespace Rows

/-- THE TIED CARD OF 'remontoirlaw04.ScalePlans'. -/
def scalePlansCard : Claim7 := { stood := { row := scalePlansRow, standIns := [], harness := (true, "42c157d2a2e9e6c40d73358f232322a0bd5e742c3af8e9a8c48de9150ba4d318"), looks := false }, kinds := [], alts := [], laidByText := true, laidKinds := [.funcs], laidTests := true, laidLooks := .later }
def ScalePlansCardSaid : Prop := Claim7.holds Tryd.pinned (.plain (OpenSpec.ofChange scalePlansSpec)) scalePlansCard

/-- THE TIED CARD OF 'remontoirlaw04.ScaleReaches'. -/
def scaleReachesCard : Claim7 := { stood := { row := scaleReachesRow, standIns := [], harness := (true, "42c157d2a2e9e6c40d73358f232322a0bd5e742c3af8e9a8c48de9150ba4d318"), looks := false }, kinds := [], alts := [], laidByText := true, laidKinds := [.funcs], laidTests := true, laidLooks := .later }
def ScaleReachesCardSaid : Prop := Claim7.holds Tryd.pinned (.plain (OpenSpec.ofChange scaleReachesSpec)) scaleReachesCard

/-- THE TIED CARD OF 'remontoirlaw04.ScaleErrors'. -/
def scaleErrorsCard : Claim7 := { stood := { row := scaleErrorsRow, standIns := [], harness := (true, "42c157d2a2e9e6c40d73358f232322a0bd5e742c3af8e9a8c48de9150ba4d318"), looks := false }, kinds := [], alts := [], laidByText := true, laidKinds := [.funcs], laidTests := true, laidLooks := .later }
def ScaleErrorsCardSaid : Prop := Claim7.holds Tryd.pinned (.plain (OpenSpec.ofChange scaleErrorsSpec)) scaleErrorsCard

/-- THE TIED CARD OF 'remontoirlaw04.ScaleMeets'. -/
def scaleMeetsCard : Claim7 := { stood := { row := scaleMeetsRow, standIns := [], harness := (true, "42c157d2a2e9e6c40d73358f232322a0bd5e742c3af8e9a8c48de9150ba4d318"), looks := false }, kinds := [], alts := [], laidByText := true, laidKinds := [.funcs], laidTests := true, laidLooks := .later }
def ScaleMeetsCardSaid : Prop := Claim7.holds Tryd.pinned (.plain (OpenSpec.ofChange scaleMeetsSpec)) scaleMeetsCard

/-- THE TIED CARD OF 'remontoirlaw04.ScaleNever'. -/
def scaleNeverCard : Claim7 := { stood := { row := scaleNeverRow, standIns := [], harness := (true, "42c157d2a2e9e6c40d73358f232322a0bd5e742c3af8e9a8c48de9150ba4d318"), looks := false }, kinds := [], alts := [], laidByText := true, laidKinds := [.funcs], laidTests := true, laidLooks := .later }
def ScaleNeverCardSaid : Prop := Claim7.holds Tryd.pinned (.plain (OpenSpec.ofChange scaleNeverSpec)) scaleNeverCard

/-- THE TIED CARD OF 'remontoirlaw04.ScaleMet'. -/
def scaleMetCard : Claim7 := { stood := { row := scaleMetRow, standIns := [], harness := (true, "42c157d2a2e9e6c40d73358f232322a0bd5e742c3af8e9a8c48de9150ba4d318"), looks := false }, kinds := [], alts := [], laidByText := true, laidKinds := [.funcs], laidTests := true, laidLooks := .later }
def ScaleMetCardSaid : Prop := Claim7.holds Tryd.pinned (.plain (OpenSpec.ofChange scaleMetSpec)) scaleMetCard

/-- THE TIED CARD OF 'remontoirlaw04.ScaleBetween'. -/
def scaleBetweenCard : Claim7 := { stood := { row := scaleBetweenRow, standIns := [], harness := (true, "42c157d2a2e9e6c40d73358f232322a0bd5e742c3af8e9a8c48de9150ba4d318"), looks := false }, kinds := [], alts := [], laidByText := true, laidKinds := [.funcs], laidTests := true, laidLooks := .later }
def ScaleBetweenCardSaid : Prop := Claim7.holds Tryd.pinned (.plain (OpenSpec.ofChange scaleBetweenSpec)) scaleBetweenCard

/-- THE TIED CARD OF 'remontoirlaw04.ScaleEasier'. -/
def scaleEasierCard : Claim7 := { stood := { row := scaleEasierRow, standIns := [], harness := (true, "42c157d2a2e9e6c40d73358f232322a0bd5e742c3af8e9a8c48de9150ba4d318"), looks := false }, kinds := [], alts := [], laidByText := true, laidKinds := [.funcs], laidTests := true, laidLooks := .later }
def ScaleEasierCardSaid : Prop := Claim7.holds Tryd.pinned (.plain (OpenSpec.ofChange scaleEasierSpec)) scaleEasierCard

/-- THE TIED CARD OF 'remontoirlaw04.ScaleTrue'. -/
def scaleTrueCard : Claim7 := { stood := { row := scaleTrueRow, standIns := [], harness := (true, "42c157d2a2e9e6c40d73358f232322a0bd5e742c3af8e9a8c48de9150ba4d318"), looks := false }, kinds := [], alts := [], laidByText := true, laidKinds := [.funcs], laidTests := true, laidLooks := .later }
def ScaleTrueCardSaid : Prop := Claim7.holds Tryd.pinned (.plain (OpenSpec.ofChange scaleTrueSpec)) scaleTrueCard

/-- THE TIED CARD OF 'remontoirlaw04.ScaleEnds'. -/
def scaleEndsCard : Claim7 := { stood := { row := scaleEndsRow, standIns := [], harness := (true, "42c157d2a2e9e6c40d73358f232322a0bd5e742c3af8e9a8c48de9150ba4d318"), looks := false }, kinds := [], alts := [], laidByText := true, laidKinds := [.funcs], laidTests := true, laidLooks := .later }
def ScaleEndsCardSaid : Prop := Claim7.holds Tryd.pinned (.plain (OpenSpec.ofChange scaleEndsSpec)) scaleEndsCard

/-- THE TIED CARD OF 'remontoirlaw04.ScaleMore'. -/
def scaleMoreCard : Claim7 := { stood := { row := scaleMoreRow, standIns := [], harness := (true, "42c157d2a2e9e6c40d73358f232322a0bd5e742c3af8e9a8c48de9150ba4d318"), looks := false }, kinds := [], alts := [], laidByText := true, laidKinds := [.funcs], laidTests := true, laidLooks := .later }
def ScaleMoreCardSaid : Prop := Claim7.holds Tryd.pinned (.plain (OpenSpec.ofChange scaleMoreSpec)) scaleMoreCard

/-- THE TIED CARD OF 'remontoirlaw04.ScaleWider'. -/
def scaleWiderCard : Claim7 := { stood := { row := scaleWiderRow, standIns := [], harness := (true, "42c157d2a2e9e6c40d73358f232322a0bd5e742c3af8e9a8c48de9150ba4d318"), looks := false }, kinds := [], alts := [], laidByText := true, laidKinds := [.funcs], laidTests := true, laidLooks := .later }
def ScaleWiderCardSaid : Prop := Claim7.holds Tryd.pinned (.plain (OpenSpec.ofChange scaleWiderSpec)) scaleWiderCard

/-- THE TIED CARD OF 'remontoirlaw04.ScaleKnown'. -/
def scaleKnownCard : Claim7 := { stood := { row := scaleKnownRow, standIns := [], harness := (true, "42c157d2a2e9e6c40d73358f232322a0bd5e742c3af8e9a8c48de9150ba4d318"), looks := false }, kinds := [], alts := [], laidByText := true, laidKinds := [.funcs], laidTests := true, laidLooks := .later }
def ScaleKnownCardSaid : Prop := Claim7.holds Tryd.pinned (.plain (OpenSpec.ofChange scaleKnownSpec)) scaleKnownCard

/-- THE SECOND FORM's CARD OF 'remontoirlaw04.ScalePlans'. -/
def scalePlansUptoCard : Claim7 := { stood := { row := scalePlansUptoRow, standIns := [], harness := (true, "42c157d2a2e9e6c40d73358f232322a0bd5e742c3af8e9a8c48de9150ba4d318"), looks := false }, kinds := [], alts := [], laidByText := true, laidKinds := [.funcs], laidTests := true, laidLooks := .later }
def ScalePlansUptoCardSaid : Prop := Claim7.holds Tryd.pinned (.plain (OpenSpec.upto scalePlansSpec)) scalePlansUptoCard

/-- THE SECOND FORM's CARD OF 'remontoirlaw04.ScaleReaches'. -/
def scaleReachesUptoCard : Claim7 := { stood := { row := scaleReachesUptoRow, standIns := [], harness := (true, "42c157d2a2e9e6c40d73358f232322a0bd5e742c3af8e9a8c48de9150ba4d318"), looks := false }, kinds := [], alts := [], laidByText := true, laidKinds := [.funcs], laidTests := true, laidLooks := .later }
def ScaleReachesUptoCardSaid : Prop := Claim7.holds Tryd.pinned (.plain (OpenSpec.upto scaleReachesSpec)) scaleReachesUptoCard

/-- THE SECOND FORM's CARD OF 'remontoirlaw04.ScaleErrors'. -/
def scaleErrorsUptoCard : Claim7 := { stood := { row := scaleErrorsUptoRow, standIns := [], harness := (true, "42c157d2a2e9e6c40d73358f232322a0bd5e742c3af8e9a8c48de9150ba4d318"), looks := false }, kinds := [], alts := [], laidByText := true, laidKinds := [.funcs], laidTests := true, laidLooks := .later }
def ScaleErrorsUptoCardSaid : Prop := Claim7.holds Tryd.pinned (.plain (OpenSpec.upto scaleErrorsSpec)) scaleErrorsUptoCard

/-- THE SECOND FORM's CARD OF 'remontoirlaw04.ScaleMeets'. -/
def scaleMeetsUptoCard : Claim7 := { stood := { row := scaleMeetsUptoRow, standIns := [], harness := (true, "42c157d2a2e9e6c40d73358f232322a0bd5e742c3af8e9a8c48de9150ba4d318"), looks := false }, kinds := [], alts := [], laidByText := true, laidKinds := [.funcs], laidTests := true, laidLooks := .later }
def ScaleMeetsUptoCardSaid : Prop := Claim7.holds Tryd.pinned (.plain (OpenSpec.upto scaleMeetsSpec)) scaleMeetsUptoCard

/-- THE SECOND FORM's CARD OF 'remontoirlaw04.ScaleNever'. -/
def scaleNeverUptoCard : Claim7 := { stood := { row := scaleNeverUptoRow, standIns := [], harness := (true, "42c157d2a2e9e6c40d73358f232322a0bd5e742c3af8e9a8c48de9150ba4d318"), looks := false }, kinds := [], alts := [], laidByText := true, laidKinds := [.funcs], laidTests := true, laidLooks := .later }
def ScaleNeverUptoCardSaid : Prop := Claim7.holds Tryd.pinned (.plain (OpenSpec.upto scaleNeverSpec)) scaleNeverUptoCard

/-- THE SECOND FORM's CARD OF 'remontoirlaw04.ScaleMet'. -/
def scaleMetUptoCard : Claim7 := { stood := { row := scaleMetUptoRow, standIns := [], harness := (true, "42c157d2a2e9e6c40d73358f232322a0bd5e742c3af8e9a8c48de9150ba4d318"), looks := false }, kinds := [], alts := [], laidByText := true, laidKinds := [.funcs], laidTests := true, laidLooks := .later }
def ScaleMetUptoCardSaid : Prop := Claim7.holds Tryd.pinned (.plain (OpenSpec.upto scaleMetSpec)) scaleMetUptoCard

/-- THE SECOND FORM's CARD OF 'remontoirlaw04.ScaleBetween'. -/
def scaleBetweenUptoCard : Claim7 := { stood := { row := scaleBetweenUptoRow, standIns := [], harness := (true, "42c157d2a2e9e6c40d73358f232322a0bd5e742c3af8e9a8c48de9150ba4d318"), looks := false }, kinds := [], alts := [], laidByText := true, laidKinds := [.funcs], laidTests := true, laidLooks := .later }
def ScaleBetweenUptoCardSaid : Prop := Claim7.holds Tryd.pinned (.plain (OpenSpec.upto scaleBetweenSpec)) scaleBetweenUptoCard

/-- THE SECOND FORM's CARD OF 'remontoirlaw04.ScaleEasier'. -/
def scaleEasierUptoCard : Claim7 := { stood := { row := scaleEasierUptoRow, standIns := [], harness := (true, "42c157d2a2e9e6c40d73358f232322a0bd5e742c3af8e9a8c48de9150ba4d318"), looks := false }, kinds := [], alts := [], laidByText := true, laidKinds := [.funcs], laidTests := true, laidLooks := .later }
def ScaleEasierUptoCardSaid : Prop := Claim7.holds Tryd.pinned (.plain (OpenSpec.upto scaleEasierSpec)) scaleEasierUptoCard

/-- THE SECOND FORM's CARD OF 'remontoirlaw04.ScaleTrue'. -/
def scaleTrueUptoCard : Claim7 := { stood := { row := scaleTrueUptoRow, standIns := [], harness := (true, "42c157d2a2e9e6c40d73358f232322a0bd5e742c3af8e9a8c48de9150ba4d318"), looks := false }, kinds := [], alts := [], laidByText := true, laidKinds := [.funcs], laidTests := true, laidLooks := .later }
def ScaleTrueUptoCardSaid : Prop := Claim7.holds Tryd.pinned (.plain (OpenSpec.upto scaleTrueSpec)) scaleTrueUptoCard

/-- THE SECOND FORM's CARD OF 'remontoirlaw04.ScaleEnds'. -/
def scaleEndsUptoCard : Claim7 := { stood := { row := scaleEndsUptoRow, standIns := [], harness := (true, "42c157d2a2e9e6c40d73358f232322a0bd5e742c3af8e9a8c48de9150ba4d318"), looks := false }, kinds := [], alts := [], laidByText := true, laidKinds := [.funcs], laidTests := true, laidLooks := .later }
def ScaleEndsUptoCardSaid : Prop := Claim7.holds Tryd.pinned (.plain (OpenSpec.upto scaleEndsSpec)) scaleEndsUptoCard

/-- THE SECOND FORM's CARD OF 'remontoirlaw04.ScaleMore'. -/
def scaleMoreUptoCard : Claim7 := { stood := { row := scaleMoreUptoRow, standIns := [], harness := (true, "42c157d2a2e9e6c40d73358f232322a0bd5e742c3af8e9a8c48de9150ba4d318"), looks := false }, kinds := [], alts := [], laidByText := true, laidKinds := [.funcs], laidTests := true, laidLooks := .later }
def ScaleMoreUptoCardSaid : Prop := Claim7.holds Tryd.pinned (.plain (OpenSpec.upto scaleMoreSpec)) scaleMoreUptoCard

/-- THE SECOND FORM's CARD OF 'remontoirlaw04.ScaleWider'. -/
def scaleWiderUptoCard : Claim7 := { stood := { row := scaleWiderUptoRow, standIns := [], harness := (true, "42c157d2a2e9e6c40d73358f232322a0bd5e742c3af8e9a8c48de9150ba4d318"), looks := false }, kinds := [], alts := [], laidByText := true, laidKinds := [.funcs], laidTests := true, laidLooks := .later }
def ScaleWiderUptoCardSaid : Prop := Claim7.holds Tryd.pinned (.plain (OpenSpec.upto scaleWiderSpec)) scaleWiderUptoCard

/-- THE SECOND FORM's CARD OF 'remontoirlaw04.ScaleKnown'. -/
def scaleKnownUptoCard : Claim7 := { stood := { row := scaleKnownUptoRow, standIns := [], harness := (true, "42c157d2a2e9e6c40d73358f232322a0bd5e742c3af8e9a8c48de9150ba4d318"), looks := false }, kinds := [], alts := [], laidByText := true, laidKinds := [.funcs], laidTests := true, laidLooks := .later }
def ScaleKnownUptoCardSaid : Prop := Claim7.holds Tryd.pinned (.plain (OpenSpec.upto scaleKnownSpec)) scaleKnownUptoCard
end Rows
end Go.Proofs.YtidnopmjhhmedaaDoor
