/-
  DERIVED. GIVEN WITH THE SEED: THE CARDS: each row of YtohbeninpmmmpaaDoorRows.lean that lists a variable, with what it lists TIED to the program's text (the seventh form; the later family's looks); each row that meets fmt, with fmt's text TOLD by the authors' own Lean function (tested against real Go, not proved from fmt's source: count such statements apart). THE CARD IS WHAT COUNTS. Prove the row's statement (the work); the ties are given (YtohbeninpmmmpaaDoorTie.lean); close each card by the builder's one call (the guide's Derived/Test/ToyasCard.lean, 'card_holds'). Laid BY PROGRAM, IN A SANDBOX (cutbox-door.mjs). By AI agents, Wed Nov 11 2026. No macro, syntax, notation, axiom, sorry.
-/
import Derived.Test.YtohbeninpmmmpaaDoorRows
import GoSem.ClaimSeven
namespace Go.Proofs.YtohbeninpmmmpaaDoor
namespace Rows

/-- THE TIED CARD OF 'remontoirlaw03.StarTruths'. -/
def starTruthsCard : Claim7 := { stood := { row := starTruthsRow, standIns := [], harness := (true, "1ab99c3958fd2821ebf8e4e40e149328181532118d521f6202c25eb0e92d10af"), looks := false }, kinds := [], alts := [], laidByText := true, laidKinds := [.funcs], laidTests := true, laidLooks := .later }
def StarTruthsCardSaid : Prop := Claim7.holds Tryd.pinned (.plain (OpenSpec.ofChange starTruthsSpec)) starTruthsCard

/-- THE TIED CARD OF 'remontoirlaw03.StarSpans'. -/
def starSpansCard : Claim7 := { stood := { row := starSpansRow, standIns := [], harness := (true, "1ab99c3958fd2821ebf8e4e40e149328181532118d521f6202c25eb0e92d10af"), looks := false }, kinds := [], alts := [], laidByText := true, laidKinds := [.funcs], laidTests := true, laidLooks := .later }
def StarSpansCardSaid : Prop := Claim7.holds Tryd.pinned (.plain (OpenSpec.ofChange starSpansSpec)) starSpansCard

/-- THE TIED CARD OF 'remontoirlaw03.StarCases'. -/
def starCasesCard : Claim7 := { stood := { row := starCasesRow, standIns := [], harness := (true, "1ab99c3958fd2821ebf8e4e40e149328181532118d521f6202c25eb0e92d10af"), looks := false }, kinds := [], alts := [], laidByText := true, laidKinds := [.funcs], laidTests := true, laidLooks := .later }
def StarCasesCardSaid : Prop := Claim7.holds Tryd.pinned (.plain (OpenSpec.ofChange starCasesSpec)) starCasesCard

/-- THE TIED CARD OF 'remontoirlaw03.StarWrongs'. -/
def starWrongsCard : Claim7 := { stood := { row := starWrongsRow, standIns := [], harness := (true, "1ab99c3958fd2821ebf8e4e40e149328181532118d521f6202c25eb0e92d10af"), looks := false }, kinds := [], alts := [], laidByText := true, laidKinds := [.funcs], laidTests := true, laidLooks := .later }
def StarWrongsCardSaid : Prop := Claim7.holds Tryd.pinned (.plain (OpenSpec.ofChange starWrongsSpec)) starWrongsCard

/-- THE TIED CARD OF 'remontoirlaw03.StarTrue'. -/
def starTrueCard : Claim7 := { stood := { row := starTrueRow, standIns := [], harness := (true, "1ab99c3958fd2821ebf8e4e40e149328181532118d521f6202c25eb0e92d10af"), looks := false }, kinds := [], alts := [], laidByText := true, laidKinds := [.funcs], laidTests := true, laidLooks := .later }
def StarTrueCardSaid : Prop := Claim7.holds Tryd.pinned (.plain (OpenSpec.ofChange starTrueSpec)) starTrueCard

/-- THE TIED CARD OF 'remontoirlaw03.StarEnds'. -/
def starEndsCard : Claim7 := { stood := { row := starEndsRow, standIns := [], harness := (true, "1ab99c3958fd2821ebf8e4e40e149328181532118d521f6202c25eb0e92d10af"), looks := false }, kinds := [], alts := [], laidByText := true, laidKinds := [.funcs], laidTests := true, laidLooks := .later }
def StarEndsCardSaid : Prop := Claim7.holds Tryd.pinned (.plain (OpenSpec.ofChange starEndsSpec)) starEndsCard

/-- THE TIED CARD OF 'remontoirlaw03.StarPeople'. -/
def starPeopleCard : Claim7 := { stood := { row := starPeopleRow, standIns := [], harness := (true, "1ab99c3958fd2821ebf8e4e40e149328181532118d521f6202c25eb0e92d10af"), looks := false }, kinds := [], alts := [], laidByText := true, laidKinds := [.funcs], laidTests := true, laidLooks := .later }
def StarPeopleCardSaid : Prop := Claim7.holds Tryd.pinned (.plain (OpenSpec.ofChange starPeopleSpec)) starPeopleCard

/-- THE TIED CARD OF 'remontoirlaw03.StarMore'. -/
def starMoreCard : Claim7 := { stood := { row := starMoreRow, standIns := [], harness := (true, "1ab99c3958fd2821ebf8e4e40e149328181532118d521f6202c25eb0e92d10af"), looks := false }, kinds := [], alts := [], laidByText := true, laidKinds := [.funcs], laidTests := true, laidLooks := .later }
def StarMoreCardSaid : Prop := Claim7.holds Tryd.pinned (.plain (OpenSpec.ofChange starMoreSpec)) starMoreCard

/-- THE TIED CARD OF 'remontoirlaw03.StarWider'. -/
def starWiderCard : Claim7 := { stood := { row := starWiderRow, standIns := [], harness := (true, "1ab99c3958fd2821ebf8e4e40e149328181532118d521f6202c25eb0e92d10af"), looks := false }, kinds := [], alts := [], laidByText := true, laidKinds := [.funcs], laidTests := true, laidLooks := .later }
def StarWiderCardSaid : Prop := Claim7.holds Tryd.pinned (.plain (OpenSpec.ofChange starWiderSpec)) starWiderCard

/-- THE TIED CARD OF 'remontoirlaw03.StarApart'. -/
def starApartCard : Claim7 := { stood := { row := starApartRow, standIns := [], harness := (true, "1ab99c3958fd2821ebf8e4e40e149328181532118d521f6202c25eb0e92d10af"), looks := false }, kinds := [], alts := [], laidByText := true, laidKinds := [.funcs], laidTests := true, laidLooks := .later }
def StarApartCardSaid : Prop := Claim7.holds Tryd.pinned (.plain (OpenSpec.ofChange starApartSpec)) starApartCard

/-- THE TIED CARD OF 'remontoirlaw03.StarLeft'. -/
def starLeftCard : Claim7 := { stood := { row := starLeftRow, standIns := [], harness := (true, "1ab99c3958fd2821ebf8e4e40e149328181532118d521f6202c25eb0e92d10af"), looks := false }, kinds := [], alts := [], laidByText := true, laidKinds := [.funcs], laidTests := true, laidLooks := .later }
def StarLeftCardSaid : Prop := Claim7.holds Tryd.pinned (.plain (OpenSpec.ofChange starLeftSpec)) starLeftCard

/-- THE TIED CARD OF 'remontoirlaw03.StarIdle'. -/
def starIdleCard : Claim7 := { stood := { row := starIdleRow, standIns := [], harness := (true, "1ab99c3958fd2821ebf8e4e40e149328181532118d521f6202c25eb0e92d10af"), looks := false }, kinds := [], alts := [], laidByText := true, laidKinds := [.funcs], laidTests := true, laidLooks := .later }
def StarIdleCardSaid : Prop := Claim7.holds Tryd.pinned (.plain (OpenSpec.ofChange starIdleSpec)) starIdleCard

/-- THE TIED CARD OF 'remontoirlaw03.StarShifted'. -/
def starShiftedCard : Claim7 := { stood := { row := starShiftedRow, standIns := [], harness := (true, "1ab99c3958fd2821ebf8e4e40e149328181532118d521f6202c25eb0e92d10af"), looks := false }, kinds := [], alts := [], laidByText := true, laidKinds := [.funcs], laidTests := true, laidLooks := .later }
def StarShiftedCardSaid : Prop := Claim7.holds Tryd.pinned (.plain (OpenSpec.ofChange starShiftedSpec)) starShiftedCard

/-- THE TIED CARD OF 'remontoirlaw03.StarKnown'. -/
def starKnownCard : Claim7 := { stood := { row := starKnownRow, standIns := [], harness := (true, "1ab99c3958fd2821ebf8e4e40e149328181532118d521f6202c25eb0e92d10af"), looks := false }, kinds := [], alts := [], laidByText := true, laidKinds := [.funcs], laidTests := true, laidLooks := .later }
def StarKnownCardSaid : Prop := Claim7.holds Tryd.pinned (.plain (OpenSpec.ofChange starKnownSpec)) starKnownCard

/-- THE SECOND FORM's CARD OF 'remontoirlaw03.StarTruths'. -/
def starTruthsUptoCard : Claim7 := { stood := { row := starTruthsUptoRow, standIns := [], harness := (true, "1ab99c3958fd2821ebf8e4e40e149328181532118d521f6202c25eb0e92d10af"), looks := false }, kinds := [], alts := [], laidByText := true, laidKinds := [.funcs], laidTests := true, laidLooks := .later }
def StarTruthsUptoCardSaid : Prop := Claim7.holds Tryd.pinned (.plain (OpenSpec.upto starTruthsSpec)) starTruthsUptoCard

/-- THE SECOND FORM's CARD OF 'remontoirlaw03.StarSpans'. -/
def starSpansUptoCard : Claim7 := { stood := { row := starSpansUptoRow, standIns := [], harness := (true, "1ab99c3958fd2821ebf8e4e40e149328181532118d521f6202c25eb0e92d10af"), looks := false }, kinds := [], alts := [], laidByText := true, laidKinds := [.funcs], laidTests := true, laidLooks := .later }
def StarSpansUptoCardSaid : Prop := Claim7.holds Tryd.pinned (.plain (OpenSpec.upto starSpansSpec)) starSpansUptoCard

/-- THE SECOND FORM's CARD OF 'remontoirlaw03.StarCases'. -/
def starCasesUptoCard : Claim7 := { stood := { row := starCasesUptoRow, standIns := [], harness := (true, "1ab99c3958fd2821ebf8e4e40e149328181532118d521f6202c25eb0e92d10af"), looks := false }, kinds := [], alts := [], laidByText := true, laidKinds := [.funcs], laidTests := true, laidLooks := .later }
def StarCasesUptoCardSaid : Prop := Claim7.holds Tryd.pinned (.plain (OpenSpec.upto starCasesSpec)) starCasesUptoCard

/-- THE SECOND FORM's CARD OF 'remontoirlaw03.StarWrongs'. -/
def starWrongsUptoCard : Claim7 := { stood := { row := starWrongsUptoRow, standIns := [], harness := (true, "1ab99c3958fd2821ebf8e4e40e149328181532118d521f6202c25eb0e92d10af"), looks := false }, kinds := [], alts := [], laidByText := true, laidKinds := [.funcs], laidTests := true, laidLooks := .later }
def StarWrongsUptoCardSaid : Prop := Claim7.holds Tryd.pinned (.plain (OpenSpec.upto starWrongsSpec)) starWrongsUptoCard

/-- THE SECOND FORM's CARD OF 'remontoirlaw03.StarTrue'. -/
def starTrueUptoCard : Claim7 := { stood := { row := starTrueUptoRow, standIns := [], harness := (true, "1ab99c3958fd2821ebf8e4e40e149328181532118d521f6202c25eb0e92d10af"), looks := false }, kinds := [], alts := [], laidByText := true, laidKinds := [.funcs], laidTests := true, laidLooks := .later }
def StarTrueUptoCardSaid : Prop := Claim7.holds Tryd.pinned (.plain (OpenSpec.upto starTrueSpec)) starTrueUptoCard

/-- THE SECOND FORM's CARD OF 'remontoirlaw03.StarEnds'. -/
def starEndsUptoCard : Claim7 := { stood := { row := starEndsUptoRow, standIns := [], harness := (true, "1ab99c3958fd2821ebf8e4e40e149328181532118d521f6202c25eb0e92d10af"), looks := false }, kinds := [], alts := [], laidByText := true, laidKinds := [.funcs], laidTests := true, laidLooks := .later }
def StarEndsUptoCardSaid : Prop := Claim7.holds Tryd.pinned (.plain (OpenSpec.upto starEndsSpec)) starEndsUptoCard

/-- THE SECOND FORM's CARD OF 'remontoirlaw03.StarPeople'. -/
def starPeopleUptoCard : Claim7 := { stood := { row := starPeopleUptoRow, standIns := [], harness := (true, "1ab99c3958fd2821ebf8e4e40e149328181532118d521f6202c25eb0e92d10af"), looks := false }, kinds := [], alts := [], laidByText := true, laidKinds := [.funcs], laidTests := true, laidLooks := .later }
def StarPeopleUptoCardSaid : Prop := Claim7.holds Tryd.pinned (.plain (OpenSpec.upto starPeopleSpec)) starPeopleUptoCard

/-- THE SECOND FORM's CARD OF 'remontoirlaw03.StarMore'. -/
def starMoreUptoCard : Claim7 := { stood := { row := starMoreUptoRow, standIns := [], harness := (true, "1ab99c3958fd2821ebf8e4e40e149328181532118d521f6202c25eb0e92d10af"), looks := false }, kinds := [], alts := [], laidByText := true, laidKinds := [.funcs], laidTests := true, laidLooks := .later }
def StarMoreUptoCardSaid : Prop := Claim7.holds Tryd.pinned (.plain (OpenSpec.upto starMoreSpec)) starMoreUptoCard

/-- THE SECOND FORM's CARD OF 'remontoirlaw03.StarWider'. -/
def starWiderUptoCard : Claim7 := { stood := { row := starWiderUptoRow, standIns := [], harness := (true, "1ab99c3958fd2821ebf8e4e40e149328181532118d521f6202c25eb0e92d10af"), looks := false }, kinds := [], alts := [], laidByText := true, laidKinds := [.funcs], laidTests := true, laidLooks := .later }
def StarWiderUptoCardSaid : Prop := Claim7.holds Tryd.pinned (.plain (OpenSpec.upto starWiderSpec)) starWiderUptoCard

/-- THE SECOND FORM's CARD OF 'remontoirlaw03.StarApart'. -/
def starApartUptoCard : Claim7 := { stood := { row := starApartUptoRow, standIns := [], harness := (true, "1ab99c3958fd2821ebf8e4e40e149328181532118d521f6202c25eb0e92d10af"), looks := false }, kinds := [], alts := [], laidByText := true, laidKinds := [.funcs], laidTests := true, laidLooks := .later }
def StarApartUptoCardSaid : Prop := Claim7.holds Tryd.pinned (.plain (OpenSpec.upto starApartSpec)) starApartUptoCard

/-- THE SECOND FORM's CARD OF 'remontoirlaw03.StarLeft'. -/
def starLeftUptoCard : Claim7 := { stood := { row := starLeftUptoRow, standIns := [], harness := (true, "1ab99c3958fd2821ebf8e4e40e149328181532118d521f6202c25eb0e92d10af"), looks := false }, kinds := [], alts := [], laidByText := true, laidKinds := [.funcs], laidTests := true, laidLooks := .later }
def StarLeftUptoCardSaid : Prop := Claim7.holds Tryd.pinned (.plain (OpenSpec.upto starLeftSpec)) starLeftUptoCard

/-- THE SECOND FORM's CARD OF 'remontoirlaw03.StarIdle'. -/
def starIdleUptoCard : Claim7 := { stood := { row := starIdleUptoRow, standIns := [], harness := (true, "1ab99c3958fd2821ebf8e4e40e149328181532118d521f6202c25eb0e92d10af"), looks := false }, kinds := [], alts := [], laidByText := true, laidKinds := [.funcs], laidTests := true, laidLooks := .later }
def StarIdleUptoCardSaid : Prop := Claim7.holds Tryd.pinned (.plain (OpenSpec.upto starIdleSpec)) starIdleUptoCard

/-- THE SECOND FORM's CARD OF 'remontoirlaw03.StarShifted'. -/
def starShiftedUptoCard : Claim7 := { stood := { row := starShiftedUptoRow, standIns := [], harness := (true, "1ab99c3958fd2821ebf8e4e40e149328181532118d521f6202c25eb0e92d10af"), looks := false }, kinds := [], alts := [], laidByText := true, laidKinds := [.funcs], laidTests := true, laidLooks := .later }
def StarShiftedUptoCardSaid : Prop := Claim7.holds Tryd.pinned (.plain (OpenSpec.upto starShiftedSpec)) starShiftedUptoCard

/-- THE SECOND FORM's CARD OF 'remontoirlaw03.StarKnown'. -/
def starKnownUptoCard : Claim7 := { stood := { row := starKnownUptoRow, standIns := [], harness := (true, "1ab99c3958fd2821ebf8e4e40e149328181532118d521f6202c25eb0e92d10af"), looks := false }, kinds := [], alts := [], laidByText := true, laidKinds := [.funcs], laidTests := true, laidLooks := .later }
def StarKnownUptoCardSaid : Prop := Claim7.holds Tryd.pinned (.plain (OpenSpec.upto starKnownSpec)) starKnownUptoCard
end Rows
end Go.Proofs.YtohbeninpmmmpaaDoor
