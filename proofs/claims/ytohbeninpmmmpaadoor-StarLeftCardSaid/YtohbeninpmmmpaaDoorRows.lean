/-
  NARROWER THAN 'FOR EVERY INPUT', by the rows' own cells (each row's printed sentence says how): StarTruths: laid · StarSpans: laid · StarCases: laid · StarWrongs: laid · StarTrue: laid · StarEnds: laid · StarPeople: laid · StarMore: laid · StarWider: laid · StarApart: laid · StarLeft: laid · StarIdle: laid · StarShifted: laid · StarKnown: laid.
  DERIVED. THE GIVEN ROWS OF THIS SEAT. 14 by the template 'for every input the law returns true; each argument reads behind the call as it read before'; 0 by the template 'total and deterministic' (their statements: YtohbeninpmmmpaaDoorTotals.lean).
  GIVEN WITH THE SEED: the statements are not yours to turn. If you find one false, say at which input.
  Laid BY PROGRAM, IN A SANDBOX (cutbox-rows.mjs): the forced cells as the released guide's own fill.sh prints them over the translation 3d8a384829f66a77… (all of the seat's roots in one cut). By AI agents, Wed Nov 11 2026. No macro, syntax, notation, axiom, sorry.
-/
import Derived.Test.YtohbeninpmmmpaaDoorChecked
import GoSem.Claim
import GoSem.ClaimJoined
import GoSem.ClaimMapViews
import Derived.JoinedTies
import Derived.KernelRfl
namespace Go.Proofs.YtohbeninpmmmpaaDoor
/- THE CELL 'sum', in the pinned program and in every row, IS THE sha256 OF THE DUMP (.gsa) THAT YtohbeninpmmmpaaDoorProg.lean LOADS. Nothing in Lean hashes anything: it is a label: what it is worth is what the hold of that sum in a sandbox is worth. -/
noncomputable def Tryd.pinned : Pinned := { name := "ytohbeninpmmmpaadoor", sum := "3d8a384829f66a77213b8a433439ad9b8e69adab15ee6f49e9ba129c62c521ad", checked := Tryd.checked }
namespace Rows
def none {H : Type} : Left H := { results := [], args := [] }

/- WHAT THE LISTED PACKAGE-LEVEL VARIABLES READ AS WHEN THE CALL BEGINS. Each datum BY PROGRAM (the guide's laid-datum.mjs) off the statement by which the dump's own 'gosem.cut.vars' lays the variable. In a bare row this is a premise. The card (YtohbeninpmmmpaaDoorCards.lean) ties it to the program's text. -/
def laid_remontoir_star_kinds {H : Type} : DataW H := .iface "func table" (.agg [.iface "func" (.lit (.string [40, 114, 101, 109, 111, 110, 116, 111, 105, 114, 47, 115, 116, 97, 114, 46, 98, 111, 111, 107, 41, 46, 115, 101, 101, 110])), .iface "func" (.lit (.string [40, 114, 101, 109, 111, 110, 116, 111, 105, 114, 47, 115, 116, 97, 114, 46, 98, 111, 111, 107, 41, 46, 115, 105, 103, 110, 97, 108]))])

/-- 'remontoirlaw03.StarTruths': WHATEVER THE INPUT: true; the input reads as it did. -/
def starTruthsSpec : ChangeSpec := { name := "starTruths", fn := fun _ => fun
  | [d1, d2, d3] => { results := [.lit (.bool true)], args := [d1, d2, d3] }
  | _ => none }
def starTruthsRow : OpenClaim := { program := "ytohbeninpmmmpaadoor", sum := "3d8a384829f66a77213b8a433439ad9b8e69adab15ee6f49e9ba129c62c521ad", func := "remontoir/remontoirlaw03.StarTruths", spec := "starTruths", unfollowed := true, recurses := true, named := ["remontoir/star.kinds"], plainKeys := false, apart := false, laid := [("remontoir/star.kinds", laid_remontoir_star_kinds)] }
def StarTruthsSaid : Prop := starTruthsRow.holds Tryd.pinned (OpenSpec.ofChange starTruthsSpec)

/-- ITS FALSE NEIGHBOUR: 'it returns false'. Refute it at one input. -/
def starTruthsWrong : ChangeSpec := { name := "starTruths", fn := fun _ => fun
  | [d1, d2, d3] => { results := [.lit (.bool false)], args := [d1, d2, d3] }
  | _ => none }
def StarTruthsWrongFalsely : Prop := starTruthsRow.holds Tryd.pinned (OpenSpec.ofChange starTruthsWrong)

/-- 'remontoirlaw03.StarSpans': WHATEVER THE INPUT: true; the input reads as it did. -/
def starSpansSpec : ChangeSpec := { name := "starSpans", fn := fun _ => fun
  | [d1, d2] => { results := [.lit (.bool true)], args := [d1, d2] }
  | _ => none }
def starSpansRow : OpenClaim := { program := "ytohbeninpmmmpaadoor", sum := "3d8a384829f66a77213b8a433439ad9b8e69adab15ee6f49e9ba129c62c521ad", func := "remontoir/remontoirlaw03.StarSpans", spec := "starSpans", unfollowed := true, recurses := true, named := ["remontoir/star.kinds"], plainKeys := false, apart := false, laid := [("remontoir/star.kinds", laid_remontoir_star_kinds)] }
def StarSpansSaid : Prop := starSpansRow.holds Tryd.pinned (OpenSpec.ofChange starSpansSpec)

/-- ITS FALSE NEIGHBOUR: 'it returns false'. Refute it at one input. -/
def starSpansWrong : ChangeSpec := { name := "starSpans", fn := fun _ => fun
  | [d1, d2] => { results := [.lit (.bool false)], args := [d1, d2] }
  | _ => none }
def StarSpansWrongFalsely : Prop := starSpansRow.holds Tryd.pinned (OpenSpec.ofChange starSpansWrong)

/-- 'remontoirlaw03.StarCases': WHATEVER THE INPUT: true; the input reads as it did. -/
def starCasesSpec : ChangeSpec := { name := "starCases", fn := fun _ => fun
  | [d1, d2, d3] => { results := [.lit (.bool true)], args := [d1, d2, d3] }
  | _ => none }
def starCasesRow : OpenClaim := { program := "ytohbeninpmmmpaadoor", sum := "3d8a384829f66a77213b8a433439ad9b8e69adab15ee6f49e9ba129c62c521ad", func := "remontoir/remontoirlaw03.StarCases", spec := "starCases", unfollowed := true, recurses := true, named := ["remontoir/star.kinds"], plainKeys := false, apart := false, laid := [("remontoir/star.kinds", laid_remontoir_star_kinds)] }
def StarCasesSaid : Prop := starCasesRow.holds Tryd.pinned (OpenSpec.ofChange starCasesSpec)

/-- ITS FALSE NEIGHBOUR: 'it returns false'. Refute it at one input. -/
def starCasesWrong : ChangeSpec := { name := "starCases", fn := fun _ => fun
  | [d1, d2, d3] => { results := [.lit (.bool false)], args := [d1, d2, d3] }
  | _ => none }
def StarCasesWrongFalsely : Prop := starCasesRow.holds Tryd.pinned (OpenSpec.ofChange starCasesWrong)

/-- 'remontoirlaw03.StarWrongs': WHATEVER THE INPUT: true; the input reads as it did. -/
def starWrongsSpec : ChangeSpec := { name := "starWrongs", fn := fun _ => fun
  | [d] => { results := [.lit (.bool true)], args := [d] }
  | _ => none }
def starWrongsRow : OpenClaim := { program := "ytohbeninpmmmpaadoor", sum := "3d8a384829f66a77213b8a433439ad9b8e69adab15ee6f49e9ba129c62c521ad", func := "remontoir/remontoirlaw03.StarWrongs", spec := "starWrongs", unfollowed := true, recurses := true, named := ["remontoir/star.kinds"], plainKeys := false, apart := false, laid := [("remontoir/star.kinds", laid_remontoir_star_kinds)] }
def StarWrongsSaid : Prop := starWrongsRow.holds Tryd.pinned (OpenSpec.ofChange starWrongsSpec)

/-- ITS FALSE NEIGHBOUR: 'it returns false'. Refute it at one input. -/
def starWrongsWrong : ChangeSpec := { name := "starWrongs", fn := fun _ => fun
  | [d] => { results := [.lit (.bool false)], args := [d] }
  | _ => none }
def StarWrongsWrongFalsely : Prop := starWrongsRow.holds Tryd.pinned (OpenSpec.ofChange starWrongsWrong)

/-- 'remontoirlaw03.StarTrue': WHATEVER THE INPUT: true; the input reads as it did. -/
def starTrueSpec : ChangeSpec := { name := "starTrue", fn := fun _ => fun
  | [d1, d2] => { results := [.lit (.bool true)], args := [d1, d2] }
  | _ => none }
def starTrueRow : OpenClaim := { program := "ytohbeninpmmmpaadoor", sum := "3d8a384829f66a77213b8a433439ad9b8e69adab15ee6f49e9ba129c62c521ad", func := "remontoir/remontoirlaw03.StarTrue", spec := "starTrue", unfollowed := true, recurses := true, named := ["remontoir/star.kinds"], plainKeys := false, apart := false, laid := [("remontoir/star.kinds", laid_remontoir_star_kinds)] }
def StarTrueSaid : Prop := starTrueRow.holds Tryd.pinned (OpenSpec.ofChange starTrueSpec)

/-- ITS FALSE NEIGHBOUR: 'it returns false'. Refute it at one input. -/
def starTrueWrong : ChangeSpec := { name := "starTrue", fn := fun _ => fun
  | [d1, d2] => { results := [.lit (.bool false)], args := [d1, d2] }
  | _ => none }
def StarTrueWrongFalsely : Prop := starTrueRow.holds Tryd.pinned (OpenSpec.ofChange starTrueWrong)

/-- 'remontoirlaw03.StarEnds': WHATEVER THE INPUT: true; the input reads as it did. -/
def starEndsSpec : ChangeSpec := { name := "starEnds", fn := fun _ => fun
  | [d1, d2] => { results := [.lit (.bool true)], args := [d1, d2] }
  | _ => none }
def starEndsRow : OpenClaim := { program := "ytohbeninpmmmpaadoor", sum := "3d8a384829f66a77213b8a433439ad9b8e69adab15ee6f49e9ba129c62c521ad", func := "remontoir/remontoirlaw03.StarEnds", spec := "starEnds", unfollowed := true, recurses := true, named := ["remontoir/star.kinds"], plainKeys := false, apart := false, laid := [("remontoir/star.kinds", laid_remontoir_star_kinds)] }
def StarEndsSaid : Prop := starEndsRow.holds Tryd.pinned (OpenSpec.ofChange starEndsSpec)

/-- ITS FALSE NEIGHBOUR: 'it returns false'. Refute it at one input. -/
def starEndsWrong : ChangeSpec := { name := "starEnds", fn := fun _ => fun
  | [d1, d2] => { results := [.lit (.bool false)], args := [d1, d2] }
  | _ => none }
def StarEndsWrongFalsely : Prop := starEndsRow.holds Tryd.pinned (OpenSpec.ofChange starEndsWrong)

/-- 'remontoirlaw03.StarPeople': WHATEVER THE INPUT: true; the input reads as it did. -/
def starPeopleSpec : ChangeSpec := { name := "starPeople", fn := fun _ => fun
  | [d1, d2] => { results := [.lit (.bool true)], args := [d1, d2] }
  | _ => none }
def starPeopleRow : OpenClaim := { program := "ytohbeninpmmmpaadoor", sum := "3d8a384829f66a77213b8a433439ad9b8e69adab15ee6f49e9ba129c62c521ad", func := "remontoir/remontoirlaw03.StarPeople", spec := "starPeople", unfollowed := true, recurses := true, named := ["remontoir/star.kinds"], plainKeys := false, apart := false, laid := [("remontoir/star.kinds", laid_remontoir_star_kinds)] }
def StarPeopleSaid : Prop := starPeopleRow.holds Tryd.pinned (OpenSpec.ofChange starPeopleSpec)

/-- ITS FALSE NEIGHBOUR: 'it returns false'. Refute it at one input. -/
def starPeopleWrong : ChangeSpec := { name := "starPeople", fn := fun _ => fun
  | [d1, d2] => { results := [.lit (.bool false)], args := [d1, d2] }
  | _ => none }
def StarPeopleWrongFalsely : Prop := starPeopleRow.holds Tryd.pinned (OpenSpec.ofChange starPeopleWrong)

/-- 'remontoirlaw03.StarMore': WHATEVER THE INPUT: true; the input reads as it did. -/
def starMoreSpec : ChangeSpec := { name := "starMore", fn := fun _ => fun
  | [d1, d2, d3] => { results := [.lit (.bool true)], args := [d1, d2, d3] }
  | _ => none }
def starMoreRow : OpenClaim := { program := "ytohbeninpmmmpaadoor", sum := "3d8a384829f66a77213b8a433439ad9b8e69adab15ee6f49e9ba129c62c521ad", func := "remontoir/remontoirlaw03.StarMore", spec := "starMore", unfollowed := true, recurses := true, named := ["remontoir/star.kinds"], plainKeys := false, apart := false, laid := [("remontoir/star.kinds", laid_remontoir_star_kinds)] }
def StarMoreSaid : Prop := starMoreRow.holds Tryd.pinned (OpenSpec.ofChange starMoreSpec)

/-- ITS FALSE NEIGHBOUR: 'it returns false'. Refute it at one input. -/
def starMoreWrong : ChangeSpec := { name := "starMore", fn := fun _ => fun
  | [d1, d2, d3] => { results := [.lit (.bool false)], args := [d1, d2, d3] }
  | _ => none }
def StarMoreWrongFalsely : Prop := starMoreRow.holds Tryd.pinned (OpenSpec.ofChange starMoreWrong)

/-- 'remontoirlaw03.StarWider': WHATEVER THE INPUT: true; the input reads as it did. -/
def starWiderSpec : ChangeSpec := { name := "starWider", fn := fun _ => fun
  | [d1, d2] => { results := [.lit (.bool true)], args := [d1, d2] }
  | _ => none }
def starWiderRow : OpenClaim := { program := "ytohbeninpmmmpaadoor", sum := "3d8a384829f66a77213b8a433439ad9b8e69adab15ee6f49e9ba129c62c521ad", func := "remontoir/remontoirlaw03.StarWider", spec := "starWider", unfollowed := true, recurses := true, named := ["remontoir/star.kinds"], plainKeys := false, apart := false, laid := [("remontoir/star.kinds", laid_remontoir_star_kinds)] }
def StarWiderSaid : Prop := starWiderRow.holds Tryd.pinned (OpenSpec.ofChange starWiderSpec)

/-- ITS FALSE NEIGHBOUR: 'it returns false'. Refute it at one input. -/
def starWiderWrong : ChangeSpec := { name := "starWider", fn := fun _ => fun
  | [d1, d2] => { results := [.lit (.bool false)], args := [d1, d2] }
  | _ => none }
def StarWiderWrongFalsely : Prop := starWiderRow.holds Tryd.pinned (OpenSpec.ofChange starWiderWrong)

/-- 'remontoirlaw03.StarApart': WHATEVER THE INPUT: true; the input reads as it did. -/
def starApartSpec : ChangeSpec := { name := "starApart", fn := fun _ => fun
  | [d1, d2] => { results := [.lit (.bool true)], args := [d1, d2] }
  | _ => none }
def starApartRow : OpenClaim := { program := "ytohbeninpmmmpaadoor", sum := "3d8a384829f66a77213b8a433439ad9b8e69adab15ee6f49e9ba129c62c521ad", func := "remontoir/remontoirlaw03.StarApart", spec := "starApart", unfollowed := true, recurses := true, named := ["remontoir/star.kinds"], plainKeys := false, apart := false, laid := [("remontoir/star.kinds", laid_remontoir_star_kinds)] }
def StarApartSaid : Prop := starApartRow.holds Tryd.pinned (OpenSpec.ofChange starApartSpec)

/-- ITS FALSE NEIGHBOUR: 'it returns false'. Refute it at one input. -/
def starApartWrong : ChangeSpec := { name := "starApart", fn := fun _ => fun
  | [d1, d2] => { results := [.lit (.bool false)], args := [d1, d2] }
  | _ => none }
def StarApartWrongFalsely : Prop := starApartRow.holds Tryd.pinned (OpenSpec.ofChange starApartWrong)

/-- 'remontoirlaw03.StarLeft': WHATEVER THE INPUT: true; the input reads as it did. -/
def starLeftSpec : ChangeSpec := { name := "starLeft", fn := fun _ => fun
  | [d1, d2] => { results := [.lit (.bool true)], args := [d1, d2] }
  | _ => none }
def starLeftRow : OpenClaim := { program := "ytohbeninpmmmpaadoor", sum := "3d8a384829f66a77213b8a433439ad9b8e69adab15ee6f49e9ba129c62c521ad", func := "remontoir/remontoirlaw03.StarLeft", spec := "starLeft", unfollowed := true, recurses := true, named := ["remontoir/star.kinds"], plainKeys := false, apart := false, laid := [("remontoir/star.kinds", laid_remontoir_star_kinds)] }
def StarLeftSaid : Prop := starLeftRow.holds Tryd.pinned (OpenSpec.ofChange starLeftSpec)

/-- ITS FALSE NEIGHBOUR: 'it returns false'. Refute it at one input. -/
def starLeftWrong : ChangeSpec := { name := "starLeft", fn := fun _ => fun
  | [d1, d2] => { results := [.lit (.bool false)], args := [d1, d2] }
  | _ => none }
def StarLeftWrongFalsely : Prop := starLeftRow.holds Tryd.pinned (OpenSpec.ofChange starLeftWrong)

/-- 'remontoirlaw03.StarIdle': WHATEVER THE INPUT: true; the input reads as it did. -/
def starIdleSpec : ChangeSpec := { name := "starIdle", fn := fun _ => fun
  | [d1, d2] => { results := [.lit (.bool true)], args := [d1, d2] }
  | _ => none }
def starIdleRow : OpenClaim := { program := "ytohbeninpmmmpaadoor", sum := "3d8a384829f66a77213b8a433439ad9b8e69adab15ee6f49e9ba129c62c521ad", func := "remontoir/remontoirlaw03.StarIdle", spec := "starIdle", unfollowed := true, recurses := true, named := ["remontoir/star.kinds"], plainKeys := false, apart := false, laid := [("remontoir/star.kinds", laid_remontoir_star_kinds)] }
def StarIdleSaid : Prop := starIdleRow.holds Tryd.pinned (OpenSpec.ofChange starIdleSpec)

/-- ITS FALSE NEIGHBOUR: 'it returns false'. Refute it at one input. -/
def starIdleWrong : ChangeSpec := { name := "starIdle", fn := fun _ => fun
  | [d1, d2] => { results := [.lit (.bool false)], args := [d1, d2] }
  | _ => none }
def StarIdleWrongFalsely : Prop := starIdleRow.holds Tryd.pinned (OpenSpec.ofChange starIdleWrong)

/-- 'remontoirlaw03.StarShifted': WHATEVER THE INPUT: true; the input reads as it did. -/
def starShiftedSpec : ChangeSpec := { name := "starShifted", fn := fun _ => fun
  | [d1, d2] => { results := [.lit (.bool true)], args := [d1, d2] }
  | _ => none }
def starShiftedRow : OpenClaim := { program := "ytohbeninpmmmpaadoor", sum := "3d8a384829f66a77213b8a433439ad9b8e69adab15ee6f49e9ba129c62c521ad", func := "remontoir/remontoirlaw03.StarShifted", spec := "starShifted", unfollowed := true, recurses := true, named := ["remontoir/star.kinds"], plainKeys := false, apart := false, laid := [("remontoir/star.kinds", laid_remontoir_star_kinds)] }
def StarShiftedSaid : Prop := starShiftedRow.holds Tryd.pinned (OpenSpec.ofChange starShiftedSpec)

/-- ITS FALSE NEIGHBOUR: 'it returns false'. Refute it at one input. -/
def starShiftedWrong : ChangeSpec := { name := "starShifted", fn := fun _ => fun
  | [d1, d2] => { results := [.lit (.bool false)], args := [d1, d2] }
  | _ => none }
def StarShiftedWrongFalsely : Prop := starShiftedRow.holds Tryd.pinned (OpenSpec.ofChange starShiftedWrong)

/-- 'remontoirlaw03.StarKnown': WHATEVER THE INPUT: true; the input reads as it did. -/
def starKnownSpec : ChangeSpec := { name := "starKnown", fn := fun _ => fun
  | [] => { results := [.lit (.bool true)], args := [] }
  | _ => none }
def starKnownRow : OpenClaim := { program := "ytohbeninpmmmpaadoor", sum := "3d8a384829f66a77213b8a433439ad9b8e69adab15ee6f49e9ba129c62c521ad", func := "remontoir/remontoirlaw03.StarKnown", spec := "starKnown", unfollowed := true, recurses := true, named := ["remontoir/star.kinds"], plainKeys := false, apart := false, laid := [("remontoir/star.kinds", laid_remontoir_star_kinds)] }
def StarKnownSaid : Prop := starKnownRow.holds Tryd.pinned (OpenSpec.ofChange starKnownSpec)

/-- ITS FALSE NEIGHBOUR: 'it returns false'. Refute it at one input. -/
def starKnownWrong : ChangeSpec := { name := "starKnown", fn := fun _ => fun
  | [] => { results := [.lit (.bool false)], args := [] }
  | _ => none }
def StarKnownWrongFalsely : Prop := starKnownRow.holds Tryd.pinned (OpenSpec.ofChange starKnownWrong)

/- THE SECOND FORM. 'bulk': how many values and letters a reading holds, each counted each time it is reached (what is shared counts as often as it is met; a slice's spare places count too). A statement '..UptoSaid' is the law's where the arguments, and the package variables that the reading takes, are together of bulk at most 1048576: NARROWER than '..Said'. Prove '..Said' where nothing that the law and all that it calls make is longer than what came in: it says more and counts as full. Else prove '..UptoSaid'. A law counts once. -/
mutual
def uptoBulk {H : Type} : DataW H → Nat
  | .lit (.string bytes) => bytes.length + 1
  | .lit _ => 1
  | .nil => 1
  | .ptr d => uptoBulk d + 1
  | .slice elems spare => uptoBulkAll elems + uptoBulkAll spare + 1
  | .agg parts => uptoBulkAll parts + 1
  | .iface _ d => uptoBulk d + 1
  | .map entries => uptoBulkEntries entries + 1
  | .held _ => 1
def uptoBulkAll {H : Type} : List (DataW H) → Nat
  | [] => 0
  | d :: r => uptoBulk d + uptoBulkAll r
def uptoBulkEntries {H : Type} : List (Lit × DataW H) → Nat
  | [] => 0
  | x :: r => uptoBulkEntry x + uptoBulkEntries r
def uptoBulkEntry {H : Type} : Lit × DataW H → Nat
  | (.string bytes, d) => bytes.length + uptoBulk d + 1
  | (_, d) => uptoBulk d + 1
 end
def uptoSmall : (H : Type) → List (DataW H) → Bool := fun _ ds => decide (uptoBulkAll ds ≤ 1048576)
def OpenSpec.upto (s : _root_.Go.ChangeSpec) : _root_.Go.OpenSpec := { _root_.Go.OpenSpec.ofChange s with cond := some uptoSmall }

/-- 'remontoirlaw03.StarTruths', WHERE WHAT IT READS IS OF BULK AT MOST 1048576: true; the input reads as it did. -/
def starTruthsUptoRow : OpenClaim := { program := "ytohbeninpmmmpaadoor", sum := "3d8a384829f66a77213b8a433439ad9b8e69adab15ee6f49e9ba129c62c521ad", func := "remontoir/remontoirlaw03.StarTruths", spec := "starTruths", unfollowed := true, recurses := true, named := ["remontoir/star.kinds"], plainKeys := false, apart := false, laid := [("remontoir/star.kinds", laid_remontoir_star_kinds)], narrowed := true }
def StarTruthsUptoSaid : Prop := starTruthsUptoRow.holds Tryd.pinned (OpenSpec.upto starTruthsSpec)

/-- 'remontoirlaw03.StarSpans', WHERE WHAT IT READS IS OF BULK AT MOST 1048576: true; the input reads as it did. -/
def starSpansUptoRow : OpenClaim := { program := "ytohbeninpmmmpaadoor", sum := "3d8a384829f66a77213b8a433439ad9b8e69adab15ee6f49e9ba129c62c521ad", func := "remontoir/remontoirlaw03.StarSpans", spec := "starSpans", unfollowed := true, recurses := true, named := ["remontoir/star.kinds"], plainKeys := false, apart := false, laid := [("remontoir/star.kinds", laid_remontoir_star_kinds)], narrowed := true }
def StarSpansUptoSaid : Prop := starSpansUptoRow.holds Tryd.pinned (OpenSpec.upto starSpansSpec)

/-- 'remontoirlaw03.StarCases', WHERE WHAT IT READS IS OF BULK AT MOST 1048576: true; the input reads as it did. -/
def starCasesUptoRow : OpenClaim := { program := "ytohbeninpmmmpaadoor", sum := "3d8a384829f66a77213b8a433439ad9b8e69adab15ee6f49e9ba129c62c521ad", func := "remontoir/remontoirlaw03.StarCases", spec := "starCases", unfollowed := true, recurses := true, named := ["remontoir/star.kinds"], plainKeys := false, apart := false, laid := [("remontoir/star.kinds", laid_remontoir_star_kinds)], narrowed := true }
def StarCasesUptoSaid : Prop := starCasesUptoRow.holds Tryd.pinned (OpenSpec.upto starCasesSpec)

/-- 'remontoirlaw03.StarWrongs', WHERE WHAT IT READS IS OF BULK AT MOST 1048576: true; the input reads as it did. -/
def starWrongsUptoRow : OpenClaim := { program := "ytohbeninpmmmpaadoor", sum := "3d8a384829f66a77213b8a433439ad9b8e69adab15ee6f49e9ba129c62c521ad", func := "remontoir/remontoirlaw03.StarWrongs", spec := "starWrongs", unfollowed := true, recurses := true, named := ["remontoir/star.kinds"], plainKeys := false, apart := false, laid := [("remontoir/star.kinds", laid_remontoir_star_kinds)], narrowed := true }
def StarWrongsUptoSaid : Prop := starWrongsUptoRow.holds Tryd.pinned (OpenSpec.upto starWrongsSpec)

/-- 'remontoirlaw03.StarTrue', WHERE WHAT IT READS IS OF BULK AT MOST 1048576: true; the input reads as it did. -/
def starTrueUptoRow : OpenClaim := { program := "ytohbeninpmmmpaadoor", sum := "3d8a384829f66a77213b8a433439ad9b8e69adab15ee6f49e9ba129c62c521ad", func := "remontoir/remontoirlaw03.StarTrue", spec := "starTrue", unfollowed := true, recurses := true, named := ["remontoir/star.kinds"], plainKeys := false, apart := false, laid := [("remontoir/star.kinds", laid_remontoir_star_kinds)], narrowed := true }
def StarTrueUptoSaid : Prop := starTrueUptoRow.holds Tryd.pinned (OpenSpec.upto starTrueSpec)

/-- 'remontoirlaw03.StarEnds', WHERE WHAT IT READS IS OF BULK AT MOST 1048576: true; the input reads as it did. -/
def starEndsUptoRow : OpenClaim := { program := "ytohbeninpmmmpaadoor", sum := "3d8a384829f66a77213b8a433439ad9b8e69adab15ee6f49e9ba129c62c521ad", func := "remontoir/remontoirlaw03.StarEnds", spec := "starEnds", unfollowed := true, recurses := true, named := ["remontoir/star.kinds"], plainKeys := false, apart := false, laid := [("remontoir/star.kinds", laid_remontoir_star_kinds)], narrowed := true }
def StarEndsUptoSaid : Prop := starEndsUptoRow.holds Tryd.pinned (OpenSpec.upto starEndsSpec)

/-- 'remontoirlaw03.StarPeople', WHERE WHAT IT READS IS OF BULK AT MOST 1048576: true; the input reads as it did. -/
def starPeopleUptoRow : OpenClaim := { program := "ytohbeninpmmmpaadoor", sum := "3d8a384829f66a77213b8a433439ad9b8e69adab15ee6f49e9ba129c62c521ad", func := "remontoir/remontoirlaw03.StarPeople", spec := "starPeople", unfollowed := true, recurses := true, named := ["remontoir/star.kinds"], plainKeys := false, apart := false, laid := [("remontoir/star.kinds", laid_remontoir_star_kinds)], narrowed := true }
def StarPeopleUptoSaid : Prop := starPeopleUptoRow.holds Tryd.pinned (OpenSpec.upto starPeopleSpec)

/-- 'remontoirlaw03.StarMore', WHERE WHAT IT READS IS OF BULK AT MOST 1048576: true; the input reads as it did. -/
def starMoreUptoRow : OpenClaim := { program := "ytohbeninpmmmpaadoor", sum := "3d8a384829f66a77213b8a433439ad9b8e69adab15ee6f49e9ba129c62c521ad", func := "remontoir/remontoirlaw03.StarMore", spec := "starMore", unfollowed := true, recurses := true, named := ["remontoir/star.kinds"], plainKeys := false, apart := false, laid := [("remontoir/star.kinds", laid_remontoir_star_kinds)], narrowed := true }
def StarMoreUptoSaid : Prop := starMoreUptoRow.holds Tryd.pinned (OpenSpec.upto starMoreSpec)

/-- 'remontoirlaw03.StarWider', WHERE WHAT IT READS IS OF BULK AT MOST 1048576: true; the input reads as it did. -/
def starWiderUptoRow : OpenClaim := { program := "ytohbeninpmmmpaadoor", sum := "3d8a384829f66a77213b8a433439ad9b8e69adab15ee6f49e9ba129c62c521ad", func := "remontoir/remontoirlaw03.StarWider", spec := "starWider", unfollowed := true, recurses := true, named := ["remontoir/star.kinds"], plainKeys := false, apart := false, laid := [("remontoir/star.kinds", laid_remontoir_star_kinds)], narrowed := true }
def StarWiderUptoSaid : Prop := starWiderUptoRow.holds Tryd.pinned (OpenSpec.upto starWiderSpec)

/-- 'remontoirlaw03.StarApart', WHERE WHAT IT READS IS OF BULK AT MOST 1048576: true; the input reads as it did. -/
def starApartUptoRow : OpenClaim := { program := "ytohbeninpmmmpaadoor", sum := "3d8a384829f66a77213b8a433439ad9b8e69adab15ee6f49e9ba129c62c521ad", func := "remontoir/remontoirlaw03.StarApart", spec := "starApart", unfollowed := true, recurses := true, named := ["remontoir/star.kinds"], plainKeys := false, apart := false, laid := [("remontoir/star.kinds", laid_remontoir_star_kinds)], narrowed := true }
def StarApartUptoSaid : Prop := starApartUptoRow.holds Tryd.pinned (OpenSpec.upto starApartSpec)

/-- 'remontoirlaw03.StarLeft', WHERE WHAT IT READS IS OF BULK AT MOST 1048576: true; the input reads as it did. -/
def starLeftUptoRow : OpenClaim := { program := "ytohbeninpmmmpaadoor", sum := "3d8a384829f66a77213b8a433439ad9b8e69adab15ee6f49e9ba129c62c521ad", func := "remontoir/remontoirlaw03.StarLeft", spec := "starLeft", unfollowed := true, recurses := true, named := ["remontoir/star.kinds"], plainKeys := false, apart := false, laid := [("remontoir/star.kinds", laid_remontoir_star_kinds)], narrowed := true }
def StarLeftUptoSaid : Prop := starLeftUptoRow.holds Tryd.pinned (OpenSpec.upto starLeftSpec)

/-- 'remontoirlaw03.StarIdle', WHERE WHAT IT READS IS OF BULK AT MOST 1048576: true; the input reads as it did. -/
def starIdleUptoRow : OpenClaim := { program := "ytohbeninpmmmpaadoor", sum := "3d8a384829f66a77213b8a433439ad9b8e69adab15ee6f49e9ba129c62c521ad", func := "remontoir/remontoirlaw03.StarIdle", spec := "starIdle", unfollowed := true, recurses := true, named := ["remontoir/star.kinds"], plainKeys := false, apart := false, laid := [("remontoir/star.kinds", laid_remontoir_star_kinds)], narrowed := true }
def StarIdleUptoSaid : Prop := starIdleUptoRow.holds Tryd.pinned (OpenSpec.upto starIdleSpec)

/-- 'remontoirlaw03.StarShifted', WHERE WHAT IT READS IS OF BULK AT MOST 1048576: true; the input reads as it did. -/
def starShiftedUptoRow : OpenClaim := { program := "ytohbeninpmmmpaadoor", sum := "3d8a384829f66a77213b8a433439ad9b8e69adab15ee6f49e9ba129c62c521ad", func := "remontoir/remontoirlaw03.StarShifted", spec := "starShifted", unfollowed := true, recurses := true, named := ["remontoir/star.kinds"], plainKeys := false, apart := false, laid := [("remontoir/star.kinds", laid_remontoir_star_kinds)], narrowed := true }
def StarShiftedUptoSaid : Prop := starShiftedUptoRow.holds Tryd.pinned (OpenSpec.upto starShiftedSpec)

/-- 'remontoirlaw03.StarKnown', WHERE WHAT IT READS IS OF BULK AT MOST 1048576: true; the input reads as it did. -/
def starKnownUptoRow : OpenClaim := { program := "ytohbeninpmmmpaadoor", sum := "3d8a384829f66a77213b8a433439ad9b8e69adab15ee6f49e9ba129c62c521ad", func := "remontoir/remontoirlaw03.StarKnown", spec := "starKnown", unfollowed := true, recurses := true, named := ["remontoir/star.kinds"], plainKeys := false, apart := false, laid := [("remontoir/star.kinds", laid_remontoir_star_kinds)], narrowed := true }
def StarKnownUptoSaid : Prop := starKnownUptoRow.holds Tryd.pinned (OpenSpec.upto starKnownSpec)

end Rows
end Go.Proofs.YtohbeninpmmmpaaDoor
