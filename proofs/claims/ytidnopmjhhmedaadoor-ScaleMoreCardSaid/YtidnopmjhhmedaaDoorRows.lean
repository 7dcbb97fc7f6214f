/-
  NARROWER THAN 'FOR EVERY INPUT', by the rows' own cells (each row's printed sentence says how): ScalePlans: laid · ScaleReaches: laid · ScaleErrors: laid · ScaleMeets: laid · ScaleNever: laid · ScaleMet: laid · ScaleBetween: laid · ScaleEasier: laid · ScaleTrue: laid · ScaleEnds: laid · ScaleMore: laid · ScaleWider: laid · ScaleKnown: laid.
  DERIVED. THE GIVEN ROWS OF THIS SEAT. 13 by the template 'for every input the law returns true; each argument reads behind the call as it read before'; 0 by the template 'total and deterministic' (their statements: YtidnopmjhhmedaaDoorTotals.lean).
  GIVEN WITH THE SEED: the statements are not yours to turn. If you find one false, say at which input.
  Laid BY PROGRAM, IN A SANDBOX (cutbox-rows.mjs): the forced cells as the released guide's own fill.sh prints them over the translation b5f4d5d926ef61a7… (all of the seat's roots in one cut). By AI agents, Wed Nov 11 2026. No macro, syntax, notation, axiom, sorry.
-/
import Derived.Test.YtidnopmjhhmedaaDoorChecked
import GoSem.Claim
import GoSem.ClaimJoined
import GoSem.ClaimMapViews
import Derived.JoinedTies
import Derived.KernelRfl
namespace Go.Proofs.YtidnopmjhhmedaaDoor
/- THE CELL 'sum', in the pinned program and in every row, IS THE sha256 OF THE DUMP (.gsa) THAT YtidnopmjhhmedaaDoorProg.lean LOADS. Nothing in Lean hashes anything: it is a label: what it is worth is what the hold of that sum in a sandbox is worth. -/
noncomputable def Tryd.pinned : Pinned := { name := "ytidnopmjhhmedaadoor", sum := "b5f4d5d926ef61a73385a17eb449aed9a3cf5c218e1ed139ef904f29d38fddd6", checked := Tryd.checked }
namespace Rows
def none {H : Type} : Left H := { results := [], args := [] }

/- WHAT THE LISTED PACKAGE-LEVEL VARIABLES READ AS WHEN THE CALL BEGINS. Each datum BY PROGRAM (the guide's laid-datum.mjs) off the statement by which the dump's own 'gosem.cut.vars' lays the variable. In a bare row this is a premise. The card (YtidnopmjhhmedaaDoorCards.lean) ties it to the program's text. -/
def laid_remontoir_scale_ways {H : Type} : DataW H := .iface "func table" (.agg [.iface "func" (.lit (.string [40, 114, 101, 109, 111, 110, 116, 111, 105, 114, 47, 115, 99, 97, 108, 101, 46, 114, 117, 108, 101, 41, 46, 103, 97, 105, 110])), .iface "func" (.lit (.string [40, 114, 101, 109, 111, 110, 116, 111, 105, 114, 47, 115, 99, 97, 108, 101, 46, 114, 117, 108, 101, 41, 46, 108, 111, 115, 101]))])

/-- 'remontoirlaw04.ScalePlans': WHATEVER THE INPUT: true; the input reads as it did. -/
def scalePlansSpec : ChangeSpec := { name := "scalePlans", fn := fun _ => fun
  | [d1, d2, d3] => { results := [.lit (.bool true)], args := [d1, d2, d3] }
  | _ => none }
def scalePlansRow : OpenClaim := { program := "ytidnopmjhhmedaadoor", sum := "b5f4d5d926ef61a73385a17eb449aed9a3cf5c218e1ed139ef904f29d38fddd6", func := "remontoir/remontoirlaw04.ScalePlans", spec := "scalePlans", unfollowed := true, recurses := true, named := ["remontoir/scale.ways"], plainKeys := false, apart := false, laid := [("remontoir/scale.ways", laid_remontoir_scale_ways)] }
def ScalePlansSaid : Prop := scalePlansRow.holds Tryd.pinned (OpenSpec.ofChange scalePlansSpec)

/-- ITS FALSE NEIGHBOUR: 'it returns false'. Refute it at one input. -/
def scalePlansWrong : ChangeSpec := { name := "scalePlans", fn := fun _ => fun
  | [d1, d2, d3] => { results := [.lit (.bool false)], args := [d1, d2, d3] }
  | _ => none }
def ScalePlansWrongFalsely : Prop := scalePlansRow.holds Tryd.pinned (OpenSpec.ofChange scalePlansWrong)

/-- 'remontoirlaw04.ScaleReaches': WHATEVER THE INPUT: true; the input reads as it did. -/
def scaleReachesSpec : ChangeSpec := { name := "scaleReaches", fn := fun _ => fun
  | [d1, d2, d3] => { results := [.lit (.bool true)], args := [d1, d2, d3] }
  | _ => none }
def scaleReachesRow : OpenClaim := { program := "ytidnopmjhhmedaadoor", sum := "b5f4d5d926ef61a73385a17eb449aed9a3cf5c218e1ed139ef904f29d38fddd6", func := "remontoir/remontoirlaw04.ScaleReaches", spec := "scaleReaches", unfollowed := true, recurses := true, named := ["remontoir/scale.ways"], plainKeys := false, apart := false, laid := [("remontoir/scale.ways", laid_remontoir_scale_ways)] }
def ScaleReachesSaid : Prop := scaleReachesRow.holds Tryd.pinned (OpenSpec.ofChange scaleReachesSpec)

/-- ITS FALSE NEIGHBOUR: 'it returns false'. Refute it at one input. -/
def scaleReachesWrong : ChangeSpec := { name := "scaleReaches", fn := fun _ => fun
  | [d1, d2, d3] => { results := [.lit (.bool false)], args := [d1, d2, d3] }
  | _ => none }
def ScaleReachesWrongFalsely : Prop := scaleReachesRow.holds Tryd.pinned (OpenSpec.ofChange scaleReachesWrong)

/-- 'remontoirlaw04.ScaleErrors': WHATEVER THE INPUT: true; the input reads as it did. -/
def scaleErrorsSpec : ChangeSpec := { name := "scaleErrors", fn := fun _ => fun
  | [d1, d2] => { results := [.lit (.bool true)], args := [d1, d2] }
  | _ => none }
def scaleErrorsRow : OpenClaim := { program := "ytidnopmjhhmedaadoor", sum := "b5f4d5d926ef61a73385a17eb449aed9a3cf5c218e1ed139ef904f29d38fddd6", func := "remontoir/remontoirlaw04.ScaleErrors", spec := "scaleErrors", unfollowed := true, recurses := true, named := ["remontoir/scale.ways"], plainKeys := false, apart := false, laid := [("remontoir/scale.ways", laid_remontoir_scale_ways)] }
def ScaleErrorsSaid : Prop := scaleErrorsRow.holds Tryd.pinned (OpenSpec.ofChange scaleErrorsSpec)

/-- ITS FALSE NEIGHBOUR: 'it returns false'. Refute it at one input. -/
def scaleErrorsWrong : ChangeSpec := { name := "scaleErrors", fn := fun _ => fun
  | [d1, d2] => { results := [.lit (.bool false)], args := [d1, d2] }
  | _ => none }
def ScaleErrorsWrongFalsely : Prop := scaleErrorsRow.holds Tryd.pinned (OpenSpec.ofChange scaleErrorsWrong)

/-- 'remontoirlaw04.ScaleMeets': WHATEVER THE INPUT: true; the input reads as it did. -/
def scaleMeetsSpec : ChangeSpec := { name := "scaleMeets", fn := fun _ => fun
  | [d] => { results := [.lit (.bool true)], args := [d] }
  | _ => none }
def scaleMeetsRow : OpenClaim := { program := "ytidnopmjhhmedaadoor", sum := "b5f4d5d926ef61a73385a17eb449aed9a3cf5c218e1ed139ef904f29d38fddd6", func := "remontoir/remontoirlaw04.ScaleMeets", spec := "scaleMeets", unfollowed := true, recurses := true, named := ["remontoir/scale.ways"], plainKeys := false, apart := false, laid := [("remontoir/scale.ways", laid_remontoir_scale_ways)] }
def ScaleMeetsSaid : Prop := scaleMeetsRow.holds Tryd.pinned (OpenSpec.ofChange scaleMeetsSpec)

/-- ITS FALSE NEIGHBOUR: 'it returns false'. Refute it at one input. -/
def scaleMeetsWrong : ChangeSpec := { name := "scaleMeets", fn := fun _ => fun
  | [d] => { results := [.lit (.bool false)], args := [d] }
  | _ => none }
def ScaleMeetsWrongFalsely : Prop := scaleMeetsRow.holds Tryd.pinned (OpenSpec.ofChange scaleMeetsWrong)

/-- 'remontoirlaw04.ScaleNever': WHATEVER THE INPUT: true; the input reads as it did. -/
def scaleNeverSpec : ChangeSpec := { name := "scaleNever", fn := fun _ => fun
  | [d1, d2, d3] => { results := [.lit (.bool true)], args := [d1, d2, d3] }
  | _ => none }
def scaleNeverRow : OpenClaim := { program := "ytidnopmjhhmedaadoor", sum := "b5f4d5d926ef61a73385a17eb449aed9a3cf5c218e1ed139ef904f29d38fddd6", func := "remontoir/remontoirlaw04.ScaleNever", spec := "scaleNever", unfollowed := true, recurses := true, named := ["remontoir/scale.ways"], plainKeys := false, apart := false, laid := [("remontoir/scale.ways", laid_remontoir_scale_ways)] }
def ScaleNeverSaid : Prop := scaleNeverRow.holds Tryd.pinned (OpenSpec.ofChange scaleNeverSpec)

/-- ITS FALSE NEIGHBOUR: 'it returns false'. Refute it at one input. -/
def scaleNeverWrong : ChangeSpec := { name := "scaleNever", fn := fun _ => fun
  | [d1, d2, d3] => { results := [.lit (.bool false)], args := [d1, d2, d3] }
  | _ => none }
def ScaleNeverWrongFalsely : Prop := scaleNeverRow.holds Tryd.pinned (OpenSpec.ofChange scaleNeverWrong)

/-- 'remontoirlaw04.ScaleMet': WHATEVER THE INPUT: true; the input reads as it did. -/
def scaleMetSpec : ChangeSpec := { name := "scaleMet", fn := fun _ => fun
  | [d1, d2, d3] => { results := [.lit (.bool true)], args := [d1, d2, d3] }
  | _ => none }
def scaleMetRow : OpenClaim := { program := "ytidnopmjhhmedaadoor", sum := "b5f4d5d926ef61a73385a17eb449aed9a3cf5c218e1ed139ef904f29d38fddd6", func := "remontoir/remontoirlaw04.ScaleMet", spec := "scaleMet", unfollowed := true, recurses := true, named := ["remontoir/scale.ways"], plainKeys := false, apart := false, laid := [("remontoir/scale.ways", laid_remontoir_scale_ways)] }
def ScaleMetSaid : Prop := scaleMetRow.holds Tryd.pinned (OpenSpec.ofChange scaleMetSpec)

/-- ITS FALSE NEIGHBOUR: 'it returns false'. Refute it at one input. -/
def scaleMetWrong : ChangeSpec := { name := "scaleMet", fn := fun _ => fun
  | [d1, d2, d3] => { results := [.lit (.bool false)], args := [d1, d2, d3] }
  | _ => none }
def ScaleMetWrongFalsely : Prop := scaleMetRow.holds Tryd.pinned (OpenSpec.ofChange scaleMetWrong)

/-- 'remontoirlaw04.ScaleBetween': WHATEVER THE INPUT: true; the input reads as it did. -/
def scaleBetweenSpec : ChangeSpec := { name := "scaleBetween", fn := fun _ => fun
  | [d1, d2, d3] => { results := [.lit (.bool true)], args := [d1, d2, d3] }
  | _ => none }
def scaleBetweenRow : OpenClaim := { program := "ytidnopmjhhmedaadoor", sum := "b5f4d5d926ef61a73385a17eb449aed9a3cf5c218e1ed139ef904f29d38fddd6", func := "remontoir/remontoirlaw04.ScaleBetween", spec := "scaleBetween", unfollowed := true, recurses := true, named := ["remontoir/scale.ways"], plainKeys := false, apart := false, laid := [("remontoir/scale.ways", laid_remontoir_scale_ways)] }
def ScaleBetweenSaid : Prop := scaleBetweenRow.holds Tryd.pinned (OpenSpec.ofChange scaleBetweenSpec)

/-- ITS FALSE NEIGHBOUR: 'it returns false'. Refute it at one input. -/
def scaleBetweenWrong : ChangeSpec := { name := "scaleBetween", fn := fun _ => fun
  | [d1, d2, d3] => { results := [.lit (.bool false)], args := [d1, d2, d3] }
  | _ => none }
def ScaleBetweenWrongFalsely : Prop := scaleBetweenRow.holds Tryd.pinned (OpenSpec.ofChange scaleBetweenWrong)

/-- 'remontoirlaw04.ScaleEasier': WHATEVER THE INPUT: true; the input reads as it did. -/
def scaleEasierSpec : ChangeSpec := { name := "scaleEasier", fn := fun _ => fun
  | [d1, d2] => { results := [.lit (.bool true)], args := [d1, d2] }
  | _ => none }
def scaleEasierRow : OpenClaim := { program := "ytidnopmjhhmedaadoor", sum := "b5f4d5d926ef61a73385a17eb449aed9a3cf5c218e1ed139ef904f29d38fddd6", func := "remontoir/remontoirlaw04.ScaleEasier", spec := "scaleEasier", unfollowed := true, recurses := true, named := ["remontoir/scale.ways"], plainKeys := false, apart := false, laid := [("remontoir/scale.ways", laid_remontoir_scale_ways)] }
def ScaleEasierSaid : Prop := scaleEasierRow.holds Tryd.pinned (OpenSpec.ofChange scaleEasierSpec)

/-- ITS FALSE NEIGHBOUR: 'it returns false'. Refute it at one input. -/
def scaleEasierWrong : ChangeSpec := { name := "scaleEasier", fn := fun _ => fun
  | [d1, d2] => { results := [.lit (.bool false)], args := [d1, d2] }
  | _ => none }
def ScaleEasierWrongFalsely : Prop := scaleEasierRow.holds Tryd.pinned (OpenSpec.ofChange scaleEasierWrong)

/-- 'remontoirlaw04.ScaleTrue': WHATEVER THE INPUT: true; the input reads as it did. -/
def scaleTrueSpec : ChangeSpec := { name := "scaleTrue", fn := fun _ => fun
  | [d1, d2] => { results := [.lit (.bool true)], args := [d1, d2] }
  | _ => none }
def scaleTrueRow : OpenClaim := { program := "ytidnopmjhhmedaadoor", sum := "b5f4d5d926ef61a73385a17eb449aed9a3cf5c218e1ed139ef904f29d38fddd6", func := "remontoir/remontoirlaw04.ScaleTrue", spec := "scaleTrue", unfollowed := true, recurses := true, named := ["remontoir/scale.ways"], plainKeys := false, apart := false, laid := [("remontoir/scale.ways", laid_remontoir_scale_ways)] }
def ScaleTrueSaid : Prop := scaleTrueRow.holds Tryd.pinned (OpenSpec.ofChange scaleTrueSpec)

/-- ITS FALSE NEIGHBOUR: 'it returns false'. Refute it at one input. -/
def scaleTrueWrong : ChangeSpec := { name := "scaleTrue", fn := fun _ => fun
  | [d1, d2] => { results := [.lit (.bool false)], args := [d1, d2] }
  | _ => none }
def ScaleTrueWrongFalsely : Prop := scaleTrueRow.holds Tryd.pinned (OpenSpec.ofChange scaleTrueWrong)

/-- 'remontoirlaw04.ScaleEnds': WHATEVER THE INPUT: true; the input reads as it did. -/
def scaleEndsSpec : ChangeSpec := { name := "scaleEnds", fn := fun _ => fun
  | [d1, d2] => { results := [.lit (.bool true)], args := [d1, d2] }
  | _ => none }
def scaleEndsRow : OpenClaim := { program := "ytidnopmjhhmedaadoor", sum := "b5f4d5d926ef61a73385a17eb449aed9a3cf5c218e1ed139ef904f29d38fddd6", func := "remontoir/remontoirlaw04.ScaleEnds", spec := "scaleEnds", unfollowed := true, recurses := true, named := ["remontoir/scale.ways"], plainKeys := false, apart := false, laid := [("remontoir/scale.ways", laid_remontoir_scale_ways)] }
def ScaleEndsSaid : Prop := scaleEndsRow.holds Tryd.pinned (OpenSpec.ofChange scaleEndsSpec)

/-- ITS FALSE NEIGHBOUR: 'it returns false'. Refute it at one input. -/
def scaleEndsWrong : ChangeSpec := { name := "scaleEnds", fn := fun _ => fun
  | [d1, d2] => { results := [.lit (.bool false)], args := [d1, d2] }
  | _ => none }
def ScaleEndsWrongFalsely : Prop := scaleEndsRow.holds Tryd.pinned (OpenSpec.ofChange scaleEndsWrong)

/-- 'remontoirlaw04.ScaleMore': WHATEVER THE INPUT: true; the input reads as it did. -/
def scaleMoreSpec : ChangeSpec := { name := "scaleMore", fn := fun _ => fun
  | [d1, d2, d3] => { results := [.lit (.bool true)], args := [d1, d2, d3] }
  | _ => none }
def scaleMoreRow : OpenClaim := { program := "ytidnopmjhhmedaadoor", sum := "b5f4d5d926ef61a73385a17eb449aed9a3cf5c218e1ed139ef904f29d38fddd6", func := "remontoir/remontoirlaw04.ScaleMore", spec := "scaleMore", unfollowed := true, recurses := true, named := ["remontoir/scale.ways"], plainKeys := false, apart := false, laid := [("remontoir/scale.ways", laid_remontoir_scale_ways)] }
def ScaleMoreSaid : Prop := scaleMoreRow.holds Tryd.pinned (OpenSpec.ofChange scaleMoreSpec)

/-- ITS FALSE NEIGHBOUR: 'it returns false'. Refute it at one input. -/
def scaleMoreWrong : ChangeSpec := { name := "scaleMore", fn := fun _ => fun
  | [d1, d2, d3] => { results := [.lit (.bool false)], args := [d1, d2, d3] }
  | _ => none }
def ScaleMoreWrongFalsely : Prop := scaleMoreRow.holds Tryd.pinned (OpenSpec.ofChange scaleMoreWrong)

/-- 'remontoirlaw04.ScaleWider': WHATEVER THE INPUT: true; the input reads as it did. -/
def scaleWiderSpec : ChangeSpec := { name := "scaleWider", fn := fun _ => fun
  | [d1, d2] => { results := [.lit (.bool true)], args := [d1, d2] }
  | _ => none }
def scaleWiderRow : OpenClaim := { program := "ytidnopmjhhmedaadoor", sum := "b5f4d5d926ef61a73385a17eb449aed9a3cf5c218e1ed139ef904f29d38fddd6", func := "remontoir/remontoirlaw04.ScaleWider", spec := "scaleWider", unfollowed := true, recurses := true, named := ["remontoir/scale.ways"], plainKeys := false, apart := false, laid := [("remontoir/scale.ways", laid_remontoir_scale_ways)] }
def ScaleWiderSaid : Prop := scaleWiderRow.holds Tryd.pinned (OpenSpec.ofChange scaleWiderSpec)

/-- ITS FALSE NEIGHBOUR: 'it returns false'. Refute it at one input. -/
def scaleWiderWrong : ChangeSpec := { name := "scaleWider", fn := fun _ => fun
  | [d1, d2] => { results := [.lit (.bool false)], args := [d1, d2] }
  | _ => none }
def ScaleWiderWrongFalsely : Prop := scaleWiderRow.holds Tryd.pinned (OpenSpec.ofChange scaleWiderWrong)

/-- 'remontoirlaw04.ScaleKnown': WHATEVER THE INPUT: true; the input reads as it did. -/
def scaleKnownSpec : ChangeSpec := { name := "scaleKnown", fn := fun _ => fun
  | [] => { results := [.lit (.bool true)], args := [] }
  | _ => none }
def scaleKnownRow : OpenClaim := { program := "ytidnopmjhhmedaadoor", sum := "b5f4d5d926ef61a73385a17eb449aed9a3cf5c218e1ed139ef904f29d38fddd6", func := "remontoir/remontoirlaw04.ScaleKnown", spec := "scaleKnown", unfollowed := true, recurses := true, named := ["remontoir/scale.ways"], plainKeys := false, apart := false, laid := [("remontoir/scale.ways", laid_remontoir_scale_ways)] }
def ScaleKnownSaid : Prop := scaleKnownRow.holds Tryd.pinned (OpenSpec.ofChange scaleKnownSpec)

/-- ITS FALSE NEIGHBOUR: 'it returns false'. Refute it at one input. -/
def scaleKnownWrong : ChangeSpec := { name := "scaleKnown", fn := fun _ => fun
  | [] => { results := [.lit (.bool false)], args := [] }
  | _ => none }
def ScaleKnownWrongFalsely : Prop := scaleKnownRow.holds Tryd.pinned (OpenSpec.ofChange scaleKnownWrong)

/- THE SECOND FORM. 'bulk': how many values and letters a reading holds, each counted each time it is reached (what is shared counts as often as it is met; a slice's spare places count too). A statement '..UptoSaid' is the law's where the arguments, and the package variables that the reading takes, are together of bulk at most 1048576: NARROWER than '..Said'. Prove '..Said' where nothing that the law and all that it calls make is longer than what came in: it says more and counts as full. Else prove '..UptoSaid'. A law counts once. -/
mutual
def uptoBulk {H : Type} : DataW H → Nat
  | .lit (.string bytes) => bytes.length + 1
  | .lit _ => 1
  | .nil => 1
  | .ptr d => uptoBulk d + 1
  | .slice elems spare => uptoBulkAll elems + uptoBulkAll spare + 1
  | .agg parts => uptoBulkAll parts + 1
  | .iface _ d => uptoBulk d + 1
  | .map entries => uptoBulkEntries entries + 1
  | .held _ => 1
def uptoBulkAll {H : Type} : List (DataW H) → Nat
  | [] => 0
  | d :: r => uptoBulk d + uptoBulkAll r
def uptoBulkEntries {H : Type} : List (Lit × DataW H) → Nat
  | [] => 0
  | x :: r => uptoBulkEntry x + uptoBulkEntries r
def uptoBulkEntry {H : Type} : Lit × DataW H → Nat
  | (.string bytes, d) => bytes.length + uptoBulk d + 1
  | (_, d) => uptoBulk d + 1
 end
def uptoSmall : (H : Type) → List (DataW H) → Bool := fun _ ds => decide (uptoBulkAll ds ≤ 1048576)
def OpenSpec.upto (s : _root_.Go.ChangeSpec) : _root_.Go.OpenSpec := { _root_.Go.OpenSpec.ofChange s with cond := some uptoSmall }

/-- 'remontoirlaw04.ScalePlans', WHERE WHAT IT READS IS OF BULK AT MOST 1048576: true; the input reads as it did. -/
def scalePlansUptoRow : OpenClaim := { program := "ytidnopmjhhmedaadoor", sum := "b5f4d5d926ef61a73385a17eb449aed9a3cf5c218e1ed139ef904f29d38fddd6", func := "remontoir/remontoirlaw04.ScalePlans", spec := "scalePlans", unfollowed := true, recurses := true, named := ["remontoir/scale.ways"], plainKeys := false, apart := false, laid := [("remontoir/scale.ways", laid_remontoir_scale_ways)], narrowed := true }
def ScalePlansUptoSaid : Prop := scalePlansUptoRow.holds Tryd.pinned (OpenSpec.upto scalePlansSpec)

/-- 'remontoirlaw04.ScaleReaches', WHERE WHAT IT READS IS OF BULK AT MOST 1048576: true; the input reads as it did. -/
def scaleReachesUptoRow : OpenClaim := { program := "ytidnopmjhhmedaadoor", sum := "b5f4d5d926ef61a73385a17eb449aed9a3cf5c218e1ed139ef904f29d38fddd6", func := "remontoir/remontoirlaw04.ScaleReaches", spec := "scaleReaches", unfollowed := true, recurses := true, named := ["remontoir/scale.ways"], plainKeys := false, apart := false, laid := [("remontoir/scale.ways", laid_remontoir_scale_ways)], narrowed := true }
def ScaleReachesUptoSaid : Prop := scaleReachesUptoRow.holds Tryd.pinned (OpenSpec.upto scaleReachesSpec)

/-- 'remontoirlaw04.ScaleErrors', WHERE WHAT IT READS IS OF BULK AT MOST 1048576: true; the input reads as it did. -/
def scaleErrorsUptoRow : OpenClaim := { program := "ytidnopmjhhmedaadoor", sum := "b5f4d5d926ef61a73385a17eb449aed9a3cf5c218e1ed139ef904f29d38fddd6", func := "remontoir/remontoirlaw04.ScaleErrors", spec := "scaleErrors", unfollowed := true, recurses := true, named := ["remontoir/scale.ways"], plainKeys := false, apart := false, laid := [("remontoir/scale.ways", laid_remontoir_scale_ways)], narrowed := true }
def ScaleErrorsUptoSaid : Prop := scaleErrorsUptoRow.holds Tryd.pinned (OpenSpec.upto scaleErrorsSpec)

/-- 'remontoirlaw04.ScaleMeets', WHERE WHAT IT READS IS OF BULK AT MOST 1048576: true; the input reads as it did. -/
def scaleMeetsUptoRow : OpenClaim := { program := "ytidnopmjhhmedaadoor", sum := "b5f4d5d926ef61a73385a17eb449aed9a3cf5c218e1ed139ef904f29d38fddd6", func := "remontoir/remontoirlaw04.ScaleMeets", spec := "scaleMeets", unfollowed := true, recurses := true, named := ["remontoir/scale.ways"], plainKeys := false, apart := false, laid := [("remontoir/scale.ways", laid_remontoir_scale_ways)], narrowed := true }
def ScaleMeetsUptoSaid : Prop := scaleMeetsUptoRow.holds Tryd.pinned (OpenSpec.upto scaleMeetsSpec)

/-- 'remontoirlaw04.ScaleNever', WHERE WHAT IT READS IS OF BULK AT MOST 1048576: true; the input reads as it did. -/
def scaleNeverUptoRow : OpenClaim := { program := "ytidnopmjhhmedaadoor", sum := "b5f4d5d926ef61a73385a17eb449aed9a3cf5c218e1ed139ef904f29d38fddd6", func := "remontoir/remontoirlaw04.ScaleNever", spec := "scaleNever", unfollowed := true, recurses := true, named := ["remontoir/scale.ways"], plainKeys := false, apart := false, laid := [("remontoir/scale.ways", laid_remontoir_scale_ways)], narrowed := true }
def ScaleNeverUptoSaid : Prop := scaleNeverUptoRow.holds Tryd.pinned (OpenSpec.upto scaleNeverSpec)

/-- 'remontoirlaw04.ScaleMet', WHERE WHAT IT READS IS OF BULK AT MOST 1048576: true; the input reads as it did. -/
def scaleMetUptoRow : OpenClaim := { program := "ytidnopmjhhmedaadoor", sum := "b5f4d5d926ef61a73385a17eb449aed9a3cf5c218e1ed139ef904f29d38fddd6", func := "remontoir/remontoirlaw04.ScaleMet", spec := "scaleMet", unfollowed := true, recurses := true, named := ["remontoir/scale.ways"], plainKeys := false, apart := false, laid := [("remontoir/scale.ways", laid_remontoir_scale_ways)], narrowed := true }
def ScaleMetUptoSaid : Prop := scaleMetUptoRow.holds Tryd.pinned (OpenSpec.upto scaleMetSpec)

/-- 'remontoirlaw04.ScaleBetween', WHERE WHAT IT READS IS OF BULK AT MOST 1048576: true; the input reads as it did. -/
def scaleBetweenUptoRow : OpenClaim := { program := "ytidnopmjhhmedaadoor", sum := "b5f4d5d926ef61a73385a17eb449aed9a3cf5c218e1ed139ef904f29d38fddd6", func := "remontoir/remontoirlaw04.ScaleBetween", spec := "scaleBetween", unfollowed := true, recurses := true, named := ["remontoir/scale.ways"], plainKeys := false, apart := false, laid := [("remontoir/scale.ways", laid_remontoir_scale_ways)], narrowed := true }
def ScaleBetweenUptoSaid : Prop := scaleBetweenUptoRow.holds Tryd.pinned (OpenSpec.upto scaleBetweenSpec)

/-- 'remontoirlaw04.ScaleEasier', WHERE WHAT IT READS IS OF BULK AT MOST 1048576: true; the input reads as it did. -/
def scaleEasierUptoRow : OpenClaim := { program := "ytidnopmjhhmedaadoor", sum := "b5f4d5d926ef61a73385a17eb449aed9a3cf5c218e1ed139ef904f29d38fddd6", func := "remontoir/remontoirlaw04.ScaleEasier", spec := "scaleEasier", unfollowed := true, recurses := true, named := ["remontoir/scale.ways"], plainKeys := false, apart := false, laid := [("remontoir/scale.ways", laid_remontoir_scale_ways)], narrowed := true }
def ScaleEasierUptoSaid : Prop := scaleEasierUptoRow.holds Tryd.pinned (OpenSpec.upto scaleEasierSpec)

/-- 'remontoirlaw04.ScaleTrue', WHERE WHAT IT READS IS OF BULK AT MOST 1048576: true; the input reads as it did. -/
def scaleTrueUptoRow : OpenClaim := { program := "ytidnopmjhhmedaadoor", sum := "b5f4d5d926ef61a73385a17eb449aed9a3cf5c218e1ed139ef904f29d38fddd6", func := "remontoir/remontoirlaw04.ScaleTrue", spec := "scaleTrue", unfollowed := true, recurses := true, named := ["remontoir/scale.ways"], plainKeys := false, apart := false, laid := [("remontoir/scale.ways", laid_remontoir_scale_ways)], narrowed := true }
def ScaleTrueUptoSaid : Prop := scaleTrueUptoRow.holds Tryd.pinned (OpenSpec.upto scaleTrueSpec)

/-- 'remontoirlaw04.ScaleEnds', WHERE WHAT IT READS IS OF BULK AT MOST 1048576: true; the input reads as it did. -/
def scaleEndsUptoRow : OpenClaim := { program := "ytidnopmjhhmedaadoor", sum := "b5f4d5d926ef61a73385a17eb449aed9a3cf5c218e1ed139ef904f29d38fddd6", func := "remontoir/remontoirlaw04.ScaleEnds", spec := "scaleEnds", unfollowed := true, recurses := true, named := ["remontoir/scale.ways"], plainKeys := false, apart := false, laid := [("remontoir/scale.ways", laid_remontoir_scale_ways)], narrowed := true }
def ScaleEndsUptoSaid : Prop := scaleEndsUptoRow.holds Tryd.pinned (OpenSpec.upto scaleEndsSpec)

/-- 'remontoirlaw04.ScaleMore', WHERE WHAT IT READS IS OF BULK AT MOST 1048576: true; the input reads as it did. -/
def scaleMoreUptoRow : OpenClaim := { program := "ytidnopmjhhmedaadoor", sum := "b5f4d5d926ef61a73385a17eb449aed9a3cf5c218e1ed139ef904f29d38fddd6", func := "remontoir/remontoirlaw04.ScaleMore", spec := "scaleMore", unfollowed := true, recurses := true, named := ["remontoir/scale.ways"], plainKeys := false, apart := false, laid := [("remontoir/scale.ways", laid_remontoir_scale_ways)], narrowed := true }
def ScaleMoreUptoSaid : Prop := scaleMoreUptoRow.holds Tryd.pinned (OpenSpec.upto scaleMoreSpec)

/-- 'remontoirlaw04.ScaleWider', WHERE WHAT IT READS IS OF BULK AT MOST 1048576: true; the input reads as it did. -/
def scaleWiderUptoRow : OpenClaim := { program := "ytidnopmjhhmedaadoor", sum := "b5f4d5d926ef61a73385a17eb449aed9a3cf5c218e1ed139ef904f29d38fddd6", func := "remontoir/remontoirlaw04.ScaleWider", spec := "scaleWider", unfollowed := true, recurses := true, named := ["remontoir/scale.ways"], plainKeys := false, apart := false, laid := [("remontoir/scale.ways", laid_remontoir_scale_ways)], narrowed := true }
def ScaleWiderUptoSaid : Prop := scaleWiderUptoRow.holds Tryd.pinned (OpenSpec.upto scaleWiderSpec)

/-- 'remontoirlaw04.ScaleKnown', WHERE WHAT IT READS IS OF BULK AT MOST 1048576: true; the input reads as it did. -/
def scaleKnownUptoRow : OpenClaim := { program := "ytidnopmjhhmedaadoor", sum := "b5f4d5d926ef61a73385a17eb449aed9a3cf5c218e1ed139ef904f29d38fddd6", func := "remontoir/remontoirlaw04.ScaleKnown", spec := "scaleKnown", unfollowed := true, recurses := true, named := ["remontoir/scale.ways"], plainKeys := false, apart := false, laid := [("remontoir/scale.ways", laid_remontoir_scale_ways)], narrowed := true }
def ScaleKnownUptoSaid : Prop := scaleKnownUptoRow.holds Tryd.pinned (OpenSpec.upto scaleKnownSpec)

end Rows
end Go.Proofs.YtidnopmjhhmedaaDoor
