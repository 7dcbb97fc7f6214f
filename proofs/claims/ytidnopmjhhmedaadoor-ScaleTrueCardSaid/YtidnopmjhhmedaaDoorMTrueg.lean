/- PROVED: ScaleTrueCardSaid, for every input, where the listed variable reads as the program's text lays it. Part 7 of 8: of this session; merged by wip/tools/mkClaim.py. -/
import Derived.Test.YtidnopmjhhmedaaDoorMTrueb
import Derived.Test.YtidnopmjhhmedaaDoorMTrued
import Derived.Test.YtidnopmjhhmedaaDoorMTruee
import Derived.Test.YtidnopmjhhmedaaDoorMTruec
import Derived.Test.YtidnopmjhhmedaaDoorMTruef
section
-- Written by wip/tools/pr.py (a program of this repo over the kit's print.py).
namespace Go.Proofs.TrydX.X
open Go.RowKit Go.Proofs.YtidnopmjhhmedaaDoorW.PrintWords Go.Proofs.YtidnopmjhhmedaaDoorW.PrintLast Go.Proofs.YtidnopmjhhmedaaDoorW.PrintMore
attribute [local go_sem] max2_int min2_int max_two min_two max_three min_three max_four min_four   -- for this text's walks alone
set_option linter.unusedVariables false
set_option linter.unusedSimpArgs false

/-! ### remontoirlaw04_ScaleTrue: function 11 -/
mutual
def remontoirlaw04_ScaleTrue.j0 : Nat → List Int → Int → Int → Bool → Int → Int → Int → Int → Int → Int → List Int → List (S71) → Int → Int → Int → Int → Int → Int → List Int → List (S71) → Option (Bool)
 | 0, _, _, _, _, _, _, _, _, _, _, _, _, _, _, _, _, _, _, _, _ => none
 | k + 1, x5, x8, x9, x48, x525000, x525001, x525002, x525003, x525004, x525005, x525006, x525007, x544000, x544001, x544002, x544003, x544004, x544005, x544006, x544007 => if x48 = true then (some false) else (remontoirlaw04_ScaleTrue.l0 k x5 x8 x9 0 x525000 x525001 x525002 x525003 x525004 x525005 x525006 x525007 x544000 x544001 x544002 x544003 x544004 x544005 x544006 x544007)
def remontoirlaw04_ScaleTrue.l0 : Nat → List Int → Int → Int → Int → Int → Int → Int → Int → Int → Int → List Int → List (S71) → Int → Int → Int → Int → Int → Int → List Int → List (S71) → Option (Bool)
 | 0, _, _, _, _, _, _, _, _, _, _, _, _, _, _, _, _, _, _, _, _ => none
 | k + 1, x5, x8, x9, x11, x525000, x525001, x525002, x525003, x525004, x525005, x525006, x525007, x544000, x544001, x544002, x544003, x544004, x544005, x544006, x544007 => if x11 ≤ x525005 then ((scale_Error.f x544000 x544001 x544002 x544003 x544004 x544005 x544006 x544007 x11).bind fun bt549 => ((scale_Stated.f x544000 x544001 x544002 x544003 x544004 x544005 x544006 x544007 x11).bind fun bt553 => (if bt549.2.2 = 0 then (if bt553.2 = 0 then (if 0 ≤ x11 then (if x11 < (x5.length : Int) then ((remontoirref00_Has.f bt549.1 bt549.2.1 (rd x5 x11)).bind fun t556 => (if t556 = true then ((remontoirref00_Size.f (rd x5 x11)).bind fun t558 => (if t558 > bt553.1 then (remontoirlaw04_ScaleTrue.j2 k x5 x8 x9 x11 true x525000 x525001 x525002 x525003 x525004 x525005 x525006 x525007 x544000 x544001 x544002 x544003 x544004 x544005 x544006 x544007) else ((remontoirref00_Size.f bt549.1).bind fun t559 => ((remontoirref00_Size.f bt549.2.1).bind fun t560 => (if bt553.1 = (mx t559 t560) then (if bt553.1 > x9 then (remontoirlaw04_ScaleTrue.j2 k x5 x8 x9 x11 true x525000 x525001 x525002 x525003 x525004 x525005 x525006 x525007 x544000 x544001 x544002 x544003 x544004 x544005 x544006 x544007) else (if x11 < x8 then (if bt553.1 = x9 then (remontoirlaw04_ScaleTrue.j2 k x5 x8 x9 x11 true x525000 x525001 x525002 x525003 x525004 x525005 x525006 x525007 x544000 x544001 x544002 x544003 x544004 x544005 x544006 x544007) else (if x11 = x8 then (remontoirlaw04_ScaleTrue.j2 k x5 x8 x9 x11 (bt553.1 != x9) x525000 x525001 x525002 x525003 x525004 x525005 x525006 x525007 x544000 x544001 x544002 x544003 x544004 x544005 x544006 x544007) else (remontoirlaw04_ScaleTrue.j2 k x5 x8 x9 x11 false x525000 x525001 x525002 x525003 x525004 x525005 x525006 x525007 x544000 x544001 x544002 x544003 x544004 x544005 x544006 x544007))) else (if x11 = x8 then (remontoirlaw04_ScaleTrue.j2 k x5 x8 x9 x11 (bt553.1 != x9) x525000 x525001 x525002 x525003 x525004 x525005 x525006 x525007 x544000 x544001 x544002 x544003 x544004 x544005 x544006 x544007) else (remontoirlaw04_ScaleTrue.j2 k x5 x8 x9 x11 false x525000 x525001 x525002 x525003 x525004 x525005 x525006 x525007 x544000 x544001 x544002 x544003 x544004 x544005 x544006 x544007)))) else (remontoirlaw04_ScaleTrue.j2 k x5 x8 x9 x11 true x525000 x525001 x525002 x525003 x525004 x525005 x525006 x525007 x544000 x544001 x544002 x544003 x544004 x544005 x544006 x544007)))))) else (remontoirlaw04_ScaleTrue.j2 k x5 x8 x9 x11 true x525000 x525001 x525002 x525003 x525004 x525005 x525006 x525007 x544000 x544001 x544002 x544003 x544004 x544005 x544006 x544007))) else (none)) else (none)) else (remontoirlaw04_ScaleTrue.j2 k x5 x8 x9 x11 true x525000 x525001 x525002 x525003 x525004 x525005 x525006 x525007 x544000 x544001 x544002 x544003 x544004 x544005 x544006 x544007)) else (remontoirlaw04_ScaleTrue.j2 k x5 x8 x9 x11 true x525000 x525001 x525002 x525003 x525004 x525005 x525006 x525007 x544000 x544001 x544002 x544003 x544004 x544005 x544006 x544007)))) else ((scale_Meets.f x544000 x544001 x544002 x544003 x544004 x544005 x544006 x544007).bind fun bt561 => (if 0 ≤ x525005 then (if x525005 < (x5.length : Int) then ((scale_Fewest.f x525000 x525001 x525002 x525003 x525004 (rd x5 x525005)).bind fun bt565 => (remontoirlaw04_ScaleTrue.j3 k bt561.2.2 bt561.1 bt561.2.1 bt565.1 bt565.2)) else (none)) else (none)))
def remontoirlaw04_ScaleTrue.j2 : Nat → List Int → Int → Int → Int → Bool → Int → Int → Int → Int → Int → Int → List Int → List (S71) → Int → Int → Int → Int → Int → Int → List Int → List (S71) → Option (Bool)
 | 0, _, _, _, _, _, _, _, _, _, _, _, _, _, _, _, _, _, _, _, _, _ => none
 | k + 1, x5, x8, x9, x11, x126, x525000, x525001, x525002, x525003, x525004, x525005, x525006, x525007, x544000, x544001, x544002, x544003, x544004, x544005, x544006, x544007 => if x126 = true then (some false) else (remontoirlaw04_ScaleTrue.l0 k x5 x8 x9 (wrap64 (x11 + 1)) x525000 x525001 x525002 x525003 x525004 x525005 x525006 x525007 x544000 x544001 x544002 x544003 x544004 x544005 x544006 x544007)
def remontoirlaw04_ScaleTrue.j3 : Nat → Int → Int → Int → Int → Int → Option (Bool)
 | 0, _, _, _, _, _ => none
 | k + 1, x10, x16, x17, x18, x19 => if x10 = 0 then (if x19 = 0 then ((remontoirref00_Lies.f x18 x17 x16).bind fun t567 => (if t567 = true then ((remontoirlaw04_works.f).bind fun t568 => (some t568)) else (some false))) else (some false)) else (if x10 = 4 then (if x16 = 0 then (if x17 = 0 then ((remontoirlaw04_works.f).bind fun t569 => (some t569)) else (some false)) else (some false)) else (some false))
end
def remontoirlaw04_ScaleTrue.f (k : Nat) (a0_0 : Int) (a0_1 : Int) (a0_2 : Int) (a0_3 : Int) (a0_4 : Int) (a0_5 : Int) (l0_6 : List Int) (l0_7 : List (S71)) (l1 : List Int) : Option (Bool) := (remontoirlaw04_sound.f k a0_0 a0_1 a0_2 a0_3 a0_4 a0_5 l0_6 l0_7).bind fun t525 => (if t525 = true then ((remontoirlaw04_went.f k a0_0 a0_1 a0_2 a0_3 a0_4 a0_5 l0_6 l0_7 l1).bind fun bt527 => (if bt527.2.2.2.2.2.2.2.2.2 = true then ((scale_Worst.f bt527.2.1 bt527.2.2.1 bt527.2.2.2.1 bt527.2.2.2.2.1 bt527.2.2.2.2.2.1 bt527.2.2.2.2.2.2.1 bt527.2.2.2.2.2.2.2.1 bt527.2.2.2.2.2.2.2.2.1).bind fun bt545 => (if bt545.2.2 = 0 then ((remontoirref00_Lies.f bt545.1 0 a0_5).bind fun t548 => (remontoirlaw04_ScaleTrue.j0 k bt527.1 bt545.1 bt545.2.1 (!t548) a0_0 a0_1 a0_2 a0_3 a0_4 a0_5 l0_6 l0_7 bt527.2.1 bt527.2.2.1 bt527.2.2.2.1 bt527.2.2.2.2.1 bt527.2.2.2.2.2.1 bt527.2.2.2.2.2.2.1 bt527.2.2.2.2.2.2.2.1 bt527.2.2.2.2.2.2.2.2.1)) else (remontoirlaw04_ScaleTrue.j0 k bt527.1 bt545.1 bt545.2.1 true a0_0 a0_1 a0_2 a0_3 a0_4 a0_5 l0_6 l0_7 bt527.2.1 bt527.2.2.1 bt527.2.2.2.1 bt527.2.2.2.2.1 bt527.2.2.2.2.2.1 bt527.2.2.2.2.2.2.1 bt527.2.2.2.2.2.2.2.1 bt527.2.2.2.2.2.2.2.2.1))) else ((remontoirlaw04_works.f).bind fun t544 => (some t544)))) else ((remontoirlaw04_works.f).bind fun t526 => (some t526)))
def remontoirlaw04_ScaleTrue.T14 : Bool × List (List Nat × List Nat) := (true, [([], []), ([0], [0]), ([1], [1]), ([2], [2]), ([3, 2], [2, 3]), ([2, 4], [2, 4]), ([5, 2], [5]), ([6], [6]), ([6], [6]), ([6], [6]), ([8, 9, 6], [6, 8, 9]), ([10, 6], [6, 10]), ([7, 11, 6, 6], [6, 7, 11]), ([12, 6], [6, 12]), ([6, 13], [6, 13]), ([14, 12], [14]), ([15], [15]), ([15], [15]), ([16, 17, 15], [15, 16, 17]), ([18, 15], [15, 18]), ([19, 15, 15], [15, 19]), ([15], [15]), ([20, 21, 15], [15, 20, 21]), ([15, 22], [15, 22]), ([23, 20], [23]), ([24], [24]), ([24], [24]), ([26, 24], [24, 26]), ([27, 24, 24], [24, 27]), ([24], [24]), ([29, 24], [24, 29]), ([30, 28, 24], [24, 30]), ([28, 31, 24], [24, 28, 31]), ([25, 32, 24], [24, 25, 32]), ([24, 33], [24, 33]), ([34, 31], [34]), ([35], [35]), ([35], [35]), ([36, 37, 35], [35, 36, 37]), ([35, 38], [35, 38]), ([39, 35], [39]), ([40], [40]), ([40], [40]), ([41, 42, 40], [40, 41, 42]), ([43, 40, 40], [40, 43]), ([44], [44]), ([44], [44]), ([45, 46, 44], [44, 45, 46]), ([44, 47, 40], [40, 44, 47]), ([40, 48], [40, 48]), ([49, 44], [49]), ([50], [50]), ([50], [50]), ([51, 52, 50], [50, 51, 52]), ([53, 50, 50], [50, 53]), ([54], [54]), ([54], [54]), ([55, 56, 54], [54, 55, 56]), ([54, 57, 50], [50, 54, 57]), ([50, 58], [50, 58])])
def remontoirlaw04_ScaleTrue.B14 : List Nat := [0, 1, 3, 7, 15, 31, 63, 127, 127, 127, 895, 1919, 4095, 8191, 16383, 32767, 65535, 65535, 262143, 524287, 1048575, 65535, 4194303, 8388607, 16777215, 33554431, 33554431, 100663295, 234881023, 33554431, 570425343, 2113929215, 4261412863, 8589934591, 17179869183, 34359738367, 68719476735, 68719476735, 274877906943, 549755813887, 1099511627775, 2199023255551, 2199023255551, 8796093022207, 17592186044415, 35184372088831, 35184372088831, 140737488355327, 281474976710655, 562949953421311, 1125899906842623, 2251799813685247, 2251799813685247, 9007199254740991, 18014398509481983, 36028797018963967, 36028797018963967, 144115188075855871, 288230376151711743, 576460752303423487]
theorem remontoirlaw04_ScaleTrue.tab14 : rtab .any (opsOf Tryd.f11 14) = remontoirlaw04_ScaleTrue.T14 := by kernel_rfl
theorem remontoirlaw04_ScaleTrue.bits14 : waitsOk remontoirlaw04_ScaleTrue.T14.2 remontoirlaw04_ScaleTrue.B14 = true := by kernel_rfl
def remontoirlaw04_ScaleTrue.T17 : Bool × List (List Nat × List Nat) := (true, [([], []), ([0], [0]), ([], []), ([], []), ([3], [3]), ([2, 4], [2, 4]), ([5], [5]), ([1, 6], [1, 6]), ([7], [7]), ([8], [8]), ([8], [8]), ([9, 7, 0, 1, 2, 3, 4, 5, 6, 7, 8, 9], [9]), ([10, 11, 0, 1, 2, 3, 4, 5, 6, 7, 8, 9, 10, 11], [10])])
def remontoirlaw04_ScaleTrue.B17 : List Nat := [0, 1, 0, 0, 8, 28, 60, 127, 255, 511, 511, 1023, 4095]
theorem remontoirlaw04_ScaleTrue.tab17 : rtab .any (opsOf Tryd.f11 17) = remontoirlaw04_ScaleTrue.T17 := by kernel_rfl
theorem remontoirlaw04_ScaleTrue.bits17 : waitsOk remontoirlaw04_ScaleTrue.T17.2 remontoirlaw04_ScaleTrue.B17 = true := by kernel_rfl
set_option maxHeartbeats 8000000 in
set_option maxRecDepth 100000 in
theorem remontoirlaw04_ScaleTrue.calls (k : Nat) (a0_0 : Int) (a0_1 : Int) (a0_2 : Int) (a0_3 : Int) (a0_4 : Int) (a0_5 : Int) (A0_6 : Option Addr) (c0_6 : Nat) (l0_6 : List Int) (A0_7 : Option Addr) (c0_7 : Nat) (l0_7 : List (S71)) (A1 : Option Addr) (c1 : Nat) (l1 : List Int) (r : Bool) (w : World) (hr0_6 : Kd.C (Kd.int .i64) w A0_6 l0_6.length l0_6) (hc0_6 : l0_6.length ≤ c0_6) (hr0_7 : Kd.C k71 w A0_7 l0_7.length l0_7) (hc0_7 : l0_7.length ≤ c0_7) (hr1 : Kd.C (Kd.int .i64) w A1 l1.length l1) (hc1 : l1.length ≤ c1) (hWays : Go.Proofs.YtidnopmjhhmedaaDoor.Ways w) (h : remontoirlaw04_ScaleTrue.f k a0_0 a0_1 a0_2 a0_3 a0_4 a0_5 l0_6 l0_7 l1 = some r) :
  Calls Tryd.prog 11 #[.agg #[.int .i64 a0_0, .int .i64 a0_1, .int .i64 a0_2, .int .i64 a0_3, .int .i64 a0_4, .int .i64 a0_5, .slice A0_6 l0_6.length c0_6, .slice A0_7 l0_7.length c0_7], .slice A1 l1.length c1] w fun e w' => e = .returned (.bool r) ∧ Below w.heap.size w w' := by
 have hu44 := Tryd.underlying44
 have hu23 := Tryd.underlying23
 have hu25 := Tryd.underlying25
 have HR0_6 := Aside0.mk hr0_6
 have HC0_6 := Aside0.mk hc0_6
 clear hr0_6 hc0_6
 have HR0_7 := Aside0.mk hr0_7
 have HC0_7 := Aside0.mk hc0_7
 clear hr0_7 hc0_7
 have HR1 := Aside0.mk hr1
 have HC1 := Aside0.mk hc1
 clear hr1 hc1
 have HB := Aside0.mk (Below.refl w.heap.size w)
 have HWays := Aside0.mk hWays
 clear hWays
 have H : ((remontoirlaw04_sound.f k a0_0 a0_1 a0_2 a0_3 a0_4 a0_5 l0_6 l0_7).bind fun t525 => (if t525 = true then ((remontoirlaw04_went.f k a0_0 a0_1 a0_2 a0_3 a0_4 a0_5 l0_6 l0_7 l1).bind fun bt527 => (if bt527.2.2.2.2.2.2.2.2.2 = true then ((scale_Worst.f bt527.2.1 bt527.2.2.1 bt527.2.2.2.1 bt527.2.2.2.2.1 bt527.2.2.2.2.2.1 bt527.2.2.2.2.2.2.1 bt527.2.2.2.2.2.2.2.1 bt527.2.2.2.2.2.2.2.2.1).bind fun bt545 => (if bt545.2.2 = 0 then ((remontoirref00_Lies.f bt545.1 0 a0_5).bind fun t548 => (remontoirlaw04_ScaleTrue.j0 k bt527.1 bt545.1 bt545.2.1 (!t548) a0_0 a0_1 a0_2 a0_3 a0_4 a0_5 l0_6 l0_7 bt527.2.1 bt527.2.2.1 bt527.2.2.2.1 bt527.2.2.2.2.1 bt527.2.2.2.2.2.1 bt527.2.2.2.2.2.2.1 bt527.2.2.2.2.2.2.2.1 bt527.2.2.2.2.2.2.2.2.1)) else (remontoirlaw04_ScaleTrue.j0 k bt527.1 bt545.1 bt545.2.1 true a0_0 a0_1 a0_2 a0_3 a0_4 a0_5 l0_6 l0_7 bt527.2.1 bt527.2.2.1 bt527.2.2.2.1 bt527.2.2.2.2.1 bt527.2.2.2.2.2.1 bt527.2.2.2.2.2.2.1 bt527.2.2.2.2.2.2.2.1 bt527.2.2.2.2.2.2.2.2.1))) else ((remontoirlaw04_works.f).bind fun t544 => (some t544)))) else ((remontoirlaw04_works.f).bind fun t526 => (some t526)))) = some r := h
 clear h
 replace H := Option.bind_eq_some_iff.mp H
 obtain ⟨t525, A30, H⟩ := H
 replace H : (if t525 = true then ((remontoirlaw04_went.f k a0_0 a0_1 a0_2 a0_3 a0_4 a0_5 l0_6 l0_7 l1).bind fun bt527 => (if bt527.2.2.2.2.2.2.2.2.2 = true then ((scale_Worst.f bt527.2.1 bt527.2.2.1 bt527.2.2.2.1 bt527.2.2.2.2.1 bt527.2.2.2.2.2.1 bt527.2.2.2.2.2.2.1 bt527.2.2.2.2.2.2.2.1 bt527.2.2.2.2.2.2.2.2.1).bind fun bt545 => (if bt545.2.2 = 0 then ((remontoirref00_Lies.f bt545.1 0 a0_5).bind fun t548 => (remontoirlaw04_ScaleTrue.j0 k bt527.1 bt545.1 bt545.2.1 (!t548) a0_0 a0_1 a0_2 a0_3 a0_4 a0_5 l0_6 l0_7 bt527.2.1 bt527.2.2.1 bt527.2.2.2.1 bt527.2.2.2.2.1 bt527.2.2.2.2.2.1 bt527.2.2.2.2.2.2.1 bt527.2.2.2.2.2.2.2.1 bt527.2.2.2.2.2.2.2.2.1)) else (remontoirlaw04_ScaleTrue.j0 k bt527.1 bt545.1 bt545.2.1 true a0_0 a0_1 a0_2 a0_3 a0_4 a0_5 l0_6 l0_7 bt527.2.1 bt527.2.2.1 bt527.2.2.2.1 bt527.2.2.2.2.1 bt527.2.2.2.2.2.1 bt527.2.2.2.2.2.2.1 bt527.2.2.2.2.2.2.2.1 bt527.2.2.2.2.2.2.2.2.1))) else ((remontoirlaw04_works.f).bind fun t544 => (some t544)))) else ((remontoirlaw04_works.f).bind fun t526 => (some t526))) = some r := H
 have A3 := Aside0.mk A30
 clear A30
 by_cases c4 : t525 = true
 ·
  subst c4
  have H1 : ((remontoirlaw04_went.f k a0_0 a0_1 a0_2 a0_3 a0_4 a0_5 l0_6 l0_7 l1).bind fun bt527 => (if bt527.2.2.2.2.2.2.2.2.2 = true then ((scale_Worst.f bt527.2.1 bt527.2.2.1 bt527.2.2.2.1 bt527.2.2.2.2.1 bt527.2.2.2.2.2.1 bt527.2.2.2.2.2.2.1 bt527.2.2.2.2.2.2.2.1 bt527.2.2.2.2.2.2.2.2.1).bind fun bt545 => (if bt545.2.2 = 0 then ((remontoirref00_Lies.f bt545.1 0 a0_5).bind fun t548 => (remontoirlaw04_ScaleTrue.j0 k bt527.1 bt545.1 bt545.2.1 (!t548) a0_0 a0_1 a0_2 a0_3 a0_4 a0_5 l0_6 l0_7 bt527.2.1 bt527.2.2.1 bt527.2.2.2.1 bt527.2.2.2.2.1 bt527.2.2.2.2.2.1 bt527.2.2.2.2.2.2.1 bt527.2.2.2.2.2.2.2.1 bt527.2.2.2.2.2.2.2.2.1)) else (remontoirlaw04_ScaleTrue.j0 k bt527.1 bt545.1 bt545.2.1 true a0_0 a0_1 a0_2 a0_3 a0_4 a0_5 l0_6 l0_7 bt527.2.1 bt527.2.2.1 bt527.2.2.2.1 bt527.2.2.2.2.1 bt527.2.2.2.2.2.1 bt527.2.2.2.2.2.2.1 bt527.2.2.2.2.2.2.2.1 bt527.2.2.2.2.2.2.2.2.1))) else ((remontoirlaw04_works.f).bind fun t544 => (some t544)))) = some r := by rw [if_pos rfl] at H; exact H
  clear H
  have H := H1
  clear H1
  replace H := Option.bind_eq_some_iff.mp H
  obtain ⟨⟨t527, t530, t531, t532, t533, t534, t535, t536, t539, t542⟩, A50, H⟩ := H
  replace H : (if t542 = true then ((scale_Worst.f t530 t531 t532 t533 t534 t535 t536 t539).bind fun bt545 => (if bt545.2.2 = 0 then ((remontoirref00_Lies.f bt545.1 0 a0_5).bind fun t548 => (remontoirlaw04_ScaleTrue.j0 k t527 bt545.1 bt545.2.1 (!t548) a0_0 a0_1 a0_2 a0_3 a0_4 a0_5 l0_6 l0_7 t530 t531 t532 t533 t534 t535 t536 t539)) else (remontoirlaw04_ScaleTrue.j0 k t527 bt545.1 bt545.2.1 true a0_0 a0_1 a0_2 a0_3 a0_4 a0_5 l0_6 l0_7 t530 t531 t532 t533 t534 t535 t536 t539))) else ((remontoirlaw04_works.f).bind fun t544 => (some t544))) = some r := H
  have A5 := Aside0.mk A50
  clear A50
  by_cases c6 : t542 = true
  ·
   subst c6
   have H1 : ((scale_Worst.f t530 t531 t532 t533 t534 t535 t536 t539).bind fun bt545 => (if bt545.2.2 = 0 then ((remontoirref00_Lies.f bt545.1 0 a0_5).bind fun t548 => (remontoirlaw04_ScaleTrue.j0 k t527 bt545.1 bt545.2.1 (!t548) a0_0 a0_1 a0_2 a0_3 a0_4 a0_5 l0_6 l0_7 t530 t531 t532 t533 t534 t535 t536 t539)) else (remontoirlaw04_ScaleTrue.j0 k t527 bt545.1 bt545.2.1 true a0_0 a0_1 a0_2 a0_3 a0_4 a0_5 l0_6 l0_7 t530 t531 t532 t533 t534 t535 t536 t539))) = some r := by rw [if_pos rfl] at H; exact H
   clear H
   have H := H1
   clear H1
   replace H := Option.bind_eq_some_iff.mp H
   obtain ⟨⟨t545, t546, t547⟩, A70, H⟩ := H
   replace H : (if t547 = 0 then ((remontoirref00_Lies.f t545 0 a0_5).bind fun t548 => (remontoirlaw04_ScaleTrue.j0 k t527 t545 t546 (!t548) a0_0 a0_1 a0_2 a0_3 a0_4 a0_5 l0_6 l0_7 t530 t531 t532 t533 t534 t535 t536 t539)) else (remontoirlaw04_ScaleTrue.j0 k t527 t545 t546 true a0_0 a0_1 a0_2 a0_3 a0_4 a0_5 l0_6 l0_7 t530 t531 t532 t533 t534 t535 t536 t539)) = some r := H
   have A7 := Aside0.mk A70
   clear A70
   have HC8 := Aside0.mk H
   clear H
   go_enter Tryd.func11, Tryd.ntmps11
   go_upto_region 7 with (first | ((with_reducible refine gate_dst (N := 2) rfl ?_); (try (refine gate_guard (by rfl) ?_; dsimp only)); refine box_event ?hg (N := 2) ?hd (cs := #[.int .i64 a0_0, .int .i64 a0_1, .int .i64 a0_2, .int .i64 a0_3, .int .i64 a0_4, .int .i64 a0_5, .slice A0_6 l0_6.length c0_6, .slice A0_7 l0_7.length c0_7]) (t := 44) ?hr ?_; (case hd => rfl); (case hg => rfl); (case hr => first | (go_simp; done) | (go_simp; rfl)); intro gb524 hg w9 hbox hb; have BK524 := Aside0.mk (hbox); have GW524 := geB hg (bl HB); have GE524 := geB hg (bl HB); replace HB := Aside0.mk (below_step (bl HB) hb); clear hb hbox hg; have hcz10_0 : w9.cell? ⟨gb524, 0, none⟩ = some (.int .i64 a0_0) := bc BK524 0; have hcz10_1 : w9.cell? ⟨gb524, 1, none⟩ = some (.int .i64 a0_1) := bc BK524 1; have hcz10_2 : w9.cell? ⟨gb524, 2, none⟩ = some (.int .i64 a0_2) := bc BK524 2; have hcz10_3 : w9.cell? ⟨gb524, 3, none⟩ = some (.int .i64 a0_3) := bc BK524 3; have hcz10_4 : w9.cell? ⟨gb524, 4, none⟩ = some (.int .i64 a0_4) := bc BK524 4; have hcz10_5 : w9.cell? ⟨gb524, 5, none⟩ = some (.int .i64 a0_5) := bc BK524 5; have hcz10_6 : w9.cell? ⟨gb524, 6, none⟩ = some (.slice A0_6 l0_6.length c0_6) := bc BK524 6; have hcz10_7 : w9.cell? ⟨gb524, 7, none⟩ = some (.slice A0_7 l0_7.length c0_7) := bc BK524 7; have hfz10_0 := blk_frozen BK524.out 0; have hfz10_1 := blk_frozen BK524.out 1; have hfz10_2 := blk_frozen BK524.out 2; have hfz10_3 := blk_frozen BK524.out 3; have hfz10_4 := blk_frozen BK524.out 4; have hfz10_5 := blk_frozen BK524.out 5; have hfz10_6 := blk_frozen BK524.out 6; have hfz10_7 := blk_frozen BK524.out 7) | ((with_reducible refine gate_callee (f := 50) rfl ?_); refine goesL_ (some 21) rfl rfl Tryd.func50 (by kernel_rfl) rfl #[.agg #[.int .i64 a0_0, .int .i64 a0_1, .int .i64 a0_2, .int .i64 a0_3, .int .i64 a0_4, .int .i64 a0_5, .slice A0_6 l0_6.length c0_6, .slice A0_7 l0_7.length c0_7]] rfl (by (try simp only [List.map_toArray, List.map_cons, List.map_nil]); first | done | rfl | (simp only [List.length_drop, List.length_take]; rfl)) ?_; (with_reducible refine (remontoirlaw04_sound.calls k a0_0 a0_1 a0_2 a0_3 a0_4 a0_5 _ _ l0_6 _ _ l0_7 true _ ?side1 ?side2 ?side3 ?side4 ?side5 A3.out).mono ?_); (case side1 => repeat (first | exact (Kd.C_below HR0_6.out HB.out) | (with_reducible refine Kd.C_alloc ?_ _) | (with_reducible refine Kd.C_drewN ?_ _) | (with_reducible refine Kd.C_drew ?_))); (case side2 => exact HC0_6.out); (case side3 => repeat (first | exact (Kd.C_below HR0_7.out HB.out) | (with_reducible refine Kd.C_alloc ?_ _) | (with_reducible refine Kd.C_drewN ?_ _) | (with_reducible refine Kd.C_drew ?_))); (case side4 => exact HC0_7.out); (case side5 => exact Go.Proofs.YtidnopmjhhmedaaDoor.Ways.below HWays.out (bl HB)); rintro e w11 ⟨rfl, hb⟩; refine ⟨_, rfl, ?_⟩; replace BK524 := Aside0.mk (blk_below (bk BK524) hb); replace HB := Aside0.mk (below_step (bl HB) hb); (try clear hb); (try clear hb2); (try clear hk); (try clear hi); have hcz12_0 : w11.cell? ⟨gb524, 0, none⟩ = some (.int .i64 a0_0) := bc BK524 0; have hcz12_1 : w11.cell? ⟨gb524, 1, none⟩ = some (.int .i64 a0_1) := bc BK524 1; have hcz12_2 : w11.cell? ⟨gb524, 2, none⟩ = some (.int .i64 a0_2) := bc BK524 2; have hcz12_3 : w11.cell? ⟨gb524, 3, none⟩ = some (.int .i64 a0_3) := bc BK524 3; have hcz12_4 : w11.cell? ⟨gb524, 4, none⟩ = some (.int .i64 a0_4) := bc BK524 4; have hcz12_5 : w11.cell? ⟨gb524, 5, none⟩ = some (.int .i64 a0_5) := bc BK524 5; have hcz12_6 : w11.cell? ⟨gb524, 6, none⟩ = some (.slice A0_6 l0_6.length c0_6) := bc BK524 6; have hcz12_7 : w11.cell? ⟨gb524, 7, none⟩ = some (.slice A0_7 l0_7.length c0_7) := bc BK524 7; have hfz12_0 := blk_frozen BK524.out 0; have hfz12_1 := blk_frozen BK524.out 1; have hfz12_2 := blk_frozen BK524.out 2; have hfz12_3 := blk_frozen BK524.out 3; have hfz12_4 := blk_frozen BK524.out 4; have hfz12_5 := blk_frozen BK524.out 5; have hfz12_6 := blk_frozen BK524.out 6; have hfz12_7 := blk_frozen BK524.out 7) | ((with_reducible refine gate_callee (f := 51) rfl ?_); refine goesL_ (some 27) rfl rfl Tryd.func51 (by kernel_rfl) rfl #[.agg #[.int .i64 a0_0, .int .i64 a0_1, .int .i64 a0_2, .int .i64 a0_3, .int .i64 a0_4, .int .i64 a0_5, .slice A0_6 l0_6.length c0_6, .slice A0_7 l0_7.length c0_7], .slice A1 l1.length c1] rfl (by (try simp only [List.map_toArray, List.map_cons, List.map_nil]); first | done | rfl | (simp only [List.length_drop, List.length_take]; rfl)) ?_; (with_reducible refine (remontoirlaw04_went.calls k a0_0 a0_1 a0_2 a0_3 a0_4 a0_5 (fun k_ => k_ < w.heap.size) _ _ l0_6 (fun k_ => k_ < w.heap.size) _ _ l0_7 _ _ l1 t527 t530 t531 t532 t533 t534 t535 t536 t539 true _ ?side1 ?side2 ?side3 ?side4 A5.out).mono ?_); (case side1 => exact Kd.V_mk HC0_6.out (Kd.F_below (Kd.C_F (Kd.heap_int .i64) HR0_6.out) (bl HB))); (case side2 => exact Kd.V_mk HC0_7.out (Kd.F_below (Kd.C_F k71_heap HR0_7.out) (bl HB))); (case side3 => repeat (first | exact (Kd.C_below HR1.out HB.out) | (with_reducible refine Kd.C_alloc ?_ _) | (with_reducible refine Kd.C_drewN ?_ _) | (with_reducible refine Kd.C_drew ?_))); (case side4 => exact HC1.out); rintro e w13 ⟨v528, v537, v540, rfl, ho0, ho1, ho2, hb⟩; refine ⟨_, rfl, ?_⟩; have HO529 := Aside0.mk (Kd.R_lower (Kd.R_mono (ok' := fun k_ => True) ho0 (fun _ hk_ => trivial)) (below_size (bl HB))); have HO538 := Aside0.mk (Kd.V_lower (Kd.V_mono (ok' := fun k_ => some k_ ≠ (v528 : Value).ownBlock ∧ k_ ≠ gb524) ho1 (fun k_ hk_ => ⟨hk_.2, Or.elim hk_.1 (fun hs_ => Or.elim hs_ (fun hs_ => fun e_ => Nat.not_le.2 hs_ (by rw [e_]; exact GW524.out)) (fun hs_ => fun e_ => Nat.not_le.2 hs_ (by rw [e_]; exact GW524.out))) (fun hn_ => (Kd.freshB (g := gb524) (o := .cells #[.int .i64 a0_0, .int .i64 a0_1, .int .i64 a0_2, .int .i64 a0_3, .int .i64 a0_4, .int .i64 a0_5, .slice A0_6 l0_6.length c0_6, .slice A0_7 l0_7.length c0_7] 44 (0, 0)) (bk BK524) k_ hn_))⟩)) (below_size (bl HB))); have HO541 := Aside0.mk (Kd.V_lower (Kd.V_mono (ok' := fun k_ => some k_ ≠ (v528 : Value).ownBlock ∧ k_ ≠ gb524) ho2 (fun k_ hk_ => ⟨hk_.2, Or.elim hk_.1 (fun hs_ => Or.elim hs_ (fun hs_ => fun e_ => Nat.not_le.2 hs_ (by rw [e_]; exact GW524.out)) (fun hs_ => fun e_ => Nat.not_le.2 hs_ (by rw [e_]; exact GW524.out))) (fun hn_ => (Kd.freshB (g := gb524) (o := .cells #[.int .i64 a0_0, .int .i64 a0_1, .int .i64 a0_2, .int .i64 a0_3, .int .i64 a0_4, .int .i64 a0_5, .slice A0_6 l0_6.length c0_6, .slice A0_7 l0_7.length c0_7] 44 (0, 0)) (bk BK524) k_ hn_))⟩)) (below_size (bl HB))); replace BK524 := Aside0.mk (blk_below (bk BK524) hb); replace HB := Aside0.mk (below_step (bl HB) hb); (try clear hb); (try clear hb2); (try clear hk); (try clear hi); (try clear ho0); (try clear ho1); (try clear ho2)) | ((with_reducible refine gate_dst (N := 6) rfl ?_); (try (refine gate_guard (by rfl) ?_; dsimp only)); refine box_event ?hg (N := 6) ?hd (cs := #[.int .i64 0, .int .i64 0, .int .i64 0, .int .i64 0, .int .i64 0, .int .i64 0, .slice none 0 0, .slice none 0 0]) (t := 44) ?hr ?_; (case hd => rfl); (case hg => rfl); (case hr => first | (go_simp; done) | (go_simp; rfl)); intro gb543 hg w14 hbox hb; replace HO529 := Aside0.mk (Kd.R_below (rk HO529) hb); replace HO538 := Aside0.mk (Kd.V_below (Kd.V_elderB (by (with_reducible repeat (first | apply Kd.V_alloc | apply Kd.V_drewN | apply Kd.V_drew)); exact HO538.out) gb543 (Nat.le_of_eq hg.symm)) hb); replace HO541 := Aside0.mk (Kd.V_below (Kd.V_elderB (by (with_reducible repeat (first | apply Kd.V_alloc | apply Kd.V_drewN | apply Kd.V_drew)); exact HO541.out) gb543 (Nat.le_of_eq hg.symm)) hb); have BK543 := Aside0.mk (hbox); have GW543 := geB hg (bl HB); have GE543 := geB hg (bl HB); replace HB := Aside0.mk (below_step (bl HB) hb); have NB524_543 := nlt hg (bk BK524); have NB543_524 := ngt hg (bk BK524); replace BK524 := Aside0.mk (blk_below (bk BK524) hb); clear hb hbox hg; have hnb15 := NB543_524.out; have hnc15 := NB524_543.out; have hcz16_0 : w14.cell? ⟨gb543, 0, none⟩ = some (.int .i64 0) := bc BK543 0; have hcz16_1 : w14.cell? ⟨gb543, 1, none⟩ = some (.int .i64 0) := bc BK543 1; have hcz16_2 : w14.cell? ⟨gb543, 2, none⟩ = some (.int .i64 0) := bc BK543 2; have hcz16_3 : w14.cell? ⟨gb543, 3, none⟩ = some (.int .i64 0) := bc BK543 3; have hcz16_4 : w14.cell? ⟨gb543, 4, none⟩ = some (.int .i64 0) := bc BK543 4; have hcz16_5 : w14.cell? ⟨gb543, 5, none⟩ = some (.int .i64 0) := bc BK543 5; have hcz16_6 : w14.cell? ⟨gb543, 6, none⟩ = some (.slice none 0 0) := bc BK543 6; have hcz16_7 : w14.cell? ⟨gb543, 7, none⟩ = some (.slice none 0 0) := bc BK543 7; have hfz16_0 := blk_frozen BK543.out 0; have hfz16_1 := blk_frozen BK543.out 1; have hfz16_2 := blk_frozen BK543.out 2; have hfz16_3 := blk_frozen BK543.out 3; have hfz16_4 := blk_frozen BK543.out 4; have hfz16_5 := blk_frozen BK543.out 5; have hfz16_6 := blk_frozen BK543.out 6; have hfz16_7 := blk_frozen BK543.out 7; obtain ⟨Ao17, co17, eo17⟩ := Kd.V_slice HO538.out; subst eo17; obtain ⟨Ao18, co18, eo18⟩ := Kd.V_slice HO541.out; subst eo18) | ((with_reducible refine gate_callee (f := 33) rfl ?_); refine goesL_ (some 36) rfl rfl Tryd.func33 (by kernel_rfl) rfl #[.agg #[.int .i64 t530, .int .i64 t531, .int .i64 t532, .int .i64 t533, .int .i64 t534, .int .i64 t535, .slice Ao17 t536.length co17, .slice Ao18 t539.length co18]] rfl (by (try simp only [List.map_toArray, List.map_cons, List.map_nil]); first | done | rfl | (simp only [List.length_drop, List.length_take]; rfl)) ?_; (with_reducible refine (scale_Worst.calls t530 t531 t532 t533 t534 t535 _ _ t536 _ _ t539 t545 t546 t547 _ ?side1 ?side2 ?side3 ?side4 ?side5 A7.out).mono ?_); (case side1 => refine (Kd.V_reads' (e := 3) (base := w.heap.size) (ok := fun k_ => ((some k_ ≠ (v528 : Value).ownBlock ∧ k_ ≠ gb524) ∧ k_ ≠ gb543)) (n := t536.length) (c := co17) ?_).2.2; exact (by (with_reducible repeat (first | apply Kd.V_alloc | apply Kd.V_drewN | apply Kd.V_drew)); exact (Kd.V_mono (Kd.V_far (p := ⟨gb543, 7, none⟩) (Kd.V_far (p := ⟨gb543, 6, none⟩) (Kd.V_far (p := ⟨gb543, 5, none⟩) (Kd.V_far (p := ⟨gb543, 4, none⟩) (Kd.V_far (p := ⟨gb543, 3, none⟩) (Kd.V_far (p := ⟨gb543, 2, none⟩) (Kd.V_far (p := ⟨gb543, 1, none⟩) (Kd.V_far (p := ⟨gb543, 0, none⟩) (Kd.V_mono HO538.out (fun k_ hk => (⟨hk, hk.2⟩ : _ ∧ k_ ≠ gb543))) (fun _ hk => hk.2) (.int .i64 t530)) (fun _ hk => hk.2) (.int .i64 t531)) (fun _ hk => hk.2) (.int .i64 t532)) (fun _ hk => hk.2) (.int .i64 t533)) (fun _ hk => hk.2) (.int .i64 t534)) (fun _ hk => hk.2) (.int .i64 t535)) (fun _ hk => hk.2) (.slice Ao17 t536.length co17)) (fun _ hk => hk.2) (.slice Ao18 t539.length co18)) (fun _ h_ => h_.1)))); (case side2 => exact (Kd.V_reads' HO538.out).2.1); (case side3 => refine (Kd.V_reads' (e := 71) (base := w.heap.size) (ok := fun k_ => ((some k_ ≠ (v528 : Value).ownBlock ∧ k_ ≠ gb524) ∧ k_ ≠ gb543)) (n := t539.length) (c := co18) ?_).2.2; exact (by (with_reducible repeat (first | apply Kd.V_alloc | apply Kd.V_drewN | apply Kd.V_drew)); exact (Kd.V_mono (Kd.V_far (p := ⟨gb543, 7, none⟩) (Kd.V_far (p := ⟨gb543, 6, none⟩) (Kd.V_far (p := ⟨gb543, 5, none⟩) (Kd.V_far (p := ⟨gb543, 4, none⟩) (Kd.V_far (p := ⟨gb543, 3, none⟩) (Kd.V_far (p := ⟨gb543, 2, none⟩) (Kd.V_far (p := ⟨gb543, 1, none⟩) (Kd.V_far (p := ⟨gb543, 0, none⟩) (Kd.V_mono HO541.out (fun k_ hk => (⟨hk, hk.2⟩ : _ ∧ k_ ≠ gb543))) (fun _ hk => hk.2) (.int .i64 t530)) (fun _ hk => hk.2) (.int .i64 t531)) (fun _ hk => hk.2) (.int .i64 t532)) (fun _ hk => hk.2) (.int .i64 t533)) (fun _ hk => hk.2) (.int .i64 t534)) (fun _ hk => hk.2) (.int .i64 t535)) (fun _ hk => hk.2) (.slice Ao17 t536.length co17)) (fun _ hk => hk.2) (.slice Ao18 t539.length co18)) (fun _ h_ => h_.1)))); (case side4 => exact (Kd.V_reads' HO541.out).2.1); (case side5 => exact Go.Proofs.YtidnopmjhhmedaaDoor.Ways.below HWays.out (bl HB)); rintro e w19 ⟨rfl, hb⟩; refine ⟨_, rfl, ?_⟩; replace HO529 := Aside0.mk (Kd.R_below (by (with_reducible repeat (first | apply Kd.R_alloc | apply Kd.R_drewN | apply Kd.R_drew)); exact (Kd.R_mono (Kd.R_far (p := ⟨gb543, 7, none⟩) (Kd.R_far (p := ⟨gb543, 6, none⟩) (Kd.R_far (p := ⟨gb543, 5, none⟩) (Kd.R_far (p := ⟨gb543, 4, none⟩) (Kd.R_far (p := ⟨gb543, 3, none⟩) (Kd.R_far (p := ⟨gb543, 2, none⟩) (Kd.R_far (p := ⟨gb543, 1, none⟩) (Kd.R_far (p := ⟨gb543, 0, none⟩) (Kd.R_types HO529.out BK543.out (by decide)) (fun _ hk => hk.2) (.int .i64 t530)) (fun _ hk => hk.2) (.int .i64 t531)) (fun _ hk => hk.2) (.int .i64 t532)) (fun _ hk => hk.2) (.int .i64 t533)) (fun _ hk => hk.2) (.int .i64 t534)) (fun _ hk => hk.2) (.int .i64 t535)) (fun _ hk => hk.2) (.slice Ao17 t536.length co17)) (fun _ hk => hk.2) (.slice Ao18 t539.length co18)) (fun _ h_ => h_.1))) hb); replace HO538 := Aside0.mk (Kd.V_below (by (with_reducible repeat (first | apply Kd.V_alloc | apply Kd.V_drewN | apply Kd.V_drew)); exact (Kd.V_mono (Kd.V_far (p := ⟨gb543, 7, none⟩) (Kd.V_far (p := ⟨gb543, 6, none⟩) (Kd.V_far (p := ⟨gb543, 5, none⟩) (Kd.V_far (p := ⟨gb543, 4, none⟩) (Kd.V_far (p := ⟨gb543, 3, none⟩) (Kd.V_far (p := ⟨gb543, 2, none⟩) (Kd.V_far (p := ⟨gb543, 1, none⟩) (Kd.V_far (p := ⟨gb543, 0, none⟩) (Kd.V_mono HO538.out (fun k_ hk => (⟨hk, hk.2⟩ : _ ∧ k_ ≠ gb543))) (fun _ hk => hk.2) (.int .i64 t530)) (fun _ hk => hk.2) (.int .i64 t531)) (fun _ hk => hk.2) (.int .i64 t532)) (fun _ hk => hk.2) (.int .i64 t533)) (fun _ hk => hk.2) (.int .i64 t534)) (fun _ hk => hk.2) (.int .i64 t535)) (fun _ hk => hk.2) (.slice Ao17 t536.length co17)) (fun _ hk => hk.2) (.slice Ao18 t539.length co18)) (fun _ h_ => h_.1))) hb); replace HO541 := Aside0.mk (Kd.V_below (by (with_reducible repeat (first | apply Kd.V_alloc | apply Kd.V_drewN | apply Kd.V_drew)); exact (Kd.V_mono (Kd.V_far (p := ⟨gb543, 7, none⟩) (Kd.V_far (p := ⟨gb543, 6, none⟩) (Kd.V_far (p := ⟨gb543, 5, none⟩) (Kd.V_far (p := ⟨gb543, 4, none⟩) (Kd.V_far (p := ⟨gb543, 3, none⟩) (Kd.V_far (p := ⟨gb543, 2, none⟩) (Kd.V_far (p := ⟨gb543, 1, none⟩) (Kd.V_far (p := ⟨gb543, 0, none⟩) (Kd.V_mono HO541.out (fun k_ hk => (⟨hk, hk.2⟩ : _ ∧ k_ ≠ gb543))) (fun _ hk => hk.2) (.int .i64 t530)) (fun _ hk => hk.2) (.int .i64 t531)) (fun _ hk => hk.2) (.int .i64 t532)) (fun _ hk => hk.2) (.int .i64 t533)) (fun _ hk => hk.2) (.int .i64 t534)) (fun _ hk => hk.2) (.int .i64 t535)) (fun _ hk => hk.2) (.slice Ao17 t536.length co17)) (fun _ hk => hk.2) (.slice Ao18 t539.length co18)) (fun _ h_ => h_.1))) hb); replace BK524 := Aside0.mk (blk_below (bk BK524) hb); replace BK543 := Aside0.mk (blk_below (g := gb543) (o := .cells #[.int .i64 t530, .int .i64 t531, .int .i64 t532, .int .i64 t533, .int .i64 t534, .int .i64 t535, .slice Ao17 t536.length co17, .slice Ao18 t539.length co18] 44 (0, 0)) (by (with_reducible repeat (first | refine blk_drewN ?_ _ | refine blk_drew ?_ | refine blk_alloc ?_ _)); refine blk_put (cs := #[.int .i64 t530, .int .i64 t531, .int .i64 t532, .int .i64 t533, .int .i64 t534, .int .i64 t535, .slice Ao17 t536.length co17, .slice none 0 0]) ?_ 7 _ rfl; (with_reducible repeat (first | refine blk_drewN ?_ _ | refine blk_drew ?_ | refine blk_alloc ?_ _)); refine blk_put (cs := #[.int .i64 t530, .int .i64 t531, .int .i64 t532, .int .i64 t533, .int .i64 t534, .int .i64 t535, .slice none 0 0, .slice none 0 0]) ?_ 6 _ rfl; (with_reducible repeat (first | refine blk_drewN ?_ _ | refine blk_drew ?_ | refine blk_alloc ?_ _)); refine blk_put (cs := #[.int .i64 t530, .int .i64 t531, .int .i64 t532, .int .i64 t533, .int .i64 t534, .int .i64 0, .slice none 0 0, .slice none 0 0]) ?_ 5 _ rfl; (with_reducible repeat (first | refine blk_drewN ?_ _ | refine blk_drew ?_ | refine blk_alloc ?_ _)); refine blk_put (cs := #[.int .i64 t530, .int .i64 t531, .int .i64 t532, .int .i64 t533, .int .i64 0, .int .i64 0, .slice none 0 0, .slice none 0 0]) ?_ 4 _ rfl; (with_reducible repeat (first | refine blk_drewN ?_ _ | refine blk_drew ?_ | refine blk_alloc ?_ _)); refine blk_put (cs := #[.int .i64 t530, .int .i64 t531, .int .i64 t532, .int .i64 0, .int .i64 0, .int .i64 0, .slice none 0 0, .slice none 0 0]) ?_ 3 _ rfl; (with_reducible repeat (first | refine blk_drewN ?_ _ | refine blk_drew ?_ | refine blk_alloc ?_ _)); refine blk_put (cs := #[.int .i64 t530, .int .i64 t531, .int .i64 0, .int .i64 0, .int .i64 0, .int .i64 0, .slice none 0 0, .slice none 0 0]) ?_ 2 _ rfl; (with_reducible repeat (first | refine blk_drewN ?_ _ | refine blk_drew ?_ | refine blk_alloc ?_ _)); refine blk_put (cs := #[.int .i64 t530, .int .i64 0, .int .i64 0, .int .i64 0, .int .i64 0, .int .i64 0, .slice none 0 0, .slice none 0 0]) ?_ 1 _ rfl; (with_reducible repeat (first | refine blk_drewN ?_ _ | refine blk_drew ?_ | refine blk_alloc ?_ _)); refine blk_put (cs := #[.int .i64 0, .int .i64 0, .int .i64 0, .int .i64 0, .int .i64 0, .int .i64 0, .slice none 0 0, .slice none 0 0]) ?_ 0 _ rfl; (with_reducible repeat (first | refine blk_drewN ?_ _ | refine blk_drew ?_ | refine blk_alloc ?_ _)); exact BK543.out) hb); replace HB := Aside0.mk (below_step (bl HB) hb); (try clear hb); (try clear hb2); (try clear hk); (try clear hi)))
   (try simp only [Act.put, List.setIfInBounds_toArray, List.set_cons_zero, List.set_cons_succ])
   go_cut [48] (fun v48 wc => ∃ (kq : Nat) (x48_7 : Bool), v48 = .bool x48_7 ∧ Aside0 (remontoirlaw04_ScaleTrue.j0 kq t527 t545 t546 x48_7 a0_0 a0_1 a0_2 a0_3 a0_4 a0_5 l0_6 l0_7 t530 t531 t532 t533 t534 t535 t536 t539 = some r) ∧ Aside0 (kq ≤ k) ∧ Aside0 (Kd.R (Kd.int .i64) 3 wc w.heap.size (fun _ => True) v528 t527) ∧ Aside0 (Kd.V (Kd.int .i64) 3 wc w.heap.size (fun k_ => some k_ ≠ (v528 : Value).ownBlock ∧ k_ ≠ gb524 ∧ k_ ≠ gb543) (.slice Ao17 t536.length co17) t536) ∧ Aside0 (Kd.V k71 71 wc w.heap.size (fun k_ => some k_ ≠ (v528 : Value).ownBlock ∧ k_ ≠ gb524 ∧ k_ ≠ gb543) (.slice Ao18 t539.length co18) t539) ∧ Aside0 (wc.heap[gb524]? = some (.cells #[.int .i64 a0_0, .int .i64 a0_1, .int .i64 a0_2, .int .i64 a0_3, .int .i64 a0_4, .int .i64 a0_5, (.slice A0_6 l0_6.length c0_6), (.slice A0_7 l0_7.length c0_7)] 44 (0, 0))) ∧ Aside0 (wc.heap[gb543]? = some (.cells #[.int .i64 t530, .int .i64 t531, .int .i64 t532, .int .i64 t533, .int .i64 t534, .int .i64 t535, (.slice Ao17 t536.length co17), (.slice Ao18 t539.length co18)] 44 (0, 0))) ∧ Aside0 (Below w.heap.size w wc))
   case first =>
    have H := HC8.out
    clear HC8
    by_cases c20 : t547 = 0
    ·
     rw [if_pos c20] at H
     have c20b0 : (t547 == 0) = true := beq_iff_eq.mpr c20
     have c20b1 : (t547 != 0) = false := bne_eq_false_iff_eq.mpr c20
     clear c20
     (first | rw [c20b0] | (simp only [i64_w, i32_w]; rw [c20b0]) | skip)
     replace H := Option.bind_eq_some_iff.mp H
     obtain ⟨t548, A210, H⟩ := H
     replace H : (remontoirlaw04_ScaleTrue.j0 k t527 t545 t546 (!t548) a0_0 a0_1 a0_2 a0_3 a0_4 a0_5 l0_6 l0_7 t530 t531 t532 t533 t534 t535 t536 t539) = some r := H
     have A21 := Aside0.mk A210
     clear A210
     have H' := Aside0.mk H
     clear H
     have hnb22 := NB524_543.out
     have hnc22 := NB543_524.out
     have hcz23_0 : w19.cell? ⟨gb524, 0, none⟩ = some (.int .i64 a0_0) := bc BK524 0
     have hcz23_1 : w19.cell? ⟨gb524, 1, none⟩ = some (.int .i64 a0_1) := bc BK524 1
     have hcz23_2 : w19.cell? ⟨gb524, 2, none⟩ = some (.int .i64 a0_2) := bc BK524 2
     have hcz23_3 : w19.cell? ⟨gb524, 3, none⟩ = some (.int .i64 a0_3) := bc BK524 3
     have hcz23_4 : w19.cell? ⟨gb524, 4, none⟩ = some (.int .i64 a0_4) := bc BK524 4
     have hcz23_5 : w19.cell? ⟨gb524, 5, none⟩ = some (.int .i64 a0_5) := bc BK524 5
     have hcz23_6 : w19.cell? ⟨gb524, 6, none⟩ = some (.slice A0_6 l0_6.length c0_6) := bc BK524 6
     have hcz23_7 : w19.cell? ⟨gb524, 7, none⟩ = some (.slice A0_7 l0_7.length c0_7) := bc BK524 7
     have hfz23_0 := blk_frozen BK524.out 0
     have hfz23_1 := blk_frozen BK524.out 1
     have hfz23_2 := blk_frozen BK524.out 2
     have hfz23_3 := blk_frozen BK524.out 3
     have hfz23_4 := blk_frozen BK524.out 4
     have hfz23_5 := blk_frozen BK524.out 5
     have hfz23_6 := blk_frozen BK524.out 6
     have hfz23_7 := blk_frozen BK524.out 7
     go_wp2_with (first | (go_at_call 42; (with_reducible refine (remontoirref00_Lies.calls t545 0 a0_5 t548 _ A21.out).mono ?_); rintro e w' ⟨rfl, ⟨nd, rfl⟩⟩))
     go_meet
     case rel => exact ⟨_, (!t548), (by first | rfl | (simp; done) | (simp [*]; done)), H', ⟨by first | omega | exact Nat.le_refl _⟩, ⟨by (with_reducible repeat (first | apply Kd.R_alloc | apply Kd.R_drewN | apply Kd.R_drew)); exact HO529.out⟩, ⟨by (with_reducible repeat (first | apply Kd.V_alloc | apply Kd.V_drewN | apply Kd.V_drew)); exact Kd.V_mono HO538.out (fun _ hk => ⟨hk.1.1, ⟨hk.1.2, hk.2⟩⟩)⟩, ⟨by (with_reducible repeat (first | apply Kd.V_alloc | apply Kd.V_drewN | apply Kd.V_drew)); exact Kd.V_mono HO541.out (fun _ hk => ⟨hk.1.1, ⟨hk.1.2, hk.2⟩⟩)⟩, ⟨bk BK524⟩, ⟨bk BK543⟩, ⟨bl HB⟩⟩
    ·
     rw [if_neg c20] at H
     have c20b0 : (t547 == 0) = false := beq_eq_false_iff_ne.mpr c20
     have c20b1 : (t547 != 0) = true := bne_iff_ne.mpr c20
     (first | rw [c20b0] | (simp only [i64_w, i32_w]; rw [c20b0]) | skip)
     have H' := Aside0.mk H
     clear H
     go_wp2
     go_meet
     case rel => exact ⟨_, (true), (by first | rfl | (simp; done) | (simp [*]; done)), H', ⟨by first | omega | exact Nat.le_refl _⟩, ⟨by (with_reducible repeat (first | apply Kd.R_alloc | apply Kd.R_drewN | apply Kd.R_drew)); exact HO529.out⟩, ⟨by (with_reducible repeat (first | apply Kd.V_alloc | apply Kd.V_drewN | apply Kd.V_drew)); exact Kd.V_mono HO538.out (fun _ hk => ⟨hk.1.1, ⟨hk.1.2, hk.2⟩⟩)⟩, ⟨by (with_reducible repeat (first | apply Kd.V_alloc | apply Kd.V_drewN | apply Kd.V_drew)); exact Kd.V_mono HO541.out (fun _ hk => ⟨hk.1.1, ⟨hk.1.2, hk.2⟩⟩)⟩, ⟨bk BK524⟩, ⟨bk BK543⟩, ⟨bl HB⟩⟩
   case rest =>
    as_aux_lemma =>
    clear HC8
    (try clear c1); (try clear c2); (try clear p2); (try clear c3); (try clear c4); (try clear c5); (try clear c6); (try clear c11); (try clear c15); (try clear c20); (try clear c20b0); (try clear c20b1); (try clear c22); (try clear hcz10_0); (try clear hcz10_1); (try clear hcz10_2); (try clear hcz10_3); (try clear hcz10_4); (try clear hcz10_5); (try clear hcz10_6); (try clear hcz10_7); (try clear hcz12_0); (try clear hcz12_1); (try clear hcz12_2); (try clear hcz12_3); (try clear hcz12_4); (try clear hcz12_5); (try clear hcz12_6); (try clear hcz12_7); (try clear hcz16_0); (try clear hcz16_1); (try clear hcz16_2); (try clear hcz16_3); (try clear hcz16_4); (try clear hcz16_5); (try clear hcz16_6); (try clear hcz16_7); (try clear hcz23_0); (try clear hcz23_1); (try clear hcz23_2); (try clear hcz23_3); (try clear hcz23_4); (try clear hcz23_5); (try clear hcz23_6); (try clear hcz23_7); (try clear hfz10_0); (try clear hfz10_1); (try clear hfz10_2); (try clear hfz10_3); (try clear hfz10_4); (try clear hfz10_5); (try clear hfz10_6); (try clear hfz10_7); (try clear hfz12_0); (try clear hfz12_1); (try clear hfz12_2); (try clear hfz12_3); (try clear hfz12_4); (try clear hfz12_5); (try clear hfz12_6); (try clear hfz12_7); (try clear hfz16_0); (try clear hfz16_1); (try clear hfz16_2); (try clear hfz16_3); (try clear hfz16_4); (try clear hfz16_5); (try clear hfz16_6); (try clear hfz16_7); (try clear hfz23_0); (try clear hfz23_1); (try clear hfz23_2); (try clear hfz23_3); (try clear hfz23_4); (try clear hfz23_5); (try clear hfz23_6); (try clear hfz23_7)
    (try clear HO_5); (try clear HO_544006); (try clear HO_544007); (try clear BK524); (try clear BK543); (try clear HB)
    obtain ⟨kq, x48_7, rfl, HA, HJ7, HO_5, HO_544006, HO_544007, BK524, BK543, HB⟩ := hcut
    cases kq with
    | zero => exact absurd HA.out (by simp [remontoirlaw04_ScaleTrue.j0])
    | succ kj7 =>
     have H := HA.out
     clear HA
     simp only [remontoirlaw04_ScaleTrue.j0] at H
     by_cases c24 : x48_7 = true
     ·
      subst c24
      have H1 : (some false) = some r := by rw [if_pos rfl] at H; exact H
      clear H
      have H := H1
      clear H1
      obtain rfl := Option.some.inj H
      go_wp2
      go_ret
      exact ⟨by first | rfl | (simp [errW_none, errW_some] <;> rfl) | (simp [*, errW_none, errW_some] <;> rfl), by repeat (first | (with_reducible first | exact HB.out | apply below_alloc | apply pw_below_drewN | apply below_drew1 | refine below_set ?_ GE524.out | refine below_set ?_ GE543.out) | exact HB.out)⟩
     ·
      replace c24 := Bool.eq_false_iff.mpr c24
      subst c24
      have H1 : (remontoirlaw04_ScaleTrue.l0 kj7 t527 t545 t546 0 a0_0 a0_1 a0_2 a0_3 a0_4 a0_5 l0_6 l0_7 t530 t531 t532 t533 t534 t535 t536 t539) = some r := by rw [if_neg (show ¬ (false = true) by decide)] at H; exact H
      clear H
      have H := H1
      clear H1
      have H' := Aside0.mk H
      clear H
      go_wp2
      go_loopg [11] kj7 (fun kq v11 w' => ∃ (x11_2 : Int), v11 = .int .i64 x11_2 ∧ Aside0 (remontoirlaw04_ScaleTrue.l0 kq t527 t545 t546 x11_2 a0_0 a0_1 a0_2 a0_3 a0_4 a0_5 l0_6 l0_7 t530 t531 t532 t533 t534 t535 t536 t539 = some r) ∧ Aside0 (kq ≤ kj7) ∧ Aside0 (Kd.R (Kd.int .i64) 3 w' w.heap.size (fun _ => True) v528 t527) ∧ Aside0 (Kd.V (Kd.int .i64) 3 w' w.heap.size (fun k_ => some k_ ≠ (v528 : Value).ownBlock ∧ k_ ≠ gb524 ∧ k_ ≠ gb543) (.slice Ao17 t536.length co17) t536) ∧ Aside0 (Kd.V k71 71 w' w.heap.size (fun k_ => some k_ ≠ (v528 : Value).ownBlock ∧ k_ ≠ gb524 ∧ k_ ≠ gb543) (.slice Ao18 t539.length co18) t539) ∧ Aside0 (w'.heap[gb524]? = some (.cells #[.int .i64 a0_0, .int .i64 a0_1, .int .i64 a0_2, .int .i64 a0_3, .int .i64 a0_4, .int .i64 a0_5, (.slice A0_6 l0_6.length c0_6), (.slice A0_7 l0_7.length c0_7)] 44 (0, 0))) ∧ Aside0 (w'.heap[gb543]? = some (.cells #[.int .i64 t530, .int .i64 t531, .int .i64 t532, .int .i64 t533, .int .i64 t534, .int .i64 t535, (.slice Ao17 t536.length co17), (.slice Ao18 t539.length co18)] 44 (0, 0))) ∧ Aside0 (Below w.heap.size w w'))
      case atStart => exact ⟨(0), (by first | rfl | (simp; done) | (simp [*]; done)), H', ⟨Nat.le_refl _⟩, ⟨by (with_reducible repeat (first | apply Kd.R_alloc | apply Kd.R_drewN | apply Kd.R_drew)); exact HO_5.out⟩, ⟨by (with_reducible repeat (first | apply Kd.V_alloc | apply Kd.V_drewN | apply Kd.V_drew)); exact HO_544006.out⟩, ⟨by (with_reducible repeat (first | apply Kd.V_alloc | apply Kd.V_drewN | apply Kd.V_drew)); exact HO_544007.out⟩, ⟨bk BK524⟩, ⟨bk BK543⟩, ⟨bl HB⟩⟩
      case round =>
       clear H'
       (try clear c1); (try clear c2); (try clear p2); (try clear c3); (try clear c4); (try clear c5); (try clear c6); (try clear c11); (try clear c15); (try clear c20); (try clear c20b0); (try clear c20b1); (try clear c22); (try clear c24); (try clear hcz10_0); (try clear hcz10_1); (try clear hcz10_2); (try clear hcz10_3); (try clear hcz10_4); (try clear hcz10_5); (try clear hcz10_6); (try clear hcz10_7); (try clear hcz12_0); (try clear hcz12_1); (try clear hcz12_2); (try clear hcz12_3); (try clear hcz12_4); (try clear hcz12_5); (try clear hcz12_6); (try clear hcz12_7); (try clear hcz16_0); (try clear hcz16_1); (try clear hcz16_2); (try clear hcz16_3); (try clear hcz16_4); (try clear hcz16_5); (try clear hcz16_6); (try clear hcz16_7); (try clear hcz23_0); (try clear hcz23_1); (try clear hcz23_2); (try clear hcz23_3); (try clear hcz23_4); (try clear hcz23_5); (try clear hcz23_6); (try clear hcz23_7); (try clear hfz10_0); (try clear hfz10_1); (try clear hfz10_2); (try clear hfz10_3); (try clear hfz10_4); (try clear hfz10_5); (try clear hfz10_6); (try clear hfz10_7); (try clear hfz12_0); (try clear hfz12_1); (try clear hfz12_2); (try clear hfz12_3); (try clear hfz12_4); (try clear hfz12_5); (try clear hfz12_6); (try clear hfz12_7); (try clear hfz16_0); (try clear hfz16_1); (try clear hfz16_2); (try clear hfz16_3); (try clear hfz16_4); (try clear hfz16_5); (try clear hfz16_6); (try clear hfz16_7); (try clear hfz23_0); (try clear hfz23_1); (try clear hfz23_2); (try clear hfz23_3); (try clear hfz23_4); (try clear hfz23_5); (try clear hfz23_6); (try clear hfz23_7); (try clear p2)
       (try clear HO_5); (try clear HO_544006); (try clear HO_544007); (try clear BK524); (try clear BK543); (try clear HB)
       obtain ⟨x11_2, rfl, HA, HK2, HO_5, HO_544006, HO_544007, BK524, BK543, HB⟩ := hrel
       cases gk with
       | zero => exact absurd HA.out (by simp [remontoirlaw04_ScaleTrue.l0])
       | succ k2 =>
        have H := HA.out
        clear HA
        simp only [remontoirlaw04_ScaleTrue.l0] at H
        by_cases c25 : x11_2 ≤ a0_5
        ·
         rw [if_pos c25] at H
         have c25b0 : decide (x11_2 ≤ a0_5) = true := decide_eq_true c25
         clear c25
         replace H := Option.bind_eq_some_iff.mp H
         obtain ⟨⟨t549, t550, t551⟩, A260, H⟩ := H
         replace H : ((scale_Stated.f t530 t531 t532 t533 t534 t535 t536 t539 x11_2).bind fun bt553 => (if t551 = 0 then (if bt553.2 = 0 then (if 0 ≤ x11_2 then (if x11_2 < (t527.length : Int) then ((remontoirref00_Has.f t549 t550 (rd t527 x11_2)).bind fun t556 => (if t556 = true then ((remontoirref00_Size.f (rd t527 x11_2)).bind fun t558 => (if t558 > bt553.1 then (remontoirlaw04_ScaleTrue.j2 k2 t527 t545 t546 x11_2 true a0_0 a0_1 a0_2 a0_3 a0_4 a0_5 l0_6 l0_7 t530 t531 t532 t533 t534 t535 t536 t539) else ((remontoirref00_Size.f t549).bind fun t559 => ((remontoirref00_Size.f t550).bind fun t560 => (if bt553.1 = (mx t559 t560) then (if bt553.1 > t546 then (remontoirlaw04_ScaleTrue.j2 k2 t527 t545 t546 x11_2 true a0_0 a0_1 a0_2 a0_3 a0_4 a0_5 l0_6 l0_7 t530 t531 t532 t533 t534 t535 t536 t539) else (if x11_2 < t545 then (if bt553.1 = t546 then (remontoirlaw04_ScaleTrue.j2 k2 t527 t545 t546 x11_2 true a0_0 a0_1 a0_2 a0_3 a0_4 a0_5 l0_6 l0_7 t530 t531 t532 t533 t534 t535 t536 t539) else (if x11_2 = t545 then (remontoirlaw04_ScaleTrue.j2 k2 t527 t545 t546 x11_2 (bt553.1 != t546) a0_0 a0_1 a0_2 a0_3 a0_4 a0_5 l0_6 l0_7 t530 t531 t532 t533 t534 t535 t536 t539) else (remontoirlaw04_ScaleTrue.j2 k2 t527 t545 t546 x11_2 false a0_0 a0_1 a0_2 a0_3 a0_4 a0_5 l0_6 l0_7 t530 t531 t532 t533 t534 t535 t536 t539))) else (if x11_2 = t545 then (remontoirlaw04_ScaleTrue.j2 k2 t527 t545 t546 x11_2 (bt553.1 != t546) a0_0 a0_1 a0_2 a0_3 a0_4 a0_5 l0_6 l0_7 t530 t531 t532 t533 t534 t535 t536 t539) else (remontoirlaw04_ScaleTrue.j2 k2 t527 t545 t546 x11_2 false a0_0 a0_1 a0_2 a0_3 a0_4 a0_5 l0_6 l0_7 t530 t531 t532 t533 t534 t535 t536 t539)))) else (remontoirlaw04_ScaleTrue.j2 k2 t527 t545 t546 x11_2 true a0_0 a0_1 a0_2 a0_3 a0_4 a0_5 l0_6 l0_7 t530 t531 t532 t533 t534 t535 t536 t539)))))) else (remontoirlaw04_ScaleTrue.j2 k2 t527 t545 t546 x11_2 true a0_0 a0_1 a0_2 a0_3 a0_4 a0_5 l0_6 l0_7 t530 t531 t532 t533 t534 t535 t536 t539))) else (none)) else (none)) else (remontoirlaw04_ScaleTrue.j2 k2 t527 t545 t546 x11_2 true a0_0 a0_1 a0_2 a0_3 a0_4 a0_5 l0_6 l0_7 t530 t531 t532 t533 t534 t535 t536 t539)) else (remontoirlaw04_ScaleTrue.j2 k2 t527 t545 t546 x11_2 true a0_0 a0_1 a0_2 a0_3 a0_4 a0_5 l0_6 l0_7 t530 t531 t532 t533 t534 t535 t536 t539))) = some r := H
         have A26 := Aside0.mk A260
         clear A260
         replace H := Option.bind_eq_some_iff.mp H
         obtain ⟨⟨t553, t554⟩, A270, H⟩ := H
         replace H : (if t551 = 0 then (if t554 = 0 then (if 0 ≤ x11_2 then (if x11_2 < (t527.length : Int) then ((remontoirref00_Has.f t549 t550 (rd t527 x11_2)).bind fun t556 => (if t556 = true then ((remontoirref00_Size.f (rd t527 x11_2)).bind fun t558 => (if t558 > t553 then (remontoirlaw04_ScaleTrue.j2 k2 t527 t545 t546 x11_2 true a0_0 a0_1 a0_2 a0_3 a0_4 a0_5 l0_6 l0_7 t530 t531 t532 t533 t534 t535 t536 t539) else ((remontoirref00_Size.f t549).bind fun t559 => ((remontoirref00_Size.f t550).bind fun t560 => (if t553 = (mx t559 t560) then (if t553 > t546 then (remontoirlaw04_ScaleTrue.j2 k2 t527 t545 t546 x11_2 true a0_0 a0_1 a0_2 a0_3 a0_4 a0_5 l0_6 l0_7 t530 t531 t532 t533 t534 t535 t536 t539) else (if x11_2 < t545 then (if t553 = t546 then (remontoirlaw04_ScaleTrue.j2 k2 t527 t545 t546 x11_2 true a0_0 a0_1 a0_2 a0_3 a0_4 a0_5 l0_6 l0_7 t530 t531 t532 t533 t534 t535 t536 t539) else (if x11_2 = t545 then (remontoirlaw04_ScaleTrue.j2 k2 t527 t545 t546 x11_2 (t553 != t546) a0_0 a0_1 a0_2 a0_3 a0_4 a0_5 l0_6 l0_7 t530 t531 t532 t533 t534 t535 t536 t539) else (remontoirlaw04_ScaleTrue.j2 k2 t527 t545 t546 x11_2 false a0_0 a0_1 a0_2 a0_3 a0_4 a0_5 l0_6 l0_7 t530 t531 t532 t533 t534 t535 t536 t539))) else (if x11_2 = t545 then (remontoirlaw04_ScaleTrue.j2 k2 t527 t545 t546 x11_2 (t553 != t546) a0_0 a0_1 a0_2 a0_3 a0_4 a0_5 l0_6 l0_7 t530 t531 t532 t533 t534 t535 t536 t539) else (remontoirlaw04_ScaleTrue.j2 k2 t527 t545 t546 x11_2 false a0_0 a0_1 a0_2 a0_3 a0_4 a0_5 l0_6 l0_7 t530 t531 t532 t533 t534 t535 t536 t539)))) else (remontoirlaw04_ScaleTrue.j2 k2 t527 t545 t546 x11_2 true a0_0 a0_1 a0_2 a0_3 a0_4 a0_5 l0_6 l0_7 t530 t531 t532 t533 t534 t535 t536 t539)))))) else (remontoirlaw04_ScaleTrue.j2 k2 t527 t545 t546 x11_2 true a0_0 a0_1 a0_2 a0_3 a0_4 a0_5 l0_6 l0_7 t530 t531 t532 t533 t534 t535 t536 t539))) else (none)) else (none)) else (remontoirlaw04_ScaleTrue.j2 k2 t527 t545 t546 x11_2 true a0_0 a0_1 a0_2 a0_3 a0_4 a0_5 l0_6 l0_7 t530 t531 t532 t533 t534 t535 t536 t539)) else (remontoirlaw04_ScaleTrue.j2 k2 t527 t545 t546 x11_2 true a0_0 a0_1 a0_2 a0_3 a0_4 a0_5 l0_6 l0_7 t530 t531 t532 t533 t534 t535 t536 t539)) = some r := H
         have A27 := Aside0.mk A270
         clear A270
         have HC28 := Aside0.mk H
         clear H
         have hnb29 := NB524_543.out
         have hnc29 := NB543_524.out
         have hcz30_0 : wr.cell? ⟨gb524, 0, none⟩ = some (.int .i64 a0_0) := bc BK524 0
         have hcz30_1 : wr.cell? ⟨gb524, 1, none⟩ = some (.int .i64 a0_1) := bc BK524 1
         have hcz30_2 : wr.cell? ⟨gb524, 2, none⟩ = some (.int .i64 a0_2) := bc BK524 2
         have hcz30_3 : wr.cell? ⟨gb524, 3, none⟩ = some (.int .i64 a0_3) := bc BK524 3
         have hcz30_4 : wr.cell? ⟨gb524, 4, none⟩ = some (.int .i64 a0_4) := bc BK524 4
         have hcz30_5 : wr.cell? ⟨gb524, 5, none⟩ = some (.int .i64 a0_5) := bc BK524 5
         have hcz30_6 : wr.cell? ⟨gb524, 6, none⟩ = some (.slice A0_6 l0_6.length c0_6) := bc BK524 6
         have hcz30_7 : wr.cell? ⟨gb524, 7, none⟩ = some (.slice A0_7 l0_7.length c0_7) := bc BK524 7
         have hfz30_0 := blk_frozen BK524.out 0
         have hfz30_1 := blk_frozen BK524.out 1
         have hfz30_2 := blk_frozen BK524.out 2
         have hfz30_3 := blk_frozen BK524.out 3
         have hfz30_4 := blk_frozen BK524.out 4
         have hfz30_5 := blk_frozen BK524.out 5
         have hfz30_6 := blk_frozen BK524.out 6
         have hfz30_7 := blk_frozen BK524.out 7
         have hcz31_0 : wr.cell? ⟨gb543, 0, none⟩ = some (.int .i64 t530) := bc BK543 0
         have hcz31_1 : wr.cell? ⟨gb543, 1, none⟩ = some (.int .i64 t531) := bc BK543 1
         have hcz31_2 : wr.cell? ⟨gb543, 2, none⟩ = some (.int .i64 t532) := bc BK543 2
         have hcz31_3 : wr.cell? ⟨gb543, 3, none⟩ = some (.int .i64 t533) := bc BK543 3
         have hcz31_4 : wr.cell? ⟨gb543, 4, none⟩ = some (.int .i64 t534) := bc BK543 4
         have hcz31_5 : wr.cell? ⟨gb543, 5, none⟩ = some (.int .i64 t535) := bc BK543 5
         have hcz31_6 : wr.cell? ⟨gb543, 6, none⟩ = some (.slice Ao17 t536.length co17) := bc BK543 6
         have hcz31_7 : wr.cell? ⟨gb543, 7, none⟩ = some (.slice Ao18 t539.length co18) := bc BK543 7
         have hfz31_0 := blk_frozen BK543.out 0
         have hfz31_1 := blk_frozen BK543.out 1
         have hfz31_2 := blk_frozen BK543.out 2
         have hfz31_3 := blk_frozen BK543.out 3
         have hfz31_4 := blk_frozen BK543.out 4
         have hfz31_5 := blk_frozen BK543.out 5
         have hfz31_6 := blk_frozen BK543.out 6
         have hfz31_7 := blk_frozen BK543.out 7
         go_upto_region 14 with (first | ((with_reducible refine gate_callee (f := 27) rfl ?_); refine goesL_ (some 58) rfl rfl Tryd.func27 (by kernel_rfl) rfl #[.agg #[.int .i64 t530, .int .i64 t531, .int .i64 t532, .int .i64 t533, .int .i64 t534, .int .i64 t535, .slice Ao17 t536.length co17, .slice Ao18 t539.length co18], .int .i64 x11_2] rfl (by (try simp only [List.map_toArray, List.map_cons, List.map_nil]); first | done | rfl | (simp only [List.length_drop, List.length_take]; rfl)) ?_; (with_reducible refine (scale_Error.calls t530 t531 t532 t533 t534 t535 _ _ t536 _ _ t539 x11_2 t549 t550 t551 _ ?side1 ?side2 ?side3 ?side4 ?side5 A26.out).mono ?_); (case side1 => repeat (first | exact (Kd.V_reads' HO_544006.out).2.2 | (with_reducible refine Kd.C_alloc ?_ _) | (with_reducible refine Kd.C_drewN ?_ _) | (with_reducible refine Kd.C_drew ?_))); (case side2 => exact (Kd.V_reads' HO_544006.out).2.1); (case side3 => repeat (first | exact (Kd.V_reads' HO_544007.out).2.2 | (with_reducible refine Kd.C_alloc ?_ _) | (with_reducible refine Kd.C_drewN ?_ _) | (with_reducible refine Kd.C_drew ?_))); (case side4 => exact (Kd.V_reads' HO_544007.out).2.1); (case side5 => exact Go.Proofs.YtidnopmjhhmedaaDoor.Ways.below HWays.out (bl HB)); rintro e w32 ⟨rfl, hb⟩; refine ⟨_, rfl, ?_⟩; replace HO_5 := Aside0.mk (Kd.R_below (rk HO_5) hb); replace HO_544006 := Aside0.mk (Kd.V_below (by (with_reducible repeat (first | apply Kd.V_alloc | apply Kd.V_drewN | apply Kd.V_drew)); exact HO_544006.out) hb); replace HO_544007 := Aside0.mk (Kd.V_below (by (with_reducible repeat (first | apply Kd.V_alloc | apply Kd.V_drewN | apply Kd.V_drew)); exact HO_544007.out) hb); replace BK524 := Aside0.mk (blk_below (bk BK524) hb); replace BK543 := Aside0.mk (blk_below (bk BK543) hb); replace HB := Aside0.mk (below_step (bl HB) hb); (try clear hb); (try clear hb2); (try clear hk); (try clear hi)) | ((with_reducible refine gate_dst (N := 12) rfl ?_); (try (refine gate_guard (by rfl) ?_; dsimp only)); refine box_event ?hg (N := 12) ?hd (cs := #[.int .i64 0, .int .i64 0]) (t := 23) ?hr ?_; (case hd => rfl); (case hg => rfl); (case hr => first | (go_simp; done) | (go_simp; rfl)); intro gb552 hg w33 hbox hb; replace HO_5 := Aside0.mk (Kd.R_below (rk HO_5) hb); replace HO_544006 := Aside0.mk (Kd.V_below (Kd.V_elderB (by (with_reducible repeat (first | apply Kd.V_alloc | apply Kd.V_drewN | apply Kd.V_drew)); exact HO_544006.out) gb552 (Nat.le_of_eq hg.symm)) hb); replace HO_544007 := Aside0.mk (Kd.V_below (Kd.V_elderB (by (with_reducible repeat (first | apply Kd.V_alloc | apply Kd.V_drewN | apply Kd.V_drew)); exact HO_544007.out) gb552 (Nat.le_of_eq hg.symm)) hb); have BK552 := Aside0.mk (hbox); have GW552 := geB hg (bl HB); have GE552 := geB hg (bl HB); replace HB := Aside0.mk (below_step (bl HB) hb); have NB524_552 := nlt hg (bk BK524); have NB552_524 := ngt hg (bk BK524); replace BK524 := Aside0.mk (blk_below (bk BK524) hb); have NB543_552 := nlt hg (bk BK543); have NB552_543 := ngt hg (bk BK543); replace BK543 := Aside0.mk (blk_below (bk BK543) hb); clear hb hbox hg; have hnb34 := NB552_524.out; have hnc34 := NB524_552.out; have hnb35 := NB552_543.out; have hnc35 := NB543_552.out; have hcz36_0 : w33.cell? ⟨gb552, 0, none⟩ = some (.int .i64 0) := bc BK552 0; have hcz36_1 : w33.cell? ⟨gb552, 1, none⟩ = some (.int .i64 0) := bc BK552 1; have hfz36_0 := blk_frozen BK552.out 0; have hfz36_1 := blk_frozen BK552.out 1; have hcz37_0 : w33.cell? ⟨gb543, 0, none⟩ = some (.int .i64 t530) := bc BK543 0; have hcz37_1 : w33.cell? ⟨gb543, 1, none⟩ = some (.int .i64 t531) := bc BK543 1; have hcz37_2 : w33.cell? ⟨gb543, 2, none⟩ = some (.int .i64 t532) := bc BK543 2; have hcz37_3 : w33.cell? ⟨gb543, 3, none⟩ = some (.int .i64 t533) := bc BK543 3; have hcz37_4 : w33.cell? ⟨gb543, 4, none⟩ = some (.int .i64 t534) := bc BK543 4; have hcz37_5 : w33.cell? ⟨gb543, 5, none⟩ = some (.int .i64 t535) := bc BK543 5; have hcz37_6 : w33.cell? ⟨gb543, 6, none⟩ = some (.slice Ao17 t536.length co17) := bc BK543 6; have hcz37_7 : w33.cell? ⟨gb543, 7, none⟩ = some (.slice Ao18 t539.length co18) := bc BK543 7; have hfz37_0 := blk_frozen BK543.out 0; have hfz37_1 := blk_frozen BK543.out 1; have hfz37_2 := blk_frozen BK543.out 2; have hfz37_3 := blk_frozen BK543.out 3; have hfz37_4 := blk_frozen BK543.out 4; have hfz37_5 := blk_frozen BK543.out 5; have hfz37_6 := blk_frozen BK543.out 6; have hfz37_7 := blk_frozen BK543.out 7) | ((with_reducible refine gate_callee (f := 31) rfl ?_); refine goesL_ (some 64) rfl rfl Tryd.func31 (by kernel_rfl) rfl #[.agg #[.int .i64 t530, .int .i64 t531, .int .i64 t532, .int .i64 t533, .int .i64 t534, .int .i64 t535, .slice Ao17 t536.length co17, .slice Ao18 t539.length co18], .int .i64 x11_2] rfl (by (try simp only [List.map_toArray, List.map_cons, List.map_nil]); first | done | rfl | (simp only [List.length_drop, List.length_take]; rfl)) ?_; (with_reducible refine (scale_Stated.calls t530 t531 t532 t533 t534 t535 _ _ t536 _ _ t539 x11_2 t553 t554 _ ?side1 ?side2 ?side3 ?side4 ?side5 A27.out).mono ?_); (case side1 => refine (Kd.V_reads' (e := 3) (base := w.heap.size) (ok := fun k_ => ((some k_ ≠ (v528 : Value).ownBlock ∧ (k_ ≠ gb524 ∧ k_ ≠ gb543)) ∧ k_ ≠ gb552)) (n := t536.length) (c := co17) ?_).2.2; exact (by (with_reducible repeat (first | apply Kd.V_alloc | apply Kd.V_drewN | apply Kd.V_drew)); exact (Kd.V_mono (Kd.V_far (p := ⟨gb552, 1, none⟩) (Kd.V_far (p := ⟨gb552, 0, none⟩) (Kd.V_mono HO_544006.out (fun k_ hk => (⟨hk, hk.2⟩ : _ ∧ k_ ≠ gb552))) (fun _ hk => hk.2) (.int .i64 t549)) (fun _ hk => hk.2) (.int .i64 t550)) (fun _ h_ => h_.1)))); (case side2 => exact (Kd.V_reads' HO_544006.out).2.1); (case side3 => refine (Kd.V_reads' (e := 71) (base := w.heap.size) (ok := fun k_ => ((some k_ ≠ (v528 : Value).ownBlock ∧ (k_ ≠ gb524 ∧ k_ ≠ gb543)) ∧ k_ ≠ gb552)) (n := t539.length) (c := co18) ?_).2.2; exact (by (with_reducible repeat (first | apply Kd.V_alloc | apply Kd.V_drewN | apply Kd.V_drew)); exact (Kd.V_mono (Kd.V_far (p := ⟨gb552, 1, none⟩) (Kd.V_far (p := ⟨gb552, 0, none⟩) (Kd.V_mono HO_544007.out (fun k_ hk => (⟨hk, hk.2⟩ : _ ∧ k_ ≠ gb552))) (fun _ hk => hk.2) (.int .i64 t549)) (fun _ hk => hk.2) (.int .i64 t550)) (fun _ h_ => h_.1)))); (case side4 => exact (Kd.V_reads' HO_544007.out).2.1); (case side5 => exact Go.Proofs.YtidnopmjhhmedaaDoor.Ways.below HWays.out (bl HB)); rintro e w38 ⟨rfl, hb⟩; refine ⟨_, rfl, ?_⟩; replace HO_5 := Aside0.mk (Kd.R_below (by (with_reducible repeat (first | apply Kd.R_alloc | apply Kd.R_drewN | apply Kd.R_drew)); exact (Kd.R_mono (Kd.R_far (p := ⟨gb552, 1, none⟩) (Kd.R_far (p := ⟨gb552, 0, none⟩) (Kd.R_types HO_5.out BK552.out (by decide)) (fun _ hk => hk.2) (.int .i64 t549)) (fun _ hk => hk.2) (.int .i64 t550)) (fun _ h_ => h_.1))) hb); replace HO_544006 := Aside0.mk (Kd.V_below (by (with_reducible repeat (first | apply Kd.V_alloc | apply Kd.V_drewN | apply Kd.V_drew)); exact (Kd.V_mono (Kd.V_far (p := ⟨gb552, 1, none⟩) (Kd.V_far (p := ⟨gb552, 0, none⟩) (Kd.V_mono HO_544006.out (fun k_ hk => (⟨hk, hk.2⟩ : _ ∧ k_ ≠ gb552))) (fun _ hk => hk.2) (.int .i64 t549)) (fun _ hk => hk.2) (.int .i64 t550)) (fun _ h_ => h_.1))) hb); replace HO_544007 := Aside0.mk (Kd.V_below (by (with_reducible repeat (first | apply Kd.V_alloc | apply Kd.V_drewN | apply Kd.V_drew)); exact (Kd.V_mono (Kd.V_far (p := ⟨gb552, 1, none⟩) (Kd.V_far (p := ⟨gb552, 0, none⟩) (Kd.V_mono HO_544007.out (fun k_ hk => (⟨hk, hk.2⟩ : _ ∧ k_ ≠ gb552))) (fun _ hk => hk.2) (.int .i64 t549)) (fun _ hk => hk.2) (.int .i64 t550)) (fun _ h_ => h_.1))) hb); replace BK524 := Aside0.mk (blk_below (bk BK524) hb); replace BK543 := Aside0.mk (blk_below (bk BK543) hb); replace BK552 := Aside0.mk (blk_below (g := gb552) (o := .cells #[.int .i64 t549, .int .i64 t550] 23 (0, 0)) (by (with_reducible repeat (first | refine blk_drewN ?_ _ | refine blk_drew ?_ | refine blk_alloc ?_ _)); refine blk_put (cs := #[.int .i64 t549, .int .i64 0]) ?_ 1 _ rfl; (with_reducible repeat (first | refine blk_drewN ?_ _ | refine blk_drew ?_ | refine blk_alloc ?_ _)); refine blk_put (cs := #[.int .i64 0, .int .i64 0]) ?_ 0 _ rfl; (with_reducible repeat (first | refine blk_drewN ?_ _ | refine blk_drew ?_ | refine blk_alloc ?_ _)); exact BK552.out) hb); replace HB := Aside0.mk (below_step (bl HB) hb); (try clear hb); (try clear hb2); (try clear hk); (try clear hi)))
         (try simp only [Act.put, List.setIfInBounds_toArray, List.set_cons_zero, List.set_cons_succ])
         go_cut [126] (fun v126 wc => ∃ (kq : Nat) (x126_27 : Bool), v126 = .bool x126_27 ∧ Aside0 (remontoirlaw04_ScaleTrue.j2 kq t527 t545 t546 x11_2 x126_27 a0_0 a0_1 a0_2 a0_3 a0_4 a0_5 l0_6 l0_7 t530 t531 t532 t533 t534 t535 t536 t539 = some r) ∧ Aside0 (kq ≤ k2) ∧ Aside0 (Kd.R (Kd.int .i64) 3 wc w.heap.size (fun _ => True) v528 t527) ∧ Aside0 (Kd.V (Kd.int .i64) 3 wc w.heap.size (fun k_ => some k_ ≠ (v528 : Value).ownBlock ∧ k_ ≠ gb524 ∧ k_ ≠ gb543 ∧ k_ ≠ gb552) (.slice Ao17 t536.length co17) t536) ∧ Aside0 (Kd.V k71 71 wc w.heap.size (fun k_ => some k_ ≠ (v528 : Value).ownBlock ∧ k_ ≠ gb524 ∧ k_ ≠ gb543 ∧ k_ ≠ gb552) (.slice Ao18 t539.length co18) t539) ∧ Aside0 (wc.heap[gb524]? = some (.cells #[.int .i64 a0_0, .int .i64 a0_1, .int .i64 a0_2, .int .i64 a0_3, .int .i64 a0_4, .int .i64 a0_5, (.slice A0_6 l0_6.length c0_6), (.slice A0_7 l0_7.length c0_7)] 44 (0, 0))) ∧ Aside0 (wc.heap[gb543]? = some (.cells #[.int .i64 t530, .int .i64 t531, .int .i64 t532, .int .i64 t533, .int .i64 t534, .int .i64 t535, (.slice Ao17 t536.length co17), (.slice Ao18 t539.length co18)] 44 (0, 0))) ∧ Aside0 (wc.heap[gb552]? = some (.cells #[.int .i64 t549, .int .i64 t550] 23 (0, 0))) ∧ Aside0 (Below w.heap.size w wc))
         case first =>
          have H := HC28.out
          clear HC28
          by_cases c39 : t551 = 0
          ·
           rw [if_pos c39] at H
           have c39b0 : (t551 == 0) = true := beq_iff_eq.mpr c39
           have c39b1 : (t551 != 0) = false := bne_eq_false_iff_eq.mpr c39
           clear c39
           (first | rw [c39b0] | (simp only [i64_w, i32_w]; rw [c39b0]) | skip)
           by_cases c40 : t554 = 0
           ·
            rw [if_pos c40] at H
            have c40b0 : (t554 == 0) = true := beq_iff_eq.mpr c40
            have c40b1 : (t554 != 0) = false := bne_eq_false_iff_eq.mpr c40
            clear c40
            by_cases c41 : 0 ≤ x11_2
            ·
             rw [if_pos c41] at H
             have c41b0 : decide (0 ≤ x11_2) = true := decide_eq_true c41
             clear c41
             by_cases c42 : x11_2 < (t527.length : Int)
             ·
              rw [if_pos c42] at H
              have c42b0 : decide (x11_2 < (t527.length : Int)) = true := decide_eq_true c42
              clear c42
              replace H := Option.bind_eq_some_iff.mp H
              obtain ⟨t556, A430, H⟩ := H
              replace H : (if t556 = true then ((remontoirref00_Size.f (rd t527 x11_2)).bind fun t558 => (if t558 > t553 then (remontoirlaw04_ScaleTrue.j2 k2 t527 t545 t546 x11_2 true a0_0 a0_1 a0_2 a0_3 a0_4 a0_5 l0_6 l0_7 t530 t531 t532 t533 t534 t535 t536 t539) else ((remontoirref00_Size.f t549).bind fun t559 => ((remontoirref00_Size.f t550).bind fun t560 => (if t553 = (mx t559 t560) then (if t553 > t546 then (remontoirlaw04_ScaleTrue.j2 k2 t527 t545 t546 x11_2 true a0_0 a0_1 a0_2 a0_3 a0_4 a0_5 l0_6 l0_7 t530 t531 t532 t533 t534 t535 t536 t539) else (if x11_2 < t545 then (if t553 = t546 then (remontoirlaw04_ScaleTrue.j2 k2 t527 t545 t546 x11_2 true a0_0 a0_1 a0_2 a0_3 a0_4 a0_5 l0_6 l0_7 t530 t531 t532 t533 t534 t535 t536 t539) else (if x11_2 = t545 then (remontoirlaw04_ScaleTrue.j2 k2 t527 t545 t546 x11_2 (t553 != t546) a0_0 a0_1 a0_2 a0_3 a0_4 a0_5 l0_6 l0_7 t530 t531 t532 t533 t534 t535 t536 t539) else (remontoirlaw04_ScaleTrue.j2 k2 t527 t545 t546 x11_2 false a0_0 a0_1 a0_2 a0_3 a0_4 a0_5 l0_6 l0_7 t530 t531 t532 t533 t534 t535 t536 t539))) else (if x11_2 = t545 then (remontoirlaw04_ScaleTrue.j2 k2 t527 t545 t546 x11_2 (t553 != t546) a0_0 a0_1 a0_2 a0_3 a0_4 a0_5 l0_6 l0_7 t530 t531 t532 t533 t534 t535 t536 t539) else (remontoirlaw04_ScaleTrue.j2 k2 t527 t545 t546 x11_2 false a0_0 a0_1 a0_2 a0_3 a0_4 a0_5 l0_6 l0_7 t530 t531 t532 t533 t534 t535 t536 t539)))) else (remontoirlaw04_ScaleTrue.j2 k2 t527 t545 t546 x11_2 true a0_0 a0_1 a0_2 a0_3 a0_4 a0_5 l0_6 l0_7 t530 t531 t532 t533 t534 t535 t536 t539)))))) else (remontoirlaw04_ScaleTrue.j2 k2 t527 t545 t546 x11_2 true a0_0 a0_1 a0_2 a0_3 a0_4 a0_5 l0_6 l0_7 t530 t531 t532 t533 t534 t535 t536 t539)) = some r := H
              have A43 := Aside0.mk A430
              clear A430
              by_cases c44 : t556 = true
              ·
               subst c44
               have H1 : ((remontoirref00_Size.f (rd t527 x11_2)).bind fun t558 => (if t558 > t553 then (remontoirlaw04_ScaleTrue.j2 k2 t527 t545 t546 x11_2 true a0_0 a0_1 a0_2 a0_3 a0_4 a0_5 l0_6 l0_7 t530 t531 t532 t533 t534 t535 t536 t539) else ((remontoirref00_Size.f t549).bind fun t559 => ((remontoirref00_Size.f t550).bind fun t560 => (if t553 = (mx t559 t560) then (if t553 > t546 then (remontoirlaw04_ScaleTrue.j2 k2 t527 t545 t546 x11_2 true a0_0 a0_1 a0_2 a0_3 a0_4 a0_5 l0_6 l0_7 t530 t531 t532 t533 t534 t535 t536 t539) else (if x11_2 < t545 then (if t553 = t546 then (remontoirlaw04_ScaleTrue.j2 k2 t527 t545 t546 x11_2 true a0_0 a0_1 a0_2 a0_3 a0_4 a0_5 l0_6 l0_7 t530 t531 t532 t533 t534 t535 t536 t539) else (if x11_2 = t545 then (remontoirlaw04_ScaleTrue.j2 k2 t527 t545 t546 x11_2 (t553 != t546) a0_0 a0_1 a0_2 a0_3 a0_4 a0_5 l0_6 l0_7 t530 t531 t532 t533 t534 t535 t536 t539) else (remontoirlaw04_ScaleTrue.j2 k2 t527 t545 t546 x11_2 false a0_0 a0_1 a0_2 a0_3 a0_4 a0_5 l0_6 l0_7 t530 t531 t532 t533 t534 t535 t536 t539))) else (if x11_2 = t545 then (remontoirlaw04_ScaleTrue.j2 k2 t527 t545 t546 x11_2 (t553 != t546) a0_0 a0_1 a0_2 a0_3 a0_4 a0_5 l0_6 l0_7 t530 t531 t532 t533 t534 t535 t536 t539) else (remontoirlaw04_ScaleTrue.j2 k2 t527 t545 t546 x11_2 false a0_0 a0_1 a0_2 a0_3 a0_4 a0_5 l0_6 l0_7 t530 t531 t532 t533 t534 t535 t536 t539)))) else (remontoirlaw04_ScaleTrue.j2 k2 t527 t545 t546 x11_2 true a0_0 a0_1 a0_2 a0_3 a0_4 a0_5 l0_6 l0_7 t530 t531 t532 t533 t534 t535 t536 t539)))))) = some r := by rw [if_pos rfl] at H; exact H
               clear H
               have H := H1
               clear H1
               replace H := Option.bind_eq_some_iff.mp H
               obtain ⟨t558, A450, H⟩ := H
               replace H : (if t558 > t553 then (remontoirlaw04_ScaleTrue.j2 k2 t527 t545 t546 x11_2 true a0_0 a0_1 a0_2 a0_3 a0_4 a0_5 l0_6 l0_7 t530 t531 t532 t533 t534 t535 t536 t539) else ((remontoirref00_Size.f t549).bind fun t559 => ((remontoirref00_Size.f t550).bind fun t560 => (if t553 = (mx t559 t560) then (if t553 > t546 then (remontoirlaw04_ScaleTrue.j2 k2 t527 t545 t546 x11_2 true a0_0 a0_1 a0_2 a0_3 a0_4 a0_5 l0_6 l0_7 t530 t531 t532 t533 t534 t535 t536 t539) else (if x11_2 < t545 then (if t553 = t546 then (remontoirlaw04_ScaleTrue.j2 k2 t527 t545 t546 x11_2 true a0_0 a0_1 a0_2 a0_3 a0_4 a0_5 l0_6 l0_7 t530 t531 t532 t533 t534 t535 t536 t539) else (if x11_2 = t545 then (remontoirlaw04_ScaleTrue.j2 k2 t527 t545 t546 x11_2 (t553 != t546) a0_0 a0_1 a0_2 a0_3 a0_4 a0_5 l0_6 l0_7 t530 t531 t532 t533 t534 t535 t536 t539) else (remontoirlaw04_ScaleTrue.j2 k2 t527 t545 t546 x11_2 false a0_0 a0_1 a0_2 a0_3 a0_4 a0_5 l0_6 l0_7 t530 t531 t532 t533 t534 t535 t536 t539))) else (if x11_2 = t545 then (remontoirlaw04_ScaleTrue.j2 k2 t527 t545 t546 x11_2 (t553 != t546) a0_0 a0_1 a0_2 a0_3 a0_4 a0_5 l0_6 l0_7 t530 t531 t532 t533 t534 t535 t536 t539) else (remontoirlaw04_ScaleTrue.j2 k2 t527 t545 t546 x11_2 false a0_0 a0_1 a0_2 a0_3 a0_4 a0_5 l0_6 l0_7 t530 t531 t532 t533 t534 t535 t536 t539)))) else (remontoirlaw04_ScaleTrue.j2 k2 t527 t545 t546 x11_2 true a0_0 a0_1 a0_2 a0_3 a0_4 a0_5 l0_6 l0_7 t530 t531 t532 t533 t534 t535 t536 t539))))) = some r := H
               have A45 := Aside0.mk A450
               clear A450
               by_cases c46 : t558 > t553
               ·
                rw [if_pos c46] at H
                have c46b0 : decide (t553 < t558) = true := decide_eq_true c46
                clear c46
                have H' := Aside0.mk H
                clear H
                try go_wp2
                replace HO_5 := Aside0.mk (Kd.R_drew HO_5.out)
                replace HO_544006 := Aside0.mk (Kd.V_drew HO_544006.out)
                replace HO_544007 := Aside0.mk (Kd.V_drew HO_544007.out)
                replace BK524 := Aside0.mk (blk_drew BK524.out)
                replace BK543 := Aside0.mk (blk_drew BK543.out)
                replace BK552 := Aside0.mk (blk_drew BK552.out)
                replace HB := Aside0.mk (below_drew1 HB.out)
                obtain ⟨Ao48, co48, eo48⟩ := Kd.R_slice HO_5.out
                (first | subst eo48 | (injection eo48 with f1_ f2_ f3_; have f4_ := f1_.symm; have f5_ := f3_.symm; clear f1_ f2_ f3_; subst f4_; subst f5_))
                have p555 : 0 ≤ (x11_2 : Int) := of_decide_eq_true (by first | (with_reducible assumption) | assumption)
                have q555 : x11_2 < (t527.length : Int) := of_decide_eq_true (by first | (with_reducible assumption) | assumption)
                obtain ⟨ad555, e555, hx555_0⟩ := Kd.at_int (Kd.R_reads' HO_5.out).2.2 x11_2 p555 q555
                cases e555
                replace p555 := eq_true p555
                replace q555 := eq_true q555
                have p557 : 0 ≤ (x11_2 : Int) := of_decide_eq_true (by first | (with_reducible assumption) | assumption)
                have q557 : x11_2 < (t527.length : Int) := of_decide_eq_true (by first | (with_reducible assumption) | assumption)
                obtain ⟨ad557, e557, hx557_0⟩ := Kd.at_int (Kd.R_reads' HO_5.out).2.2 x11_2 p557 q557
                obtain rfl : ad555 = ad557 := (by injection e557)
                replace p557 := eq_true p557
                replace q557 := eq_true q557
                refine start_ (n := 60) (S := fun w' => w'.cell? ⟨gb552, 0, none⟩ = some (.int .i64 t549) ∧ w'.cell? ⟨gb552, 1, none⟩ = some (.int .i64 t550) ∧ w'.cell? (ad555.add (x11_2).toNat) = some (.int .i64 (rd t527 x11_2)) ∧ w'.cell? (ad555.add (x11_2).toNat) = some (.int .i64 (rd t527 x11_2))) (ds := []) #[false, false, false, false, false, false, false, false, false, false, false, false, false, false, false, false, false, false, false, false, false, false, false, false, false, false, false, false, false, false, false, false, false, false, false, false, false, false, false, false, false, false, false, false, false, false, false, false, false, false, false, false, false, false, false, false, false, false, false, false] (by kernel_rfl) rfl rfl ⟨bc BK552 0, bc BK552 1, hx555_0, hx557_0⟩ (fun hHeld => ?_); refine with_tabW remontoirlaw04_ScaleTrue.tab14 remontoirlaw04_ScaleTrue.bits14 (fun HT_ HW_ => ?_)
                generalize w38.drew = w47 at HO_5 HO_544006 HO_544007 BK524 BK543 BK552 HB hx555_0 hx557_0 hHeld ⊢
                refine pureA 0 67 ?_
                refine pureA 1 68 ?_
                refine pureA 2 69 ?_
                refine pureA 3 70 ?_
                refine pureA 4 71 ?_
                refine pureA 5 72 ?_
                refine pureA 6 73 ?_
                refine pureA 8 75 ?_
                refine pureA 9 76 ?_
                refine pureA 10 77 ?_
                refine takeA 7 74 rfl rfl (by rintro w' ⟨s0, s1, s2, s3⟩; go_simp; with_reducible rfl) ?_
                refine takeA 11 78 rfl rfl (by rintro w' ⟨s0, s1, s2, s3⟩; go_simp; with_reducible rfl) ?_
                refine oneA 12 (some 79) (fun K hK => ?_)
                refine goes_ Tryd.func43 (by kernel_rfl) rfl #[.agg #[.int .i64 t549, .int .i64 t550], .int .i64 (rd t527 x11_2)] (by rfl) rfl rfl (by (try simp only [List.map_toArray, List.map_cons, List.map_nil]); first | done | rfl | (simp only [List.length_drop, List.length_take]; rfl)) ?_
                with_reducible refine (remontoirref00_Has.calls t549 t550 (rd t527 x11_2) true _ A43.out).mono ?_
                rintro e w49 ⟨rfl, hb⟩
                have HS2_ := (hb.cell (World.block_lt_of_cell? _ _ (hHeld.2.2.1))).trans (hHeld.2.2.1)
                have HS3_ := (hb.cell (World.block_lt_of_cell? _ _ (hHeld.2.2.2))).trans (hHeld.2.2.2)
                refine ⟨_, rfl, ?_⟩
                replace HO_5 := Aside0.mk (Kd.R_below (rk HO_5) hb)
                replace HO_544006 := Aside0.mk (Kd.V_below (by (with_reducible repeat (first | apply Kd.V_alloc | apply Kd.V_drewN | apply Kd.V_drew)); exact HO_544006.out) hb)
                replace HO_544007 := Aside0.mk (Kd.V_below (by (with_reducible repeat (first | apply Kd.V_alloc | apply Kd.V_drewN | apply Kd.V_drew)); exact HO_544007.out) hb)
                replace BK524 := Aside0.mk (blk_below (bk BK524) hb)
                replace BK543 := Aside0.mk (blk_below (bk BK543) hb)
                replace BK552 := Aside0.mk (blk_below (bk BK552) hb)
                replace HB := Aside0.mk (below_step (bl HB) hb)
                (try clear hb)
                (try clear hb2)
                (try clear hk)
                (try clear hi)
                refine hK.out _ _ ⟨bc BK552 0, bc BK552 1, HS2_, HS3_⟩ (fun hHeld => ?_)
                clear hK K
                refine normA 79 ?_
                refine pureA 13 80 ?_
                refine pureA 14 81 ?_
                refine pureA 15 82 ?_
                refine pureA 16 83 ?_
                refine pureA 17 84 ?_
                refine pureA 18 85 ?_
                refine pureA 21 88 ?_
                refine takeA 19 86 rfl rfl (by rintro w' ⟨s0, s1, s2, s3⟩; go_simp; with_reducible rfl) ?_
                refine oneA 20 (some 87) (fun K hK => ?_)
                refine goes_ Tryd.func46 (by kernel_rfl) rfl #[.int .i64 (rd t527 x11_2)] (by rfl) rfl rfl (by (try simp only [List.map_toArray, List.map_cons, List.map_nil]); first | done | rfl | (simp only [List.length_drop, List.length_take]; rfl)) ?_
                with_reducible refine (remontoirref00_Size.calls (rd t527 x11_2) t558 _ A45.out).mono ?_
                rintro e w' ⟨rfl, ⟨nd, rfl⟩⟩
                refine ⟨_, rfl, ?_⟩
                refine hK.out _ _ ⟨bc BK552 0, bc BK552 1, hHeld.2.2.1, hHeld.2.2.2⟩ (fun hHeld => ?_)
                clear hK K
                refine normA 87 ?_
                refine pureA 22 89 ?_
                refine pureA 23 90 ?_
                refine pureA 24 91 ?_
                refine pureU 25 92 ?_
                refine pureU 26 93 ?_
                refine pureU 27 94 ?_
                refine pureU 28 95 ?_
                refine pureU 29 96 ?_
                refine pureU 30 97 ?_
                refine pureU 31 98 ?_
                refine pureU 32 99 ?_
                refine pureU 33 100 ?_
                refine pureA 34 101 ?_
                refine pureA 35 102 ?_
                refine pureU 36 103 ?_
                refine pureU 37 104 ?_
                refine pureU 38 105 ?_
                refine pureA 39 106 ?_
                refine pureA 40 107 ?_
                refine pureU 41 108 ?_
                refine pureU 42 109 ?_
                refine pureU 43 110 ?_
                refine pureU 44 111 ?_
                refine pureU 45 112 ?_
                refine pureU 46 113 ?_
                refine pureU 47 114 ?_
                refine pureU 48 115 ?_
                refine pureA 49 116 ?_
                refine pureA 50 117 ?_
                refine pureU 51 118 ?_
                refine pureU 52 119 ?_
                refine pureU 53 120 ?_
                refine pureU 54 121 ?_
                refine pureU 55 122 ?_
                refine pureU 56 123 ?_
                refine pureU 57 124 ?_
                refine pureU 58 125 ?_
                refine pureA 59 126 ?_
                refine done_ (done_of HT_.out (by kernel_rfl)) ?_
                try go_wp2
                go_meet
                case rel => exact ⟨_, (true), (by first | rfl | (simp; done) | (simp [*]; done)), H', ⟨by have := HJ7.out; have := HK2.out; first | omega | exact Nat.le_refl _⟩, ⟨by (with_reducible repeat (first | apply Kd.R_alloc | apply Kd.R_drewN | apply Kd.R_drew)); exact HO_5.out⟩, ⟨by (with_reducible repeat (first | apply Kd.V_alloc | apply Kd.V_drewN | apply Kd.V_drew)); exact Kd.V_mono HO_544006.out (fun _ hk => ⟨hk.1.1, ⟨hk.1.2.1, ⟨hk.1.2.2, hk.2⟩⟩⟩)⟩, ⟨by (with_reducible repeat (first | apply Kd.V_alloc | apply Kd.V_drewN | apply Kd.V_drew)); exact Kd.V_mono HO_544007.out (fun _ hk => ⟨hk.1.1, ⟨hk.1.2.1, ⟨hk.1.2.2, hk.2⟩⟩⟩)⟩, ⟨bk BK524⟩, ⟨bk BK543⟩, ⟨bk BK552⟩, ⟨bl HB⟩⟩
               ·
                rw [if_neg c46] at H
                have c46b0 : decide (t553 < t558) = false := decide_eq_false c46
                clear c46
                replace H := Option.bind_eq_some_iff.mp H
                obtain ⟨t559, A500, H⟩ := H
                replace H : ((remontoirref00_Size.f t550).bind fun t560 => (if t553 = (mx t559 t560) then (if t553 > t546 then (remontoirlaw04_ScaleTrue.j2 k2 t527 t545 t546 x11_2 true a0_0 a0_1 a0_2 a0_3 a0_4 a0_5 l0_6 l0_7 t530 t531 t532 t533 t534 t535 t536 t539) else (if x11_2 < t545 then (if t553 = t546 then (remontoirlaw04_ScaleTrue.j2 k2 t527 t545 t546 x11_2 true a0_0 a0_1 a0_2 a0_3 a0_4 a0_5 l0_6 l0_7 t530 t531 t532 t533 t534 t535 t536 t539) else (if x11_2 = t545 then (remontoirlaw04_ScaleTrue.j2 k2 t527 t545 t546 x11_2 (t553 != t546) a0_0 a0_1 a0_2 a0_3 a0_4 a0_5 l0_6 l0_7 t530 t531 t532 t533 t534 t535 t536 t539) else (remontoirlaw04_ScaleTrue.j2 k2 t527 t545 t546 x11_2 false a0_0 a0_1 a0_2 a0_3 a0_4 a0_5 l0_6 l0_7 t530 t531 t532 t533 t534 t535 t536 t539))) else (if x11_2 = t545 then (remontoirlaw04_ScaleTrue.j2 k2 t527 t545 t546 x11_2 (t553 != t546) a0_0 a0_1 a0_2 a0_3 a0_4 a0_5 l0_6 l0_7 t530 t531 t532 t533 t534 t535 t536 t539) else (remontoirlaw04_ScaleTrue.j2 k2 t527 t545 t546 x11_2 false a0_0 a0_1 a0_2 a0_3 a0_4 a0_5 l0_6 l0_7 t530 t531 t532 t533 t534 t535 t536 t539)))) else (remontoirlaw04_ScaleTrue.j2 k2 t527 t545 t546 x11_2 true a0_0 a0_1 a0_2 a0_3 a0_4 a0_5 l0_6 l0_7 t530 t531 t532 t533 t534 t535 t536 t539))) = some r := H
                have A50 := Aside0.mk A500
                clear A500
                replace H := Option.bind_eq_some_iff.mp H
                obtain ⟨t560, A510, H⟩ := H
                replace H : (if t553 = (mx t559 t560) then (if t553 > t546 then (remontoirlaw04_ScaleTrue.j2 k2 t527 t545 t546 x11_2 true a0_0 a0_1 a0_2 a0_3 a0_4 a0_5 l0_6 l0_7 t530 t531 t532 t533 t534 t535 t536 t539) else (if x11_2 < t545 then (if t553 = t546 then (remontoirlaw04_ScaleTrue.j2 k2 t527 t545 t546 x11_2 true a0_0 a0_1 a0_2 a0_3 a0_4 a0_5 l0_6 l0_7 t530 t531 t532 t533 t534 t535 t536 t539) else (if x11_2 = t545 then (remontoirlaw04_ScaleTrue.j2 k2 t527 t545 t546 x11_2 (t553 != t546) a0_0 a0_1 a0_2 a0_3 a0_4 a0_5 l0_6 l0_7 t530 t531 t532 t533 t534 t535 t536 t539) else (remontoirlaw04_ScaleTrue.j2 k2 t527 t545 t546 x11_2 false a0_0 a0_1 a0_2 a0_3 a0_4 a0_5 l0_6 l0_7 t530 t531 t532 t533 t534 t535 t536 t539))) else (if x11_2 = t545 then (remontoirlaw04_ScaleTrue.j2 k2 t527 t545 t546 x11_2 (t553 != t546) a0_0 a0_1 a0_2 a0_3 a0_4 a0_5 l0_6 l0_7 t530 t531 t532 t533 t534 t535 t536 t539) else (remontoirlaw04_ScaleTrue.j2 k2 t527 t545 t546 x11_2 false a0_0 a0_1 a0_2 a0_3 a0_4 a0_5 l0_6 l0_7 t530 t531 t532 t533 t534 t535 t536 t539)))) else (remontoirlaw04_ScaleTrue.j2 k2 t527 t545 t546 x11_2 true a0_0 a0_1 a0_2 a0_3 a0_4 a0_5 l0_6 l0_7 t530 t531 t532 t533 t534 t535 t536 t539)) = some r := H
                have A51 := Aside0.mk A510
                clear A510
                obtain ⟨ji52, hji52⟩ : ∃ j_ : Int, (mx t559 t560) = j_ := ⟨_, rfl⟩
                replace H : (if t553 = (ji52) then (if t553 > t546 then (remontoirlaw04_ScaleTrue.j2 k2 t527 t545 t546 x11_2 true a0_0 a0_1 a0_2 a0_3 a0_4 a0_5 l0_6 l0_7 t530 t531 t532 t533 t534 t535 t536 t539) else (if x11_2 < t545 then (if t553 = t546 then (remontoirlaw04_ScaleTrue.j2 k2 t527 t545 t546 x11_2 true a0_0 a0_1 a0_2 a0_3 a0_4 a0_5 l0_6 l0_7 t530 t531 t532 t533 t534 t535 t536 t539) else (if x11_2 = t545 then (remontoirlaw04_ScaleTrue.j2 k2 t527 t545 t546 x11_2 (t553 != t546) a0_0 a0_1 a0_2 a0_3 a0_4 a0_5 l0_6 l0_7 t530 t531 t532 t533 t534 t535 t536 t539) else (remontoirlaw04_ScaleTrue.j2 k2 t527 t545 t546 x11_2 false a0_0 a0_1 a0_2 a0_3 a0_4 a0_5 l0_6 l0_7 t530 t531 t532 t533 t534 t535 t536 t539))) else (if x11_2 = t545 then (remontoirlaw04_ScaleTrue.j2 k2 t527 t545 t546 x11_2 (t553 != t546) a0_0 a0_1 a0_2 a0_3 a0_4 a0_5 l0_6 l0_7 t530 t531 t532 t533 t534 t535 t536 t539) else (remontoirlaw04_ScaleTrue.j2 k2 t527 t545 t546 x11_2 false a0_0 a0_1 a0_2 a0_3 a0_4 a0_5 l0_6 l0_7 t530 t531 t532 t533 t534 t535 t536 t539)))) else (remontoirlaw04_ScaleTrue.j2 k2 t527 t545 t546 x11_2 true a0_0 a0_1 a0_2 a0_3 a0_4 a0_5 l0_6 l0_7 t530 t531 t532 t533 t534 t535 t536 t539)) = some r := by first | (rw [hji52] at H; exact H) | (simp only [hji52] at H ⊢; exact H)
                (try rw [hji52] at A43)
                (try rw [hji52] at A45)
                (try rw [hji52] at A50)
                (try rw [hji52] at A51)
                have hji52_ : (if t559 < t560 then t560 else t559) = ji52 := hji52
                by_cases c53 : t553 = (ji52)
                ·
                 rw [if_pos c53] at H
                 have c53b0 : (t553 == (ji52)) = true := beq_iff_eq.mpr c53
                 have c53b1 : (t553 != (ji52)) = false := bne_eq_false_iff_eq.mpr c53
                 clear c53
                 by_cases c54 : t553 > t546
                 ·
                  rw [if_pos c54] at H
                  have c54b0 : decide (t546 < t553) = true := decide_eq_true c54
                  clear c54
                  have H' := Aside0.mk H
                  clear H
                  try go_wp2
                  replace HO_5 := Aside0.mk (Kd.R_drew HO_5.out)
                  replace HO_544006 := Aside0.mk (Kd.V_drew HO_544006.out)
                  replace HO_544007 := Aside0.mk (Kd.V_drew HO_544007.out)
                  replace BK524 := Aside0.mk (blk_drew BK524.out)
                  replace BK543 := Aside0.mk (blk_drew BK543.out)
                  replace BK552 := Aside0.mk (blk_drew BK552.out)
                  replace HB := Aside0.mk (below_drew1 HB.out)
                  obtain ⟨Ao56, co56, eo56⟩ := Kd.R_slice HO_5.out
                  (first | subst eo56 | (injection eo56 with f1_ f2_ f3_; have f4_ := f1_.symm; have f5_ := f3_.symm; clear f1_ f2_ f3_; subst f4_; subst f5_))
                  have p555 : 0 ≤ (x11_2 : Int) := of_decide_eq_true (by first | (with_reducible assumption) | assumption)
                  have q555 : x11_2 < (t527.length : Int) := of_decide_eq_true (by first | (with_reducible assumption) | assumption)
                  obtain ⟨ad555, e555, hx555_0⟩ := Kd.at_int (Kd.R_reads' HO_5.out).2.2 x11_2 p555 q555
                  cases e555
                  replace p555 := eq_true p555
                  replace q555 := eq_true q555
                  have p557 : 0 ≤ (x11_2 : Int) := of_decide_eq_true (by first | (with_reducible assumption) | assumption)
                  have q557 : x11_2 < (t527.length : Int) := of_decide_eq_true (by first | (with_reducible assumption) | assumption)
                  obtain ⟨ad557, e557, hx557_0⟩ := Kd.at_int (Kd.R_reads' HO_5.out).2.2 x11_2 p557 q557
                  obtain rfl : ad555 = ad557 := (by injection e557)
                  replace p557 := eq_true p557
                  replace q557 := eq_true q557
                  refine start_ (n := 60) (S := fun w' => w'.cell? ⟨gb552, 0, none⟩ = some (.int .i64 t549) ∧ w'.cell? ⟨gb552, 1, none⟩ = some (.int .i64 t550) ∧ w'.cell? (ad555.add (x11_2).toNat) = some (.int .i64 (rd t527 x11_2)) ∧ w'.cell? (ad555.add (x11_2).toNat) = some (.int .i64 (rd t527 x11_2))) (ds := []) #[false, false, false, false, false, false, false, false, false, false, false, false, false, false, false, false, false, false, false, false, false, false, false, false, false, false, false, false, false, false, false, false, false, false, false, false, false, false, false, false, false, false, false, false, false, false, false, false, false, false, false, false, false, false, false, false, false, false, false, false] (by kernel_rfl) rfl rfl ⟨bc BK552 0, bc BK552 1, hx555_0, hx557_0⟩ (fun hHeld => ?_); refine with_tabW remontoirlaw04_ScaleTrue.tab14 remontoirlaw04_ScaleTrue.bits14 (fun HT_ HW_ => ?_)
                  generalize w38.drew = w55 at HO_5 HO_544006 HO_544007 BK524 BK543 BK552 HB hx555_0 hx557_0 hHeld ⊢
                  refine pureA 0 67 ?_
                  refine pureA 1 68 ?_
                  refine pureA 2 69 ?_
                  refine pureA 3 70 ?_
                  refine pureA 4 71 ?_
                  refine pureA 5 72 ?_
                  refine pureA 6 73 ?_
                  refine pureA 8 75 ?_
                  refine pureA 9 76 ?_
                  refine pureA 10 77 ?_
                  refine takeA 7 74 rfl rfl (by rintro w' ⟨s0, s1, s2, s3⟩; go_simp; with_reducible rfl) ?_
                  refine takeA 11 78 rfl rfl (by rintro w' ⟨s0, s1, s2, s3⟩; go_simp; with_reducible rfl) ?_
                  refine oneA 12 (some 79) (fun K hK => ?_)
                  refine goes_ Tryd.func43 (by kernel_rfl) rfl #[.agg #[.int .i64 t549, .int .i64 t550], .int .i64 (rd t527 x11_2)] (by rfl) rfl rfl (by (try simp only [List.map_toArray, List.map_cons, List.map_nil]); first | done | rfl | (simp only [List.length_drop, List.length_take]; rfl)) ?_
                  with_reducible refine (remontoirref00_Has.calls t549 t550 (rd t527 x11_2) true _ A43.out).mono ?_
                  rintro e w57 ⟨rfl, hb⟩
                  have HS2_ := (hb.cell (World.block_lt_of_cell? _ _ (hHeld.2.2.1))).trans (hHeld.2.2.1)
                  have HS3_ := (hb.cell (World.block_lt_of_cell? _ _ (hHeld.2.2.2))).trans (hHeld.2.2.2)
                  refine ⟨_, rfl, ?_⟩
                  replace HO_5 := Aside0.mk (Kd.R_below (rk HO_5) hb)
                  replace HO_544006 := Aside0.mk (Kd.V_below (by (with_reducible repeat (first | apply Kd.V_alloc | apply Kd.V_drewN | apply Kd.V_drew)); exact HO_544006.out) hb)
                  replace HO_544007 := Aside0.mk (Kd.V_below (by (with_reducible repeat (first | apply Kd.V_alloc | apply Kd.V_drewN | apply Kd.V_drew)); exact HO_544007.out) hb)
                  replace BK524 := Aside0.mk (blk_below (bk BK524) hb)
                  replace BK543 := Aside0.mk (blk_below (bk BK543) hb)
                  replace BK552 := Aside0.mk (blk_below (bk BK552) hb)
                  replace HB := Aside0.mk (below_step (bl HB) hb)
                  (try clear hb)
                  (try clear hb2)
                  (try clear hk)
                  (try clear hi)
                  refine hK.out _ _ ⟨bc BK552 0, bc BK552 1, HS2_, HS3_⟩ (fun hHeld => ?_)
                  clear hK K
                  refine normA 79 ?_
                  refine pureA 13 80 ?_
                  refine pureA 14 81 ?_
                  refine pureA 15 82 ?_
                  refine pureA 16 83 ?_
                  refine pureA 17 84 ?_
                  refine pureA 18 85 ?_
                  refine pureA 21 88 ?_
                  refine takeA 19 86 rfl rfl (by rintro w' ⟨s0, s1, s2, s3⟩; go_simp; with_reducible rfl) ?_
                  refine oneA 20 (some 87) (fun K hK => ?_)
                  refine goes_ Tryd.func46 (by kernel_rfl) rfl #[.int .i64 (rd t527 x11_2)] (by rfl) rfl rfl (by (try simp only [List.map_toArray, List.map_cons, List.map_nil]); first | done | rfl | (simp only [List.length_drop, List.length_take]; rfl)) ?_
                  with_reducible refine (remontoirref00_Size.calls (rd t527 x11_2) t558 _ A45.out).mono ?_
                  rintro e w' ⟨rfl, ⟨nd, rfl⟩⟩
                  refine ⟨_, rfl, ?_⟩
                  refine hK.out _ _ ⟨bc BK552 0, bc BK552 1, hHeld.2.2.1, hHeld.2.2.2⟩ (fun hHeld => ?_)
                  clear hK K
                  refine normA 87 ?_
                  refine pureA 22 89 ?_
                  refine pureA 23 90 ?_
                  refine pureA 24 91 ?_
                  refine pureA 25 92 ?_
                  refine pureA 26 93 ?_
                  refine pureA 29 96 ?_
                  refine takeA 27 94 rfl rfl (by rintro w' ⟨s0, s1, s2, s3⟩; go_simp; with_reducible rfl) ?_
                  refine takeA 30 97 rfl rfl (by rintro w' ⟨s0, s1, s2, s3⟩; go_simp; with_reducible rfl) ?_
                  refine oneA 28 (some 95) (fun K hK => ?_)
                  refine goes_ Tryd.func46 (by kernel_rfl) rfl #[.int .i64 t549] (by rfl) rfl rfl (by (try simp only [List.map_toArray, List.map_cons, List.map_nil]); first | done | rfl | (simp only [List.length_drop, List.length_take]; rfl)) ?_
                  with_reducible refine (remontoirref00_Size.calls t549 t559 _ A50.out).mono ?_
                  rintro e w' ⟨rfl, ⟨nd, rfl⟩⟩
                  refine ⟨_, rfl, ?_⟩
                  refine hK.out _ _ ⟨bc BK552 0, bc BK552 1, hHeld.2.2.1, hHeld.2.2.2⟩ (fun hHeld => ?_)
                  clear hK K
                  refine normA 95 ?_
                  refine oneA 31 (some 98) (fun K hK => ?_)
                  refine goes_ Tryd.func46 (by kernel_rfl) rfl #[.int .i64 t550] (by rfl) rfl rfl (by (try simp only [List.map_toArray, List.map_cons, List.map_nil]); first | done | rfl | (simp only [List.length_drop, List.length_take]; rfl)) ?_
                  with_reducible refine (remontoirref00_Size.calls t550 t560 _ A51.out).mono ?_
                  rintro e w' ⟨rfl, ⟨nd, rfl⟩⟩
                  refine ⟨_, rfl, ?_⟩
                  refine hK.out _ _ ⟨bc BK552 0, bc BK552 1, hHeld.2.2.1, hHeld.2.2.2⟩ (fun hHeld => ?_)
                  clear hK K
                  refine normA 98 ?_
                  refine pureA 32 99 ?_
                  refine pureA 33 100 ?_
                  refine pureA 34 101 ?_
                  refine pureA 35 102 ?_
                  refine pureA 36 103 ?_
                  refine pureA 37 104 ?_
                  refine pureA 38 105 ?_
                  refine pureA 39 106 ?_
                  refine pureA 40 107 ?_
                  refine pureU 41 108 ?_
                  refine pureU 42 109 ?_
                  refine pureU 43 110 ?_
                  refine pureU 44 111 ?_
                  refine pureU 45 112 ?_
                  refine pureU 46 113 ?_
                  refine pureU 47 114 ?_
                  refine pureU 48 115 ?_
                  refine pureA 49 116 ?_
                  refine pureA 50 117 ?_
                  refine pureU 51 118 ?_
                  refine pureU 52 119 ?_
                  refine pureU 53 120 ?_
                  refine pureU 54 121 ?_
                  refine pureU 55 122 ?_
                  refine pureU 56 123 ?_
                  refine pureU 57 124 ?_
                  refine pureU 58 125 ?_
                  refine pureA 59 126 ?_
                  refine done_ (done_of HT_.out (by kernel_rfl)) ?_
                  try go_wp2
                  go_meet
                  case rel => exact ⟨_, (true), (by first | rfl | (simp; done) | (simp [*]; done)), H', ⟨by have := HJ7.out; have := HK2.out; first | omega | exact Nat.le_refl _⟩, ⟨by (with_reducible repeat (first | apply Kd.R_alloc | apply Kd.R_drewN | apply Kd.R_drew)); exact HO_5.out⟩, ⟨by (with_reducible repeat (first | apply Kd.V_alloc | apply Kd.V_drewN | apply Kd.V_drew)); exact Kd.V_mono HO_544006.out (fun _ hk => ⟨hk.1.1, ⟨hk.1.2.1, ⟨hk.1.2.2, hk.2⟩⟩⟩)⟩, ⟨by (with_reducible repeat (first | apply Kd.V_alloc | apply Kd.V_drewN | apply Kd.V_drew)); exact Kd.V_mono HO_544007.out (fun _ hk => ⟨hk.1.1, ⟨hk.1.2.1, ⟨hk.1.2.2, hk.2⟩⟩⟩)⟩, ⟨bk BK524⟩, ⟨bk BK543⟩, ⟨bk BK552⟩, ⟨bl HB⟩⟩
                 ·
                  rw [if_neg c54] at H
                  have c54b0 : decide (t546 < t553) = false := decide_eq_false c54
                  clear c54
                  by_cases c58 : x11_2 < t545
                  ·
                   rw [if_pos c58] at H
                   have c58b0 : decide (x11_2 < t545) = true := decide_eq_true c58
                   clear c58
                   by_cases c59 : t553 = t546
                   ·
                    rw [if_pos c59] at H
                    have c59b0 : (t553 == t546) = true := beq_iff_eq.mpr c59
                    have c59b1 : (t553 != t546) = false := bne_eq_false_iff_eq.mpr c59
                    clear c59
                    have H' := Aside0.mk H
                    clear H
                    try go_wp2
                    replace HO_5 := Aside0.mk (Kd.R_drew HO_5.out)
                    replace HO_544006 := Aside0.mk (Kd.V_drew HO_544006.out)
                    replace HO_544007 := Aside0.mk (Kd.V_drew HO_544007.out)
                    replace BK524 := Aside0.mk (blk_drew BK524.out)
                    replace BK543 := Aside0.mk (blk_drew BK543.out)
                    replace BK552 := Aside0.mk (blk_drew BK552.out)
                    replace HB := Aside0.mk (below_drew1 HB.out)
                    obtain ⟨Ao61, co61, eo61⟩ := Kd.R_slice HO_5.out
                    (first | subst eo61 | (injection eo61 with f1_ f2_ f3_; have f4_ := f1_.symm; have f5_ := f3_.symm; clear f1_ f2_ f3_; subst f4_; subst f5_))
                    have p555 : 0 ≤ (x11_2 : Int) := of_decide_eq_true (by first | (with_reducible assumption) | assumption)
                    have q555 : x11_2 < (t527.length : Int) := of_decide_eq_true (by first | (with_reducible assumption) | assumption)
                    obtain ⟨ad555, e555, hx555_0⟩ := Kd.at_int (Kd.R_reads' HO_5.out).2.2 x11_2 p555 q555
                    cases e555
                    replace p555 := eq_true p555
                    replace q555 := eq_true q555
                    have p557 : 0 ≤ (x11_2 : Int) := of_decide_eq_true (by first | (with_reducible assumption) | assumption)
                    have q557 : x11_2 < (t527.length : Int) := of_decide_eq_true (by first | (with_reducible assumption) | assumption)
                    obtain ⟨ad557, e557, hx557_0⟩ := Kd.at_int (Kd.R_reads' HO_5.out).2.2 x11_2 p557 q557
                    obtain rfl : ad555 = ad557 := (by injection e557)
                    replace p557 := eq_true p557
                    replace q557 := eq_true q557
                    refine start_ (n := 60) (S := fun w' => w'.cell? ⟨gb552, 0, none⟩ = some (.int .i64 t549) ∧ w'.cell? ⟨gb552, 1, none⟩ = some (.int .i64 t550) ∧ w'.cell? (ad555.add (x11_2).toNat) = some (.int .i64 (rd t527 x11_2)) ∧ w'.cell? (ad555.add (x11_2).toNat) = some (.int .i64 (rd t527 x11_2))) (ds := []) #[false, false, false, false, false, false, false, false, false, false, false, false, false, false, false, false, false, false, false, false, false, false, false, false, false, false, false, false, false, false, false, false, false, false, false, false, false, false, false, false, false, false, false, false, false, false, false, false, false, false, false, false, false, false, false, false, false, false, false, false] (by kernel_rfl) rfl rfl ⟨bc BK552 0, bc BK552 1, hx555_0, hx557_0⟩ (fun hHeld => ?_); refine with_tabW remontoirlaw04_ScaleTrue.tab14 remontoirlaw04_ScaleTrue.bits14 (fun HT_ HW_ => ?_)
                    generalize w38.drew = w60 at HO_5 HO_544006 HO_544007 BK524 BK543 BK552 HB hx555_0 hx557_0 hHeld ⊢
                    refine pureA 0 67 ?_
                    refine pureA 1 68 ?_
                    refine pureA 2 69 ?_
                    refine pureA 3 70 ?_
                    refine pureA 4 71 ?_
                    refine pureA 5 72 ?_
                    refine pureA 6 73 ?_
                    refine pureA 8 75 ?_
                    refine pureA 9 76 ?_
                    refine pureA 10 77 ?_
                    refine takeA 7 74 rfl rfl (by rintro w' ⟨s0, s1, s2, s3⟩; go_simp; with_reducible rfl) ?_
                    refine takeA 11 78 rfl rfl (by rintro w' ⟨s0, s1, s2, s3⟩; go_simp; with_reducible rfl) ?_
                    refine oneA 12 (some 79) (fun K hK => ?_)
                    refine goes_ Tryd.func43 (by kernel_rfl) rfl #[.agg #[.int .i64 t549, .int .i64 t550], .int .i64 (rd t527 x11_2)] (by rfl) rfl rfl (by (try simp only [List.map_toArray, List.map_cons, List.map_nil]); first | done | rfl | (simp only [List.length_drop, List.length_take]; rfl)) ?_
                    with_reducible refine (remontoirref00_Has.calls t549 t550 (rd t527 x11_2) true _ A43.out).mono ?_
                    rintro e w62 ⟨rfl, hb⟩
                    have HS2_ := (hb.cell (World.block_lt_of_cell? _ _ (hHeld.2.2.1))).trans (hHeld.2.2.1)
                    have HS3_ := (hb.cell (World.block_lt_of_cell? _ _ (hHeld.2.2.2))).trans (hHeld.2.2.2)
                    refine ⟨_, rfl, ?_⟩
                    replace HO_5 := Aside0.mk (Kd.R_below (rk HO_5) hb)
                    replace HO_544006 := Aside0.mk (Kd.V_below (by (with_reducible repeat (first | apply Kd.V_alloc | apply Kd.V_drewN | apply Kd.V_drew)); exact HO_544006.out) hb)
                    replace HO_544007 := Aside0.mk (Kd.V_below (by (with_reducible repeat (first | apply Kd.V_alloc | apply Kd.V_drewN | apply Kd.V_drew)); exact HO_544007.out) hb)
                    replace BK524 := Aside0.mk (blk_below (bk BK524) hb)
                    replace BK543 := Aside0.mk (blk_below (bk BK543) hb)
                    replace BK552 := Aside0.mk (blk_below (bk BK552) hb)
                    replace HB := Aside0.mk (below_step (bl HB) hb)
                    (try clear hb)
                    (try clear hb2)
                    (try clear hk)
                    (try clear hi)
                    refine hK.out _ _ ⟨bc BK552 0, bc BK552 1, HS2_, HS3_⟩ (fun hHeld => ?_)
                    clear hK K
                    refine normA 79 ?_
                    refine pureA 13 80 ?_
                    refine pureA 14 81 ?_
                    refine pureA 15 82 ?_
                    refine pureA 16 83 ?_
                    refine pureA 17 84 ?_
                    refine pureA 18 85 ?_
                    refine pureA 21 88 ?_
                    refine takeA 19 86 rfl rfl (by rintro w' ⟨s0, s1, s2, s3⟩; go_simp; with_reducible rfl) ?_
                    refine oneA 20 (some 87) (fun K hK => ?_)
                    refine goes_ Tryd.func46 (by kernel_rfl) rfl #[.int .i64 (rd t527 x11_2)] (by rfl) rfl rfl (by (try simp only [List.map_toArray, List.map_cons, List.map_nil]); first | done | rfl | (simp only [List.length_drop, List.length_take]; rfl)) ?_
                    with_reducible refine (remontoirref00_Size.calls (rd t527 x11_2) t558 _ A45.out).mono ?_
                    rintro e w' ⟨rfl, ⟨nd, rfl⟩⟩
                    refine ⟨_, rfl, ?_⟩
                    refine hK.out _ _ ⟨bc BK552 0, bc BK552 1, hHeld.2.2.1, hHeld.2.2.2⟩ (fun hHeld => ?_)
                    clear hK K
                    refine normA 87 ?_
                    refine pureA 22 89 ?_
                    refine pureA 23 90 ?_
                    refine pureA 24 91 ?_
                    refine pureA 25 92 ?_
                    refine pureA 26 93 ?_
                    refine pureA 29 96 ?_
                    refine takeA 27 94 rfl rfl (by rintro w' ⟨s0, s1, s2, s3⟩; go_simp; with_reducible rfl) ?_
                    refine takeA 30 97 rfl rfl (by rintro w' ⟨s0, s1, s2, s3⟩; go_simp; with_reducible rfl) ?_
                    refine oneA 28 (some 95) (fun K hK => ?_)
                    refine goes_ Tryd.func46 (by kernel_rfl) rfl #[.int .i64 t549] (by rfl) rfl rfl (by (try simp only [List.map_toArray, List.map_cons, List.map_nil]); first | done | rfl | (simp only [List.length_drop, List.length_take]; rfl)) ?_
                    with_reducible refine (remontoirref00_Size.calls t549 t559 _ A50.out).mono ?_
                    rintro e w' ⟨rfl, ⟨nd, rfl⟩⟩
                    refine ⟨_, rfl, ?_⟩
                    refine hK.out _ _ ⟨bc BK552 0, bc BK552 1, hHeld.2.2.1, hHeld.2.2.2⟩ (fun hHeld => ?_)
                    clear hK K
                    refine normA 95 ?_
                    refine oneA 31 (some 98) (fun K hK => ?_)
                    refine goes_ Tryd.func46 (by kernel_rfl) rfl #[.int .i64 t550] (by rfl) rfl rfl (by (try simp only [List.map_toArray, List.map_cons, List.map_nil]); first | done | rfl | (simp only [List.length_drop, List.length_take]; rfl)) ?_
                    with_reducible refine (remontoirref00_Size.calls t550 t560 _ A51.out).mono ?_
                    rintro e w' ⟨rfl, ⟨nd, rfl⟩⟩
                    refine ⟨_, rfl, ?_⟩
                    refine hK.out _ _ ⟨bc BK552 0, bc BK552 1, hHeld.2.2.1, hHeld.2.2.2⟩ (fun hHeld => ?_)
                    clear hK K
                    refine normA 98 ?_
                    refine pureA 32 99 ?_
                    refine pureA 33 100 ?_
                    refine pureA 34 101 ?_
                    refine pureA 35 102 ?_
                    refine pureA 36 103 ?_
                    refine pureA 37 104 ?_
                    refine pureA 38 105 ?_
                    refine pureA 39 106 ?_
                    refine pureA 40 107 ?_
                    refine pureA 41 108 ?_
                    refine pureA 42 109 ?_
                    refine pureA 43 110 ?_
                    refine pureA 44 111 ?_
                    refine pureA 45 112 ?_
                    refine pureA 46 113 ?_
                    refine pureA 47 114 ?_
                    refine pureA 48 115 ?_
                    refine pureA 49 116 ?_
                    refine pureA 50 117 ?_
                    refine pureU 51 118 ?_
                    refine pureU 52 119 ?_
                    refine pureU 53 120 ?_
                    refine pureU 54 121 ?_
                    refine pureU 55 122 ?_
                    refine pureU 56 123 ?_
                    refine pureU 57 124 ?_
                    refine pureU 58 125 ?_
                    refine pureA 59 126 ?_
                    refine done_ (done_of HT_.out (by kernel_rfl)) ?_
                    try go_wp2
                    go_meet
                    case rel => exact ⟨_, (true), (by first | rfl | (simp; done) | (simp [*]; done)), H', ⟨by have := HJ7.out; have := HK2.out; first | omega | exact Nat.le_refl _⟩, ⟨by (with_reducible repeat (first | apply Kd.R_alloc | apply Kd.R_drewN | apply Kd.R_drew)); exact HO_5.out⟩, ⟨by (with_reducible repeat (first | apply Kd.V_alloc | apply Kd.V_drewN | apply Kd.V_drew)); exact Kd.V_mono HO_544006.out (fun _ hk => ⟨hk.1.1, ⟨hk.1.2.1, ⟨hk.1.2.2, hk.2⟩⟩⟩)⟩, ⟨by (with_reducible repeat (first | apply Kd.V_alloc | apply Kd.V_drewN | apply Kd.V_drew)); exact Kd.V_mono HO_544007.out (fun _ hk => ⟨hk.1.1, ⟨hk.1.2.1, ⟨hk.1.2.2, hk.2⟩⟩⟩)⟩, ⟨bk BK524⟩, ⟨bk BK543⟩, ⟨bk BK552⟩, ⟨bl HB⟩⟩
                   ·
                    rw [if_neg c59] at H
                    have c59b0 : (t553 == t546) = false := beq_eq_false_iff_ne.mpr c59
                    have c59b1 : (t553 != t546) = true := bne_iff_ne.mpr c59
                    by_cases c63 : x11_2 = t545
                    ·
                     rw [if_pos c63] at H
                     have c63b0 : (x11_2 == t545) = true := beq_iff_eq.mpr c63
                     have c63b1 : (x11_2 != t545) = false := bne_eq_false_iff_eq.mpr c63
                     clear c63
                     have H' := Aside0.mk H
                     clear H
                     try go_wp2
                     replace HO_5 := Aside0.mk (Kd.R_drew HO_5.out)
                     replace HO_544006 := Aside0.mk (Kd.V_drew HO_544006.out)
                     replace HO_544007 := Aside0.mk (Kd.V_drew HO_544007.out)
                     replace BK524 := Aside0.mk (blk_drew BK524.out)
                     replace BK543 := Aside0.mk (blk_drew BK543.out)
                     replace BK552 := Aside0.mk (blk_drew BK552.out)
                     replace HB := Aside0.mk (below_drew1 HB.out)
                     obtain ⟨Ao65, co65, eo65⟩ := Kd.R_slice HO_5.out
                     (first | subst eo65 | (injection eo65 with f1_ f2_ f3_; have f4_ := f1_.symm; have f5_ := f3_.symm; clear f1_ f2_ f3_; subst f4_; subst f5_))
                     have p555 : 0 ≤ (x11_2 : Int) := of_decide_eq_true (by first | (with_reducible assumption) | assumption)
                     have q555 : x11_2 < (t527.length : Int) := of_decide_eq_true (by first | (with_reducible assumption) | assumption)
                     obtain ⟨ad555, e555, hx555_0⟩ := Kd.at_int (Kd.R_reads' HO_5.out).2.2 x11_2 p555 q555
                     cases e555
                     replace p555 := eq_true p555
                     replace q555 := eq_true q555
                     have p557 : 0 ≤ (x11_2 : Int) := of_decide_eq_true (by first | (with_reducible assumption) | assumption)
                     have q557 : x11_2 < (t527.length : Int) := of_decide_eq_true (by first | (with_reducible assumption) | assumption)
                     obtain ⟨ad557, e557, hx557_0⟩ := Kd.at_int (Kd.R_reads' HO_5.out).2.2 x11_2 p557 q557
                     obtain rfl : ad555 = ad557 := (by injection e557)
                     replace p557 := eq_true p557
                     replace q557 := eq_true q557
                     refine start_ (n := 60) (S := fun w' => w'.cell? ⟨gb552, 0, none⟩ = some (.int .i64 t549) ∧ w'.cell? ⟨gb552, 1, none⟩ = some (.int .i64 t550) ∧ w'.cell? (ad555.add (x11_2).toNat) = some (.int .i64 (rd t527 x11_2)) ∧ w'.cell? (ad555.add (x11_2).toNat) = some (.int .i64 (rd t527 x11_2))) (ds := []) #[false, false, false, false, false, false, false, false, false, false, false, false, false, false, false, false, false, false, false, false, false, false, false, false, false, false, false, false, false, false, false, false, false, false, false, false, false, false, false, false, false, false, false, false, false, false, false, false, false, false, false, false, false, false, false, false, false, false, false, false] (by kernel_rfl) rfl rfl ⟨bc BK552 0, bc BK552 1, hx555_0, hx557_0⟩ (fun hHeld => ?_); refine with_tabW remontoirlaw04_ScaleTrue.tab14 remontoirlaw04_ScaleTrue.bits14 (fun HT_ HW_ => ?_)
                     generalize w38.drew = w64 at HO_5 HO_544006 HO_544007 BK524 BK543 BK552 HB hx555_0 hx557_0 hHeld ⊢
                     refine pureA 0 67 ?_
                     refine pureA 1 68 ?_
                     refine pureA 2 69 ?_
                     refine pureA 3 70 ?_
                     refine pureA 4 71 ?_
                     refine pureA 5 72 ?_
                     refine pureA 6 73 ?_
                     refine pureA 8 75 ?_
                     refine pureA 9 76 ?_
                     refine pureA 10 77 ?_
                     refine takeA 7 74 rfl rfl (by rintro w' ⟨s0, s1, s2, s3⟩; go_simp; with_reducible rfl) ?_
                     refine takeA 11 78 rfl rfl (by rintro w' ⟨s0, s1, s2, s3⟩; go_simp; with_reducible rfl) ?_
                     refine oneA 12 (some 79) (fun K hK => ?_)
                     refine goes_ Tryd.func43 (by kernel_rfl) rfl #[.agg #[.int .i64 t549, .int .i64 t550], .int .i64 (rd t527 x11_2)] (by rfl) rfl rfl (by (try simp only [List.map_toArray, List.map_cons, List.map_nil]); first | done | rfl | (simp only [List.length_drop, List.length_take]; rfl)) ?_
                     with_reducible refine (remontoirref00_Has.calls t549 t550 (rd t527 x11_2) true _ A43.out).mono ?_
                     rintro e w66 ⟨rfl, hb⟩
                     have HS2_ := (hb.cell (World.block_lt_of_cell? _ _ (hHeld.2.2.1))).trans (hHeld.2.2.1)
                     have HS3_ := (hb.cell (World.block_lt_of_cell? _ _ (hHeld.2.2.2))).trans (hHeld.2.2.2)
                     refine ⟨_, rfl, ?_⟩
                     replace HO_5 := Aside0.mk (Kd.R_below (rk HO_5) hb)
                     replace HO_544006 := Aside0.mk (Kd.V_below (by (with_reducible repeat (first | apply Kd.V_alloc | apply Kd.V_drewN | apply Kd.V_drew)); exact HO_544006.out) hb)
                     replace HO_544007 := Aside0.mk (Kd.V_below (by (with_reducible repeat (first | apply Kd.V_alloc | apply Kd.V_drewN | apply Kd.V_drew)); exact HO_544007.out) hb)
                     replace BK524 := Aside0.mk (blk_below (bk BK524) hb)
                     replace BK543 := Aside0.mk (blk_below (bk BK543) hb)
                     replace BK552 := Aside0.mk (blk_below (bk BK552) hb)
                     replace HB := Aside0.mk (below_step (bl HB) hb)
                     (try clear hb)
                     (try clear hb2)
                     (try clear hk)
                     (try clear hi)
                     refine hK.out _ _ ⟨bc BK552 0, bc BK552 1, HS2_, HS3_⟩ (fun hHeld => ?_)
                     clear hK K
                     refine normA 79 ?_
                     refine pureA 13 80 ?_
                     refine pureA 14 81 ?_
                     refine pureA 15 82 ?_
                     refine pureA 16 83 ?_
                     refine pureA 17 84 ?_
                     refine pureA 18 85 ?_
                     refine pureA 21 88 ?_
                     refine takeA 19 86 rfl rfl (by rintro w' ⟨s0, s1, s2, s3⟩; go_simp; with_reducible rfl) ?_
                     refine oneA 20 (some 87) (fun K hK => ?_)
                     refine goes_ Tryd.func46 (by kernel_rfl) rfl #[.int .i64 (rd t527 x11_2)] (by rfl) rfl rfl (by (try simp only [List.map_toArray, List.map_cons, List.map_nil]); first | done | rfl | (simp only [List.length_drop, List.length_take]; rfl)) ?_
                     with_reducible refine (remontoirref00_Size.calls (rd t527 x11_2) t558 _ A45.out).mono ?_
                     rintro e w' ⟨rfl, ⟨nd, rfl⟩⟩
                     refine ⟨_, rfl, ?_⟩
                     refine hK.out _ _ ⟨bc BK552 0, bc BK552 1, hHeld.2.2.1, hHeld.2.2.2⟩ (fun hHeld => ?_)
                     clear hK K
                     refine normA 87 ?_
                     refine pureA 22 89 ?_
                     refine pureA 23 90 ?_
                     refine pureA 24 91 ?_
                     refine pureA 25 92 ?_
                     refine pureA 26 93 ?_
                     refine pureA 29 96 ?_
                     refine takeA 27 94 rfl rfl (by rintro w' ⟨s0, s1, s2, s3⟩; go_simp; with_reducible rfl) ?_
                     refine takeA 30 97 rfl rfl (by rintro w' ⟨s0, s1, s2, s3⟩; go_simp; with_reducible rfl) ?_
                     refine oneA 28 (some 95) (fun K hK => ?_)
                     refine goes_ Tryd.func46 (by kernel_rfl) rfl #[.int .i64 t549] (by rfl) rfl rfl (by (try simp only [List.map_toArray, List.map_cons, List.map_nil]); first | done | rfl | (simp only [List.length_drop, List.length_take]; rfl)) ?_
                     with_reducible refine (remontoirref00_Size.calls t549 t559 _ A50.out).mono ?_
                     rintro e w' ⟨rfl, ⟨nd, rfl⟩⟩
                     refine ⟨_, rfl, ?_⟩
                     refine hK.out _ _ ⟨bc BK552 0, bc BK552 1, hHeld.2.2.1, hHeld.2.2.2⟩ (fun hHeld => ?_)
                     clear hK K
                     refine normA 95 ?_
                     refine oneA 31 (some 98) (fun K hK => ?_)
                     refine goes_ Tryd.func46 (by kernel_rfl) rfl #[.int .i64 t550] (by rfl) rfl rfl (by (try simp only [List.map_toArray, List.map_cons, List.map_nil]); first | done | rfl | (simp only [List.length_drop, List.length_take]; rfl)) ?_
                     with_reducible refine (remontoirref00_Size.calls t550 t560 _ A51.out).mono ?_
                     rintro e w' ⟨rfl, ⟨nd, rfl⟩⟩
                     refine ⟨_, rfl, ?_⟩
                     refine hK.out _ _ ⟨bc BK552 0, bc BK552 1, hHeld.2.2.1, hHeld.2.2.2⟩ (fun hHeld => ?_)
                     clear hK K
                     refine normA 98 ?_
                     refine pureA 32 99 ?_
                     refine pureA 33 100 ?_
                     refine pureA 34 101 ?_
                     refine pureA 35 102 ?_
                     refine pureA 36 103 ?_
                     refine pureA 37 104 ?_
                     refine pureA 38 105 ?_
                     refine pureA 39 106 ?_
                     refine pureA 40 107 ?_
                     refine pureA 41 108 ?_
                     refine pureA 42 109 ?_
                     refine pureA 43 110 ?_
                     refine pureA 44 111 ?_
                     refine pureA 45 112 ?_
                     refine pureA 46 113 ?_
                     refine pureA 47 114 ?_
                     refine pureA 48 115 ?_
                     refine pureA 49 116 ?_
                     refine pureA 50 117 ?_
                     refine pureA 51 118 ?_
                     refine pureA 52 119 ?_
                     refine pureA 53 120 ?_
                     refine pureA 54 121 ?_
                     refine pureA 55 122 ?_
                     refine pureA 56 123 ?_
                     refine pureA 57 124 ?_
                     refine pureA 58 125 ?_
                     refine pureA 59 126 ?_
                     refine done_ (done_of HT_.out (by kernel_rfl)) ?_
                     try go_wp2
                     go_meet
                     case rel => exact ⟨_, ((t553 != t546)), (by first | rfl | (simp; done) | (simp [*]; done)), H', ⟨by have := HJ7.out; have := HK2.out; first | omega | exact Nat.le_refl _⟩, ⟨by (with_reducible repeat (first | apply Kd.R_alloc | apply Kd.R_drewN | apply Kd.R_drew)); exact HO_5.out⟩, ⟨by (with_reducible repeat (first | apply Kd.V_alloc | apply Kd.V_drewN | apply Kd.V_drew)); exact Kd.V_mono HO_544006.out (fun _ hk => ⟨hk.1.1, ⟨hk.1.2.1, ⟨hk.1.2.2, hk.2⟩⟩⟩)⟩, ⟨by (with_reducible repeat (first | apply Kd.V_alloc | apply Kd.V_drewN | apply Kd.V_drew)); exact Kd.V_mono HO_544007.out (fun _ hk => ⟨hk.1.1, ⟨hk.1.2.1, ⟨hk.1.2.2, hk.2⟩⟩⟩)⟩, ⟨bk BK524⟩, ⟨bk BK543⟩, ⟨bk BK552⟩, ⟨bl HB⟩⟩
                    ·
                     rw [if_neg c63] at H
                     have c63b0 : (x11_2 == t545) = false := beq_eq_false_iff_ne.mpr c63
                     have c63b1 : (x11_2 != t545) = true := bne_iff_ne.mpr c63
                     have H' := Aside0.mk H
                     clear H
                     try go_wp2
                     replace HO_5 := Aside0.mk (Kd.R_drew HO_5.out)
                     replace HO_544006 := Aside0.mk (Kd.V_drew HO_544006.out)
                     replace HO_544007 := Aside0.mk (Kd.V_drew HO_544007.out)
                     replace BK524 := Aside0.mk (blk_drew BK524.out)
                     replace BK543 := Aside0.mk (blk_drew BK543.out)
                     replace BK552 := Aside0.mk (blk_drew BK552.out)
                     replace HB := Aside0.mk (below_drew1 HB.out)
                     obtain ⟨Ao68, co68, eo68⟩ := Kd.R_slice HO_5.out
                     (first | subst eo68 | (injection eo68 with f1_ f2_ f3_; have f4_ := f1_.symm; have f5_ := f3_.symm; clear f1_ f2_ f3_; subst f4_; subst f5_))
                     have p555 : 0 ≤ (x11_2 : Int) := of_decide_eq_true (by first | (with_reducible assumption) | assumption)
                     have q555 : x11_2 < (t527.length : Int) := of_decide_eq_true (by first | (with_reducible assumption) | assumption)
                     obtain ⟨ad555, e555, hx555_0⟩ := Kd.at_int (Kd.R_reads' HO_5.out).2.2 x11_2 p555 q555
                     cases e555
                     replace p555 := eq_true p555
                     replace q555 := eq_true q555
                     have p557 : 0 ≤ (x11_2 : Int) := of_decide_eq_true (by first | (with_reducible assumption) | assumption)
                     have q557 : x11_2 < (t527.length : Int) := of_decide_eq_true (by first | (with_reducible assumption) | assumption)
                     obtain ⟨ad557, e557, hx557_0⟩ := Kd.at_int (Kd.R_reads' HO_5.out).2.2 x11_2 p557 q557
                     obtain rfl : ad555 = ad557 := (by injection e557)
                     replace p557 := eq_true p557
                     replace q557 := eq_true q557
                     refine start_ (n := 60) (S := fun w' => w'.cell? ⟨gb552, 0, none⟩ = some (.int .i64 t549) ∧ w'.cell? ⟨gb552, 1, none⟩ = some (.int .i64 t550) ∧ w'.cell? (ad555.add (x11_2).toNat) = some (.int .i64 (rd t527 x11_2)) ∧ w'.cell? (ad555.add (x11_2).toNat) = some (.int .i64 (rd t527 x11_2))) (ds := []) #[false, false, false, false, false, false, false, false, false, false, false, false, false, false, false, false, false, false, false, false, false, false, false, false, false, false, false, false, false, false, false, false, false, false, false, false, false, false, false, false, false, false, false, false, false, false, false, false, false, false, false, false, false, false, false, false, false, false, false, false] (by kernel_rfl) rfl rfl ⟨bc BK552 0, bc BK552 1, hx555_0, hx557_0⟩ (fun hHeld => ?_); refine with_tabW remontoirlaw04_ScaleTrue.tab14 remontoirlaw04_ScaleTrue.bits14 (fun HT_ HW_ => ?_)
                     generalize w38.drew = w67 at HO_5 HO_544006 HO_544007 BK524 BK543 BK552 HB hx555_0 hx557_0 hHeld ⊢
                     refine pureA 0 67 ?_
                     refine pureA 1 68 ?_
                     refine pureA 2 69 ?_
                     refine pureA 3 70 ?_
                     refine pureA 4 71 ?_
                     refine pureA 5 72 ?_
                     refine pureA 6 73 ?_
                     refine pureA 8 75 ?_
                     refine pureA 9 76 ?_
                     refine pureA 10 77 ?_
                     refine takeA 7 74 rfl rfl (by rintro w' ⟨s0, s1, s2, s3⟩; go_simp; with_reducible rfl) ?_
                     refine takeA 11 78 rfl rfl (by rintro w' ⟨s0, s1, s2, s3⟩; go_simp; with_reducible rfl) ?_
                     refine oneA 12 (some 79) (fun K hK => ?_)
                     refine goes_ Tryd.func43 (by kernel_rfl) rfl #[.agg #[.int .i64 t549, .int .i64 t550], .int .i64 (rd t527 x11_2)] (by rfl) rfl rfl (by (try simp only [List.map_toArray, List.map_cons, List.map_nil]); first | done | rfl | (simp only [List.length_drop, List.length_take]; rfl)) ?_
                     with_reducible refine (remontoirref00_Has.calls t549 t550 (rd t527 x11_2) true _ A43.out).mono ?_
                     rintro e w69 ⟨rfl, hb⟩
                     have HS2_ := (hb.cell (World.block_lt_of_cell? _ _ (hHeld.2.2.1))).trans (hHeld.2.2.1)
                     have HS3_ := (hb.cell (World.block_lt_of_cell? _ _ (hHeld.2.2.2))).trans (hHeld.2.2.2)
                     refine ⟨_, rfl, ?_⟩
                     replace HO_5 := Aside0.mk (Kd.R_below (rk HO_5) hb)
                     replace HO_544006 := Aside0.mk (Kd.V_below (by (with_reducible repeat (first | apply Kd.V_alloc | apply Kd.V_drewN | apply Kd.V_drew)); exact HO_544006.out) hb)
                     replace HO_544007 := Aside0.mk (Kd.V_below (by (with_reducible repeat (first | apply Kd.V_alloc | apply Kd.V_drewN | apply Kd.V_drew)); exact HO_544007.out) hb)
                     replace BK524 := Aside0.mk (blk_below (bk BK524) hb)
                     replace BK543 := Aside0.mk (blk_below (bk BK543) hb)
                     replace BK552 := Aside0.mk (blk_below (bk BK552) hb)
                     replace HB := Aside0.mk (below_step (bl HB) hb)
                     (try clear hb)
                     (try clear hb2)
                     (try clear hk)
                     (try clear hi)
                     refine hK.out _ _ ⟨bc BK552 0, bc BK552 1, HS2_, HS3_⟩ (fun hHeld => ?_)
                     clear hK K
                     refine normA 79 ?_
                     refine pureA 13 80 ?_
                     refine pureA 14 81 ?_
                     refine pureA 15 82 ?_
                     refine pureA 16 83 ?_
                     refine pureA 17 84 ?_
                     refine pureA 18 85 ?_
                     refine pureA 21 88 ?_
                     refine takeA 19 86 rfl rfl (by rintro w' ⟨s0, s1, s2, s3⟩; go_simp; with_reducible rfl) ?_
                     refine oneA 20 (some 87) (fun K hK => ?_)
                     refine goes_ Tryd.func46 (by kernel_rfl) rfl #[.int .i64 (rd t527 x11_2)] (by rfl) rfl rfl (by (try simp only [List.map_toArray, List.map_cons, List.map_nil]); first | done | rfl | (simp only [List.length_drop, List.length_take]; rfl)) ?_
                     with_reducible refine (remontoirref00_Size.calls (rd t527 x11_2) t558 _ A45.out).mono ?_
                     rintro e w' ⟨rfl, ⟨nd, rfl⟩⟩
                     refine ⟨_, rfl, ?_⟩
                     refine hK.out _ _ ⟨bc BK552 0, bc BK552 1, hHeld.2.2.1, hHeld.2.2.2⟩ (fun hHeld => ?_)
                     clear hK K
                     refine normA 87 ?_
                     refine pureA 22 89 ?_
                     refine pureA 23 90 ?_
                     refine pureA 24 91 ?_
                     refine pureA 25 92 ?_
                     refine pureA 26 93 ?_
                     refine pureA 29 96 ?_
                     refine takeA 27 94 rfl rfl (by rintro w' ⟨s0, s1, s2, s3⟩; go_simp; with_reducible rfl) ?_
                     refine takeA 30 97 rfl rfl (by rintro w' ⟨s0, s1, s2, s3⟩; go_simp; with_reducible rfl) ?_
                     refine oneA 28 (some 95) (fun K hK => ?_)
                     refine goes_ Tryd.func46 (by kernel_rfl) rfl #[.int .i64 t549] (by rfl) rfl rfl (by (try simp only [List.map_toArray, List.map_cons, List.map_nil]); first | done | rfl | (simp only [List.length_drop, List.length_take]; rfl)) ?_
                     with_reducible refine (remontoirref00_Size.calls t549 t559 _ A50.out).mono ?_
                     rintro e w' ⟨rfl, ⟨nd, rfl⟩⟩
                     refine ⟨_, rfl, ?_⟩
                     refine hK.out _ _ ⟨bc BK552 0, bc BK552 1, hHeld.2.2.1, hHeld.2.2.2⟩ (fun hHeld => ?_)
                     clear hK K
                     refine normA 95 ?_
                     refine oneA 31 (some 98) (fun K hK => ?_)
                     refine goes_ Tryd.func46 (by kernel_rfl) rfl #[.int .i64 t550] (by rfl) rfl rfl (by (try simp only [List.map_toArray, List.map_cons, List.map_nil]); first | done | rfl | (simp only [List.length_drop, List.length_take]; rfl)) ?_
                     with_reducible refine (remontoirref00_Size.calls t550 t560 _ A51.out).mono ?_
                     rintro e w' ⟨rfl, ⟨nd, rfl⟩⟩
                     refine ⟨_, rfl, ?_⟩
                     refine hK.out _ _ ⟨bc BK552 0, bc BK552 1, hHeld.2.2.1, hHeld.2.2.2⟩ (fun hHeld => ?_)
                     clear hK K
                     refine normA 98 ?_
                     refine pureA 32 99 ?_
                     refine pureA 33 100 ?_
                     refine pureA 34 101 ?_
                     refine pureA 35 102 ?_
                     refine pureA 36 103 ?_
                     refine pureA 37 104 ?_
                     refine pureA 38 105 ?_
                     refine pureA 39 106 ?_
                     refine pureA 40 107 ?_
                     refine pureA 41 108 ?_
                     refine pureA 42 109 ?_
                     refine pureA 43 110 ?_
                     refine pureA 44 111 ?_
                     refine pureA 45 112 ?_
                     refine pureA 46 113 ?_
                     refine pureA 47 114 ?_
                     refine pureA 48 115 ?_
                     refine pureA 49 116 ?_
                     refine pureA 50 117 ?_
                     refine pureA 51 118 ?_
                     refine pureA 52 119 ?_
                     refine pureA 53 120 ?_
                     refine pureA 54 121 ?_
                     refine pureU 55 122 ?_
                     refine pureU 56 123 ?_
                     refine pureU 57 124 ?_
                     refine pureA 58 125 ?_
                     refine pureA 59 126 ?_
                     refine done_ (done_of HT_.out (by kernel_rfl)) ?_
                     try go_wp2
                     go_meet
                     case rel => exact ⟨_, (false), (by first | rfl | (simp; done) | (simp [*]; done)), H', ⟨by have := HJ7.out; have := HK2.out; first | omega | exact Nat.le_refl _⟩, ⟨by (with_reducible repeat (first | apply Kd.R_alloc | apply Kd.R_drewN | apply Kd.R_drew)); exact HO_5.out⟩, ⟨by (with_reducible repeat (first | apply Kd.V_alloc | apply Kd.V_drewN | apply Kd.V_drew)); exact Kd.V_mono HO_544006.out (fun _ hk => ⟨hk.1.1, ⟨hk.1.2.1, ⟨hk.1.2.2, hk.2⟩⟩⟩)⟩, ⟨by (with_reducible repeat (first | apply Kd.V_alloc | apply Kd.V_drewN | apply Kd.V_drew)); exact Kd.V_mono HO_544007.out (fun _ hk => ⟨hk.1.1, ⟨hk.1.2.1, ⟨hk.1.2.2, hk.2⟩⟩⟩)⟩, ⟨bk BK524⟩, ⟨bk BK543⟩, ⟨bk BK552⟩, ⟨bl HB⟩⟩
                  ·
                   rw [if_neg c58] at H
                   have c58b0 : decide (x11_2 < t545) = false := decide_eq_false c58
                   clear c58
                   by_cases c70 : x11_2 = t545
                   ·
                    rw [if_pos c70] at H
                    have c70b0 : (x11_2 == t545) = true := beq_iff_eq.mpr c70
                    have c70b1 : (x11_2 != t545) = false := bne_eq_false_iff_eq.mpr c70
                    clear c70
                    have H' := Aside0.mk H
                    clear H
                    try go_wp2
                    replace HO_5 := Aside0.mk (Kd.R_drew HO_5.out)
                    replace HO_544006 := Aside0.mk (Kd.V_drew HO_544006.out)
                    replace HO_544007 := Aside0.mk (Kd.V_drew HO_544007.out)
                    replace BK524 := Aside0.mk (blk_drew BK524.out)
                    replace BK543 := Aside0.mk (blk_drew BK543.out)
                    replace BK552 := Aside0.mk (blk_drew BK552.out)
                    replace HB := Aside0.mk (below_drew1 HB.out)
                    obtain ⟨Ao72, co72, eo72⟩ := Kd.R_slice HO_5.out
                    (first | subst eo72 | (injection eo72 with f1_ f2_ f3_; have f4_ := f1_.symm; have f5_ := f3_.symm; clear f1_ f2_ f3_; subst f4_; subst f5_))
                    have p555 : 0 ≤ (x11_2 : Int) := of_decide_eq_true (by first | (with_reducible assumption) | assumption)
                    have q555 : x11_2 < (t527.length : Int) := of_decide_eq_true (by first | (with_reducible assumption) | assumption)
                    obtain ⟨ad555, e555, hx555_0⟩ := Kd.at_int (Kd.R_reads' HO_5.out).2.2 x11_2 p555 q555
                    cases e555
                    replace p555 := eq_true p555
                    replace q555 := eq_true q555
                    have p557 : 0 ≤ (x11_2 : Int) := of_decide_eq_true (by first | (with_reducible assumption) | assumption)
                    have q557 : x11_2 < (t527.length : Int) := of_decide_eq_true (by first | (with_reducible assumption) | assumption)
                    obtain ⟨ad557, e557, hx557_0⟩ := Kd.at_int (Kd.R_reads' HO_5.out).2.2 x11_2 p557 q557
                    obtain rfl : ad555 = ad557 := (by injection e557)
                    replace p557 := eq_true p557
                    replace q557 := eq_true q557
                    refine start_ (n := 60) (S := fun w' => w'.cell? ⟨gb552, 0, none⟩ = some (.int .i64 t549) ∧ w'.cell? ⟨gb552, 1, none⟩ = some (.int .i64 t550) ∧ w'.cell? (ad555.add (x11_2).toNat) = some (.int .i64 (rd t527 x11_2)) ∧ w'.cell? (ad555.add (x11_2).toNat) = some (.int .i64 (rd t527 x11_2))) (ds := []) #[false, false, false, false, false, false, false, false, false, false, false, false, false, false, false, false, false, false, false, false, false, false, false, false, false, false, false, false, false, false, false, false, false, false, false, false, false, false, false, false, false, false, false, false, false, false, false, false, false, false, false, false, false, false, false, false, false, false, false, false] (by kernel_rfl) rfl rfl ⟨bc BK552 0, bc BK552 1, hx555_0, hx557_0⟩ (fun hHeld => ?_); refine with_tabW remontoirlaw04_ScaleTrue.tab14 remontoirlaw04_ScaleTrue.bits14 (fun HT_ HW_ => ?_)
                    generalize w38.drew = w71 at HO_5 HO_544006 HO_544007 BK524 BK543 BK552 HB hx555_0 hx557_0 hHeld ⊢
                    refine pureA 0 67 ?_
                    refine pureA 1 68 ?_
                    refine pureA 2 69 ?_
                    refine pureA 3 70 ?_
                    refine pureA 4 71 ?_
                    refine pureA 5 72 ?_
                    refine pureA 6 73 ?_
                    refine pureA 8 75 ?_
                    refine pureA 9 76 ?_
                    refine pureA 10 77 ?_
                    refine takeA 7 74 rfl rfl (by rintro w' ⟨s0, s1, s2, s3⟩; go_simp; with_reducible rfl) ?_
                    refine takeA 11 78 rfl rfl (by rintro w' ⟨s0, s1, s2, s3⟩; go_simp; with_reducible rfl) ?_
                    refine oneA 12 (some 79) (fun K hK => ?_)
                    refine goes_ Tryd.func43 (by kernel_rfl) rfl #[.agg #[.int .i64 t549, .int .i64 t550], .int .i64 (rd t527 x11_2)] (by rfl) rfl rfl (by (try simp only [List.map_toArray, List.map_cons, List.map_nil]); first | done | rfl | (simp only [List.length_drop, List.length_take]; rfl)) ?_
                    with_reducible refine (remontoirref00_Has.calls t549 t550 (rd t527 x11_2) true _ A43.out).mono ?_
                    rintro e w73 ⟨rfl, hb⟩
                    have HS2_ := (hb.cell (World.block_lt_of_cell? _ _ (hHeld.2.2.1))).trans (hHeld.2.2.1)
                    have HS3_ := (hb.cell (World.block_lt_of_cell? _ _ (hHeld.2.2.2))).trans (hHeld.2.2.2)
                    refine ⟨_, rfl, ?_⟩
                    replace HO_5 := Aside0.mk (Kd.R_below (rk HO_5) hb)
                    replace HO_544006 := Aside0.mk (Kd.V_below (by (with_reducible repeat (first | apply Kd.V_alloc | apply Kd.V_drewN | apply Kd.V_drew)); exact HO_544006.out) hb)
                    replace HO_544007 := Aside0.mk (Kd.V_below (by (with_reducible repeat (first | apply Kd.V_alloc | apply Kd.V_drewN | apply Kd.V_drew)); exact HO_544007.out) hb)
                    replace BK524 := Aside0.mk (blk_below (bk BK524) hb)
                    replace BK543 := Aside0.mk (blk_below (bk BK543) hb)
                    replace BK552 := Aside0.mk (blk_below (bk BK552) hb)
                    replace HB := Aside0.mk (below_step (bl HB) hb)
                    (try clear hb)
                    (try clear hb2)
                    (try clear hk)
                    (try clear hi)
                    refine hK.out _ _ ⟨bc BK552 0, bc BK552 1, HS2_, HS3_⟩ (fun hHeld => ?_)
                    clear hK K
                    refine normA 79 ?_
                    refine pureA 13 80 ?_
                    refine pureA 14 81 ?_
                    refine pureA 15 82 ?_
                    refine pureA 16 83 ?_
                    refine pureA 17 84 ?_
                    refine pureA 18 85 ?_
                    refine pureA 21 88 ?_
                    refine takeA 19 86 rfl rfl (by rintro w' ⟨s0, s1, s2, s3⟩; go_simp; with_reducible rfl) ?_
                    refine oneA 20 (some 87) (fun K hK => ?_)
                    refine goes_ Tryd.func46 (by kernel_rfl) rfl #[.int .i64 (rd t527 x11_2)] (by rfl) rfl rfl (by (try simp only [List.map_toArray, List.map_cons, List.map_nil]); first | done | rfl | (simp only [List.length_drop, List.length_take]; rfl)) ?_
                    with_reducible refine (remontoirref00_Size.calls (rd t527 x11_2) t558 _ A45.out).mono ?_
                    rintro e w' ⟨rfl, ⟨nd, rfl⟩⟩
                    refine ⟨_, rfl, ?_⟩
                    refine hK.out _ _ ⟨bc BK552 0, bc BK552 1, hHeld.2.2.1, hHeld.2.2.2⟩ (fun hHeld => ?_)
                    clear hK K
                    refine normA 87 ?_
                    refine pureA 22 89 ?_
                    refine pureA 23 90 ?_
                    refine pureA 24 91 ?_
                    refine pureA 25 92 ?_
                    refine pureA 26 93 ?_
                    refine pureA 29 96 ?_
                    refine takeA 27 94 rfl rfl (by rintro w' ⟨s0, s1, s2, s3⟩; go_simp; with_reducible rfl) ?_
                    refine takeA 30 97 rfl rfl (by rintro w' ⟨s0, s1, s2, s3⟩; go_simp; with_reducible rfl) ?_
                    refine oneA 28 (some 95) (fun K hK => ?_)
                    refine goes_ Tryd.func46 (by kernel_rfl) rfl #[.int .i64 t549] (by rfl) rfl rfl (by (try simp only [List.map_toArray, List.map_cons, List.map_nil]); first | done | rfl | (simp only [List.length_drop, List.length_take]; rfl)) ?_
                    with_reducible refine (remontoirref00_Size.calls t549 t559 _ A50.out).mono ?_
                    rintro e w' ⟨rfl, ⟨nd, rfl⟩⟩
                    refine ⟨_, rfl, ?_⟩
                    refine hK.out _ _ ⟨bc BK552 0, bc BK552 1, hHeld.2.2.1, hHeld.2.2.2⟩ (fun hHeld => ?_)
                    clear hK K
                    refine normA 95 ?_
                    refine oneA 31 (some 98) (fun K hK => ?_)
                    refine goes_ Tryd.func46 (by kernel_rfl) rfl #[.int .i64 t550] (by rfl) rfl rfl (by (try simp only [List.map_toArray, List.map_cons, List.map_nil]); first | done | rfl | (simp only [List.length_drop, List.length_take]; rfl)) ?_
                    with_reducible refine (remontoirref00_Size.calls t550 t560 _ A51.out).mono ?_
                    rintro e w' ⟨rfl, ⟨nd, rfl⟩⟩
                    refine ⟨_, rfl, ?_⟩
                    refine hK.out _ _ ⟨bc BK552 0, bc BK552 1, hHeld.2.2.1, hHeld.2.2.2⟩ (fun hHeld => ?_)
                    clear hK K
                    refine normA 98 ?_
                    refine pureA 32 99 ?_
                    refine pureA 33 100 ?_
                    refine pureA 34 101 ?_
                    refine pureA 35 102 ?_
                    refine pureA 36 103 ?_
                    refine pureA 37 104 ?_
                    refine pureA 38 105 ?_
                    refine pureA 39 106 ?_
                    refine pureA 40 107 ?_
                    refine pureA 41 108 ?_
                    refine pureA 42 109 ?_
                    refine pureA 43 110 ?_
                    refine pureA 44 111 ?_
                    refine pureU 45 112 ?_
                    refine pureU 46 113 ?_
                    refine pureU 47 114 ?_
                    refine pureA 48 115 ?_
                    refine pureA 49 116 ?_
                    refine pureA 50 117 ?_
                    refine pureA 51 118 ?_
                    refine pureA 52 119 ?_
                    refine pureA 53 120 ?_
                    refine pureA 54 121 ?_
                    refine pureA 55 122 ?_
                    refine pureA 56 123 ?_
                    refine pureA 57 124 ?_
                    refine pureA 58 125 ?_
                    refine pureA 59 126 ?_
                    refine done_ (done_of HT_.out (by kernel_rfl)) ?_
                    try go_wp2
                    go_meet
                    case rel => exact ⟨_, ((t553 != t546)), (by first | rfl | (simp; done) | (simp [*]; done)), H', ⟨by have := HJ7.out; have := HK2.out; first | omega | exact Nat.le_refl _⟩, ⟨by (with_reducible repeat (first | apply Kd.R_alloc | apply Kd.R_drewN | apply Kd.R_drew)); exact HO_5.out⟩, ⟨by (with_reducible repeat (first | apply Kd.V_alloc | apply Kd.V_drewN | apply Kd.V_drew)); exact Kd.V_mono HO_544006.out (fun _ hk => ⟨hk.1.1, ⟨hk.1.2.1, ⟨hk.1.2.2, hk.2⟩⟩⟩)⟩, ⟨by (with_reducible repeat (first | apply Kd.V_alloc | apply Kd.V_drewN | apply Kd.V_drew)); exact Kd.V_mono HO_544007.out (fun _ hk => ⟨hk.1.1, ⟨hk.1.2.1, ⟨hk.1.2.2, hk.2⟩⟩⟩)⟩, ⟨bk BK524⟩, ⟨bk BK543⟩, ⟨bk BK552⟩, ⟨bl HB⟩⟩
                   ·
                    rw [if_neg c70] at H
                    have c70b0 : (x11_2 == t545) = false := beq_eq_false_iff_ne.mpr c70
                    have c70b1 : (x11_2 != t545) = true := bne_iff_ne.mpr c70
                    have H' := Aside0.mk H
                    clear H
                    try go_wp2
                    replace HO_5 := Aside0.mk (Kd.R_drew HO_5.out)
                    replace HO_544006 := Aside0.mk (Kd.V_drew HO_544006.out)
                    replace HO_544007 := Aside0.mk (Kd.V_drew HO_544007.out)
                    replace BK524 := Aside0.mk (blk_drew BK524.out)
                    replace BK543 := Aside0.mk (blk_drew BK543.out)
                    replace BK552 := Aside0.mk (blk_drew BK552.out)
                    replace HB := Aside0.mk (below_drew1 HB.out)
                    obtain ⟨Ao75, co75, eo75⟩ := Kd.R_slice HO_5.out
                    (first | subst eo75 | (injection eo75 with f1_ f2_ f3_; have f4_ := f1_.symm; have f5_ := f3_.symm; clear f1_ f2_ f3_; subst f4_; subst f5_))
                    have p555 : 0 ≤ (x11_2 : Int) := of_decide_eq_true (by first | (with_reducible assumption) | assumption)
                    have q555 : x11_2 < (t527.length : Int) := of_decide_eq_true (by first | (with_reducible assumption) | assumption)
                    obtain ⟨ad555, e555, hx555_0⟩ := Kd.at_int (Kd.R_reads' HO_5.out).2.2 x11_2 p555 q555
                    cases e555
                    replace p555 := eq_true p555
                    replace q555 := eq_true q555
                    have p557 : 0 ≤ (x11_2 : Int) := of_decide_eq_true (by first | (with_reducible assumption) | assumption)
                    have q557 : x11_2 < (t527.length : Int) := of_decide_eq_true (by first | (with_reducible assumption) | assumption)
                    obtain ⟨ad557, e557, hx557_0⟩ := Kd.at_int (Kd.R_reads' HO_5.out).2.2 x11_2 p557 q557
                    obtain rfl : ad555 = ad557 := (by injection e557)
                    replace p557 := eq_true p557
                    replace q557 := eq_true q557
                    refine start_ (n := 60) (S := fun w' => w'.cell? ⟨gb552, 0, none⟩ = some (.int .i64 t549) ∧ w'.cell? ⟨gb552, 1, none⟩ = some (.int .i64 t550) ∧ w'.cell? (ad555.add (x11_2).toNat) = some (.int .i64 (rd t527 x11_2)) ∧ w'.cell? (ad555.add (x11_2).toNat) = some (.int .i64 (rd t527 x11_2))) (ds := []) #[false, false, false, false, false, false, false, false, false, false, false, false, false, false, false, false, false, false, false, false, false, false, false, false, false, false, false, false, false, false, false, false, false, false, false, false, false, false, false, false, false, false, false, false, false, false, false, false, false, false, false, false, false, false, false, false, false, false, false, false] (by kernel_rfl) rfl rfl ⟨bc BK552 0, bc BK552 1, hx555_0, hx557_0⟩ (fun hHeld => ?_); refine with_tabW remontoirlaw04_ScaleTrue.tab14 remontoirlaw04_ScaleTrue.bits14 (fun HT_ HW_ => ?_)
                    generalize w38.drew = w74 at HO_5 HO_544006 HO_544007 BK524 BK543 BK552 HB hx555_0 hx557_0 hHeld ⊢
                    refine pureA 0 67 ?_
                    refine pureA 1 68 ?_
                    refine pureA 2 69 ?_
                    refine pureA 3 70 ?_
                    refine pureA 4 71 ?_
                    refine pureA 5 72 ?_
                    refine pureA 6 73 ?_
                    refine pureA 8 75 ?_
                    refine pureA 9 76 ?_
                    refine pureA 10 77 ?_
                    refine takeA 7 74 rfl rfl (by rintro w' ⟨s0, s1, s2, s3⟩; go_simp; with_reducible rfl) ?_
                    refine takeA 11 78 rfl rfl (by rintro w' ⟨s0, s1, s2, s3⟩; go_simp; with_reducible rfl) ?_
                    refine oneA 12 (some 79) (fun K hK => ?_)
                    refine goes_ Tryd.func43 (by kernel_rfl) rfl #[.agg #[.int .i64 t549, .int .i64 t550], .int .i64 (rd t527 x11_2)] (by rfl) rfl rfl (by (try simp only [List.map_toArray, List.map_cons, List.map_nil]); first | done | rfl | (simp only [List.length_drop, List.length_take]; rfl)) ?_
                    with_reducible refine (remontoirref00_Has.calls t549 t550 (rd t527 x11_2) true _ A43.out).mono ?_
                    rintro e w76 ⟨rfl, hb⟩
                    have HS2_ := (hb.cell (World.block_lt_of_cell? _ _ (hHeld.2.2.1))).trans (hHeld.2.2.1)
                    have HS3_ := (hb.cell (World.block_lt_of_cell? _ _ (hHeld.2.2.2))).trans (hHeld.2.2.2)
                    refine ⟨_, rfl, ?_⟩
                    replace HO_5 := Aside0.mk (Kd.R_below (rk HO_5) hb)
                    replace HO_544006 := Aside0.mk (Kd.V_below (by (with_reducible repeat (first | apply Kd.V_alloc | apply Kd.V_drewN | apply Kd.V_drew)); exact HO_544006.out) hb)
                    replace HO_544007 := Aside0.mk (Kd.V_below (by (with_reducible repeat (first | apply Kd.V_alloc | apply Kd.V_drewN | apply Kd.V_drew)); exact HO_544007.out) hb)
                    replace BK524 := Aside0.mk (blk_below (bk BK524) hb)
                    replace BK543 := Aside0.mk (blk_below (bk BK543) hb)
                    replace BK552 := Aside0.mk (blk_below (bk BK552) hb)
                    replace HB := Aside0.mk (below_step (bl HB) hb)
                    (try clear hb)
                    (try clear hb2)
                    (try clear hk)
                    (try clear hi)
                    refine hK.out _ _ ⟨bc BK552 0, bc BK552 1, HS2_, HS3_⟩ (fun hHeld => ?_)
                    clear hK K
                    refine normA 79 ?_
                    refine pureA 13 80 ?_
                    refine pureA 14 81 ?_
                    refine pureA 15 82 ?_
                    refine pureA 16 83 ?_
                    refine pureA 17 84 ?_
                    refine pureA 18 85 ?_
                    refine pureA 21 88 ?_
                    refine takeA 19 86 rfl rfl (by rintro w' ⟨s0, s1, s2, s3⟩; go_simp; with_reducible rfl) ?_
                    refine oneA 20 (some 87) (fun K hK => ?_)
                    refine goes_ Tryd.func46 (by kernel_rfl) rfl #[.int .i64 (rd t527 x11_2)] (by rfl) rfl rfl (by (try simp only [List.map_toArray, List.map_cons, List.map_nil]); first | done | rfl | (simp only [List.length_drop, List.length_take]; rfl)) ?_
                    with_reducible refine (remontoirref00_Size.calls (rd t527 x11_2) t558 _ A45.out).mono ?_
                    rintro e w' ⟨rfl, ⟨nd, rfl⟩⟩
                    refine ⟨_, rfl, ?_⟩
                    refine hK.out _ _ ⟨bc BK552 0, bc BK552 1, hHeld.2.2.1, hHeld.2.2.2⟩ (fun hHeld => ?_)
                    clear hK K
                    refine normA 87 ?_
                    refine pureA 22 89 ?_
                    refine pureA 23 90 ?_
                    refine pureA 24 91 ?_
                    refine pureA 25 92 ?_
                    refine pureA 26 93 ?_
                    refine pureA 29 96 ?_
                    refine takeA 27 94 rfl rfl (by rintro w' ⟨s0, s1, s2, s3⟩; go_simp; with_reducible rfl) ?_
                    refine takeA 30 97 rfl rfl (by rintro w' ⟨s0, s1, s2, s3⟩; go_simp; with_reducible rfl) ?_
                    refine oneA 28 (some 95) (fun K hK => ?_)
                    refine goes_ Tryd.func46 (by kernel_rfl) rfl #[.int .i64 t549] (by rfl) rfl rfl (by (try simp only [List.map_toArray, List.map_cons, List.map_nil]); first | done | rfl | (simp only [List.length_drop, List.length_take]; rfl)) ?_
                    with_reducible refine (remontoirref00_Size.calls t549 t559 _ A50.out).mono ?_
                    rintro e w' ⟨rfl, ⟨nd, rfl⟩⟩
                    refine ⟨_, rfl, ?_⟩
                    refine hK.out _ _ ⟨bc BK552 0, bc BK552 1, hHeld.2.2.1, hHeld.2.2.2⟩ (fun hHeld => ?_)
                    clear hK K
                    refine normA 95 ?_
                    refine oneA 31 (some 98) (fun K hK => ?_)
                    refine goes_ Tryd.func46 (by kernel_rfl) rfl #[.int .i64 t550] (by rfl) rfl rfl (by (try simp only [List.map_toArray, List.map_cons, List.map_nil]); first | done | rfl | (simp only [List.length_drop, List.length_take]; rfl)) ?_
                    with_reducible refine (remontoirref00_Size.calls t550 t560 _ A51.out).mono ?_
                    rintro e w' ⟨rfl, ⟨nd, rfl⟩⟩
                    refine ⟨_, rfl, ?_⟩
                    refine hK.out _ _ ⟨bc BK552 0, bc BK552 1, hHeld.2.2.1, hHeld.2.2.2⟩ (fun hHeld => ?_)
                    clear hK K
                    refine normA 98 ?_
                    refine pureA 32 99 ?_
                    refine pureA 33 100 ?_
                    refine pureA 34 101 ?_
                    refine pureA 35 102 ?_
                    refine pureA 36 103 ?_
                    refine pureA 37 104 ?_
                    refine pureA 38 105 ?_
                    refine pureA 39 106 ?_
                    refine pureA 40 107 ?_
                    refine pureA 41 108 ?_
                    refine pureA 42 109 ?_
                    refine pureA 43 110 ?_
                    refine pureA 44 111 ?_
                    refine pureU 45 112 ?_
                    refine pureU 46 113 ?_
                    refine pureU 47 114 ?_
                    refine pureA 48 115 ?_
                    refine pureA 49 116 ?_
                    refine pureA 50 117 ?_
                    refine pureA 51 118 ?_
                    refine pureA 52 119 ?_
                    refine pureA 53 120 ?_
                    refine pureA 54 121 ?_
                    refine pureU 55 122 ?_
                    refine pureU 56 123 ?_
                    refine pureU 57 124 ?_
                    refine pureA 58 125 ?_
                    refine pureA 59 126 ?_
                    refine done_ (done_of HT_.out (by kernel_rfl)) ?_
                    try go_wp2
                    go_meet
                    case rel => exact ⟨_, (false), (by first | rfl | (simp; done) | (simp [*]; done)), H', ⟨by have := HJ7.out; have := HK2.out; first | omega | exact Nat.le_refl _⟩, ⟨by (with_reducible repeat (first | apply Kd.R_alloc | apply Kd.R_drewN | apply Kd.R_drew)); exact HO_5.out⟩, ⟨by (with_reducible repeat (first | apply Kd.V_alloc | apply Kd.V_drewN | apply Kd.V_drew)); exact Kd.V_mono HO_544006.out (fun _ hk => ⟨hk.1.1, ⟨hk.1.2.1, ⟨hk.1.2.2, hk.2⟩⟩⟩)⟩, ⟨by (with_reducible repeat (first | apply Kd.V_alloc | apply Kd.V_drewN | apply Kd.V_drew)); exact Kd.V_mono HO_544007.out (fun _ hk => ⟨hk.1.1, ⟨hk.1.2.1, ⟨hk.1.2.2, hk.2⟩⟩⟩)⟩, ⟨bk BK524⟩, ⟨bk BK543⟩, ⟨bk BK552⟩, ⟨bl HB⟩⟩
                ·
                 rw [if_neg c53] at H
                 have c53b0 : (t553 == (ji52)) = false := beq_eq_false_iff_ne.mpr c53
                 have c53b1 : (t553 != (ji52)) = true := bne_iff_ne.mpr c53
                 have H' := Aside0.mk H
                 clear H
                 try go_wp2
                 replace HO_5 := Aside0.mk (Kd.R_drew HO_5.out)
                 replace HO_544006 := Aside0.mk (Kd.V_drew HO_544006.out)
                 replace HO_544007 := Aside0.mk (Kd.V_drew HO_544007.out)
                 replace BK524 := Aside0.mk (blk_drew BK524.out)
                 replace BK543 := Aside0.mk (blk_drew BK543.out)
                 replace BK552 := Aside0.mk (blk_drew BK552.out)
                 replace HB := Aside0.mk (below_drew1 HB.out)
                 obtain ⟨Ao78, co78, eo78⟩ := Kd.R_slice HO_5.out
                 (first | subst eo78 | (injection eo78 with f1_ f2_ f3_; have f4_ := f1_.symm; have f5_ := f3_.symm; clear f1_ f2_ f3_; subst f4_; subst f5_))
                 have p555 : 0 ≤ (x11_2 : Int) := of_decide_eq_true (by first | (with_reducible assumption) | assumption)
                 have q555 : x11_2 < (t527.length : Int) := of_decide_eq_true (by first | (with_reducible assumption) | assumption)
                 obtain ⟨ad555, e555, hx555_0⟩ := Kd.at_int (Kd.R_reads' HO_5.out).2.2 x11_2 p555 q555
                 cases e555
                 replace p555 := eq_true p555
                 replace q555 := eq_true q555
                 have p557 : 0 ≤ (x11_2 : Int) := of_decide_eq_true (by first | (with_reducible assumption) | assumption)
                 have q557 : x11_2 < (t527.length : Int) := of_decide_eq_true (by first | (with_reducible assumption) | assumption)
                 obtain ⟨ad557, e557, hx557_0⟩ := Kd.at_int (Kd.R_reads' HO_5.out).2.2 x11_2 p557 q557
                 obtain rfl : ad555 = ad557 := (by injection e557)
                 replace p557 := eq_true p557
                 replace q557 := eq_true q557
                 refine start_ (n := 60) (S := fun w' => w'.cell? ⟨gb552, 0, none⟩ = some (.int .i64 t549) ∧ w'.cell? ⟨gb552, 1, none⟩ = some (.int .i64 t550) ∧ w'.cell? (ad555.add (x11_2).toNat) = some (.int .i64 (rd t527 x11_2)) ∧ w'.cell? (ad555.add (x11_2).toNat) = some (.int .i64 (rd t527 x11_2))) (ds := []) #[false, false, false, false, false, false, false, false, false, false, false, false, false, false, false, false, false, false, false, false, false, false, false, false, false, false, false, false, false, false, false, false, false, false, false, false, false, false, false, false, false, false, false, false, false, false, false, false, false, false, false, false, false, false, false, false, false, false, false, false] (by kernel_rfl) rfl rfl ⟨bc BK552 0, bc BK552 1, hx555_0, hx557_0⟩ (fun hHeld => ?_); refine with_tabW remontoirlaw04_ScaleTrue.tab14 remontoirlaw04_ScaleTrue.bits14 (fun HT_ HW_ => ?_)
                 generalize w38.drew = w77 at HO_5 HO_544006 HO_544007 BK524 BK543 BK552 HB hx555_0 hx557_0 hHeld ⊢
                 refine pureA 0 67 ?_
                 refine pureA 1 68 ?_
                 refine pureA 2 69 ?_
                 refine pureA 3 70 ?_
                 refine pureA 4 71 ?_
                 refine pureA 5 72 ?_
                 refine pureA 6 73 ?_
                 refine pureA 8 75 ?_
                 refine pureA 9 76 ?_
                 refine pureA 10 77 ?_
                 refine takeA 7 74 rfl rfl (by rintro w' ⟨s0, s1, s2, s3⟩; go_simp; with_reducible rfl) ?_
                 refine takeA 11 78 rfl rfl (by rintro w' ⟨s0, s1, s2, s3⟩; go_simp; with_reducible rfl) ?_
                 refine oneA 12 (some 79) (fun K hK => ?_)
                 refine goes_ Tryd.func43 (by kernel_rfl) rfl #[.agg #[.int .i64 t549, .int .i64 t550], .int .i64 (rd t527 x11_2)] (by rfl) rfl rfl (by (try simp only [List.map_toArray, List.map_cons, List.map_nil]); first | done | rfl | (simp only [List.length_drop, List.length_take]; rfl)) ?_
                 with_reducible refine (remontoirref00_Has.calls t549 t550 (rd t527 x11_2) true _ A43.out).mono ?_
                 rintro e w79 ⟨rfl, hb⟩
                 have HS2_ := (hb.cell (World.block_lt_of_cell? _ _ (hHeld.2.2.1))).trans (hHeld.2.2.1)
                 have HS3_ := (hb.cell (World.block_lt_of_cell? _ _ (hHeld.2.2.2))).trans (hHeld.2.2.2)
                 refine ⟨_, rfl, ?_⟩
                 replace HO_5 := Aside0.mk (Kd.R_below (rk HO_5) hb)
                 replace HO_544006 := Aside0.mk (Kd.V_below (by (with_reducible repeat (first | apply Kd.V_alloc | apply Kd.V_drewN | apply Kd.V_drew)); exact HO_544006.out) hb)
                 replace HO_544007 := Aside0.mk (Kd.V_below (by (with_reducible repeat (first | apply Kd.V_alloc | apply Kd.V_drewN | apply Kd.V_drew)); exact HO_544007.out) hb)
                 replace BK524 := Aside0.mk (blk_below (bk BK524) hb)
                 replace BK543 := Aside0.mk (blk_below (bk BK543) hb)
                 replace BK552 := Aside0.mk (blk_below (bk BK552) hb)
                 replace HB := Aside0.mk (below_step (bl HB) hb)
                 (try clear hb)
                 (try clear hb2)
                 (try clear hk)
                 (try clear hi)
                 refine hK.out _ _ ⟨bc BK552 0, bc BK552 1, HS2_, HS3_⟩ (fun hHeld => ?_)
                 clear hK K
                 refine normA 79 ?_
                 refine pureA 13 80 ?_
                 refine pureA 14 81 ?_
                 refine pureA 15 82 ?_
                 refine pureA 16 83 ?_
                 refine pureA 17 84 ?_
                 refine pureA 18 85 ?_
                 refine pureA 21 88 ?_
                 refine takeA 19 86 rfl rfl (by rintro w' ⟨s0, s1, s2, s3⟩; go_simp; with_reducible rfl) ?_
                 refine oneA 20 (some 87) (fun K hK => ?_)
                 refine goes_ Tryd.func46 (by kernel_rfl) rfl #[.int .i64 (rd t527 x11_2)] (by rfl) rfl rfl (by (try simp only [List.map_toArray, List.map_cons, List.map_nil]); first | done | rfl | (simp only [List.length_drop, List.length_take]; rfl)) ?_
                 with_reducible refine (remontoirref00_Size.calls (rd t527 x11_2) t558 _ A45.out).mono ?_
                 rintro e w' ⟨rfl, ⟨nd, rfl⟩⟩
                 refine ⟨_, rfl, ?_⟩
                 refine hK.out _ _ ⟨bc BK552 0, bc BK552 1, hHeld.2.2.1, hHeld.2.2.2⟩ (fun hHeld => ?_)
                 clear hK K
                 refine normA 87 ?_
                 refine pureA 22 89 ?_
                 refine pureA 23 90 ?_
                 refine pureA 24 91 ?_
                 refine pureA 25 92 ?_
                 refine pureA 26 93 ?_
                 refine pureA 29 96 ?_
                 refine takeA 27 94 rfl rfl (by rintro w' ⟨s0, s1, s2, s3⟩; go_simp; with_reducible rfl) ?_
                 refine takeA 30 97 rfl rfl (by rintro w' ⟨s0, s1, s2, s3⟩; go_simp; with_reducible rfl) ?_
                 refine oneA 28 (some 95) (fun K hK => ?_)
                 refine goes_ Tryd.func46 (by kernel_rfl) rfl #[.int .i64 t549] (by rfl) rfl rfl (by (try simp only [List.map_toArray, List.map_cons, List.map_nil]); first | done | rfl | (simp only [List.length_drop, List.length_take]; rfl)) ?_
                 with_reducible refine (remontoirref00_Size.calls t549 t559 _ A50.out).mono ?_
                 rintro e w' ⟨rfl, ⟨nd, rfl⟩⟩
                 refine ⟨_, rfl, ?_⟩
                 refine hK.out _ _ ⟨bc BK552 0, bc BK552 1, hHeld.2.2.1, hHeld.2.2.2⟩ (fun hHeld => ?_)
                 clear hK K
                 refine normA 95 ?_
                 refine oneA 31 (some 98) (fun K hK => ?_)
                 refine goes_ Tryd.func46 (by kernel_rfl) rfl #[.int .i64 t550] (by rfl) rfl rfl (by (try simp only [List.map_toArray, List.map_cons, List.map_nil]); first | done | rfl | (simp only [List.length_drop, List.length_take]; rfl)) ?_
                 with_reducible refine (remontoirref00_Size.calls t550 t560 _ A51.out).mono ?_
                 rintro e w' ⟨rfl, ⟨nd, rfl⟩⟩
                 refine ⟨_, rfl, ?_⟩
                 refine hK.out _ _ ⟨bc BK552 0, bc BK552 1, hHeld.2.2.1, hHeld.2.2.2⟩ (fun hHeld => ?_)
                 clear hK K
                 refine normA 98 ?_
                 refine pureA 32 99 ?_
                 refine pureA 33 100 ?_
                 refine pureA 34 101 ?_
                 refine pureA 35 102 ?_
                 refine pureU 36 103 ?_
                 refine pureU 37 104 ?_
                 refine pureU 38 105 ?_
                 refine pureA 39 106 ?_
                 refine pureA 40 107 ?_
                 refine pureU 41 108 ?_
                 refine pureU 42 109 ?_
                 refine pureU 43 110 ?_
                 refine pureU 44 111 ?_
                 refine pureU 45 112 ?_
                 refine pureU 46 113 ?_
                 refine pureU 47 114 ?_
                 refine pureU 48 115 ?_
                 refine pureA 49 116 ?_
                 refine pureA 50 117 ?_
                 refine pureU 51 118 ?_
                 refine pureU 52 119 ?_
                 refine pureU 53 120 ?_
                 refine pureU 54 121 ?_
                 refine pureU 55 122 ?_
                 refine pureU 56 123 ?_
                 refine pureU 57 124 ?_
                 refine pureU 58 125 ?_
                 refine pureA 59 126 ?_
                 refine done_ (done_of HT_.out (by kernel_rfl)) ?_
                 try go_wp2
                 go_meet
                 case rel => exact ⟨_, (true), (by first | rfl | (simp; done) | (simp [*]; done)), H', ⟨by have := HJ7.out; have := HK2.out; first | omega | exact Nat.le_refl _⟩, ⟨by (with_reducible repeat (first | apply Kd.R_alloc | apply Kd.R_drewN | apply Kd.R_drew)); exact HO_5.out⟩, ⟨by (with_reducible repeat (first | apply Kd.V_alloc | apply Kd.V_drewN | apply Kd.V_drew)); exact Kd.V_mono HO_544006.out (fun _ hk => ⟨hk.1.1, ⟨hk.1.2.1, ⟨hk.1.2.2, hk.2⟩⟩⟩)⟩, ⟨by (with_reducible repeat (first | apply Kd.V_alloc | apply Kd.V_drewN | apply Kd.V_drew)); exact Kd.V_mono HO_544007.out (fun _ hk => ⟨hk.1.1, ⟨hk.1.2.1, ⟨hk.1.2.2, hk.2⟩⟩⟩)⟩, ⟨bk BK524⟩, ⟨bk BK543⟩, ⟨bk BK552⟩, ⟨bl HB⟩⟩
              ·
               replace c44 := Bool.eq_false_iff.mpr c44
               subst c44
               have H1 : (remontoirlaw04_ScaleTrue.j2 k2 t527 t545 t546 x11_2 true a0_0 a0_1 a0_2 a0_3 a0_4 a0_5 l0_6 l0_7 t530 t531 t532 t533 t534 t535 t536 t539) = some r := by rw [if_neg (show ¬ (false = true) by decide)] at H; exact H
               clear H
               have H := H1
               clear H1
               have H' := Aside0.mk H
               clear H
               try go_wp2
               replace HO_5 := Aside0.mk (Kd.R_drew HO_5.out)
               replace HO_544006 := Aside0.mk (Kd.V_drew HO_544006.out)
               replace HO_544007 := Aside0.mk (Kd.V_drew HO_544007.out)
               replace BK524 := Aside0.mk (blk_drew BK524.out)
               replace BK543 := Aside0.mk (blk_drew BK543.out)
               replace BK552 := Aside0.mk (blk_drew BK552.out)
               replace HB := Aside0.mk (below_drew1 HB.out)
               obtain ⟨Ao81, co81, eo81⟩ := Kd.R_slice HO_5.out
               (first | subst eo81 | (injection eo81 with f1_ f2_ f3_; have f4_ := f1_.symm; have f5_ := f3_.symm; clear f1_ f2_ f3_; subst f4_; subst f5_))
               have p555 : 0 ≤ (x11_2 : Int) := of_decide_eq_true (by first | (with_reducible assumption) | assumption)
               have q555 : x11_2 < (t527.length : Int) := of_decide_eq_true (by first | (with_reducible assumption) | assumption)
               obtain ⟨ad555, e555, hx555_0⟩ := Kd.at_int (Kd.R_reads' HO_5.out).2.2 x11_2 p555 q555
               cases e555
               replace p555 := eq_true p555
               replace q555 := eq_true q555
               refine start_ (n := 60) (S := fun w' => w'.cell? ⟨gb552, 0, none⟩ = some (.int .i64 t549) ∧ w'.cell? ⟨gb552, 1, none⟩ = some (.int .i64 t550) ∧ w'.cell? (ad555.add (x11_2).toNat) = some (.int .i64 (rd t527 x11_2))) (ds := []) #[false, false, false, false, false, false, false, false, false, false, false, false, false, false, false, false, false, false, false, false, false, false, false, false, false, false, false, false, false, false, false, false, false, false, false, false, false, false, false, false, false, false, false, false, false, false, false, false, false, false, false, false, false, false, false, false, false, false, false, false] (by kernel_rfl) rfl rfl ⟨bc BK552 0, bc BK552 1, hx555_0⟩ (fun hHeld => ?_); refine with_tabW remontoirlaw04_ScaleTrue.tab14 remontoirlaw04_ScaleTrue.bits14 (fun HT_ HW_ => ?_)
               generalize w38.drew = w80 at HO_5 HO_544006 HO_544007 BK524 BK543 BK552 HB hx555_0 hHeld ⊢
               refine pureA 0 67 ?_
               refine pureA 1 68 ?_
               refine pureA 2 69 ?_
               refine pureA 3 70 ?_
               refine pureA 4 71 ?_
               refine pureA 5 72 ?_
               refine pureA 6 73 ?_
               refine pureA 8 75 ?_
               refine pureA 9 76 ?_
               refine pureA 10 77 ?_
               refine takeA 7 74 rfl rfl (by rintro w' ⟨s0, s1, s2⟩; go_simp; with_reducible rfl) ?_
               refine takeA 11 78 rfl rfl (by rintro w' ⟨s0, s1, s2⟩; go_simp; with_reducible rfl) ?_
               refine oneA 12 (some 79) (fun K hK => ?_)
               refine goes_ Tryd.func43 (by kernel_rfl) rfl #[.agg #[.int .i64 t549, .int .i64 t550], .int .i64 (rd t527 x11_2)] (by rfl) rfl rfl (by (try simp only [List.map_toArray, List.map_cons, List.map_nil]); first | done | rfl | (simp only [List.length_drop, List.length_take]; rfl)) ?_
               with_reducible refine (remontoirref00_Has.calls t549 t550 (rd t527 x11_2) false _ A43.out).mono ?_
               rintro e w82 ⟨rfl, hb⟩
               have HS2_ := (hb.cell (World.block_lt_of_cell? _ _ (hHeld.2.2))).trans (hHeld.2.2)
               refine ⟨_, rfl, ?_⟩
               replace HO_5 := Aside0.mk (Kd.R_below (rk HO_5) hb)
               replace HO_544006 := Aside0.mk (Kd.V_below (by (with_reducible repeat (first | apply Kd.V_alloc | apply Kd.V_drewN | apply Kd.V_drew)); exact HO_544006.out) hb)
               replace HO_544007 := Aside0.mk (Kd.V_below (by (with_reducible repeat (first | apply Kd.V_alloc | apply Kd.V_drewN | apply Kd.V_drew)); exact HO_544007.out) hb)
               replace BK524 := Aside0.mk (blk_below (bk BK524) hb)
               replace BK543 := Aside0.mk (blk_below (bk BK543) hb)
               replace BK552 := Aside0.mk (blk_below (bk BK552) hb)
               replace HB := Aside0.mk (below_step (bl HB) hb)
               (try clear hb)
               (try clear hb2)
               (try clear hk)
               (try clear hi)
               refine hK.out _ _ ⟨bc BK552 0, bc BK552 1, HS2_⟩ (fun hHeld => ?_)
               clear hK K
               refine normA 79 ?_
               refine pureA 13 80 ?_
               refine pureA 14 81 ?_
               refine pureA 15 82 ?_
               refine pureU 16 83 ?_
               refine pureU 17 84 ?_
               refine pureU 18 85 ?_
               refine pureU 19 86 ?_
               refine pureU 20 87 ?_
               refine pureU 21 88 ?_
               refine pureU 22 89 ?_
               refine pureA 23 90 ?_
               refine pureA 24 91 ?_
               refine pureU 25 92 ?_
               refine pureU 26 93 ?_
               refine pureU 27 94 ?_
               refine pureU 28 95 ?_
               refine pureU 29 96 ?_
               refine pureU 30 97 ?_
               refine pureU 31 98 ?_
               refine pureU 32 99 ?_
               refine pureU 33 100 ?_
               refine pureA 34 101 ?_
               refine pureA 35 102 ?_
               refine pureU 36 103 ?_
               refine pureU 37 104 ?_
               refine pureU 38 105 ?_
               refine pureA 39 106 ?_
               refine pureA 40 107 ?_
               refine pureU 41 108 ?_
               refine pureU 42 109 ?_
               refine pureU 43 110 ?_
               refine pureU 44 111 ?_
               refine pureU 45 112 ?_
               refine pureU 46 113 ?_
               refine pureU 47 114 ?_
               refine pureU 48 115 ?_
               refine pureA 49 116 ?_
               refine pureA 50 117 ?_
               refine pureU 51 118 ?_
               refine pureU 52 119 ?_
               refine pureU 53 120 ?_
               refine pureU 54 121 ?_
               refine pureU 55 122 ?_
               refine pureU 56 123 ?_
               refine pureU 57 124 ?_
               refine pureU 58 125 ?_
               refine pureA 59 126 ?_
               refine done_ (done_of HT_.out (by kernel_rfl)) ?_
               try go_wp2
               go_meet
               case rel => exact ⟨_, (true), (by first | rfl | (simp; done) | (simp [*]; done)), H', ⟨by have := HJ7.out; have := HK2.out; first | omega | exact Nat.le_refl _⟩, ⟨by (with_reducible repeat (first | apply Kd.R_alloc | apply Kd.R_drewN | apply Kd.R_drew)); exact HO_5.out⟩, ⟨by (with_reducible repeat (first | apply Kd.V_alloc | apply Kd.V_drewN | apply Kd.V_drew)); exact Kd.V_mono HO_544006.out (fun _ hk => ⟨hk.1.1, ⟨hk.1.2.1, ⟨hk.1.2.2, hk.2⟩⟩⟩)⟩, ⟨by (with_reducible repeat (first | apply Kd.V_alloc | apply Kd.V_drewN | apply Kd.V_drew)); exact Kd.V_mono HO_544007.out (fun _ hk => ⟨hk.1.1, ⟨hk.1.2.1, ⟨hk.1.2.2, hk.2⟩⟩⟩)⟩, ⟨bk BK524⟩, ⟨bk BK543⟩, ⟨bk BK552⟩, ⟨bl HB⟩⟩
             ·
              rw [if_neg c42] at H
              exact absurd H (by simp)
            ·
             rw [if_neg c41] at H
             exact absurd H (by simp)
           ·
            rw [if_neg c40] at H
            have c40b0 : (t554 == 0) = false := beq_eq_false_iff_ne.mpr c40
            have c40b1 : (t554 != 0) = true := bne_iff_ne.mpr c40
            have H' := Aside0.mk H
            clear H
            try go_wp2
            replace HO_5 := Aside0.mk (Kd.R_drew HO_5.out)
            replace HO_544006 := Aside0.mk (Kd.V_drew HO_544006.out)
            replace HO_544007 := Aside0.mk (Kd.V_drew HO_544007.out)
            replace BK524 := Aside0.mk (blk_drew BK524.out)
            replace BK543 := Aside0.mk (blk_drew BK543.out)
            replace BK552 := Aside0.mk (blk_drew BK552.out)
            replace HB := Aside0.mk (below_drew1 HB.out)
            refine start_ (n := 60) (S := fun w' => True) (ds := []) #[false, false, false, false, false, false, false, false, false, false, false, false, false, false, false, false, false, false, false, false, false, false, false, false, false, false, false, false, false, false, false, false, false, false, false, false, false, false, false, false, false, false, false, false, false, false, false, false, false, false, false, false, false, false, false, false, false, false, false, false] (by kernel_rfl) rfl rfl trivial (fun hHeld => ?_); refine with_tabW remontoirlaw04_ScaleTrue.tab14 remontoirlaw04_ScaleTrue.bits14 (fun HT_ HW_ => ?_)
            generalize w38.drew = w83 at HO_5 HO_544006 HO_544007 BK524 BK543 BK552 HB hHeld ⊢
            refine pureA 0 67 ?_
            refine pureA 1 68 ?_
            refine pureA 2 69 ?_
            refine pureA 3 70 ?_
            refine pureA 4 71 ?_
            refine pureA 5 72 ?_
            refine pureA 6 73 ?_
            refine pureU 7 74 ?_
            refine pureU 8 75 ?_
            refine pureU 9 76 ?_
            refine pureU 10 77 ?_
            refine pureU 11 78 ?_
            refine pureU 12 79 ?_
            refine pureU 13 80 ?_
            refine pureA 14 81 ?_
            refine pureA 15 82 ?_
            refine pureU 16 83 ?_
            refine pureU 17 84 ?_
            refine pureU 18 85 ?_
            refine pureU 19 86 ?_
            refine pureU 20 87 ?_
            refine pureU 21 88 ?_
            refine pureU 22 89 ?_
            refine pureA 23 90 ?_
            refine pureA 24 91 ?_
            refine pureU 25 92 ?_
            refine pureU 26 93 ?_
            refine pureU 27 94 ?_
            refine pureU 28 95 ?_
            refine pureU 29 96 ?_
            refine pureU 30 97 ?_
            refine pureU 31 98 ?_
            refine pureU 32 99 ?_
            refine pureU 33 100 ?_
            refine pureA 34 101 ?_
            refine pureA 35 102 ?_
            refine pureU 36 103 ?_
            refine pureU 37 104 ?_
            refine pureU 38 105 ?_
            refine pureA 39 106 ?_
            refine pureA 40 107 ?_
            refine pureU 41 108 ?_
            refine pureU 42 109 ?_
            refine pureU 43 110 ?_
            refine pureU 44 111 ?_
            refine pureU 45 112 ?_
            refine pureU 46 113 ?_
            refine pureU 47 114 ?_
            refine pureU 48 115 ?_
            refine pureA 49 116 ?_
            refine pureA 50 117 ?_
            refine pureU 51 118 ?_
            refine pureU 52 119 ?_
            refine pureU 53 120 ?_
            refine pureU 54 121 ?_
            refine pureU 55 122 ?_
            refine pureU 56 123 ?_
            refine pureU 57 124 ?_
            refine pureU 58 125 ?_
            refine pureA 59 126 ?_
            refine done_ (done_of HT_.out (by kernel_rfl)) ?_
            try go_wp2
            go_meet
            case rel => exact ⟨_, (true), (by first | rfl | (simp; done) | (simp [*]; done)), H', ⟨by have := HJ7.out; have := HK2.out; first | omega | exact Nat.le_refl _⟩, ⟨by (with_reducible repeat (first | apply Kd.R_alloc | apply Kd.R_drewN | apply Kd.R_drew)); exact HO_5.out⟩, ⟨by (with_reducible repeat (first | apply Kd.V_alloc | apply Kd.V_drewN | apply Kd.V_drew)); exact Kd.V_mono HO_544006.out (fun _ hk => ⟨hk.1.1, ⟨hk.1.2.1, ⟨hk.1.2.2, hk.2⟩⟩⟩)⟩, ⟨by (with_reducible repeat (first | apply Kd.V_alloc | apply Kd.V_drewN | apply Kd.V_drew)); exact Kd.V_mono HO_544007.out (fun _ hk => ⟨hk.1.1, ⟨hk.1.2.1, ⟨hk.1.2.2, hk.2⟩⟩⟩)⟩, ⟨bk BK524⟩, ⟨bk BK543⟩, ⟨bk BK552⟩, ⟨bl HB⟩⟩
          ·
           rw [if_neg c39] at H
           have c39b0 : (t551 == 0) = false := beq_eq_false_iff_ne.mpr c39
           have c39b1 : (t551 != 0) = true := bne_iff_ne.mpr c39
           (first | rw [c39b0] | (simp only [i64_w, i32_w]; rw [c39b0]) | skip)
           have H' := Aside0.mk H
           clear H
           try go_wp2
           replace HO_5 := Aside0.mk (Kd.R_drew HO_5.out)
           replace HO_544006 := Aside0.mk (Kd.V_drew HO_544006.out)
           replace HO_544007 := Aside0.mk (Kd.V_drew HO_544007.out)
           replace BK524 := Aside0.mk (blk_drew BK524.out)
           replace BK543 := Aside0.mk (blk_drew BK543.out)
           replace BK552 := Aside0.mk (blk_drew BK552.out)
           replace HB := Aside0.mk (below_drew1 HB.out)
           refine start_ (n := 60) (S := fun w' => True) (ds := []) #[false, false, false, false, false, false, false, false, false, false, false, false, false, false, false, false, false, false, false, false, false, false, false, false, false, false, false, false, false, false, false, false, false, false, false, false, false, false, false, false, false, false, false, false, false, false, false, false, false, false, false, false, false, false, false, false, false, false, false, false] (by kernel_rfl) rfl rfl trivial (fun hHeld => ?_); refine with_tabW remontoirlaw04_ScaleTrue.tab14 remontoirlaw04_ScaleTrue.bits14 (fun HT_ HW_ => ?_)
           generalize w38.drew = w84 at HO_5 HO_544006 HO_544007 BK524 BK543 BK552 HB hHeld ⊢
           refine pureA 0 67 ?_
           refine pureA 1 68 ?_
           refine pureA 2 69 ?_
           refine pureU 3 70 ?_
           refine pureU 4 71 ?_
           refine pureA 5 72 ?_
           refine pureA 6 73 ?_
           refine pureU 7 74 ?_
           refine pureU 8 75 ?_
           refine pureU 9 76 ?_
           refine pureU 10 77 ?_
           refine pureU 11 78 ?_
           refine pureU 12 79 ?_
           refine pureU 13 80 ?_
           refine pureA 14 81 ?_
           refine pureA 15 82 ?_
           refine pureU 16 83 ?_
           refine pureU 17 84 ?_
           refine pureU 18 85 ?_
           refine pureU 19 86 ?_
           refine pureU 20 87 ?_
           refine pureU 21 88 ?_
           refine pureU 22 89 ?_
           refine pureA 23 90 ?_
           refine pureA 24 91 ?_
           refine pureU 25 92 ?_
           refine pureU 26 93 ?_
           refine pureU 27 94 ?_
           refine pureU 28 95 ?_
           refine pureU 29 96 ?_
           refine pureU 30 97 ?_
           refine pureU 31 98 ?_
           refine pureU 32 99 ?_
           refine pureU 33 100 ?_
           refine pureA 34 101 ?_
           refine pureA 35 102 ?_
           refine pureU 36 103 ?_
           refine pureU 37 104 ?_
           refine pureU 38 105 ?_
           refine pureA 39 106 ?_
           refine pureA 40 107 ?_
           refine pureU 41 108 ?_
           refine pureU 42 109 ?_
           refine pureU 43 110 ?_
           refine pureU 44 111 ?_
           refine pureU 45 112 ?_
           refine pureU 46 113 ?_
           refine pureU 47 114 ?_
           refine pureU 48 115 ?_
           refine pureA 49 116 ?_
           refine pureA 50 117 ?_
           refine pureU 51 118 ?_
           refine pureU 52 119 ?_
           refine pureU 53 120 ?_
           refine pureU 54 121 ?_
           refine pureU 55 122 ?_
           refine pureU 56 123 ?_
           refine pureU 57 124 ?_
           refine pureU 58 125 ?_
           refine pureA 59 126 ?_
           refine done_ (done_of HT_.out (by kernel_rfl)) ?_
           try go_wp2
           go_meet
           case rel => exact ⟨_, (true), (by first | rfl | (simp; done) | (simp [*]; done)), H', ⟨by have := HJ7.out; have := HK2.out; first | omega | exact Nat.le_refl _⟩, ⟨by (with_reducible repeat (first | apply Kd.R_alloc | apply Kd.R_drewN | apply Kd.R_drew)); exact HO_5.out⟩, ⟨by (with_reducible repeat (first | apply Kd.V_alloc | apply Kd.V_drewN | apply Kd.V_drew)); exact Kd.V_mono HO_544006.out (fun _ hk => ⟨hk.1.1, ⟨hk.1.2.1, ⟨hk.1.2.2, hk.2⟩⟩⟩)⟩, ⟨by (with_reducible repeat (first | apply Kd.V_alloc | apply Kd.V_drewN | apply Kd.V_drew)); exact Kd.V_mono HO_544007.out (fun _ hk => ⟨hk.1.1, ⟨hk.1.2.1, ⟨hk.1.2.2, hk.2⟩⟩⟩)⟩, ⟨bk BK524⟩, ⟨bk BK543⟩, ⟨bk BK552⟩, ⟨bl HB⟩⟩
         case rest =>
          as_aux_lemma =>
          clear HC28
          (try clear p2); (try clear c3); (try clear c39); (try clear c39b0); (try clear c39b1)
          (try clear HO_5); (try clear HO_544006); (try clear HO_544007); (try clear BK524); (try clear BK543); (try clear BK552); (try clear HB)
          obtain ⟨kq, x126_27, rfl, HA, HJ27, HO_5, HO_544006, HO_544007, BK524, BK543, BK552, HB⟩ := hcut
          cases kq with
          | zero => exact absurd HA.out (by simp [remontoirlaw04_ScaleTrue.j2])
          | succ kj27 =>
           have H := HA.out
           clear HA
           simp only [remontoirlaw04_ScaleTrue.j2] at H
           by_cases c85 : x126_27 = true
           ·
            subst c85
            have H1 : (some false) = some r := by rw [if_pos rfl] at H; exact H
            clear H
            have H := H1
            clear H1
            obtain rfl := Option.some.inj H
            go_wp2
            go_ret
            exact ⟨by first | rfl | (simp [errW_none, errW_some] <;> rfl) | (simp [*, errW_none, errW_some] <;> rfl), by repeat (first | (with_reducible first | exact HB.out | apply below_alloc | apply pw_below_drewN | apply below_drew1 | refine below_set ?_ GE524.out | refine below_set ?_ GE543.out | refine below_set ?_ GE552.out) | exact HB.out)⟩
           ·
            replace c85 := Bool.eq_false_iff.mpr c85
            subst c85
            have H1 : (remontoirlaw04_ScaleTrue.l0 kj27 t527 t545 t546 (wrap64 (x11_2 + 1)) a0_0 a0_1 a0_2 a0_3 a0_4 a0_5 l0_6 l0_7 t530 t531 t532 t533 t534 t535 t536 t539) = some r := by rw [if_neg (show ¬ (false = true) by decide)] at H; exact H
            clear H
            have H := H1
            clear H1
            have H' := Aside0.mk H
            clear H
            go_wp2
            go_roundg kj27
            case measure => have := HJ7.out; have := HK2.out; have := HJ27.out; omega
            case rel => exact ⟨(wrap64 (x11_2 + 1)), (by first | rfl | (simp; done) | (simp [*]; done)), H', ⟨by have := HJ7.out; have := HK2.out; have := HJ27.out; omega⟩, ⟨by (with_reducible repeat (first | apply Kd.R_alloc | apply Kd.R_drewN | apply Kd.R_drew)); exact HO_5.out⟩, ⟨by (with_reducible repeat (first | apply Kd.V_alloc | apply Kd.V_drewN | apply Kd.V_drew)); exact Kd.V_mono HO_544006.out (fun _ hk => ⟨hk.1, ⟨hk.2.1, hk.2.2.1⟩⟩)⟩, ⟨by (with_reducible repeat (first | apply Kd.V_alloc | apply Kd.V_drewN | apply Kd.V_drew)); exact Kd.V_mono HO_544007.out (fun _ hk => ⟨hk.1, ⟨hk.2.1, hk.2.2.1⟩⟩)⟩, ⟨bk BK524⟩, ⟨bk BK543⟩, ⟨bl HB⟩⟩
        ·
         rw [if_neg c25] at H
         have c25b0 : decide (x11_2 ≤ a0_5) = false := decide_eq_false c25
         clear c25
         replace H := Option.bind_eq_some_iff.mp H
         obtain ⟨⟨t561, t562, t563⟩, A860, H⟩ := H
         replace H : (if 0 ≤ a0_5 then (if a0_5 < (t527.length : Int) then ((scale_Fewest.f a0_0 a0_1 a0_2 a0_3 a0_4 (rd t527 a0_5)).bind fun bt565 => (remontoirlaw04_ScaleTrue.j3 k2 t563 t561 t562 bt565.1 bt565.2)) else (none)) else (none)) = some r := H
         have A86 := Aside0.mk A860
         clear A860
         have HC87 := Aside0.mk H
         clear H
         have hnb88 := NB524_543.out
         have hnc88 := NB543_524.out
         have hcz89_0 : wr.cell? ⟨gb524, 0, none⟩ = some (.int .i64 a0_0) := bc BK524 0
         have hcz89_1 : wr.cell? ⟨gb524, 1, none⟩ = some (.int .i64 a0_1) := bc BK524 1
         have hcz89_2 : wr.cell? ⟨gb524, 2, none⟩ = some (.int .i64 a0_2) := bc BK524 2
         have hcz89_3 : wr.cell? ⟨gb524, 3, none⟩ = some (.int .i64 a0_3) := bc BK524 3
         have hcz89_4 : wr.cell? ⟨gb524, 4, none⟩ = some (.int .i64 a0_4) := bc BK524 4
         have hcz89_5 : wr.cell? ⟨gb524, 5, none⟩ = some (.int .i64 a0_5) := bc BK524 5
         have hcz89_6 : wr.cell? ⟨gb524, 6, none⟩ = some (.slice A0_6 l0_6.length c0_6) := bc BK524 6
         have hcz89_7 : wr.cell? ⟨gb524, 7, none⟩ = some (.slice A0_7 l0_7.length c0_7) := bc BK524 7
         have hfz89_0 := blk_frozen BK524.out 0
         have hfz89_1 := blk_frozen BK524.out 1
         have hfz89_2 := blk_frozen BK524.out 2
         have hfz89_3 := blk_frozen BK524.out 3
         have hfz89_4 := blk_frozen BK524.out 4
         have hfz89_5 := blk_frozen BK524.out 5
         have hfz89_6 := blk_frozen BK524.out 6
         have hfz89_7 := blk_frozen BK524.out 7
         have hcz90_0 : wr.cell? ⟨gb543, 0, none⟩ = some (.int .i64 t530) := bc BK543 0
         have hcz90_1 : wr.cell? ⟨gb543, 1, none⟩ = some (.int .i64 t531) := bc BK543 1
         have hcz90_2 : wr.cell? ⟨gb543, 2, none⟩ = some (.int .i64 t532) := bc BK543 2
         have hcz90_3 : wr.cell? ⟨gb543, 3, none⟩ = some (.int .i64 t533) := bc BK543 3
         have hcz90_4 : wr.cell? ⟨gb543, 4, none⟩ = some (.int .i64 t534) := bc BK543 4
         have hcz90_5 : wr.cell? ⟨gb543, 5, none⟩ = some (.int .i64 t535) := bc BK543 5
         have hcz90_6 : wr.cell? ⟨gb543, 6, none⟩ = some (.slice Ao17 t536.length co17) := bc BK543 6
         have hcz90_7 : wr.cell? ⟨gb543, 7, none⟩ = some (.slice Ao18 t539.length co18) := bc BK543 7
         have hfz90_0 := blk_frozen BK543.out 0
         have hfz90_1 := blk_frozen BK543.out 1
         have hfz90_2 := blk_frozen BK543.out 2
         have hfz90_3 := blk_frozen BK543.out 3
         have hfz90_4 := blk_frozen BK543.out 4
         have hfz90_5 := blk_frozen BK543.out 5
         have hfz90_6 := blk_frozen BK543.out 6
         have hfz90_7 := blk_frozen BK543.out 7
         go_upto_region 17 with (first | ((with_reducible refine gate_callee (f := 35) rfl ?_); refine goesL_ (some 129) rfl rfl Tryd.func35 (by kernel_rfl) rfl #[.agg #[.int .i64 t530, .int .i64 t531, .int .i64 t532, .int .i64 t533, .int .i64 t534, .int .i64 t535, .slice Ao17 t536.length co17, .slice Ao18 t539.length co18]] rfl (by (try simp only [List.map_toArray, List.map_cons, List.map_nil]); first | done | rfl | (simp only [List.length_drop, List.length_take]; rfl)) ?_; (with_reducible refine (scale_Meets.calls t530 t531 t532 t533 t534 t535 _ _ t536 _ _ t539 t561 t562 t563 _ ?side1 ?side2 ?side3 ?side4 ?side5 A86.out).mono ?_); (case side1 => repeat (first | exact (Kd.V_reads' HO_544006.out).2.2 | (with_reducible refine Kd.C_alloc ?_ _) | (with_reducible refine Kd.C_drewN ?_ _) | (with_reducible refine Kd.C_drew ?_))); (case side2 => exact (Kd.V_reads' HO_544006.out).2.1); (case side3 => repeat (first | exact (Kd.V_reads' HO_544007.out).2.2 | (with_reducible refine Kd.C_alloc ?_ _) | (with_reducible refine Kd.C_drewN ?_ _) | (with_reducible refine Kd.C_drew ?_))); (case side4 => exact (Kd.V_reads' HO_544007.out).2.1); (case side5 => exact Go.Proofs.YtidnopmjhhmedaaDoor.Ways.below HWays.out (bl HB)); rintro e w91 ⟨rfl, hb⟩; refine ⟨_, rfl, ?_⟩; replace HO_5 := Aside0.mk (Kd.R_below (rk HO_5) hb); replace HO_544006 := Aside0.mk (Kd.V_below (by (with_reducible repeat (first | apply Kd.V_alloc | apply Kd.V_drewN | apply Kd.V_drew)); exact HO_544006.out) hb); replace HO_544007 := Aside0.mk (Kd.V_below (by (with_reducible repeat (first | apply Kd.V_alloc | apply Kd.V_drewN | apply Kd.V_drew)); exact HO_544007.out) hb); replace BK524 := Aside0.mk (blk_below (bk BK524) hb); replace BK543 := Aside0.mk (blk_below (bk BK543) hb); replace HB := Aside0.mk (below_step (bl HB) hb); (try clear hb); (try clear hb2); (try clear hk); (try clear hi)))
         (try simp only [Act.put, List.setIfInBounds_toArray, List.set_cons_zero, List.set_cons_succ])
         go_cut [18, 19] (fun v18 v19 wc => ∃ (kq : Nat) (x18_86 : Int) (x19_86 : Int), v18 = .int .i64 x18_86 ∧ v19 = .int .i64 x19_86 ∧ Aside0 (remontoirlaw04_ScaleTrue.j3 kq t563 t561 t562 x18_86 x19_86 = some r) ∧ Aside0 (kq ≤ k2) ∧ Aside0 (Kd.V (Kd.int .i64) 3 wc w.heap.size (fun k_ => k_ ≠ gb524 ∧ k_ ≠ gb543) (.slice Ao17 t536.length co17) t536) ∧ Aside0 (Kd.V k71 71 wc w.heap.size (fun k_ => k_ ≠ gb524 ∧ k_ ≠ gb543) (.slice Ao18 t539.length co18) t539) ∧ Aside0 (wc.heap[gb524]? = some (.cells #[.int .i64 a0_0, .int .i64 a0_1, .int .i64 a0_2, .int .i64 a0_3, .int .i64 a0_4, .int .i64 a0_5, (.slice A0_6 l0_6.length c0_6), (.slice A0_7 l0_7.length c0_7)] 44 (0, 0))) ∧ Aside0 (wc.heap[gb543]? = some (.cells #[.int .i64 t530, .int .i64 t531, .int .i64 t532, .int .i64 t533, .int .i64 t534, .int .i64 t535, (.slice Ao17 t536.length co17), (.slice Ao18 t539.length co18)] 44 (0, 0))) ∧ Aside0 (Below w.heap.size w wc))
         case first =>
          have H := HC87.out
          clear HC87
          by_cases c92 : 0 ≤ a0_5
          ·
           rw [if_pos c92] at H
           have c92b0 : decide (0 ≤ a0_5) = true := decide_eq_true c92
           clear c92
           (first | rw [c92b0] | (simp only [i64_w, i32_w]; rw [c92b0]) | skip)
           by_cases c93 : a0_5 < (t527.length : Int)
           ·
            rw [if_pos c93] at H
            have c93b0 : decide (a0_5 < (t527.length : Int)) = true := decide_eq_true c93
            clear c93
            replace H := Option.bind_eq_some_iff.mp H
            obtain ⟨⟨t565, t566⟩, A940, H⟩ := H
            replace H : (remontoirlaw04_ScaleTrue.j3 k2 t563 t561 t562 t565 t566) = some r := H
            have A94 := Aside0.mk A940
            clear A940
            have H' := Aside0.mk H
            clear H
            try go_wp2
            replace HO_5 := Aside0.mk (Kd.R_drew HO_5.out)
            replace HO_544006 := Aside0.mk (Kd.V_drew HO_544006.out)
            replace HO_544007 := Aside0.mk (Kd.V_drew HO_544007.out)
            replace BK524 := Aside0.mk (blk_drew BK524.out)
            replace BK543 := Aside0.mk (blk_drew BK543.out)
            replace HB := Aside0.mk (below_drew1 HB.out)
            obtain ⟨Ao96, co96, eo96⟩ := Kd.R_slice HO_5.out
            (first | subst eo96 | (injection eo96 with f1_ f2_ f3_; have f4_ := f1_.symm; have f5_ := f3_.symm; clear f1_ f2_ f3_; subst f4_; subst f5_))
            have p564 : 0 ≤ (a0_5 : Int) := of_decide_eq_true (by first | (with_reducible assumption) | assumption)
            have q564 : a0_5 < (t527.length : Int) := of_decide_eq_true (by first | (with_reducible assumption) | assumption)
            obtain ⟨ad564, e564, hx564_0⟩ := Kd.at_int (Kd.R_reads' HO_5.out).2.2 a0_5 p564 q564
            cases e564
            replace p564 := eq_true p564
            replace q564 := eq_true q564
            refine start_ (n := 13) (S := fun w' => w'.cell? ⟨gb524, 0, none⟩ = some (.int .i64 a0_0) ∧ w'.cell? ⟨gb524, 1, none⟩ = some (.int .i64 a0_1) ∧ w'.cell? ⟨gb524, 2, none⟩ = some (.int .i64 a0_2) ∧ w'.cell? ⟨gb524, 3, none⟩ = some (.int .i64 a0_3) ∧ w'.cell? ⟨gb524, 4, none⟩ = some (.int .i64 a0_4) ∧ w'.cell? ⟨gb524, 5, none⟩ = some (.int .i64 a0_5) ∧ w'.cell? ⟨gb524, 6, none⟩ = some (.slice A0_6 l0_6.length c0_6) ∧ w'.cell? ⟨gb524, 7, none⟩ = some (.slice A0_7 l0_7.length c0_7) ∧ w'.cell? (ad564.add (a0_5).toNat) = some (.int .i64 (rd t527 a0_5))) (ds := []) #[false, false, false, false, false, false, false, false, false, false, false, false, false] (by kernel_rfl) rfl rfl ⟨bc BK524 0, bc BK524 1, bc BK524 2, bc BK524 3, bc BK524 4, bc BK524 5, bc BK524 6, bc BK524 7, hx564_0⟩ (fun hHeld => ?_); refine with_tabW remontoirlaw04_ScaleTrue.tab17 remontoirlaw04_ScaleTrue.bits17 (fun HT_ HW_ => ?_)
            generalize w91.drew = w95 at HO_5 HO_544006 HO_544007 BK524 BK543 HB hx564_0 hHeld ⊢
            refine pureA 0 134 ?_
            refine pureA 2 136 ?_
            refine pureA 3 137 ?_
            refine takeA 1 135 rfl rfl (by rintro w' ⟨s0, s1, s2, s3, s4, s5, s6, s7, s8⟩; go_simp; with_reducible rfl) ?_
            refine takeA 4 138 rfl rfl (by rintro w' ⟨s0, s1, s2, s3, s4, s5, s6, s7, s8⟩; go_simp; with_reducible rfl) ?_
            refine pureA 5 139 ?_
            refine takeA 6 140 rfl rfl (by rintro w' ⟨s0, s1, s2, s3, s4, s5, s6, s7, s8⟩; go_simp; with_reducible rfl) ?_
            refine oneA 7 (some 141) (fun K hK => ?_)
            refine goes_ Tryd.func18 (by kernel_rfl) rfl #[.agg #[.int .i64 a0_0, .int .i64 a0_1, .int .i64 a0_2, .int .i64 a0_3, .int .i64 a0_4], .int .i64 (rd t527 a0_5)] (by rfl) rfl rfl (by (try simp only [List.map_toArray, List.map_cons, List.map_nil]); first | done | rfl | (simp only [List.length_drop, List.length_take]; rfl)) ?_
            with_reducible refine (scale_Fewest.calls a0_0 a0_1 a0_2 a0_3 a0_4 (rd t527 a0_5) t565 t566 _ ?side1 A94.out).mono ?_
            (case side1 => exact Go.Proofs.YtidnopmjhhmedaaDoor.Ways.below HWays.out (bl HB))
            rintro e w97 ⟨rfl, hb⟩
            have HS8_ := (hb.cell (World.block_lt_of_cell? _ _ (hHeld.2.2.2.2.2.2.2.2))).trans (hHeld.2.2.2.2.2.2.2.2)
            refine ⟨_, rfl, ?_⟩
            replace HO_5 := Aside0.mk (Kd.R_below (rk HO_5) hb)
            replace HO_544006 := Aside0.mk (Kd.V_below (by (with_reducible repeat (first | apply Kd.V_alloc | apply Kd.V_drewN | apply Kd.V_drew)); exact HO_544006.out) hb)
            replace HO_544007 := Aside0.mk (Kd.V_below (by (with_reducible repeat (first | apply Kd.V_alloc | apply Kd.V_drewN | apply Kd.V_drew)); exact HO_544007.out) hb)
            replace BK524 := Aside0.mk (blk_below (bk BK524) hb)
            replace BK543 := Aside0.mk (blk_below (bk BK543) hb)
            replace HB := Aside0.mk (below_step (bl HB) hb)
            (try clear hb)
            (try clear hb2)
            (try clear hk)
            (try clear hi)
            refine hK.out _ _ ⟨bc BK524 0, bc BK524 1, bc BK524 2, bc BK524 3, bc BK524 4, bc BK524 5, bc BK524 6, bc BK524 7, HS8_⟩ (fun hHeld => ?_)
            clear hK K
            refine normA 141 ?_
            refine pureA 8 133 ?_
            refine pureA 9 142 ?_
            refine pureA 10 143 ?_
            refine pureA 11 18 ?_
            refine pureA 12 19 ?_
            refine done_ (done_of HT_.out (by kernel_rfl)) ?_
            try go_wp2
            go_meet
            case rel => exact ⟨_, (t565), (t566), (by first | rfl | (simp; done) | (simp [*]; done)), (by first | rfl | (simp; done) | (simp [*]; done)), H', ⟨by have := HJ7.out; have := HK2.out; first | omega | exact Nat.le_refl _⟩, ⟨by (with_reducible repeat (first | apply Kd.V_alloc | apply Kd.V_drewN | apply Kd.V_drew)); exact Kd.V_mono HO_544006.out (fun _ hk => ⟨hk.2.1, hk.2.2⟩)⟩, ⟨by (with_reducible repeat (first | apply Kd.V_alloc | apply Kd.V_drewN | apply Kd.V_drew)); exact Kd.V_mono HO_544007.out (fun _ hk => ⟨hk.2.1, hk.2.2⟩)⟩, ⟨bk BK524⟩, ⟨bk BK543⟩, ⟨bl HB⟩⟩
           ·
            rw [if_neg c93] at H
            exact absurd H (by simp)
          ·
           rw [if_neg c92] at H
           exact absurd H (by simp)
         case rest =>
          as_aux_lemma =>
          clear HC87
          (try clear c1); (try clear c2); (try clear p2); (try clear c3); (try clear p5); (try clear q5); (try clear hx5); (try clear p6); (try clear c8); (try clear c9); (try clear c18); (try clear c25); (try clear c25b0); (try clear c35); (try clear c39); (try clear c39b0); (try clear c39b1); (try clear p56); (try clear q56); (try clear hx56); (try clear p64); (try clear c85); (try clear c88); (try clear c92); (try clear c92b0); (try clear c93); (try clear c93b0); (try clear hcz89_0); (try clear hcz89_1); (try clear hcz89_2); (try clear hcz89_3); (try clear hcz89_4); (try clear hcz89_5); (try clear hcz89_6); (try clear hcz89_7); (try clear hcz90_0); (try clear hcz90_1); (try clear hcz90_2); (try clear hcz90_3); (try clear hcz90_4); (try clear hcz90_5); (try clear hcz90_6); (try clear hcz90_7); (try clear hfz89_0); (try clear hfz89_1); (try clear hfz89_2); (try clear hfz89_3); (try clear hfz89_4); (try clear hfz89_5); (try clear hfz89_6); (try clear hfz89_7); (try clear hfz90_0); (try clear hfz90_1); (try clear hfz90_2); (try clear hfz90_3); (try clear hfz90_4); (try clear hfz90_5); (try clear hfz90_6); (try clear hfz90_7); (try clear hx564_0); (try clear p2); (try clear p564); (try clear q564)
          (try clear HO_544006); (try clear HO_544007); (try clear BK524); (try clear BK543); (try clear HB)
          obtain ⟨kq, x18_86, x19_86, rfl, rfl, HA, HJ86, HO_544006, HO_544007, BK524, BK543, HB⟩ := hcut
          cases kq with
          | zero => exact absurd HA.out (by simp [remontoirlaw04_ScaleTrue.j3])
          | succ kj86 =>
           have H := HA.out
           clear HA
           simp only [remontoirlaw04_ScaleTrue.j3] at H
           by_cases c98 : t563 = 0
           ·
            rw [if_pos c98] at H
            have c98b0 : (t563 == 0) = true := beq_iff_eq.mpr c98
            have c98b1 : (t563 != 0) = false := bne_eq_false_iff_eq.mpr c98
            clear c98
            by_cases c99 : x19_86 = 0
            ·
             rw [if_pos c99] at H
             have c99b0 : (x19_86 == 0) = true := beq_iff_eq.mpr c99
             have c99b1 : (x19_86 != 0) = false := bne_eq_false_iff_eq.mpr c99
             clear c99
             replace H := Option.bind_eq_some_iff.mp H
             obtain ⟨t567, A1000, H⟩ := H
             replace H : (if t567 = true then ((remontoirlaw04_works.f).bind fun t568 => (some t568)) else (some false)) = some r := H
             have A100 := Aside0.mk A1000
             clear A1000
             by_cases c101 : t567 = true
             ·
              subst c101
              have H1 : ((remontoirlaw04_works.f).bind fun t568 => (some t568)) = some r := by rw [if_pos rfl] at H; exact H
              clear H
              have H := H1
              clear H1
              replace H := Option.bind_eq_some_iff.mp H
              obtain ⟨t568, A1020, H⟩ := H
              replace H : (some t568) = some r := H
              have A102 := Aside0.mk A1020
              clear A1020
              obtain rfl := Option.some.inj H
              go_wp2_with (first | (go_at_call 42; (with_reducible refine (remontoirref00_Lies.calls x18_86 t562 t561 true _ A100.out).mono ?_); rintro e w' ⟨rfl, ⟨nd, rfl⟩⟩) | (go_at_call 21; (with_reducible refine (remontoirlaw04_works.calls  t568 _ ?side1 A102.out).mono ?_); (case side1 => exact Go.Proofs.YtidnopmjhhmedaaDoor.Ways.below HWays.out (bl HB)); rintro e w103 ⟨rfl, hb⟩; replace HO_544006 := Aside0.mk (Kd.V_below (by (with_reducible repeat (first | apply Kd.V_alloc | apply Kd.V_drewN | apply Kd.V_drew)); exact HO_544006.out) hb); replace HO_544007 := Aside0.mk (Kd.V_below (by (with_reducible repeat (first | apply Kd.V_alloc | apply Kd.V_drewN | apply Kd.V_drew)); exact HO_544007.out) hb); replace BK524 := Aside0.mk (blk_below (bk BK524) hb); replace BK543 := Aside0.mk (blk_below (bk BK543) hb); replace HB := Aside0.mk (below_step (bl HB) hb); (try clear hb); (try clear hb2); (try clear hk); (try clear hi)))
              go_ret
              exact ⟨by first | rfl | (simp [errW_none, errW_some] <;> rfl) | (simp [*, errW_none, errW_some] <;> rfl), by repeat (first | (with_reducible first | exact HB.out | apply below_alloc | apply pw_below_drewN | apply below_drew1 | refine below_set ?_ GE524.out | refine below_set ?_ GE543.out) | exact HB.out)⟩
             ·
              replace c101 := Bool.eq_false_iff.mpr c101
              subst c101
              have H1 : (some false) = some r := by rw [if_neg (show ¬ (false = true) by decide)] at H; exact H
              clear H
              have H := H1
              clear H1
              obtain rfl := Option.some.inj H
              go_wp2_with (first | (go_at_call 42; (with_reducible refine (remontoirref00_Lies.calls x18_86 t562 t561 false _ A100.out).mono ?_); rintro e w' ⟨rfl, ⟨nd, rfl⟩⟩))
              go_ret
              exact ⟨by first | rfl | (simp [errW_none, errW_some] <;> rfl) | (simp [*, errW_none, errW_some] <;> rfl), by repeat (first | (with_reducible first | exact HB.out | apply below_alloc | apply pw_below_drewN | apply below_drew1 | refine below_set ?_ GE524.out | refine below_set ?_ GE543.out) | exact HB.out)⟩
            ·
             rw [if_neg c99] at H
             have c99b0 : (x19_86 == 0) = false := beq_eq_false_iff_ne.mpr c99
             have c99b1 : (x19_86 != 0) = true := bne_iff_ne.mpr c99
             obtain rfl := Option.some.inj H
             go_wp2
             go_ret
             exact ⟨by first | rfl | (simp [errW_none, errW_some] <;> rfl) | (simp [*, errW_none, errW_some] <;> rfl), by repeat (first | (with_reducible first | exact HB.out | apply below_alloc | apply pw_below_drewN | apply below_drew1 | refine below_set ?_ GE524.out | refine below_set ?_ GE543.out) | exact HB.out)⟩
           ·
            rw [if_neg c98] at H
            have c98b0 : (t563 == 0) = false := beq_eq_false_iff_ne.mpr c98
            have c98b1 : (t563 != 0) = true := bne_iff_ne.mpr c98
            by_cases c104 : t563 = 4
            ·
             rw [if_pos c104] at H
             have c104b0 : (t563 == 4) = true := beq_iff_eq.mpr c104
             have c104b1 : (t563 != 4) = false := bne_eq_false_iff_eq.mpr c104
             clear c104
             by_cases c105 : t561 = 0
             ·
              rw [if_pos c105] at H
              have c105b0 : (t561 == 0) = true := beq_iff_eq.mpr c105
              have c105b1 : (t561 != 0) = false := bne_eq_false_iff_eq.mpr c105
              clear c105
              by_cases c106 : t562 = 0
              ·
               rw [if_pos c106] at H
               have c106b0 : (t562 == 0) = true := beq_iff_eq.mpr c106
               have c106b1 : (t562 != 0) = false := bne_eq_false_iff_eq.mpr c106
               clear c106
               replace H := Option.bind_eq_some_iff.mp H
               obtain ⟨t569, A1070, H⟩ := H
               replace H : (some t569) = some r := H
               have A107 := Aside0.mk A1070
               clear A1070
               obtain rfl := Option.some.inj H
               go_wp2_with (first | (go_at_call 21; (with_reducible refine (remontoirlaw04_works.calls  t569 _ ?side1 A107.out).mono ?_); (case side1 => exact Go.Proofs.YtidnopmjhhmedaaDoor.Ways.below HWays.out (bl HB)); rintro e w108 ⟨rfl, hb⟩; replace HO_544006 := Aside0.mk (Kd.V_below (by (with_reducible repeat (first | apply Kd.V_alloc | apply Kd.V_drewN | apply Kd.V_drew)); exact HO_544006.out) hb); replace HO_544007 := Aside0.mk (Kd.V_below (by (with_reducible repeat (first | apply Kd.V_alloc | apply Kd.V_drewN | apply Kd.V_drew)); exact HO_544007.out) hb); replace BK524 := Aside0.mk (blk_below (bk BK524) hb); replace BK543 := Aside0.mk (blk_below (bk BK543) hb); replace HB := Aside0.mk (below_step (bl HB) hb); (try clear hb); (try clear hb2); (try clear hk); (try clear hi)))
               go_ret
               exact ⟨by first | rfl | (simp [errW_none, errW_some] <;> rfl) | (simp [*, errW_none, errW_some] <;> rfl), by repeat (first | (with_reducible first | exact HB.out | apply below_alloc | apply pw_below_drewN | apply below_drew1 | refine below_set ?_ GE524.out | refine below_set ?_ GE543.out) | exact HB.out)⟩
              ·
               rw [if_neg c106] at H
               have c106b0 : (t562 == 0) = false := beq_eq_false_iff_ne.mpr c106
               have c106b1 : (t562 != 0) = true := bne_iff_ne.mpr c106
               obtain rfl := Option.some.inj H
               go_wp2
               go_ret
               exact ⟨by first | rfl | (simp [errW_none, errW_some] <;> rfl) | (simp [*, errW_none, errW_some] <;> rfl), by repeat (first | (with_reducible first | exact HB.out | apply below_alloc | apply pw_below_drewN | apply below_drew1 | refine below_set ?_ GE524.out | refine below_set ?_ GE543.out) | exact HB.out)⟩
             ·
              rw [if_neg c105] at H
              have c105b0 : (t561 == 0) = false := beq_eq_false_iff_ne.mpr c105
              have c105b1 : (t561 != 0) = true := bne_iff_ne.mpr c105
              obtain rfl := Option.some.inj H
              go_wp2
              go_ret
              exact ⟨by first | rfl | (simp [errW_none, errW_some] <;> rfl) | (simp [*, errW_none, errW_some] <;> rfl), by repeat (first | (with_reducible first | exact HB.out | apply below_alloc | apply pw_below_drewN | apply below_drew1 | refine below_set ?_ GE524.out | refine below_set ?_ GE543.out) | exact HB.out)⟩
            ·
             rw [if_neg c104] at H
             have c104b0 : (t563 == 4) = false := beq_eq_false_iff_ne.mpr c104
             have c104b1 : (t563 != 4) = true := bne_iff_ne.mpr c104
             obtain rfl := Option.some.inj H
             go_wp2
             go_ret
             exact ⟨by first | rfl | (simp [errW_none, errW_some] <;> rfl) | (simp [*, errW_none, errW_some] <;> rfl), by repeat (first | (with_reducible first | exact HB.out | apply below_alloc | apply pw_below_drewN | apply below_drew1 | refine below_set ?_ GE524.out | refine below_set ?_ GE543.out) | exact HB.out)⟩
  ·
   replace c6 := Bool.eq_false_iff.mpr c6
   subst c6
   have H1 : ((remontoirlaw04_works.f).bind fun t544 => (some t544)) = some r := by rw [if_neg (show ¬ (false = true) by decide)] at H; exact H
   clear H
   have H := H1
   clear H1
   replace H := Option.bind_eq_some_iff.mp H
   obtain ⟨t544, A1090, H⟩ := H
   replace H : (some t544) = some r := H
   have A109 := Aside0.mk A1090
   clear A1090
   obtain rfl := Option.some.inj H
   go_enter Tryd.func11, Tryd.ntmps11
   go_wp2_with (first | ((with_reducible refine gate_dst (N := 2) rfl ?_); (try (refine gate_guard (by rfl) ?_; dsimp only)); refine box_event ?hg (N := 2) ?hd (cs := #[.int .i64 a0_0, .int .i64 a0_1, .int .i64 a0_2, .int .i64 a0_3, .int .i64 a0_4, .int .i64 a0_5, .slice A0_6 l0_6.length c0_6, .slice A0_7 l0_7.length c0_7]) (t := 44) ?hr ?_; (case hd => rfl); (case hg => rfl); (case hr => first | (go_simp; done) | (go_simp; rfl)); intro gb524 hg w110 hbox hb; have BK524 := Aside0.mk (hbox); have GW524 := geB hg (bl HB); have GE524 := geB hg (bl HB); replace HB := Aside0.mk (below_step (bl HB) hb); clear hb hbox hg; have hcz111_0 : w110.cell? ⟨gb524, 0, none⟩ = some (.int .i64 a0_0) := bc BK524 0; have hcz111_1 : w110.cell? ⟨gb524, 1, none⟩ = some (.int .i64 a0_1) := bc BK524 1; have hcz111_2 : w110.cell? ⟨gb524, 2, none⟩ = some (.int .i64 a0_2) := bc BK524 2; have hcz111_3 : w110.cell? ⟨gb524, 3, none⟩ = some (.int .i64 a0_3) := bc BK524 3; have hcz111_4 : w110.cell? ⟨gb524, 4, none⟩ = some (.int .i64 a0_4) := bc BK524 4; have hcz111_5 : w110.cell? ⟨gb524, 5, none⟩ = some (.int .i64 a0_5) := bc BK524 5; have hcz111_6 : w110.cell? ⟨gb524, 6, none⟩ = some (.slice A0_6 l0_6.length c0_6) := bc BK524 6; have hcz111_7 : w110.cell? ⟨gb524, 7, none⟩ = some (.slice A0_7 l0_7.length c0_7) := bc BK524 7; have hfz111_0 := blk_frozen BK524.out 0; have hfz111_1 := blk_frozen BK524.out 1; have hfz111_2 := blk_frozen BK524.out 2; have hfz111_3 := blk_frozen BK524.out 3; have hfz111_4 := blk_frozen BK524.out 4; have hfz111_5 := blk_frozen BK524.out 5; have hfz111_6 := blk_frozen BK524.out 6; have hfz111_7 := blk_frozen BK524.out 7) | ((with_reducible refine gate_callee (f := 50) rfl ?_); refine goesL_ (some 21) rfl rfl Tryd.func50 (by kernel_rfl) rfl #[.agg #[.int .i64 a0_0, .int .i64 a0_1, .int .i64 a0_2, .int .i64 a0_3, .int .i64 a0_4, .int .i64 a0_5, .slice A0_6 l0_6.length c0_6, .slice A0_7 l0_7.length c0_7]] rfl (by (try simp only [List.map_toArray, List.map_cons, List.map_nil]); first | done | rfl | (simp only [List.length_drop, List.length_take]; rfl)) ?_; (with_reducible refine (remontoirlaw04_sound.calls k a0_0 a0_1 a0_2 a0_3 a0_4 a0_5 _ _ l0_6 _ _ l0_7 true _ ?side1 ?side2 ?side3 ?side4 ?side5 A3.out).mono ?_); (case side1 => repeat (first | exact (Kd.C_below HR0_6.out HB.out) | (with_reducible refine Kd.C_alloc ?_ _) | (with_reducible refine Kd.C_drewN ?_ _) | (with_reducible refine Kd.C_drew ?_))); (case side2 => exact HC0_6.out); (case side3 => repeat (first | exact (Kd.C_below HR0_7.out HB.out) | (with_reducible refine Kd.C_alloc ?_ _) | (with_reducible refine Kd.C_drewN ?_ _) | (with_reducible refine Kd.C_drew ?_))); (case side4 => exact HC0_7.out); (case side5 => exact Go.Proofs.YtidnopmjhhmedaaDoor.Ways.below HWays.out (bl HB)); rintro e w112 ⟨rfl, hb⟩; refine ⟨_, rfl, ?_⟩; replace BK524 := Aside0.mk (blk_below (bk BK524) hb); replace HB := Aside0.mk (below_step (bl HB) hb); (try clear hb); (try clear hb2); (try clear hk); (try clear hi); have hcz113_0 : w112.cell? ⟨gb524, 0, none⟩ = some (.int .i64 a0_0) := bc BK524 0; have hcz113_1 : w112.cell? ⟨gb524, 1, none⟩ = some (.int .i64 a0_1) := bc BK524 1; have hcz113_2 : w112.cell? ⟨gb524, 2, none⟩ = some (.int .i64 a0_2) := bc BK524 2; have hcz113_3 : w112.cell? ⟨gb524, 3, none⟩ = some (.int .i64 a0_3) := bc BK524 3; have hcz113_4 : w112.cell? ⟨gb524, 4, none⟩ = some (.int .i64 a0_4) := bc BK524 4; have hcz113_5 : w112.cell? ⟨gb524, 5, none⟩ = some (.int .i64 a0_5) := bc BK524 5; have hcz113_6 : w112.cell? ⟨gb524, 6, none⟩ = some (.slice A0_6 l0_6.length c0_6) := bc BK524 6; have hcz113_7 : w112.cell? ⟨gb524, 7, none⟩ = some (.slice A0_7 l0_7.length c0_7) := bc BK524 7; have hfz113_0 := blk_frozen BK524.out 0; have hfz113_1 := blk_frozen BK524.out 1; have hfz113_2 := blk_frozen BK524.out 2; have hfz113_3 := blk_frozen BK524.out 3; have hfz113_4 := blk_frozen BK524.out 4; have hfz113_5 := blk_frozen BK524.out 5; have hfz113_6 := blk_frozen BK524.out 6; have hfz113_7 := blk_frozen BK524.out 7) | ((with_reducible refine gate_callee (f := 51) rfl ?_); refine goesL_ (some 27) rfl rfl Tryd.func51 (by kernel_rfl) rfl #[.agg #[.int .i64 a0_0, .int .i64 a0_1, .int .i64 a0_2, .int .i64 a0_3, .int .i64 a0_4, .int .i64 a0_5, .slice A0_6 l0_6.length c0_6, .slice A0_7 l0_7.length c0_7], .slice A1 l1.length c1] rfl (by (try simp only [List.map_toArray, List.map_cons, List.map_nil]); first | done | rfl | (simp only [List.length_drop, List.length_take]; rfl)) ?_; (with_reducible refine (remontoirlaw04_went.calls k a0_0 a0_1 a0_2 a0_3 a0_4 a0_5 (fun k_ => k_ < w.heap.size) _ _ l0_6 (fun k_ => k_ < w.heap.size) _ _ l0_7 _ _ l1 t527 t530 t531 t532 t533 t534 t535 t536 t539 false _ ?side1 ?side2 ?side3 ?side4 A5.out).mono ?_); (case side1 => exact Kd.V_mk HC0_6.out (Kd.F_below (Kd.C_F (Kd.heap_int .i64) HR0_6.out) (bl HB))); (case side2 => exact Kd.V_mk HC0_7.out (Kd.F_below (Kd.C_F k71_heap HR0_7.out) (bl HB))); (case side3 => repeat (first | exact (Kd.C_below HR1.out HB.out) | (with_reducible refine Kd.C_alloc ?_ _) | (with_reducible refine Kd.C_drewN ?_ _) | (with_reducible refine Kd.C_drew ?_))); (case side4 => exact HC1.out); rintro e w114 ⟨v528, v537, v540, rfl, ho0, ho1, ho2, hb⟩; refine ⟨_, rfl, ?_⟩; have HO529 := Aside0.mk (Kd.R_lower (Kd.R_mono (ok' := fun k_ => True) ho0 (fun _ hk_ => trivial)) (below_size (bl HB))); have HO538 := Aside0.mk (Kd.V_lower (Kd.V_mono (ok' := fun k_ => some k_ ≠ (v528 : Value).ownBlock ∧ k_ ≠ gb524) ho1 (fun k_ hk_ => ⟨hk_.2, Or.elim hk_.1 (fun hs_ => Or.elim hs_ (fun hs_ => fun e_ => Nat.not_le.2 hs_ (by rw [e_]; exact GW524.out)) (fun hs_ => fun e_ => Nat.not_le.2 hs_ (by rw [e_]; exact GW524.out))) (fun hn_ => (Kd.freshB (g := gb524) (o := .cells #[.int .i64 a0_0, .int .i64 a0_1, .int .i64 a0_2, .int .i64 a0_3, .int .i64 a0_4, .int .i64 a0_5, .slice A0_6 l0_6.length c0_6, .slice A0_7 l0_7.length c0_7] 44 (0, 0)) (bk BK524) k_ hn_))⟩)) (below_size (bl HB))); have HO541 := Aside0.mk (Kd.V_lower (Kd.V_mono (ok' := fun k_ => some k_ ≠ (v528 : Value).ownBlock ∧ k_ ≠ gb524) ho2 (fun k_ hk_ => ⟨hk_.2, Or.elim hk_.1 (fun hs_ => Or.elim hs_ (fun hs_ => fun e_ => Nat.not_le.2 hs_ (by rw [e_]; exact GW524.out)) (fun hs_ => fun e_ => Nat.not_le.2 hs_ (by rw [e_]; exact GW524.out))) (fun hn_ => (Kd.freshB (g := gb524) (o := .cells #[.int .i64 a0_0, .int .i64 a0_1, .int .i64 a0_2, .int .i64 a0_3, .int .i64 a0_4, .int .i64 a0_5, .slice A0_6 l0_6.length c0_6, .slice A0_7 l0_7.length c0_7] 44 (0, 0)) (bk BK524) k_ hn_))⟩)) (below_size (bl HB))); replace BK524 := Aside0.mk (blk_below (bk BK524) hb); replace HB := Aside0.mk (below_step (bl HB) hb); (try clear hb); (try clear hb2); (try clear hk); (try clear hi); (try clear ho0); (try clear ho1); (try clear ho2)) | ((with_reducible refine gate_dst (N := 6) rfl ?_); (try (refine gate_guard (by rfl) ?_; dsimp only)); refine box_event ?hg (N := 6) ?hd (cs := #[.int .i64 0, .int .i64 0, .int .i64 0, .int .i64 0, .int .i64 0, .int .i64 0, .slice none 0 0, .slice none 0 0]) (t := 44) ?hr ?_; (case hd => rfl); (case hg => rfl); (case hr => first | (go_simp; done) | (go_simp; rfl)); intro gb543 hg w115 hbox hb; replace HO529 := Aside0.mk (Kd.R_below (rk HO529) hb); replace HO538 := Aside0.mk (Kd.V_below (Kd.V_elderB (by (with_reducible repeat (first | apply Kd.V_alloc | apply Kd.V_drewN | apply Kd.V_drew)); exact HO538.out) gb543 (Nat.le_of_eq hg.symm)) hb); replace HO541 := Aside0.mk (Kd.V_below (Kd.V_elderB (by (with_reducible repeat (first | apply Kd.V_alloc | apply Kd.V_drewN | apply Kd.V_drew)); exact HO541.out) gb543 (Nat.le_of_eq hg.symm)) hb); have BK543 := Aside0.mk (hbox); have GW543 := geB hg (bl HB); have GE543 := geB hg (bl HB); replace HB := Aside0.mk (below_step (bl HB) hb); have NB524_543 := nlt hg (bk BK524); have NB543_524 := ngt hg (bk BK524); replace BK524 := Aside0.mk (blk_below (bk BK524) hb); clear hb hbox hg; have hnb116 := NB543_524.out; have hnc116 := NB524_543.out; have hcz117_0 : w115.cell? ⟨gb543, 0, none⟩ = some (.int .i64 0) := bc BK543 0; have hcz117_1 : w115.cell? ⟨gb543, 1, none⟩ = some (.int .i64 0) := bc BK543 1; have hcz117_2 : w115.cell? ⟨gb543, 2, none⟩ = some (.int .i64 0) := bc BK543 2; have hcz117_3 : w115.cell? ⟨gb543, 3, none⟩ = some (.int .i64 0) := bc BK543 3; have hcz117_4 : w115.cell? ⟨gb543, 4, none⟩ = some (.int .i64 0) := bc BK543 4; have hcz117_5 : w115.cell? ⟨gb543, 5, none⟩ = some (.int .i64 0) := bc BK543 5; have hcz117_6 : w115.cell? ⟨gb543, 6, none⟩ = some (.slice none 0 0) := bc BK543 6; have hcz117_7 : w115.cell? ⟨gb543, 7, none⟩ = some (.slice none 0 0) := bc BK543 7; have hfz117_0 := blk_frozen BK543.out 0; have hfz117_1 := blk_frozen BK543.out 1; have hfz117_2 := blk_frozen BK543.out 2; have hfz117_3 := blk_frozen BK543.out 3; have hfz117_4 := blk_frozen BK543.out 4; have hfz117_5 := blk_frozen BK543.out 5; have hfz117_6 := blk_frozen BK543.out 6; have hfz117_7 := blk_frozen BK543.out 7; obtain ⟨Ao118, co118, eo118⟩ := Kd.V_slice HO538.out; subst eo118; obtain ⟨Ao119, co119, eo119⟩ := Kd.V_slice HO541.out; subst eo119) | ((with_reducible refine gate_callee (f := 21) rfl ?_); refine goesL_ (some 33) rfl rfl Tryd.func21 (by kernel_rfl) rfl #[] rfl (by (try simp only [List.map_toArray, List.map_cons, List.map_nil]); first | done | rfl | (simp only [List.length_drop, List.length_take]; rfl)) ?_; (with_reducible refine (remontoirlaw04_works.calls  t544 _ ?side1 A109.out).mono ?_); (case side1 => exact Go.Proofs.YtidnopmjhhmedaaDoor.Ways.below HWays.out (bl HB)); rintro e w120 ⟨rfl, hb⟩; refine ⟨_, rfl, ?_⟩; replace HO529 := Aside0.mk (Kd.R_below (by (with_reducible repeat (first | apply Kd.R_alloc | apply Kd.R_drewN | apply Kd.R_drew)); exact (Kd.R_mono (Kd.R_far (p := ⟨gb543, 7, none⟩) (Kd.R_far (p := ⟨gb543, 6, none⟩) (Kd.R_far (p := ⟨gb543, 5, none⟩) (Kd.R_far (p := ⟨gb543, 4, none⟩) (Kd.R_far (p := ⟨gb543, 3, none⟩) (Kd.R_far (p := ⟨gb543, 2, none⟩) (Kd.R_far (p := ⟨gb543, 1, none⟩) (Kd.R_far (p := ⟨gb543, 0, none⟩) (Kd.R_types HO529.out BK543.out (by decide)) (fun _ hk => hk.2) (.int .i64 t530)) (fun _ hk => hk.2) (.int .i64 t531)) (fun _ hk => hk.2) (.int .i64 t532)) (fun _ hk => hk.2) (.int .i64 t533)) (fun _ hk => hk.2) (.int .i64 t534)) (fun _ hk => hk.2) (.int .i64 t535)) (fun _ hk => hk.2) (.slice Ao118 t536.length co118)) (fun _ hk => hk.2) (.slice Ao119 t539.length co119)) (fun _ h_ => h_.1))) hb); replace HO538 := Aside0.mk (Kd.V_below (by (with_reducible repeat (first | apply Kd.V_alloc | apply Kd.V_drewN | apply Kd.V_drew)); exact (Kd.V_mono (Kd.V_far (p := ⟨gb543, 7, none⟩) (Kd.V_far (p := ⟨gb543, 6, none⟩) (Kd.V_far (p := ⟨gb543, 5, none⟩) (Kd.V_far (p := ⟨gb543, 4, none⟩) (Kd.V_far (p := ⟨gb543, 3, none⟩) (Kd.V_far (p := ⟨gb543, 2, none⟩) (Kd.V_far (p := ⟨gb543, 1, none⟩) (Kd.V_far (p := ⟨gb543, 0, none⟩) (Kd.V_mono HO538.out (fun k_ hk => (⟨hk, hk.2⟩ : _ ∧ k_ ≠ gb543))) (fun _ hk => hk.2) (.int .i64 t530)) (fun _ hk => hk.2) (.int .i64 t531)) (fun _ hk => hk.2) (.int .i64 t532)) (fun _ hk => hk.2) (.int .i64 t533)) (fun _ hk => hk.2) (.int .i64 t534)) (fun _ hk => hk.2) (.int .i64 t535)) (fun _ hk => hk.2) (.slice Ao118 t536.length co118)) (fun _ hk => hk.2) (.slice Ao119 t539.length co119)) (fun _ h_ => h_.1))) hb); replace HO541 := Aside0.mk (Kd.V_below (by (with_reducible repeat (first | apply Kd.V_alloc | apply Kd.V_drewN | apply Kd.V_drew)); exact (Kd.V_mono (Kd.V_far (p := ⟨gb543, 7, none⟩) (Kd.V_far (p := ⟨gb543, 6, none⟩) (Kd.V_far (p := ⟨gb543, 5, none⟩) (Kd.V_far (p := ⟨gb543, 4, none⟩) (Kd.V_far (p := ⟨gb543, 3, none⟩) (Kd.V_far (p := ⟨gb543, 2, none⟩) (Kd.V_far (p := ⟨gb543, 1, none⟩) (Kd.V_far (p := ⟨gb543, 0, none⟩) (Kd.V_mono HO541.out (fun k_ hk => (⟨hk, hk.2⟩ : _ ∧ k_ ≠ gb543))) (fun _ hk => hk.2) (.int .i64 t530)) (fun _ hk => hk.2) (.int .i64 t531)) (fun _ hk => hk.2) (.int .i64 t532)) (fun _ hk => hk.2) (.int .i64 t533)) (fun _ hk => hk.2) (.int .i64 t534)) (fun _ hk => hk.2) (.int .i64 t535)) (fun _ hk => hk.2) (.slice Ao118 t536.length co118)) (fun _ hk => hk.2) (.slice Ao119 t539.length co119)) (fun _ h_ => h_.1))) hb); replace BK524 := Aside0.mk (blk_below (bk BK524) hb); replace BK543 := Aside0.mk (blk_below (g := gb543) (o := .cells #[.int .i64 t530, .int .i64 t531, .int .i64 t532, .int .i64 t533, .int .i64 t534, .int .i64 t535, .slice Ao118 t536.length co118, .slice Ao119 t539.length co119] 44 (0, 0)) (by (with_reducible repeat (first | refine blk_drewN ?_ _ | refine blk_drew ?_ | refine blk_alloc ?_ _)); refine blk_put (cs := #[.int .i64 t530, .int .i64 t531, .int .i64 t532, .int .i64 t533, .int .i64 t534, .int .i64 t535, .slice Ao118 t536.length co118, .slice none 0 0]) ?_ 7 _ rfl; (with_reducible repeat (first | refine blk_drewN ?_ _ | refine blk_drew ?_ | refine blk_alloc ?_ _)); refine blk_put (cs := #[.int .i64 t530, .int .i64 t531, .int .i64 t532, .int .i64 t533, .int .i64 t534, .int .i64 t535, .slice none 0 0, .slice none 0 0]) ?_ 6 _ rfl; (with_reducible repeat (first | refine blk_drewN ?_ _ | refine blk_drew ?_ | refine blk_alloc ?_ _)); refine blk_put (cs := #[.int .i64 t530, .int .i64 t531, .int .i64 t532, .int .i64 t533, .int .i64 t534, .int .i64 0, .slice none 0 0, .slice none 0 0]) ?_ 5 _ rfl; (with_reducible repeat (first | refine blk_drewN ?_ _ | refine blk_drew ?_ | refine blk_alloc ?_ _)); refine blk_put (cs := #[.int .i64 t530, .int .i64 t531, .int .i64 t532, .int .i64 t533, .int .i64 0, .int .i64 0, .slice none 0 0, .slice none 0 0]) ?_ 4 _ rfl; (with_reducible repeat (first | refine blk_drewN ?_ _ | refine blk_drew ?_ | refine blk_alloc ?_ _)); refine blk_put (cs := #[.int .i64 t530, .int .i64 t531, .int .i64 t532, .int .i64 0, .int .i64 0, .int .i64 0, .slice none 0 0, .slice none 0 0]) ?_ 3 _ rfl; (with_reducible repeat (first | refine blk_drewN ?_ _ | refine blk_drew ?_ | refine blk_alloc ?_ _)); refine blk_put (cs := #[.int .i64 t530, .int .i64 t531, .int .i64 0, .int .i64 0, .int .i64 0, .int .i64 0, .slice none 0 0, .slice none 0 0]) ?_ 2 _ rfl; (with_reducible repeat (first | refine blk_drewN ?_ _ | refine blk_drew ?_ | refine blk_alloc ?_ _)); refine blk_put (cs := #[.int .i64 t530, .int .i64 0, .int .i64 0, .int .i64 0, .int .i64 0, .int .i64 0, .slice none 0 0, .slice none 0 0]) ?_ 1 _ rfl; (with_reducible repeat (first | refine blk_drewN ?_ _ | refine blk_drew ?_ | refine blk_alloc ?_ _)); refine blk_put (cs := #[.int .i64 0, .int .i64 0, .int .i64 0, .int .i64 0, .int .i64 0, .int .i64 0, .slice none 0 0, .slice none 0 0]) ?_ 0 _ rfl; (with_reducible repeat (first | refine blk_drewN ?_ _ | refine blk_drew ?_ | refine blk_alloc ?_ _)); exact BK543.out) hb); replace HB := Aside0.mk (below_step (bl HB) hb); (try clear hb); (try clear hb2); (try clear hk); (try clear hi)))
   go_ret
   exact ⟨by first | rfl | (simp [errW_none, errW_some] <;> rfl) | (simp [*, errW_none, errW_some] <;> rfl), by repeat (first | (with_reducible first | exact HB.out | apply below_alloc | apply pw_below_drewN | apply below_drew1 | refine below_set ?_ GE524.out | refine below_set ?_ GE543.out) | exact HB.out)⟩
 ·
  replace c4 := Bool.eq_false_iff.mpr c4
  subst c4
  have H1 : ((remontoirlaw04_works.f).bind fun t526 => (some t526)) = some r := by rw [if_neg (show ¬ (false = true) by decide)] at H; exact H
  clear H
  have H := H1
  clear H1
  replace H := Option.bind_eq_some_iff.mp H
  obtain ⟨t526, A1210, H⟩ := H
  replace H : (some t526) = some r := H
  have A121 := Aside0.mk A1210
  clear A1210
  obtain rfl := Option.some.inj H
  go_enter Tryd.func11, Tryd.ntmps11
  go_wp2_with (first | ((with_reducible refine gate_dst (N := 2) rfl ?_); (try (refine gate_guard (by rfl) ?_; dsimp only)); refine box_event ?hg (N := 2) ?hd (cs := #[.int .i64 a0_0, .int .i64 a0_1, .int .i64 a0_2, .int .i64 a0_3, .int .i64 a0_4, .int .i64 a0_5, .slice A0_6 l0_6.length c0_6, .slice A0_7 l0_7.length c0_7]) (t := 44) ?hr ?_; (case hd => rfl); (case hg => rfl); (case hr => first | (go_simp; done) | (go_simp; rfl)); intro gb524 hg w122 hbox hb; have BK524 := Aside0.mk (hbox); have GW524 := geB hg (bl HB); have GE524 := geB hg (bl HB); replace HB := Aside0.mk (below_step (bl HB) hb); clear hb hbox hg; have hcz123_0 : w122.cell? ⟨gb524, 0, none⟩ = some (.int .i64 a0_0) := bc BK524 0; have hcz123_1 : w122.cell? ⟨gb524, 1, none⟩ = some (.int .i64 a0_1) := bc BK524 1; have hcz123_2 : w122.cell? ⟨gb524, 2, none⟩ = some (.int .i64 a0_2) := bc BK524 2; have hcz123_3 : w122.cell? ⟨gb524, 3, none⟩ = some (.int .i64 a0_3) := bc BK524 3; have hcz123_4 : w122.cell? ⟨gb524, 4, none⟩ = some (.int .i64 a0_4) := bc BK524 4; have hcz123_5 : w122.cell? ⟨gb524, 5, none⟩ = some (.int .i64 a0_5) := bc BK524 5; have hcz123_6 : w122.cell? ⟨gb524, 6, none⟩ = some (.slice A0_6 l0_6.length c0_6) := bc BK524 6; have hcz123_7 : w122.cell? ⟨gb524, 7, none⟩ = some (.slice A0_7 l0_7.length c0_7) := bc BK524 7; have hfz123_0 := blk_frozen BK524.out 0; have hfz123_1 := blk_frozen BK524.out 1; have hfz123_2 := blk_frozen BK524.out 2; have hfz123_3 := blk_frozen BK524.out 3; have hfz123_4 := blk_frozen BK524.out 4; have hfz123_5 := blk_frozen BK524.out 5; have hfz123_6 := blk_frozen BK524.out 6; have hfz123_7 := blk_frozen BK524.out 7) | ((with_reducible refine gate_callee (f := 50) rfl ?_); refine goesL_ (some 21) rfl rfl Tryd.func50 (by kernel_rfl) rfl #[.agg #[.int .i64 a0_0, .int .i64 a0_1, .int .i64 a0_2, .int .i64 a0_3, .int .i64 a0_4, .int .i64 a0_5, .slice A0_6 l0_6.length c0_6, .slice A0_7 l0_7.length c0_7]] rfl (by (try simp only [List.map_toArray, List.map_cons, List.map_nil]); first | done | rfl | (simp only [List.length_drop, List.length_take]; rfl)) ?_; (with_reducible refine (remontoirlaw04_sound.calls k a0_0 a0_1 a0_2 a0_3 a0_4 a0_5 _ _ l0_6 _ _ l0_7 false _ ?side1 ?side2 ?side3 ?side4 ?side5 A3.out).mono ?_); (case side1 => repeat (first | exact (Kd.C_below HR0_6.out HB.out) | (with_reducible refine Kd.C_alloc ?_ _) | (with_reducible refine Kd.C_drewN ?_ _) | (with_reducible refine Kd.C_drew ?_))); (case side2 => exact HC0_6.out); (case side3 => repeat (first | exact (Kd.C_below HR0_7.out HB.out) | (with_reducible refine Kd.C_alloc ?_ _) | (with_reducible refine Kd.C_drewN ?_ _) | (with_reducible refine Kd.C_drew ?_))); (case side4 => exact HC0_7.out); (case side5 => exact Go.Proofs.YtidnopmjhhmedaaDoor.Ways.below HWays.out (bl HB)); rintro e w124 ⟨rfl, hb⟩; refine ⟨_, rfl, ?_⟩; replace BK524 := Aside0.mk (blk_below (bk BK524) hb); replace HB := Aside0.mk (below_step (bl HB) hb); (try clear hb); (try clear hb2); (try clear hk); (try clear hi)) | ((with_reducible refine gate_callee (f := 21) rfl ?_); refine goesL_ (some 23) rfl rfl Tryd.func21 (by kernel_rfl) rfl #[] rfl (by (try simp only [List.map_toArray, List.map_cons, List.map_nil]); first | done | rfl | (simp only [List.length_drop, List.length_take]; rfl)) ?_; (with_reducible refine (remontoirlaw04_works.calls  t526 _ ?side1 A121.out).mono ?_); (case side1 => exact Go.Proofs.YtidnopmjhhmedaaDoor.Ways.below HWays.out (bl HB)); rintro e w125 ⟨rfl, hb⟩; refine ⟨_, rfl, ?_⟩; replace BK524 := Aside0.mk (blk_below (bk BK524) hb); replace HB := Aside0.mk (below_step (bl HB) hb); (try clear hb); (try clear hb2); (try clear hk); (try clear hi)))
  go_ret
  exact ⟨by first | rfl | (simp [errW_none, errW_some] <;> rfl) | (simp [*, errW_none, errW_some] <;> rfl), by repeat (first | (with_reducible first | exact HB.out | apply below_alloc | apply pw_below_drewN | apply below_drew1 | refine below_set ?_ GE524.out) | exact HB.out)⟩

end Go.Proofs.TrydX.X
end
