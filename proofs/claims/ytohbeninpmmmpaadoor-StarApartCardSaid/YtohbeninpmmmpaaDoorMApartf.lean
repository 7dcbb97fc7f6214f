/- PROVED: StarApartCardSaid, for every input, where the listed variable reads as the program's text lays it. Part 6 of 6: of this session; merged by wip/tools/mkClaim.py. -/
import Derived.Test.YtohbeninpmmmpaaDoorMApartb
import Derived.Test.YtohbeninpmmmpaaDoorMApartc
import Derived.Test.YtohbeninpmmmpaaDoorMAparte
section
-- Written by wip/tools/pr.py (a program of this repo over the kit's print.py).
namespace Go.Proofs.TrydX.X
open Go.RowKit Go.Proofs.YtohbeninpmmmpaaDoorW.PrintWords Go.Proofs.YtohbeninpmmmpaaDoorW.PrintLast Go.Proofs.YtohbeninpmmmpaaDoorW.PrintMore
attribute [local go_sem] max2_int min2_int max_two min_two max_three min_three max_four min_four   -- for this text's walks alone
set_option linter.unusedVariables false
set_option linter.unusedSimpArgs false

attribute [local go_sem high] eqA23
/-! ### remontoirlaw03_StarApart: function 12 -/
def remontoirlaw03_StarApart.j0 : Nat → Int → Bool → Int → Int → Int → Int → Int → Int → Int → Int → Int → Int → Int → Int → Int → Int → Option (Bool)
 | 0, _, _, _, _, _, _, _, _, _, _, _, _, _, _, _, _ => none
 | k + 1, x9, x115, x562000, x562001, x566000, x566001, x570000, x570001, x574000, x574001, x578000, x578001, x582000, x582001, x586000, x586001 => if x115 = true then (some false) else (if x9 = 0 then ((remontoirref00_To.f (wrap64 (x562000 + x566000)) (wrap64 (x562001 + x566001))).bind fun bt587 => ((remontoirref00_Within.f x570000 x570001 bt587.1 bt587.2).bind fun t589 => (if t589 = true then ((remontoirref00_To.f (wrap64 (-x562001)) (wrap64 (-x562000))).bind fun bt590 => (if (x574000 == bt590.1 && (x574001 == bt590.2)) = true then ((remontoirref00_To.f 0 0).bind fun bt592 => (if (x578000 == bt592.1 && (x578001 == bt592.2)) = true then ((remontoirref00_To.f (wrap64 (x582000 + x562000)) (wrap64 (x582001 + x562001))).bind fun bt594 => ((remontoirref00_Within.f x586000 x586001 bt594.1 bt594.2).bind fun t596 => (if t596 = true then ((remontoirlaw03_works.f).bind fun t597 => (some t597)) else (some false)))) else (some false))) else (some false))) else (some false)))) else (if x9 = 32 then ((remontoirlaw03_works.f).bind fun t586 => (some t586)) else (some false)))
def remontoirlaw03_StarApart.f (k : Nat) (a0_0 : Int) (a0_1 : Int) (a0_2 : Int) (a0_3 : Int) (a0_4 : Int) (l0_5 : List (S23)) (l0_6 : List (S23)) (l0_7 : List (S63)) (a1_0 : Int) (a1_1 : Int) (a1_2 : Int) : Option (Bool) := (remontoirlaw03_sound.f a0_0 a0_1 a0_2 a0_3 a0_4 l0_5 l0_6 l0_7).bind fun t553 => (if t553 = true then ((remontoirref00_Rest.f a1_0 a0_0).bind fun t555 => ((remontoirref00_Rest.f a1_1 a0_0).bind fun t556 => ((remontoirref00_Rest.f a1_2 a0_0).bind fun t557 => ((star_Between.f a0_0 a0_1 a0_2 a0_3 a0_4 l0_5 l0_6 l0_7 t555 t556).bind fun bt558 => ((star_Between.f a0_0 a0_1 a0_2 a0_3 a0_4 l0_5 l0_6 l0_7 t556 t557).bind fun bt562 => ((star_Between.f a0_0 a0_1 a0_2 a0_3 a0_4 l0_5 l0_6 l0_7 t555 t557).bind fun bt566 => ((star_Between.f a0_0 a0_1 a0_2 a0_3 a0_4 l0_5 l0_6 l0_7 t556 t555).bind fun bt570 => ((star_Between.f a0_0 a0_1 a0_2 a0_3 a0_4 l0_5 l0_6 l0_7 t555 t555).bind fun bt574 => ((star_Offset.f a0_0 a0_1 a0_2 a0_3 a0_4 l0_5 l0_6 l0_7 t555).bind fun bt578 => ((star_Offset.f a0_0 a0_1 a0_2 a0_3 a0_4 l0_5 l0_6 l0_7 t556).bind fun bt582 => (if bt562.2.2 = bt558.2.2 then (if bt566.2.2 = bt558.2.2 then (if bt570.2.2 = bt558.2.2 then (if bt574.2.2 = bt558.2.2 then (if bt578.2.2 = bt558.2.2 then (remontoirlaw03_StarApart.j0 k bt558.2.2 (bt582.2.2 != bt558.2.2) bt558.1 bt558.2.1 bt562.1 bt562.2.1 bt566.1 bt566.2.1 bt570.1 bt570.2.1 bt574.1 bt574.2.1 bt578.1 bt578.2.1 bt582.1 bt582.2.1) else (remontoirlaw03_StarApart.j0 k bt558.2.2 true bt558.1 bt558.2.1 bt562.1 bt562.2.1 bt566.1 bt566.2.1 bt570.1 bt570.2.1 bt574.1 bt574.2.1 bt578.1 bt578.2.1 bt582.1 bt582.2.1)) else (remontoirlaw03_StarApart.j0 k bt558.2.2 true bt558.1 bt558.2.1 bt562.1 bt562.2.1 bt566.1 bt566.2.1 bt570.1 bt570.2.1 bt574.1 bt574.2.1 bt578.1 bt578.2.1 bt582.1 bt582.2.1)) else (remontoirlaw03_StarApart.j0 k bt558.2.2 true bt558.1 bt558.2.1 bt562.1 bt562.2.1 bt566.1 bt566.2.1 bt570.1 bt570.2.1 bt574.1 bt574.2.1 bt578.1 bt578.2.1 bt582.1 bt582.2.1)) else (remontoirlaw03_StarApart.j0 k bt558.2.2 true bt558.1 bt558.2.1 bt562.1 bt562.2.1 bt566.1 bt566.2.1 bt570.1 bt570.2.1 bt574.1 bt574.2.1 bt578.1 bt578.2.1 bt582.1 bt582.2.1)) else (remontoirlaw03_StarApart.j0 k bt558.2.2 true bt558.1 bt558.2.1 bt562.1 bt562.2.1 bt566.1 bt566.2.1 bt570.1 bt570.2.1 bt574.1 bt574.2.1 bt578.1 bt578.2.1 bt582.1 bt582.2.1)))))))))))) else ((remontoirlaw03_works.f).bind fun t554 => (some t554)))
def remontoirlaw03_StarApart.T3 : Bool × List (List Nat × List Nat) := (true, [([], []), ([0], [0]), ([], []), ([2], [2]), ([1, 3], [1, 3]), ([], []), ([5], [5]), ([], []), ([7], [7]), ([6, 8, 4], [6, 8]), ([], []), ([10], [10]), ([], []), ([12], [12]), ([11, 13, 9], [11, 13]), ([4, 14, 0, 1, 2, 3, 4], [4]), ([9, 15, 0, 1, 2, 3, 4, 5, 6, 7, 8, 9, 15], [9]), ([14, 16, 0, 1, 2, 3, 4, 5, 6, 7, 8, 9, 10, 11, 12, 13, 14, 15, 16], [14])])
def remontoirlaw03_StarApart.B3 : List Nat := [0, 1, 0, 4, 15, 0, 32, 0, 128, 511, 0, 1024, 0, 4096, 16383, 32767, 65535, 131071]
theorem remontoirlaw03_StarApart.tab3 : rtab .any (opsOf Tryd.f12 3) = remontoirlaw03_StarApart.T3 := by kernel_rfl
theorem remontoirlaw03_StarApart.bits3 : waitsOk remontoirlaw03_StarApart.T3.2 remontoirlaw03_StarApart.B3 = true := by kernel_rfl
def remontoirlaw03_StarApart.T15 : Bool × List (List Nat × List Nat) := (true, [([], []), ([], []), ([1], [1]), ([], []), ([3], [3]), ([2, 4], [2, 4]), ([], []), ([6], [6]), ([], []), ([8], [8]), ([7, 9], [7, 9]), ([5, 10], [5, 10]), ([0, 11, 11], [0, 11]), ([12, 12], [12]), ([13], [13]), ([13], [13]), ([15, 13], [13, 15]), ([16, 13], [13, 16]), ([13], [13]), ([18, 13], [13, 18]), ([19, 13], [13, 19]), ([17, 20, 13, 13], [13, 17, 20]), ([14, 21, 13], [13, 14, 21]), ([13, 22], [13, 22]), ([23, 21], [23]), ([24], [24]), ([24, 24], [24]), ([25, 26, 24], [24, 25, 26]), ([24, 27], [24, 27]), ([28, 26], [28]), ([29], [29]), ([29], [29]), ([31, 29], [29, 31]), ([29], [29]), ([33, 29], [29, 33]), ([32, 34, 29], [29, 32, 34]), ([29], [29]), ([36, 29], [29, 36]), ([29], [29]), ([38, 29], [29, 38]), ([37, 39, 29], [29, 37, 39]), ([35, 40, 29, 29], [29, 35, 40]), ([30, 41, 41, 29], [29, 30, 41]), ([29, 42], [29, 42]), ([43, 42], [43]), ([44, 44], [44]), ([44, 45], [44, 45]), ([46, 45, 0, 1, 2, 3, 4, 5, 6, 7, 8, 9, 10, 11, 12, 13, 14, 15, 16, 17, 18, 19, 20, 21, 22, 23, 24, 25, 26, 27, 28, 29, 30, 31, 32, 33, 34, 35, 36, 37, 38, 39, 40, 41, 42, 43, 44, 45, 46], [46])])
def remontoirlaw03_StarApart.B15 : List Nat := [0, 0, 2, 0, 8, 30, 0, 64, 0, 256, 960, 2046, 4095, 8191, 16383, 16383, 49151, 114687, 16383, 278527, 802815, 2080767, 4194303, 8388607, 16777215, 33554431, 33554431, 134217727, 268435455, 536870911, 1073741823, 1073741823, 3221225471, 1073741823, 9663676415, 33285996543, 1073741823, 69793218559, 1073741823, 275951648767, 1031865892863, 2197949513727, 4398046511103, 8796093022207, 17592186044415, 35184372088831, 70368744177663, 140737488355327]
theorem remontoirlaw03_StarApart.tab15 : rtab .any (opsOf Tryd.f12 15) = remontoirlaw03_StarApart.T15 := by kernel_rfl
theorem remontoirlaw03_StarApart.bits15 : waitsOk remontoirlaw03_StarApart.T15.2 remontoirlaw03_StarApart.B15 = true := by kernel_rfl
set_option maxHeartbeats 8000000 in
set_option maxRecDepth 100000 in
theorem remontoirlaw03_StarApart.calls (k : Nat) (a0_0 : Int) (a0_1 : Int) (a0_2 : Int) (a0_3 : Int) (a0_4 : Int) (A0_5 : Option Addr) (c0_5 : Nat) (l0_5 : List (S23)) (A0_6 : Option Addr) (c0_6 : Nat) (l0_6 : List (S23)) (A0_7 : Option Addr) (c0_7 : Nat) (l0_7 : List (S63)) (a1_0 : Int) (a1_1 : Int) (a1_2 : Int) (r : Bool) (w : World) (hr0_5 : Kd.C k23 w A0_5 l0_5.length l0_5) (hc0_5 : l0_5.length ≤ c0_5) (hr0_6 : Kd.C k23 w A0_6 l0_6.length l0_6) (hc0_6 : l0_6.length ≤ c0_6) (hr0_7 : Kd.C k63 w A0_7 l0_7.length l0_7) (hc0_7 : l0_7.length ≤ c0_7) (hWays : Go.Proofs.YtohbeninpmmmpaaDoor.Ways w) (h : remontoirlaw03_StarApart.f k a0_0 a0_1 a0_2 a0_3 a0_4 l0_5 l0_6 l0_7 a1_0 a1_1 a1_2 = some r) :
  Calls Tryd.prog 12 #[.agg #[.int .i64 a0_0, .int .i64 a0_1, .int .i64 a0_2, .int .i64 a0_3, .int .i64 a0_4, .slice A0_5 l0_5.length c0_5, .slice A0_6 l0_6.length c0_6, .slice A0_7 l0_7.length c0_7], .agg #[.int .i64 a1_0, .int .i64 a1_1, .int .i64 a1_2]] w fun e w' => e = .returned (.bool r) ∧ Below w.heap.size w w' := by
 have hu27 := Tryd.underlying27
 have hu40 := Tryd.underlying40
 have hu23 := Tryd.underlying23
 have HR0_5 := Aside0.mk hr0_5
 have HC0_5 := Aside0.mk hc0_5
 clear hr0_5 hc0_5
 have HR0_6 := Aside0.mk hr0_6
 have HC0_6 := Aside0.mk hc0_6
 clear hr0_6 hc0_6
 have HR0_7 := Aside0.mk hr0_7
 have HC0_7 := Aside0.mk hc0_7
 clear hr0_7 hc0_7
 have HB := Aside0.mk (Below.refl w.heap.size w)
 have HWays := Aside0.mk hWays
 clear hWays
 have H : ((remontoirlaw03_sound.f a0_0 a0_1 a0_2 a0_3 a0_4 l0_5 l0_6 l0_7).bind fun t553 => (if t553 = true then ((remontoirref00_Rest.f a1_0 a0_0).bind fun t555 => ((remontoirref00_Rest.f a1_1 a0_0).bind fun t556 => ((remontoirref00_Rest.f a1_2 a0_0).bind fun t557 => ((star_Between.f a0_0 a0_1 a0_2 a0_3 a0_4 l0_5 l0_6 l0_7 t555 t556).bind fun bt558 => ((star_Between.f a0_0 a0_1 a0_2 a0_3 a0_4 l0_5 l0_6 l0_7 t556 t557).bind fun bt562 => ((star_Between.f a0_0 a0_1 a0_2 a0_3 a0_4 l0_5 l0_6 l0_7 t555 t557).bind fun bt566 => ((star_Between.f a0_0 a0_1 a0_2 a0_3 a0_4 l0_5 l0_6 l0_7 t556 t555).bind fun bt570 => ((star_Between.f a0_0 a0_1 a0_2 a0_3 a0_4 l0_5 l0_6 l0_7 t555 t555).bind fun bt574 => ((star_Offset.f a0_0 a0_1 a0_2 a0_3 a0_4 l0_5 l0_6 l0_7 t555).bind fun bt578 => ((star_Offset.f a0_0 a0_1 a0_2 a0_3 a0_4 l0_5 l0_6 l0_7 t556).bind fun bt582 => (if bt562.2.2 = bt558.2.2 then (if bt566.2.2 = bt558.2.2 then (if bt570.2.2 = bt558.2.2 then (if bt574.2.2 = bt558.2.2 then (if bt578.2.2 = bt558.2.2 then (remontoirlaw03_StarApart.j0 k bt558.2.2 (bt582.2.2 != bt558.2.2) bt558.1 bt558.2.1 bt562.1 bt562.2.1 bt566.1 bt566.2.1 bt570.1 bt570.2.1 bt574.1 bt574.2.1 bt578.1 bt578.2.1 bt582.1 bt582.2.1) else (remontoirlaw03_StarApart.j0 k bt558.2.2 true bt558.1 bt558.2.1 bt562.1 bt562.2.1 bt566.1 bt566.2.1 bt570.1 bt570.2.1 bt574.1 bt574.2.1 bt578.1 bt578.2.1 bt582.1 bt582.2.1)) else (remontoirlaw03_StarApart.j0 k bt558.2.2 true bt558.1 bt558.2.1 bt562.1 bt562.2.1 bt566.1 bt566.2.1 bt570.1 bt570.2.1 bt574.1 bt574.2.1 bt578.1 bt578.2.1 bt582.1 bt582.2.1)) else (remontoirlaw03_StarApart.j0 k bt558.2.2 true bt558.1 bt558.2.1 bt562.1 bt562.2.1 bt566.1 bt566.2.1 bt570.1 bt570.2.1 bt574.1 bt574.2.1 bt578.1 bt578.2.1 bt582.1 bt582.2.1)) else (remontoirlaw03_StarApart.j0 k bt558.2.2 true bt558.1 bt558.2.1 bt562.1 bt562.2.1 bt566.1 bt566.2.1 bt570.1 bt570.2.1 bt574.1 bt574.2.1 bt578.1 bt578.2.1 bt582.1 bt582.2.1)) else (remontoirlaw03_StarApart.j0 k bt558.2.2 true bt558.1 bt558.2.1 bt562.1 bt562.2.1 bt566.1 bt566.2.1 bt570.1 bt570.2.1 bt574.1 bt574.2.1 bt578.1 bt578.2.1 bt582.1 bt582.2.1)))))))))))) else ((remontoirlaw03_works.f).bind fun t554 => (some t554)))) = some r := h
 clear h
 replace H := Option.bind_eq_some_iff.mp H
 obtain ⟨t553, A30, H⟩ := H
 replace H : (if t553 = true then ((remontoirref00_Rest.f a1_0 a0_0).bind fun t555 => ((remontoirref00_Rest.f a1_1 a0_0).bind fun t556 => ((remontoirref00_Rest.f a1_2 a0_0).bind fun t557 => ((star_Between.f a0_0 a0_1 a0_2 a0_3 a0_4 l0_5 l0_6 l0_7 t555 t556).bind fun bt558 => ((star_Between.f a0_0 a0_1 a0_2 a0_3 a0_4 l0_5 l0_6 l0_7 t556 t557).bind fun bt562 => ((star_Between.f a0_0 a0_1 a0_2 a0_3 a0_4 l0_5 l0_6 l0_7 t555 t557).bind fun bt566 => ((star_Between.f a0_0 a0_1 a0_2 a0_3 a0_4 l0_5 l0_6 l0_7 t556 t555).bind fun bt570 => ((star_Between.f a0_0 a0_1 a0_2 a0_3 a0_4 l0_5 l0_6 l0_7 t555 t555).bind fun bt574 => ((star_Offset.f a0_0 a0_1 a0_2 a0_3 a0_4 l0_5 l0_6 l0_7 t555).bind fun bt578 => ((star_Offset.f a0_0 a0_1 a0_2 a0_3 a0_4 l0_5 l0_6 l0_7 t556).bind fun bt582 => (if bt562.2.2 = bt558.2.2 then (if bt566.2.2 = bt558.2.2 then (if bt570.2.2 = bt558.2.2 then (if bt574.2.2 = bt558.2.2 then (if bt578.2.2 = bt558.2.2 then (remontoirlaw03_StarApart.j0 k bt558.2.2 (bt582.2.2 != bt558.2.2) bt558.1 bt558.2.1 bt562.1 bt562.2.1 bt566.1 bt566.2.1 bt570.1 bt570.2.1 bt574.1 bt574.2.1 bt578.1 bt578.2.1 bt582.1 bt582.2.1) else (remontoirlaw03_StarApart.j0 k bt558.2.2 true bt558.1 bt558.2.1 bt562.1 bt562.2.1 bt566.1 bt566.2.1 bt570.1 bt570.2.1 bt574.1 bt574.2.1 bt578.1 bt578.2.1 bt582.1 bt582.2.1)) else (remontoirlaw03_StarApart.j0 k bt558.2.2 true bt558.1 bt558.2.1 bt562.1 bt562.2.1 bt566.1 bt566.2.1 bt570.1 bt570.2.1 bt574.1 bt574.2.1 bt578.1 bt578.2.1 bt582.1 bt582.2.1)) else (remontoirlaw03_StarApart.j0 k bt558.2.2 true bt558.1 bt558.2.1 bt562.1 bt562.2.1 bt566.1 bt566.2.1 bt570.1 bt570.2.1 bt574.1 bt574.2.1 bt578.1 bt578.2.1 bt582.1 bt582.2.1)) else (remontoirlaw03_StarApart.j0 k bt558.2.2 true bt558.1 bt558.2.1 bt562.1 bt562.2.1 bt566.1 bt566.2.1 bt570.1 bt570.2.1 bt574.1 bt574.2.1 bt578.1 bt578.2.1 bt582.1 bt582.2.1)) else (remontoirlaw03_StarApart.j0 k bt558.2.2 true bt558.1 bt558.2.1 bt562.1 bt562.2.1 bt566.1 bt566.2.1 bt570.1 bt570.2.1 bt574.1 bt574.2.1 bt578.1 bt578.2.1 bt582.1 bt582.2.1)))))))))))) else ((remontoirlaw03_works.f).bind fun t554 => (some t554))) = some r := H
 have A3 := Aside0.mk A30
 clear A30
 by_cases c4 : t553 = true
 ·
  subst c4
  have H1 : ((remontoirref00_Rest.f a1_0 a0_0).bind fun t555 => ((remontoirref00_Rest.f a1_1 a0_0).bind fun t556 => ((remontoirref00_Rest.f a1_2 a0_0).bind fun t557 => ((star_Between.f a0_0 a0_1 a0_2 a0_3 a0_4 l0_5 l0_6 l0_7 t555 t556).bind fun bt558 => ((star_Between.f a0_0 a0_1 a0_2 a0_3 a0_4 l0_5 l0_6 l0_7 t556 t557).bind fun bt562 => ((star_Between.f a0_0 a0_1 a0_2 a0_3 a0_4 l0_5 l0_6 l0_7 t555 t557).bind fun bt566 => ((star_Between.f a0_0 a0_1 a0_2 a0_3 a0_4 l0_5 l0_6 l0_7 t556 t555).bind fun bt570 => ((star_Between.f a0_0 a0_1 a0_2 a0_3 a0_4 l0_5 l0_6 l0_7 t555 t555).bind fun bt574 => ((star_Offset.f a0_0 a0_1 a0_2 a0_3 a0_4 l0_5 l0_6 l0_7 t555).bind fun bt578 => ((star_Offset.f a0_0 a0_1 a0_2 a0_3 a0_4 l0_5 l0_6 l0_7 t556).bind fun bt582 => (if bt562.2.2 = bt558.2.2 then (if bt566.2.2 = bt558.2.2 then (if bt570.2.2 = bt558.2.2 then (if bt574.2.2 = bt558.2.2 then (if bt578.2.2 = bt558.2.2 then (remontoirlaw03_StarApart.j0 k bt558.2.2 (bt582.2.2 != bt558.2.2) bt558.1 bt558.2.1 bt562.1 bt562.2.1 bt566.1 bt566.2.1 bt570.1 bt570.2.1 bt574.1 bt574.2.1 bt578.1 bt578.2.1 bt582.1 bt582.2.1) else (remontoirlaw03_StarApart.j0 k bt558.2.2 true bt558.1 bt558.2.1 bt562.1 bt562.2.1 bt566.1 bt566.2.1 bt570.1 bt570.2.1 bt574.1 bt574.2.1 bt578.1 bt578.2.1 bt582.1 bt582.2.1)) else (remontoirlaw03_StarApart.j0 k bt558.2.2 true bt558.1 bt558.2.1 bt562.1 bt562.2.1 bt566.1 bt566.2.1 bt570.1 bt570.2.1 bt574.1 bt574.2.1 bt578.1 bt578.2.1 bt582.1 bt582.2.1)) else (remontoirlaw03_StarApart.j0 k bt558.2.2 true bt558.1 bt558.2.1 bt562.1 bt562.2.1 bt566.1 bt566.2.1 bt570.1 bt570.2.1 bt574.1 bt574.2.1 bt578.1 bt578.2.1 bt582.1 bt582.2.1)) else (remontoirlaw03_StarApart.j0 k bt558.2.2 true bt558.1 bt558.2.1 bt562.1 bt562.2.1 bt566.1 bt566.2.1 bt570.1 bt570.2.1 bt574.1 bt574.2.1 bt578.1 bt578.2.1 bt582.1 bt582.2.1)) else (remontoirlaw03_StarApart.j0 k bt558.2.2 true bt558.1 bt558.2.1 bt562.1 bt562.2.1 bt566.1 bt566.2.1 bt570.1 bt570.2.1 bt574.1 bt574.2.1 bt578.1 bt578.2.1 bt582.1 bt582.2.1)))))))))))) = some r := by rw [if_pos rfl] at H; exact H
  clear H
  have H := H1
  clear H1
  replace H := Option.bind_eq_some_iff.mp H
  obtain ⟨t555, A50, H⟩ := H
  replace H : ((remontoirref00_Rest.f a1_1 a0_0).bind fun t556 => ((remontoirref00_Rest.f a1_2 a0_0).bind fun t557 => ((star_Between.f a0_0 a0_1 a0_2 a0_3 a0_4 l0_5 l0_6 l0_7 t555 t556).bind fun bt558 => ((star_Between.f a0_0 a0_1 a0_2 a0_3 a0_4 l0_5 l0_6 l0_7 t556 t557).bind fun bt562 => ((star_Between.f a0_0 a0_1 a0_2 a0_3 a0_4 l0_5 l0_6 l0_7 t555 t557).bind fun bt566 => ((star_Between.f a0_0 a0_1 a0_2 a0_3 a0_4 l0_5 l0_6 l0_7 t556 t555).bind fun bt570 => ((star_Between.f a0_0 a0_1 a0_2 a0_3 a0_4 l0_5 l0_6 l0_7 t555 t555).bind fun bt574 => ((star_Offset.f a0_0 a0_1 a0_2 a0_3 a0_4 l0_5 l0_6 l0_7 t555).bind fun bt578 => ((star_Offset.f a0_0 a0_1 a0_2 a0_3 a0_4 l0_5 l0_6 l0_7 t556).bind fun bt582 => (if bt562.2.2 = bt558.2.2 then (if bt566.2.2 = bt558.2.2 then (if bt570.2.2 = bt558.2.2 then (if bt574.2.2 = bt558.2.2 then (if bt578.2.2 = bt558.2.2 then (remontoirlaw03_StarApart.j0 k bt558.2.2 (bt582.2.2 != bt558.2.2) bt558.1 bt558.2.1 bt562.1 bt562.2.1 bt566.1 bt566.2.1 bt570.1 bt570.2.1 bt574.1 bt574.2.1 bt578.1 bt578.2.1 bt582.1 bt582.2.1) else (remontoirlaw03_StarApart.j0 k bt558.2.2 true bt558.1 bt558.2.1 bt562.1 bt562.2.1 bt566.1 bt566.2.1 bt570.1 bt570.2.1 bt574.1 bt574.2.1 bt578.1 bt578.2.1 bt582.1 bt582.2.1)) else (remontoirlaw03_StarApart.j0 k bt558.2.2 true bt558.1 bt558.2.1 bt562.1 bt562.2.1 bt566.1 bt566.2.1 bt570.1 bt570.2.1 bt574.1 bt574.2.1 bt578.1 bt578.2.1 bt582.1 bt582.2.1)) else (remontoirlaw03_StarApart.j0 k bt558.2.2 true bt558.1 bt558.2.1 bt562.1 bt562.2.1 bt566.1 bt566.2.1 bt570.1 bt570.2.1 bt574.1 bt574.2.1 bt578.1 bt578.2.1 bt582.1 bt582.2.1)) else (remontoirlaw03_StarApart.j0 k bt558.2.2 true bt558.1 bt558.2.1 bt562.1 bt562.2.1 bt566.1 bt566.2.1 bt570.1 bt570.2.1 bt574.1 bt574.2.1 bt578.1 bt578.2.1 bt582.1 bt582.2.1)) else (remontoirlaw03_StarApart.j0 k bt558.2.2 true bt558.1 bt558.2.1 bt562.1 bt562.2.1 bt566.1 bt566.2.1 bt570.1 bt570.2.1 bt574.1 bt574.2.1 bt578.1 bt578.2.1 bt582.1 bt582.2.1))))))))))) = some r := H
  have A5 := Aside0.mk A50
  clear A50
  replace H := Option.bind_eq_some_iff.mp H
  obtain ⟨t556, A60, H⟩ := H
  replace H : ((remontoirref00_Rest.f a1_2 a0_0).bind fun t557 => ((star_Between.f a0_0 a0_1 a0_2 a0_3 a0_4 l0_5 l0_6 l0_7 t555 t556).bind fun bt558 => ((star_Between.f a0_0 a0_1 a0_2 a0_3 a0_4 l0_5 l0_6 l0_7 t556 t557).bind fun bt562 => ((star_Between.f a0_0 a0_1 a0_2 a0_3 a0_4 l0_5 l0_6 l0_7 t555 t557).bind fun bt566 => ((star_Between.f a0_0 a0_1 a0_2 a0_3 a0_4 l0_5 l0_6 l0_7 t556 t555).bind fun bt570 => ((star_Between.f a0_0 a0_1 a0_2 a0_3 a0_4 l0_5 l0_6 l0_7 t555 t555).bind fun bt574 => ((star_Offset.f a0_0 a0_1 a0_2 a0_3 a0_4 l0_5 l0_6 l0_7 t555).bind fun bt578 => ((star_Offset.f a0_0 a0_1 a0_2 a0_3 a0_4 l0_5 l0_6 l0_7 t556).bind fun bt582 => (if bt562.2.2 = bt558.2.2 then (if bt566.2.2 = bt558.2.2 then (if bt570.2.2 = bt558.2.2 then (if bt574.2.2 = bt558.2.2 then (if bt578.2.2 = bt558.2.2 then (remontoirlaw03_StarApart.j0 k bt558.2.2 (bt582.2.2 != bt558.2.2) bt558.1 bt558.2.1 bt562.1 bt562.2.1 bt566.1 bt566.2.1 bt570.1 bt570.2.1 bt574.1 bt574.2.1 bt578.1 bt578.2.1 bt582.1 bt582.2.1) else (remontoirlaw03_StarApart.j0 k bt558.2.2 true bt558.1 bt558.2.1 bt562.1 bt562.2.1 bt566.1 bt566.2.1 bt570.1 bt570.2.1 bt574.1 bt574.2.1 bt578.1 bt578.2.1 bt582.1 bt582.2.1)) else (remontoirlaw03_StarApart.j0 k bt558.2.2 true bt558.1 bt558.2.1 bt562.1 bt562.2.1 bt566.1 bt566.2.1 bt570.1 bt570.2.1 bt574.1 bt574.2.1 bt578.1 bt578.2.1 bt582.1 bt582.2.1)) else (remontoirlaw03_StarApart.j0 k bt558.2.2 true bt558.1 bt558.2.1 bt562.1 bt562.2.1 bt566.1 bt566.2.1 bt570.1 bt570.2.1 bt574.1 bt574.2.1 bt578.1 bt578.2.1 bt582.1 bt582.2.1)) else (remontoirlaw03_StarApart.j0 k bt558.2.2 true bt558.1 bt558.2.1 bt562.1 bt562.2.1 bt566.1 bt566.2.1 bt570.1 bt570.2.1 bt574.1 bt574.2.1 bt578.1 bt578.2.1 bt582.1 bt582.2.1)) else (remontoirlaw03_StarApart.j0 k bt558.2.2 true bt558.1 bt558.2.1 bt562.1 bt562.2.1 bt566.1 bt566.2.1 bt570.1 bt570.2.1 bt574.1 bt574.2.1 bt578.1 bt578.2.1 bt582.1 bt582.2.1)))))))))) = some r := H
  have A6 := Aside0.mk A60
  clear A60
  replace H := Option.bind_eq_some_iff.mp H
  obtain ⟨t557, A70, H⟩ := H
  replace H : ((star_Between.f a0_0 a0_1 a0_2 a0_3 a0_4 l0_5 l0_6 l0_7 t555 t556).bind fun bt558 => ((star_Between.f a0_0 a0_1 a0_2 a0_3 a0_4 l0_5 l0_6 l0_7 t556 t557).bind fun bt562 => ((star_Between.f a0_0 a0_1 a0_2 a0_3 a0_4 l0_5 l0_6 l0_7 t555 t557).bind fun bt566 => ((star_Between.f a0_0 a0_1 a0_2 a0_3 a0_4 l0_5 l0_6 l0_7 t556 t555).bind fun bt570 => ((star_Between.f a0_0 a0_1 a0_2 a0_3 a0_4 l0_5 l0_6 l0_7 t555 t555).bind fun bt574 => ((star_Offset.f a0_0 a0_1 a0_2 a0_3 a0_4 l0_5 l0_6 l0_7 t555).bind fun bt578 => ((star_Offset.f a0_0 a0_1 a0_2 a0_3 a0_4 l0_5 l0_6 l0_7 t556).bind fun bt582 => (if bt562.2.2 = bt558.2.2 then (if bt566.2.2 = bt558.2.2 then (if bt570.2.2 = bt558.2.2 then (if bt574.2.2 = bt558.2.2 then (if bt578.2.2 = bt558.2.2 then (remontoirlaw03_StarApart.j0 k bt558.2.2 (bt582.2.2 != bt558.2.2) bt558.1 bt558.2.1 bt562.1 bt562.2.1 bt566.1 bt566.2.1 bt570.1 bt570.2.1 bt574.1 bt574.2.1 bt578.1 bt578.2.1 bt582.1 bt582.2.1) else (remontoirlaw03_StarApart.j0 k bt558.2.2 true bt558.1 bt558.2.1 bt562.1 bt562.2.1 bt566.1 bt566.2.1 bt570.1 bt570.2.1 bt574.1 bt574.2.1 bt578.1 bt578.2.1 bt582.1 bt582.2.1)) else (remontoirlaw03_StarApart.j0 k bt558.2.2 true bt558.1 bt558.2.1 bt562.1 bt562.2.1 bt566.1 bt566.2.1 bt570.1 bt570.2.1 bt574.1 bt574.2.1 bt578.1 bt578.2.1 bt582.1 bt582.2.1)) else (remontoirlaw03_StarApart.j0 k bt558.2.2 true bt558.1 bt558.2.1 bt562.1 bt562.2.1 bt566.1 bt566.2.1 bt570.1 bt570.2.1 bt574.1 bt574.2.1 bt578.1 bt578.2.1 bt582.1 bt582.2.1)) else (remontoirlaw03_StarApart.j0 k bt558.2.2 true bt558.1 bt558.2.1 bt562.1 bt562.2.1 bt566.1 bt566.2.1 bt570.1 bt570.2.1 bt574.1 bt574.2.1 bt578.1 bt578.2.1 bt582.1 bt582.2.1)) else (remontoirlaw03_StarApart.j0 k bt558.2.2 true bt558.1 bt558.2.1 bt562.1 bt562.2.1 bt566.1 bt566.2.1 bt570.1 bt570.2.1 bt574.1 bt574.2.1 bt578.1 bt578.2.1 bt582.1 bt582.2.1))))))))) = some r := H
  have A7 := Aside0.mk A70
  clear A70
  replace H := Option.bind_eq_some_iff.mp H
  obtain ⟨⟨t558, t559, t560⟩, A80, H⟩ := H
  replace H : ((star_Between.f a0_0 a0_1 a0_2 a0_3 a0_4 l0_5 l0_6 l0_7 t556 t557).bind fun bt562 => ((star_Between.f a0_0 a0_1 a0_2 a0_3 a0_4 l0_5 l0_6 l0_7 t555 t557).bind fun bt566 => ((star_Between.f a0_0 a0_1 a0_2 a0_3 a0_4 l0_5 l0_6 l0_7 t556 t555).bind fun bt570 => ((star_Between.f a0_0 a0_1 a0_2 a0_3 a0_4 l0_5 l0_6 l0_7 t555 t555).bind fun bt574 => ((star_Offset.f a0_0 a0_1 a0_2 a0_3 a0_4 l0_5 l0_6 l0_7 t555).bind fun bt578 => ((star_Offset.f a0_0 a0_1 a0_2 a0_3 a0_4 l0_5 l0_6 l0_7 t556).bind fun bt582 => (if bt562.2.2 = t560 then (if bt566.2.2 = t560 then (if bt570.2.2 = t560 then (if bt574.2.2 = t560 then (if bt578.2.2 = t560 then (remontoirlaw03_StarApart.j0 k t560 (bt582.2.2 != t560) t558 t559 bt562.1 bt562.2.1 bt566.1 bt566.2.1 bt570.1 bt570.2.1 bt574.1 bt574.2.1 bt578.1 bt578.2.1 bt582.1 bt582.2.1) else (remontoirlaw03_StarApart.j0 k t560 true t558 t559 bt562.1 bt562.2.1 bt566.1 bt566.2.1 bt570.1 bt570.2.1 bt574.1 bt574.2.1 bt578.1 bt578.2.1 bt582.1 bt582.2.1)) else (remontoirlaw03_StarApart.j0 k t560 true t558 t559 bt562.1 bt562.2.1 bt566.1 bt566.2.1 bt570.1 bt570.2.1 bt574.1 bt574.2.1 bt578.1 bt578.2.1 bt582.1 bt582.2.1)) else (remontoirlaw03_StarApart.j0 k t560 true t558 t559 bt562.1 bt562.2.1 bt566.1 bt566.2.1 bt570.1 bt570.2.1 bt574.1 bt574.2.1 bt578.1 bt578.2.1 bt582.1 bt582.2.1)) else (remontoirlaw03_StarApart.j0 k t560 true t558 t559 bt562.1 bt562.2.1 bt566.1 bt566.2.1 bt570.1 bt570.2.1 bt574.1 bt574.2.1 bt578.1 bt578.2.1 bt582.1 bt582.2.1)) else (remontoirlaw03_StarApart.j0 k t560 true t558 t559 bt562.1 bt562.2.1 bt566.1 bt566.2.1 bt570.1 bt570.2.1 bt574.1 bt574.2.1 bt578.1 bt578.2.1 bt582.1 bt582.2.1)))))))) = some r := H
  have A8 := Aside0.mk A80
  clear A80
  replace H := Option.bind_eq_some_iff.mp H
  obtain ⟨⟨t562, t563, t564⟩, A90, H⟩ := H
  replace H : ((star_Between.f a0_0 a0_1 a0_2 a0_3 a0_4 l0_5 l0_6 l0_7 t555 t557).bind fun bt566 => ((star_Between.f a0_0 a0_1 a0_2 a0_3 a0_4 l0_5 l0_6 l0_7 t556 t555).bind fun bt570 => ((star_Between.f a0_0 a0_1 a0_2 a0_3 a0_4 l0_5 l0_6 l0_7 t555 t555).bind fun bt574 => ((star_Offset.f a0_0 a0_1 a0_2 a0_3 a0_4 l0_5 l0_6 l0_7 t555).bind fun bt578 => ((star_Offset.f a0_0 a0_1 a0_2 a0_3 a0_4 l0_5 l0_6 l0_7 t556).bind fun bt582 => (if t564 = t560 then (if bt566.2.2 = t560 then (if bt570.2.2 = t560 then (if bt574.2.2 = t560 then (if bt578.2.2 = t560 then (remontoirlaw03_StarApart.j0 k t560 (bt582.2.2 != t560) t558 t559 t562 t563 bt566.1 bt566.2.1 bt570.1 bt570.2.1 bt574.1 bt574.2.1 bt578.1 bt578.2.1 bt582.1 bt582.2.1) else (remontoirlaw03_StarApart.j0 k t560 true t558 t559 t562 t563 bt566.1 bt566.2.1 bt570.1 bt570.2.1 bt574.1 bt574.2.1 bt578.1 bt578.2.1 bt582.1 bt582.2.1)) else (remontoirlaw03_StarApart.j0 k t560 true t558 t559 t562 t563 bt566.1 bt566.2.1 bt570.1 bt570.2.1 bt574.1 bt574.2.1 bt578.1 bt578.2.1 bt582.1 bt582.2.1)) else (remontoirlaw03_StarApart.j0 k t560 true t558 t559 t562 t563 bt566.1 bt566.2.1 bt570.1 bt570.2.1 bt574.1 bt574.2.1 bt578.1 bt578.2.1 bt582.1 bt582.2.1)) else (remontoirlaw03_StarApart.j0 k t560 true t558 t559 t562 t563 bt566.1 bt566.2.1 bt570.1 bt570.2.1 bt574.1 bt574.2.1 bt578.1 bt578.2.1 bt582.1 bt582.2.1)) else (remontoirlaw03_StarApart.j0 k t560 true t558 t559 t562 t563 bt566.1 bt566.2.1 bt570.1 bt570.2.1 bt574.1 bt574.2.1 bt578.1 bt578.2.1 bt582.1 bt582.2.1))))))) = some r := H
  have A9 := Aside0.mk A90
  clear A90
  replace H := Option.bind_eq_some_iff.mp H
  obtain ⟨⟨t566, t567, t568⟩, A100, H⟩ := H
  replace H : ((star_Between.f a0_0 a0_1 a0_2 a0_3 a0_4 l0_5 l0_6 l0_7 t556 t555).bind fun bt570 => ((star_Between.f a0_0 a0_1 a0_2 a0_3 a0_4 l0_5 l0_6 l0_7 t555 t555).bind fun bt574 => ((star_Offset.f a0_0 a0_1 a0_2 a0_3 a0_4 l0_5 l0_6 l0_7 t555).bind fun bt578 => ((star_Offset.f a0_0 a0_1 a0_2 a0_3 a0_4 l0_5 l0_6 l0_7 t556).bind fun bt582 => (if t564 = t560 then (if t568 = t560 then (if bt570.2.2 = t560 then (if bt574.2.2 = t560 then (if bt578.2.2 = t560 then (remontoirlaw03_StarApart.j0 k t560 (bt582.2.2 != t560) t558 t559 t562 t563 t566 t567 bt570.1 bt570.2.1 bt574.1 bt574.2.1 bt578.1 bt578.2.1 bt582.1 bt582.2.1) else (remontoirlaw03_StarApart.j0 k t560 true t558 t559 t562 t563 t566 t567 bt570.1 bt570.2.1 bt574.1 bt574.2.1 bt578.1 bt578.2.1 bt582.1 bt582.2.1)) else (remontoirlaw03_StarApart.j0 k t560 true t558 t559 t562 t563 t566 t567 bt570.1 bt570.2.1 bt574.1 bt574.2.1 bt578.1 bt578.2.1 bt582.1 bt582.2.1)) else (remontoirlaw03_StarApart.j0 k t560 true t558 t559 t562 t563 t566 t567 bt570.1 bt570.2.1 bt574.1 bt574.2.1 bt578.1 bt578.2.1 bt582.1 bt582.2.1)) else (remontoirlaw03_StarApart.j0 k t560 true t558 t559 t562 t563 t566 t567 bt570.1 bt570.2.1 bt574.1 bt574.2.1 bt578.1 bt578.2.1 bt582.1 bt582.2.1)) else (remontoirlaw03_StarApart.j0 k t560 true t558 t559 t562 t563 t566 t567 bt570.1 bt570.2.1 bt574.1 bt574.2.1 bt578.1 bt578.2.1 bt582.1 bt582.2.1)))))) = some r := H
  have A10 := Aside0.mk A100
  clear A100
  replace H := Option.bind_eq_some_iff.mp H
  obtain ⟨⟨t570, t571, t572⟩, A110, H⟩ := H
  replace H : ((star_Between.f a0_0 a0_1 a0_2 a0_3 a0_4 l0_5 l0_6 l0_7 t555 t555).bind fun bt574 => ((star_Offset.f a0_0 a0_1 a0_2 a0_3 a0_4 l0_5 l0_6 l0_7 t555).bind fun bt578 => ((star_Offset.f a0_0 a0_1 a0_2 a0_3 a0_4 l0_5 l0_6 l0_7 t556).bind fun bt582 => (if t564 = t560 then (if t568 = t560 then (if t572 = t560 then (if bt574.2.2 = t560 then (if bt578.2.2 = t560 then (remontoirlaw03_StarApart.j0 k t560 (bt582.2.2 != t560) t558 t559 t562 t563 t566 t567 t570 t571 bt574.1 bt574.2.1 bt578.1 bt578.2.1 bt582.1 bt582.2.1) else (remontoirlaw03_StarApart.j0 k t560 true t558 t559 t562 t563 t566 t567 t570 t571 bt574.1 bt574.2.1 bt578.1 bt578.2.1 bt582.1 bt582.2.1)) else (remontoirlaw03_StarApart.j0 k t560 true t558 t559 t562 t563 t566 t567 t570 t571 bt574.1 bt574.2.1 bt578.1 bt578.2.1 bt582.1 bt582.2.1)) else (remontoirlaw03_StarApart.j0 k t560 true t558 t559 t562 t563 t566 t567 t570 t571 bt574.1 bt574.2.1 bt578.1 bt578.2.1 bt582.1 bt582.2.1)) else (remontoirlaw03_StarApart.j0 k t560 true t558 t559 t562 t563 t566 t567 t570 t571 bt574.1 bt574.2.1 bt578.1 bt578.2.1 bt582.1 bt582.2.1)) else (remontoirlaw03_StarApart.j0 k t560 true t558 t559 t562 t563 t566 t567 t570 t571 bt574.1 bt574.2.1 bt578.1 bt578.2.1 bt582.1 bt582.2.1))))) = some r := H
  have A11 := Aside0.mk A110
  clear A110
  replace H := Option.bind_eq_some_iff.mp H
  obtain ⟨⟨t574, t575, t576⟩, A120, H⟩ := H
  replace H : ((star_Offset.f a0_0 a0_1 a0_2 a0_3 a0_4 l0_5 l0_6 l0_7 t555).bind fun bt578 => ((star_Offset.f a0_0 a0_1 a0_2 a0_3 a0_4 l0_5 l0_6 l0_7 t556).bind fun bt582 => (if t564 = t560 then (if t568 = t560 then (if t572 = t560 then (if t576 = t560 then (if bt578.2.2 = t560 then (remontoirlaw03_StarApart.j0 k t560 (bt582.2.2 != t560) t558 t559 t562 t563 t566 t567 t570 t571 t574 t575 bt578.1 bt578.2.1 bt582.1 bt582.2.1) else (remontoirlaw03_StarApart.j0 k t560 true t558 t559 t562 t563 t566 t567 t570 t571 t574 t575 bt578.1 bt578.2.1 bt582.1 bt582.2.1)) else (remontoirlaw03_StarApart.j0 k t560 true t558 t559 t562 t563 t566 t567 t570 t571 t574 t575 bt578.1 bt578.2.1 bt582.1 bt582.2.1)) else (remontoirlaw03_StarApart.j0 k t560 true t558 t559 t562 t563 t566 t567 t570 t571 t574 t575 bt578.1 bt578.2.1 bt582.1 bt582.2.1)) else (remontoirlaw03_StarApart.j0 k t560 true t558 t559 t562 t563 t566 t567 t570 t571 t574 t575 bt578.1 bt578.2.1 bt582.1 bt582.2.1)) else (remontoirlaw03_StarApart.j0 k t560 true t558 t559 t562 t563 t566 t567 t570 t571 t574 t575 bt578.1 bt578.2.1 bt582.1 bt582.2.1)))) = some r := H
  have A12 := Aside0.mk A120
  clear A120
  replace H := Option.bind_eq_some_iff.mp H
  obtain ⟨⟨t578, t579, t580⟩, A130, H⟩ := H
  replace H : ((star_Offset.f a0_0 a0_1 a0_2 a0_3 a0_4 l0_5 l0_6 l0_7 t556).bind fun bt582 => (if t564 = t560 then (if t568 = t560 then (if t572 = t560 then (if t576 = t560 then (if t580 = t560 then (remontoirlaw03_StarApart.j0 k t560 (bt582.2.2 != t560) t558 t559 t562 t563 t566 t567 t570 t571 t574 t575 t578 t579 bt582.1 bt582.2.1) else (remontoirlaw03_StarApart.j0 k t560 true t558 t559 t562 t563 t566 t567 t570 t571 t574 t575 t578 t579 bt582.1 bt582.2.1)) else (remontoirlaw03_StarApart.j0 k t560 true t558 t559 t562 t563 t566 t567 t570 t571 t574 t575 t578 t579 bt582.1 bt582.2.1)) else (remontoirlaw03_StarApart.j0 k t560 true t558 t559 t562 t563 t566 t567 t570 t571 t574 t575 t578 t579 bt582.1 bt582.2.1)) else (remontoirlaw03_StarApart.j0 k t560 true t558 t559 t562 t563 t566 t567 t570 t571 t574 t575 t578 t579 bt582.1 bt582.2.1)) else (remontoirlaw03_StarApart.j0 k t560 true t558 t559 t562 t563 t566 t567 t570 t571 t574 t575 t578 t579 bt582.1 bt582.2.1))) = some r := H
  have A13 := Aside0.mk A130
  clear A130
  replace H := Option.bind_eq_some_iff.mp H
  obtain ⟨⟨t582, t583, t584⟩, A140, H⟩ := H
  replace H : (if t564 = t560 then (if t568 = t560 then (if t572 = t560 then (if t576 = t560 then (if t580 = t560 then (remontoirlaw03_StarApart.j0 k t560 (t584 != t560) t558 t559 t562 t563 t566 t567 t570 t571 t574 t575 t578 t579 t582 t583) else (remontoirlaw03_StarApart.j0 k t560 true t558 t559 t562 t563 t566 t567 t570 t571 t574 t575 t578 t579 t582 t583)) else (remontoirlaw03_StarApart.j0 k t560 true t558 t559 t562 t563 t566 t567 t570 t571 t574 t575 t578 t579 t582 t583)) else (remontoirlaw03_StarApart.j0 k t560 true t558 t559 t562 t563 t566 t567 t570 t571 t574 t575 t578 t579 t582 t583)) else (remontoirlaw03_StarApart.j0 k t560 true t558 t559 t562 t563 t566 t567 t570 t571 t574 t575 t578 t579 t582 t583)) else (remontoirlaw03_StarApart.j0 k t560 true t558 t559 t562 t563 t566 t567 t570 t571 t574 t575 t578 t579 t582 t583)) = some r := H
  have A14 := Aside0.mk A140
  clear A140
  have HC15 := Aside0.mk H
  clear H
  go_enter Tryd.func12, Tryd.ntmps12
  try go_wp2_with (first | ((with_reducible refine gate_dst (N := 2) rfl ?_); refine box_event ?hg (N := 2) ?hd (cs := #[.int .i64 a0_0, .int .i64 a0_1, .int .i64 a0_2, .int .i64 a0_3, .int .i64 a0_4, .slice A0_5 l0_5.length c0_5, .slice A0_6 l0_6.length c0_6, .slice A0_7 l0_7.length c0_7]) (t := 27) ?hr ?_; (case hd => rfl); (case hg => rfl); (case hr => first | (go_simp; done) | (go_simp; rfl)); intro gb551 hg w16 hbox hb; have BK551 := Aside0.mk (hbox); have GW551 := geB hg (bl HB); have GE551 := geB hg (bl HB); replace HB := Aside0.mk (below_step (bl HB) hb); clear hb hbox hg) | ((with_reducible refine gate_dst (N := 3) rfl ?_); refine box_event ?hg (N := 3) ?hd (cs := #[.int .i64 a1_0, .int .i64 a1_1, .int .i64 a1_2]) (t := 40) ?hr ?_; (case hd => rfl); (case hg => rfl); (case hr => first | (go_simp; done) | (go_simp; rfl)); intro gb552 hg w17 hbox hb; have BK552 := Aside0.mk (hbox); have GW552 := geB hg (bl HB); have GE552 := geB hg (bl HB); replace HB := Aside0.mk (below_step (bl HB) hb); have NB551_552 := nlt hg (bk BK551); have NB552_551 := ngt hg (bk BK551); replace BK551 := Aside0.mk (blk_below (bk BK551) hb); clear hb hbox hg; have hnb18 := NB551_552.out; have hnc18 := NB552_551.out; have hcz19_0 : w17.cell? ⟨gb551, 0, none⟩ = some (.int .i64 a0_0) := bc BK551 0; have hcz19_1 : w17.cell? ⟨gb551, 1, none⟩ = some (.int .i64 a0_1) := bc BK551 1; have hcz19_2 : w17.cell? ⟨gb551, 2, none⟩ = some (.int .i64 a0_2) := bc BK551 2; have hcz19_3 : w17.cell? ⟨gb551, 3, none⟩ = some (.int .i64 a0_3) := bc BK551 3; have hcz19_4 : w17.cell? ⟨gb551, 4, none⟩ = some (.int .i64 a0_4) := bc BK551 4; have hcz19_5 : w17.cell? ⟨gb551, 5, none⟩ = some (.slice A0_5 l0_5.length c0_5) := bc BK551 5; have hcz19_6 : w17.cell? ⟨gb551, 6, none⟩ = some (.slice A0_6 l0_6.length c0_6) := bc BK551 6; have hcz19_7 : w17.cell? ⟨gb551, 7, none⟩ = some (.slice A0_7 l0_7.length c0_7) := bc BK551 7; have hfz19_0 := blk_frozen BK551.out 0; have hfz19_1 := blk_frozen BK551.out 1; have hfz19_2 := blk_frozen BK551.out 2; have hfz19_3 := blk_frozen BK551.out 3; have hfz19_4 := blk_frozen BK551.out 4; have hfz19_5 := blk_frozen BK551.out 5; have hfz19_6 := blk_frozen BK551.out 6; have hfz19_7 := blk_frozen BK551.out 7) | ((with_reducible refine gate_callee (f := 38) rfl ?_); refine goesL_ (some 23) rfl rfl Tryd.func38 (by kernel_rfl) rfl #[.agg #[.int .i64 a0_0, .int .i64 a0_1, .int .i64 a0_2, .int .i64 a0_3, .int .i64 a0_4, .slice A0_5 l0_5.length c0_5, .slice A0_6 l0_6.length c0_6, .slice A0_7 l0_7.length c0_7]] rfl (by (try simp only [List.map_toArray, List.map_cons, List.map_nil]); first | done | rfl | (simp only [List.length_drop, List.length_take]; rfl)) ?_; (with_reducible refine (remontoirlaw03_sound.calls a0_0 a0_1 a0_2 a0_3 a0_4 _ _ l0_5 _ _ l0_6 _ _ l0_7 true _ ?side1 ?side2 ?side3 ?side4 ?side5 ?side6 ?side7 A3.out).mono ?_); (case side1 => repeat (first | exact (Kd.C_below HR0_5.out HB.out) | (with_reducible refine Kd.C_alloc ?_ _) | (with_reducible refine Kd.C_drewN ?_ _) | (with_reducible refine Kd.C_drew ?_))); (case side2 => exact HC0_5.out); (case side3 => repeat (first | exact (Kd.C_below HR0_6.out HB.out) | (with_reducible refine Kd.C_alloc ?_ _) | (with_reducible refine Kd.C_drewN ?_ _) | (with_reducible refine Kd.C_drew ?_))); (case side4 => exact HC0_6.out); (case side5 => repeat (first | exact (Kd.C_below HR0_7.out HB.out) | (with_reducible refine Kd.C_alloc ?_ _) | (with_reducible refine Kd.C_drewN ?_ _) | (with_reducible refine Kd.C_drew ?_))); (case side6 => exact HC0_7.out); (case side7 => exact Go.Proofs.YtohbeninpmmmpaaDoor.Ways.below HWays.out (bl HB)); rintro e w20 ⟨rfl, hb⟩; refine ⟨_, rfl, ?_⟩; replace BK551 := Aside0.mk (blk_below (bk BK551) hb); replace BK552 := Aside0.mk (blk_below (bk BK552) hb); replace HB := Aside0.mk (below_step (bl HB) hb); (try clear hb); (try clear hb2); (try clear hk); (try clear hi)))
  replace BK551 := Aside0.mk (blk_drew BK551.out)
  replace BK552 := Aside0.mk (blk_drew BK552.out)
  replace HB := Aside0.mk (below_drew1 HB.out)
  refine start_ (n := 18) (S := fun w' => w'.cell? ⟨gb552, 0, none⟩ = some (.int .i64 a1_0) ∧ w'.cell? ⟨gb552, 1, none⟩ = some (.int .i64 a1_1) ∧ w'.cell? ⟨gb552, 2, none⟩ = some (.int .i64 a1_2) ∧ w'.cell? ⟨gb551, 0, none⟩ = some (.int .i64 a0_0) ∧ w'.cell? ⟨gb551, 1, none⟩ = some (.int .i64 a0_1) ∧ w'.cell? ⟨gb551, 2, none⟩ = some (.int .i64 a0_2) ∧ w'.cell? ⟨gb551, 3, none⟩ = some (.int .i64 a0_3) ∧ w'.cell? ⟨gb551, 4, none⟩ = some (.int .i64 a0_4) ∧ w'.cell? ⟨gb551, 5, none⟩ = some (.slice A0_5 l0_5.length c0_5) ∧ w'.cell? ⟨gb551, 6, none⟩ = some (.slice A0_6 l0_6.length c0_6) ∧ w'.cell? ⟨gb551, 7, none⟩ = some (.slice A0_7 l0_7.length c0_7)) (ds := []) #[false, false, false, false, false, false, false, false, false, false, false, false, false, false, false, false, false, false] (by kernel_rfl) rfl rfl ⟨bc BK552 0, bc BK552 1, bc BK552 2, bc BK551 0, bc BK551 1, bc BK551 2, bc BK551 3, bc BK551 4, bc BK551 5, bc BK551 6, bc BK551 7⟩ (fun hHeld => ?_); refine with_tabW remontoirlaw03_StarApart.tab3 remontoirlaw03_StarApart.bits3 (fun HT_ HW_ => ?_)
  generalize w20.drew = w21 at BK551 BK552 HB hHeld ⊢
  refine pureA 0 26 ?_
  refine pureA 2 28 ?_
  refine pureA 5 31 ?_
  refine pureA 7 33 ?_
  refine pureA 10 36 ?_
  refine pureA 12 38 ?_
  refine takeA 1 27 rfl rfl (by rintro w' ⟨s0, s1, s2, s3, s4, s5, s6, s7, s8, s9, s10⟩; go_simp; with_reducible rfl) ?_
  refine takeA 3 29 rfl rfl (by rintro w' ⟨s0, s1, s2, s3, s4, s5, s6, s7, s8, s9, s10⟩; go_simp; with_reducible rfl) ?_
  refine takeA 6 32 rfl rfl (by rintro w' ⟨s0, s1, s2, s3, s4, s5, s6, s7, s8, s9, s10⟩; go_simp; with_reducible rfl) ?_
  refine takeA 8 34 rfl rfl (by rintro w' ⟨s0, s1, s2, s3, s4, s5, s6, s7, s8, s9, s10⟩; go_simp; with_reducible rfl) ?_
  refine takeA 11 37 rfl rfl (by rintro w' ⟨s0, s1, s2, s3, s4, s5, s6, s7, s8, s9, s10⟩; go_simp; with_reducible rfl) ?_
  refine takeA 13 39 rfl rfl (by rintro w' ⟨s0, s1, s2, s3, s4, s5, s6, s7, s8, s9, s10⟩; go_simp; with_reducible rfl) ?_
  refine oneA 4 (some 30) (fun K hK => ?_)
  refine goes_ Tryd.func42 (by kernel_rfl) rfl #[.int .i64 a1_0, .int .i64 a0_0] (by rfl) rfl rfl (by (try simp only [List.map_toArray, List.map_cons, List.map_nil]); first | done | rfl | (simp only [List.length_drop, List.length_take]; rfl)) ?_
  with_reducible refine (remontoirref00_Rest.calls a1_0 a0_0 t555 _ A5.out).mono ?_
  rintro e w' ⟨rfl, ⟨nd, rfl⟩⟩
  refine ⟨_, rfl, ?_⟩
  refine hK.out _ _ ⟨bc BK552 0, bc BK552 1, bc BK552 2, bc BK551 0, bc BK551 1, bc BK551 2, bc BK551 3, bc BK551 4, bc BK551 5, bc BK551 6, bc BK551 7⟩ (fun hHeld => ?_)
  clear hK K
  refine normA 30 ?_
  refine oneA 9 (some 35) (fun K hK => ?_)
  refine goes_ Tryd.func42 (by kernel_rfl) rfl #[.int .i64 a1_1, .int .i64 a0_0] (by rfl) rfl rfl (by (try simp only [List.map_toArray, List.map_cons, List.map_nil]); first | done | rfl | (simp only [List.length_drop, List.length_take]; rfl)) ?_
  with_reducible refine (remontoirref00_Rest.calls a1_1 a0_0 t556 _ A6.out).mono ?_
  rintro e w' ⟨rfl, ⟨nd, rfl⟩⟩
  refine ⟨_, rfl, ?_⟩
  refine hK.out _ _ ⟨bc BK552 0, bc BK552 1, bc BK552 2, bc BK551 0, bc BK551 1, bc BK551 2, bc BK551 3, bc BK551 4, bc BK551 5, bc BK551 6, bc BK551 7⟩ (fun hHeld => ?_)
  clear hK K
  refine normA 35 ?_
  refine oneA 14 (some 40) (fun K hK => ?_)
  refine goes_ Tryd.func42 (by kernel_rfl) rfl #[.int .i64 a1_2, .int .i64 a0_0] (by rfl) rfl rfl (by (try simp only [List.map_toArray, List.map_cons, List.map_nil]); first | done | rfl | (simp only [List.length_drop, List.length_take]; rfl)) ?_
  with_reducible refine (remontoirref00_Rest.calls a1_2 a0_0 t557 _ A7.out).mono ?_
  rintro e w' ⟨rfl, ⟨nd, rfl⟩⟩
  refine ⟨_, rfl, ?_⟩
  refine hK.out _ _ ⟨bc BK552 0, bc BK552 1, bc BK552 2, bc BK551 0, bc BK551 1, bc BK551 2, bc BK551 3, bc BK551 4, bc BK551 5, bc BK551 6, bc BK551 7⟩ (fun hHeld => ?_)
  clear hK K
  refine normA 40 ?_
  refine pureA 15 5 ?_
  refine pureA 16 6 ?_
  refine pureA 17 7 ?_
  refine done_ (done_of HT_.out (by kernel_rfl)) ?_
  have hcz22_0 : w21.cell? ⟨gb551, 0, none⟩ = some (.int .i64 a0_0) := bc BK551 0
  have hcz22_1 : w21.cell? ⟨gb551, 1, none⟩ = some (.int .i64 a0_1) := bc BK551 1
  have hcz22_2 : w21.cell? ⟨gb551, 2, none⟩ = some (.int .i64 a0_2) := bc BK551 2
  have hcz22_3 : w21.cell? ⟨gb551, 3, none⟩ = some (.int .i64 a0_3) := bc BK551 3
  have hcz22_4 : w21.cell? ⟨gb551, 4, none⟩ = some (.int .i64 a0_4) := bc BK551 4
  have hcz22_5 : w21.cell? ⟨gb551, 5, none⟩ = some (.slice A0_5 l0_5.length c0_5) := bc BK551 5
  have hcz22_6 : w21.cell? ⟨gb551, 6, none⟩ = some (.slice A0_6 l0_6.length c0_6) := bc BK551 6
  have hcz22_7 : w21.cell? ⟨gb551, 7, none⟩ = some (.slice A0_7 l0_7.length c0_7) := bc BK551 7
  have hfz22_0 := blk_frozen BK551.out 0
  have hfz22_1 := blk_frozen BK551.out 1
  have hfz22_2 := blk_frozen BK551.out 2
  have hfz22_3 := blk_frozen BK551.out 3
  have hfz22_4 := blk_frozen BK551.out 4
  have hfz22_5 := blk_frozen BK551.out 5
  have hfz22_6 := blk_frozen BK551.out 6
  have hfz22_7 := blk_frozen BK551.out 7
  go_upto_region 11 with (first | ((with_reducible refine gate_callee (f := 21) rfl ?_); refine goesL_ (some 45) rfl rfl Tryd.func21 (by kernel_rfl) rfl #[.agg #[.int .i64 a0_0, .int .i64 a0_1, .int .i64 a0_2, .int .i64 a0_3, .int .i64 a0_4, .slice A0_5 l0_5.length c0_5, .slice A0_6 l0_6.length c0_6, .slice A0_7 l0_7.length c0_7], .int .i64 t555, .int .i64 t556] rfl (by (try simp only [List.map_toArray, List.map_cons, List.map_nil]); first | done | rfl | (simp only [List.length_drop, List.length_take]; rfl)) ?_; (with_reducible refine (star_Between.calls a0_0 a0_1 a0_2 a0_3 a0_4 _ _ l0_5 _ _ l0_6 _ _ l0_7 t555 t556 t558 t559 t560 _ ?side1 ?side2 ?side3 ?side4 ?side5 ?side6 ?side7 A8.out).mono ?_); (case side1 => repeat (first | exact (Kd.C_below HR0_5.out (bl HB)) | (with_reducible refine Kd.C_alloc ?_ _) | (with_reducible refine Kd.C_drewN ?_ _) | (with_reducible refine Kd.C_drew ?_))); (case side2 => exact HC0_5.out); (case side3 => repeat (first | exact (Kd.C_below HR0_6.out (bl HB)) | (with_reducible refine Kd.C_alloc ?_ _) | (with_reducible refine Kd.C_drewN ?_ _) | (with_reducible refine Kd.C_drew ?_))); (case side4 => exact HC0_6.out); (case side5 => repeat (first | exact (Kd.C_below HR0_7.out (bl HB)) | (with_reducible refine Kd.C_alloc ?_ _) | (with_reducible refine Kd.C_drewN ?_ _) | (with_reducible refine Kd.C_drew ?_))); (case side6 => exact HC0_7.out); (case side7 => exact Go.Proofs.YtohbeninpmmmpaaDoor.Ways.below HWays.out (bl HB)); rintro e w23 ⟨rfl, hb⟩; refine ⟨_, rfl, ?_⟩; replace BK551 := Aside0.mk (blk_below (bk BK551) hb); replace BK552 := Aside0.mk (blk_below (bk BK552) hb); replace HB := Aside0.mk (below_step (bl HB) hb); (try clear hb); (try clear hb2); (try clear hk); (try clear hi)) | ((with_reducible refine gate_dst (N := 8) rfl ?_); refine box_event ?hg (N := 8) ?hd (cs := #[.int .i64 0, .int .i64 0]) (t := 23) ?hr ?_; (case hd => rfl); (case hg => rfl); (case hr => first | (go_simp; done) | (go_simp; rfl)); intro gb561 hg w24 hbox hb; have BK561 := Aside0.mk (hbox); have GW561 := geB hg (bl HB); have GE561 := geB hg (bl HB); replace HB := Aside0.mk (below_step (bl HB) hb); have NB551_561 := nlt hg (bk BK551); have NB561_551 := ngt hg (bk BK551); replace BK551 := Aside0.mk (blk_below (bk BK551) hb); have NB552_561 := nlt hg (bk BK552); have NB561_552 := ngt hg (bk BK552); replace BK552 := Aside0.mk (blk_below (bk BK552) hb); clear hb hbox hg; have hnb25 := NB561_551.out; have hnc25 := NB551_561.out; have hnb26 := NB561_552.out; have hnc26 := NB552_561.out; have hcz27_0 : w24.cell? ⟨gb561, 0, none⟩ = some (.int .i64 0) := bc BK561 0; have hcz27_1 : w24.cell? ⟨gb561, 1, none⟩ = some (.int .i64 0) := bc BK561 1; have hfz27_0 := blk_frozen BK561.out 0; have hfz27_1 := blk_frozen BK561.out 1; have hcz28_0 : w24.cell? ⟨gb551, 0, none⟩ = some (.int .i64 a0_0) := bc BK551 0; have hcz28_1 : w24.cell? ⟨gb551, 1, none⟩ = some (.int .i64 a0_1) := bc BK551 1; have hcz28_2 : w24.cell? ⟨gb551, 2, none⟩ = some (.int .i64 a0_2) := bc BK551 2; have hcz28_3 : w24.cell? ⟨gb551, 3, none⟩ = some (.int .i64 a0_3) := bc BK551 3; have hcz28_4 : w24.cell? ⟨gb551, 4, none⟩ = some (.int .i64 a0_4) := bc BK551 4; have hcz28_5 : w24.cell? ⟨gb551, 5, none⟩ = some (.slice A0_5 l0_5.length c0_5) := bc BK551 5; have hcz28_6 : w24.cell? ⟨gb551, 6, none⟩ = some (.slice A0_6 l0_6.length c0_6) := bc BK551 6; have hcz28_7 : w24.cell? ⟨gb551, 7, none⟩ = some (.slice A0_7 l0_7.length c0_7) := bc BK551 7; have hfz28_0 := blk_frozen BK551.out 0; have hfz28_1 := blk_frozen BK551.out 1; have hfz28_2 := blk_frozen BK551.out 2; have hfz28_3 := blk_frozen BK551.out 3; have hfz28_4 := blk_frozen BK551.out 4; have hfz28_5 := blk_frozen BK551.out 5; have hfz28_6 := blk_frozen BK551.out 6; have hfz28_7 := blk_frozen BK551.out 7) | ((with_reducible refine gate_callee (f := 21) rfl ?_); refine goesL_ (some 52) rfl rfl Tryd.func21 (by kernel_rfl) rfl #[.agg #[.int .i64 a0_0, .int .i64 a0_1, .int .i64 a0_2, .int .i64 a0_3, .int .i64 a0_4, .slice A0_5 l0_5.length c0_5, .slice A0_6 l0_6.length c0_6, .slice A0_7 l0_7.length c0_7], .int .i64 t556, .int .i64 t557] rfl (by (try simp only [List.map_toArray, List.map_cons, List.map_nil]); first | done | rfl | (simp only [List.length_drop, List.length_take]; rfl)) ?_; (with_reducible refine (star_Between.calls a0_0 a0_1 a0_2 a0_3 a0_4 _ _ l0_5 _ _ l0_6 _ _ l0_7 t556 t557 t562 t563 t564 _ ?side1 ?side2 ?side3 ?side4 ?side5 ?side6 ?side7 A9.out).mono ?_); (case side1 => exact Kd.C_below HR0_5.out (bl HB)); (case side2 => exact HC0_5.out); (case side3 => exact Kd.C_below HR0_6.out (bl HB)); (case side4 => exact HC0_6.out); (case side5 => exact Kd.C_below HR0_7.out (bl HB)); (case side6 => exact HC0_7.out); (case side7 => exact Go.Proofs.YtohbeninpmmmpaaDoor.Ways.below HWays.out (bl HB)); rintro e w29 ⟨rfl, hb⟩; refine ⟨_, rfl, ?_⟩; replace BK551 := Aside0.mk (blk_below (bk BK551) hb); replace BK552 := Aside0.mk (blk_below (bk BK552) hb); replace BK561 := Aside0.mk (blk_below (g := gb561) (o := .cells #[.int .i64 t558, .int .i64 t559] 23 (0, 0)) (by (with_reducible repeat (first | refine blk_drewN ?_ _ | refine blk_drew ?_ | refine blk_alloc ?_ _)); refine blk_put (cs := #[.int .i64 t558, .int .i64 0]) ?_ 1 _ rfl; (with_reducible repeat (first | refine blk_drewN ?_ _ | refine blk_drew ?_ | refine blk_alloc ?_ _)); refine blk_put (cs := #[.int .i64 0, .int .i64 0]) ?_ 0 _ rfl; (with_reducible repeat (first | refine blk_drewN ?_ _ | refine blk_drew ?_ | refine blk_alloc ?_ _)); exact BK561.out) hb); replace HB := Aside0.mk (below_step (bl HB) hb); (try clear hb); (try clear hb2); (try clear hk); (try clear hi)) | ((with_reducible refine gate_dst (N := 10) rfl ?_); refine box_event ?hg (N := 10) ?hd (cs := #[.int .i64 0, .int .i64 0]) (t := 23) ?hr ?_; (case hd => rfl); (case hg => rfl); (case hr => first | (go_simp; done) | (go_simp; rfl)); intro gb565 hg w30 hbox hb; have BK565 := Aside0.mk (hbox); have GW565 := geB hg (bl HB); have GE565 := geB hg (bl HB); replace HB := Aside0.mk (below_step (bl HB) hb); have NB551_565 := nlt hg (bk BK551); have NB565_551 := ngt hg (bk BK551); replace BK551 := Aside0.mk (blk_below (bk BK551) hb); have NB552_565 := nlt hg (bk BK552); have NB565_552 := ngt hg (bk BK552); replace BK552 := Aside0.mk (blk_below (bk BK552) hb); have NB561_565 := nlt hg (bk BK561); have NB565_561 := ngt hg (bk BK561); replace BK561 := Aside0.mk (blk_below (bk BK561) hb); clear hb hbox hg; have hnb31 := NB565_551.out; have hnc31 := NB551_565.out; have hnb32 := NB565_552.out; have hnc32 := NB552_565.out; have hnb33 := NB565_561.out; have hnc33 := NB561_565.out; have hcz34_0 : w30.cell? ⟨gb565, 0, none⟩ = some (.int .i64 0) := bc BK565 0; have hcz34_1 : w30.cell? ⟨gb565, 1, none⟩ = some (.int .i64 0) := bc BK565 1; have hfz34_0 := blk_frozen BK565.out 0; have hfz34_1 := blk_frozen BK565.out 1; have hcz35_0 : w30.cell? ⟨gb551, 0, none⟩ = some (.int .i64 a0_0) := bc BK551 0; have hcz35_1 : w30.cell? ⟨gb551, 1, none⟩ = some (.int .i64 a0_1) := bc BK551 1; have hcz35_2 : w30.cell? ⟨gb551, 2, none⟩ = some (.int .i64 a0_2) := bc BK551 2; have hcz35_3 : w30.cell? ⟨gb551, 3, none⟩ = some (.int .i64 a0_3) := bc BK551 3; have hcz35_4 : w30.cell? ⟨gb551, 4, none⟩ = some (.int .i64 a0_4) := bc BK551 4; have hcz35_5 : w30.cell? ⟨gb551, 5, none⟩ = some (.slice A0_5 l0_5.length c0_5) := bc BK551 5; have hcz35_6 : w30.cell? ⟨gb551, 6, none⟩ = some (.slice A0_6 l0_6.length c0_6) := bc BK551 6; have hcz35_7 : w30.cell? ⟨gb551, 7, none⟩ = some (.slice A0_7 l0_7.length c0_7) := bc BK551 7; have hfz35_0 := blk_frozen BK551.out 0; have hfz35_1 := blk_frozen BK551.out 1; have hfz35_2 := blk_frozen BK551.out 2; have hfz35_3 := blk_frozen BK551.out 3; have hfz35_4 := blk_frozen BK551.out 4; have hfz35_5 := blk_frozen BK551.out 5; have hfz35_6 := blk_frozen BK551.out 6; have hfz35_7 := blk_frozen BK551.out 7) | ((with_reducible refine gate_callee (f := 21) rfl ?_); refine goesL_ (some 59) rfl rfl Tryd.func21 (by kernel_rfl) rfl #[.agg #[.int .i64 a0_0, .int .i64 a0_1, .int .i64 a0_2, .int .i64 a0_3, .int .i64 a0_4, .slice A0_5 l0_5.length c0_5, .slice A0_6 l0_6.length c0_6, .slice A0_7 l0_7.length c0_7], .int .i64 t555, .int .i64 t557] rfl (by (try simp only [List.map_toArray, List.map_cons, List.map_nil]); first | done | rfl | (simp only [List.length_drop, List.length_take]; rfl)) ?_; (with_reducible refine (star_Between.calls a0_0 a0_1 a0_2 a0_3 a0_4 _ _ l0_5 _ _ l0_6 _ _ l0_7 t555 t557 t566 t567 t568 _ ?side1 ?side2 ?side3 ?side4 ?side5 ?side6 ?side7 A10.out).mono ?_); (case side1 => exact Kd.C_below HR0_5.out (bl HB)); (case side2 => exact HC0_5.out); (case side3 => exact Kd.C_below HR0_6.out (bl HB)); (case side4 => exact HC0_6.out); (case side5 => exact Kd.C_below HR0_7.out (bl HB)); (case side6 => exact HC0_7.out); (case side7 => exact Go.Proofs.YtohbeninpmmmpaaDoor.Ways.below HWays.out (bl HB)); rintro e w36 ⟨rfl, hb⟩; refine ⟨_, rfl, ?_⟩; replace BK551 := Aside0.mk (blk_below (bk BK551) hb); replace BK552 := Aside0.mk (blk_below (bk BK552) hb); replace BK561 := Aside0.mk (blk_below (bk BK561) hb); replace BK565 := Aside0.mk (blk_below (g := gb565) (o := .cells #[.int .i64 t562, .int .i64 t563] 23 (0, 0)) (by (with_reducible repeat (first | refine blk_drewN ?_ _ | refine blk_drew ?_ | refine blk_alloc ?_ _)); refine blk_put (cs := #[.int .i64 t562, .int .i64 0]) ?_ 1 _ rfl; (with_reducible repeat (first | refine blk_drewN ?_ _ | refine blk_drew ?_ | refine blk_alloc ?_ _)); refine blk_put (cs := #[.int .i64 0, .int .i64 0]) ?_ 0 _ rfl; (with_reducible repeat (first | refine blk_drewN ?_ _ | refine blk_drew ?_ | refine blk_alloc ?_ _)); exact BK565.out) hb); replace HB := Aside0.mk (below_step (bl HB) hb); (try clear hb); (try clear hb2); (try clear hk); (try clear hi)) | ((with_reducible refine gate_dst (N := 12) rfl ?_); refine box_event ?hg (N := 12) ?hd (cs := #[.int .i64 0, .int .i64 0]) (t := 23) ?hr ?_; (case hd => rfl); (case hg => rfl); (case hr => first | (go_simp; done) | (go_simp; rfl)); intro gb569 hg w37 hbox hb; have BK569 := Aside0.mk (hbox); have GW569 := geB hg (bl HB); have GE569 := geB hg (bl HB); replace HB := Aside0.mk (below_step (bl HB) hb); have NB551_569 := nlt hg (bk BK551); have NB569_551 := ngt hg (bk BK551); replace BK551 := Aside0.mk (blk_below (bk BK551) hb); have NB552_569 := nlt hg (bk BK552); have NB569_552 := ngt hg (bk BK552); replace BK552 := Aside0.mk (blk_below (bk BK552) hb); have NB561_569 := nlt hg (bk BK561); have NB569_561 := ngt hg (bk BK561); replace BK561 := Aside0.mk (blk_below (bk BK561) hb); have NB565_569 := nlt hg (bk BK565); have NB569_565 := ngt hg (bk BK565); replace BK565 := Aside0.mk (blk_below (bk BK565) hb); clear hb hbox hg; have hnb38 := NB569_551.out; have hnc38 := NB551_569.out; have hnb39 := NB569_552.out; have hnc39 := NB552_569.out; have hnb40 := NB569_561.out; have hnc40 := NB561_569.out; have hnb41 := NB569_565.out; have hnc41 := NB565_569.out; have hcz42_0 : w37.cell? ⟨gb569, 0, none⟩ = some (.int .i64 0) := bc BK569 0; have hcz42_1 : w37.cell? ⟨gb569, 1, none⟩ = some (.int .i64 0) := bc BK569 1; have hfz42_0 := blk_frozen BK569.out 0; have hfz42_1 := blk_frozen BK569.out 1; have hcz43_0 : w37.cell? ⟨gb551, 0, none⟩ = some (.int .i64 a0_0) := bc BK551 0; have hcz43_1 : w37.cell? ⟨gb551, 1, none⟩ = some (.int .i64 a0_1) := bc BK551 1; have hcz43_2 : w37.cell? ⟨gb551, 2, none⟩ = some (.int .i64 a0_2) := bc BK551 2; have hcz43_3 : w37.cell? ⟨gb551, 3, none⟩ = some (.int .i64 a0_3) := bc BK551 3; have hcz43_4 : w37.cell? ⟨gb551, 4, none⟩ = some (.int .i64 a0_4) := bc BK551 4; have hcz43_5 : w37.cell? ⟨gb551, 5, none⟩ = some (.slice A0_5 l0_5.length c0_5) := bc BK551 5; have hcz43_6 : w37.cell? ⟨gb551, 6, none⟩ = some (.slice A0_6 l0_6.length c0_6) := bc BK551 6; have hcz43_7 : w37.cell? ⟨gb551, 7, none⟩ = some (.slice A0_7 l0_7.length c0_7) := bc BK551 7; have hfz43_0 := blk_frozen BK551.out 0; have hfz43_1 := blk_frozen BK551.out 1; have hfz43_2 := blk_frozen BK551.out 2; have hfz43_3 := blk_frozen BK551.out 3; have hfz43_4 := blk_frozen BK551.out 4; have hfz43_5 := blk_frozen BK551.out 5; have hfz43_6 := blk_frozen BK551.out 6; have hfz43_7 := blk_frozen BK551.out 7) | ((with_reducible refine gate_callee (f := 21) rfl ?_); refine goesL_ (some 66) rfl rfl Tryd.func21 (by kernel_rfl) rfl #[.agg #[.int .i64 a0_0, .int .i64 a0_1, .int .i64 a0_2, .int .i64 a0_3, .int .i64 a0_4, .slice A0_5 l0_5.length c0_5, .slice A0_6 l0_6.length c0_6, .slice A0_7 l0_7.length c0_7], .int .i64 t556, .int .i64 t555] rfl (by (try simp only [List.map_toArray, List.map_cons, List.map_nil]); first | done | rfl | (simp only [List.length_drop, List.length_take]; rfl)) ?_; (with_reducible refine (star_Between.calls a0_0 a0_1 a0_2 a0_3 a0_4 _ _ l0_5 _ _ l0_6 _ _ l0_7 t556 t555 t570 t571 t572 _ ?side1 ?side2 ?side3 ?side4 ?side5 ?side6 ?side7 A11.out).mono ?_); (case side1 => exact Kd.C_below HR0_5.out (bl HB)); (case side2 => exact HC0_5.out); (case side3 => exact Kd.C_below HR0_6.out (bl HB)); (case side4 => exact HC0_6.out); (case side5 => exact Kd.C_below HR0_7.out (bl HB)); (case side6 => exact HC0_7.out); (case side7 => exact Go.Proofs.YtohbeninpmmmpaaDoor.Ways.below HWays.out (bl HB)); rintro e w44 ⟨rfl, hb⟩; refine ⟨_, rfl, ?_⟩; replace BK551 := Aside0.mk (blk_below (bk BK551) hb); replace BK552 := Aside0.mk (blk_below (bk BK552) hb); replace BK561 := Aside0.mk (blk_below (bk BK561) hb); replace BK565 := Aside0.mk (blk_below (bk BK565) hb); replace BK569 := Aside0.mk (blk_below (g := gb569) (o := .cells #[.int .i64 t566, .int .i64 t567] 23 (0, 0)) (by (with_reducible repeat (first | refine blk_drewN ?_ _ | refine blk_drew ?_ | refine blk_alloc ?_ _)); refine blk_put (cs := #[.int .i64 t566, .int .i64 0]) ?_ 1 _ rfl; (with_reducible repeat (first | refine blk_drewN ?_ _ | refine blk_drew ?_ | refine blk_alloc ?_ _)); refine blk_put (cs := #[.int .i64 0, .int .i64 0]) ?_ 0 _ rfl; (with_reducible repeat (first | refine blk_drewN ?_ _ | refine blk_drew ?_ | refine blk_alloc ?_ _)); exact BK569.out) hb); replace HB := Aside0.mk (below_step (bl HB) hb); (try clear hb); (try clear hb2); (try clear hk); (try clear hi)) | ((with_reducible refine gate_dst (N := 14) rfl ?_); refine box_event ?hg (N := 14) ?hd (cs := #[.int .i64 0, .int .i64 0]) (t := 23) ?hr ?_; (case hd => rfl); (case hg => rfl); (case hr => first | (go_simp; done) | (go_simp; rfl)); intro gb573 hg w45 hbox hb; have BK573 := Aside0.mk (hbox); have GW573 := geB hg (bl HB); have GE573 := geB hg (bl HB); replace HB := Aside0.mk (below_step (bl HB) hb); have NB551_573 := nlt hg (bk BK551); have NB573_551 := ngt hg (bk BK551); replace BK551 := Aside0.mk (blk_below (bk BK551) hb); have NB552_573 := nlt hg (bk BK552); have NB573_552 := ngt hg (bk BK552); replace BK552 := Aside0.mk (blk_below (bk BK552) hb); have NB561_573 := nlt hg (bk BK561); have NB573_561 := ngt hg (bk BK561); replace BK561 := Aside0.mk (blk_below (bk BK561) hb); have NB565_573 := nlt hg (bk BK565); have NB573_565 := ngt hg (bk BK565); replace BK565 := Aside0.mk (blk_below (bk BK565) hb); have NB569_573 := nlt hg (bk BK569); have NB573_569 := ngt hg (bk BK569); replace BK569 := Aside0.mk (blk_below (bk BK569) hb); clear hb hbox hg; have hnb46 := NB573_551.out; have hnc46 := NB551_573.out; have hnb47 := NB573_552.out; have hnc47 := NB552_573.out; have hnb48 := NB573_561.out; have hnc48 := NB561_573.out; have hnb49 := NB573_565.out; have hnc49 := NB565_573.out; have hnb50 := NB573_569.out; have hnc50 := NB569_573.out; have hcz51_0 : w45.cell? ⟨gb573, 0, none⟩ = some (.int .i64 0) := bc BK573 0; have hcz51_1 : w45.cell? ⟨gb573, 1, none⟩ = some (.int .i64 0) := bc BK573 1; have hfz51_0 := blk_frozen BK573.out 0; have hfz51_1 := blk_frozen BK573.out 1; have hcz52_0 : w45.cell? ⟨gb551, 0, none⟩ = some (.int .i64 a0_0) := bc BK551 0; have hcz52_1 : w45.cell? ⟨gb551, 1, none⟩ = some (.int .i64 a0_1) := bc BK551 1; have hcz52_2 : w45.cell? ⟨gb551, 2, none⟩ = some (.int .i64 a0_2) := bc BK551 2; have hcz52_3 : w45.cell? ⟨gb551, 3, none⟩ = some (.int .i64 a0_3) := bc BK551 3; have hcz52_4 : w45.cell? ⟨gb551, 4, none⟩ = some (.int .i64 a0_4) := bc BK551 4; have hcz52_5 : w45.cell? ⟨gb551, 5, none⟩ = some (.slice A0_5 l0_5.length c0_5) := bc BK551 5; have hcz52_6 : w45.cell? ⟨gb551, 6, none⟩ = some (.slice A0_6 l0_6.length c0_6) := bc BK551 6; have hcz52_7 : w45.cell? ⟨gb551, 7, none⟩ = some (.slice A0_7 l0_7.length c0_7) := bc BK551 7; have hfz52_0 := blk_frozen BK551.out 0; have hfz52_1 := blk_frozen BK551.out 1; have hfz52_2 := blk_frozen BK551.out 2; have hfz52_3 := blk_frozen BK551.out 3; have hfz52_4 := blk_frozen BK551.out 4; have hfz52_5 := blk_frozen BK551.out 5; have hfz52_6 := blk_frozen BK551.out 6; have hfz52_7 := blk_frozen BK551.out 7) | ((with_reducible refine gate_callee (f := 21) rfl ?_); refine goesL_ (some 73) rfl rfl Tryd.func21 (by kernel_rfl) rfl #[.agg #[.int .i64 a0_0, .int .i64 a0_1, .int .i64 a0_2, .int .i64 a0_3, .int .i64 a0_4, .slice A0_5 l0_5.length c0_5, .slice A0_6 l0_6.length c0_6, .slice A0_7 l0_7.length c0_7], .int .i64 t555, .int .i64 t555] rfl (by (try simp only [List.map_toArray, List.map_cons, List.map_nil]); first | done | rfl | (simp only [List.length_drop, List.length_take]; rfl)) ?_; (with_reducible refine (star_Between.calls a0_0 a0_1 a0_2 a0_3 a0_4 _ _ l0_5 _ _ l0_6 _ _ l0_7 t555 t555 t574 t575 t576 _ ?side1 ?side2 ?side3 ?side4 ?side5 ?side6 ?side7 A12.out).mono ?_); (case side1 => exact Kd.C_below HR0_5.out (bl HB)); (case side2 => exact HC0_5.out); (case side3 => exact Kd.C_below HR0_6.out (bl HB)); (case side4 => exact HC0_6.out); (case side5 => exact Kd.C_below HR0_7.out (bl HB)); (case side6 => exact HC0_7.out); (case side7 => exact Go.Proofs.YtohbeninpmmmpaaDoor.Ways.below HWays.out (bl HB)); rintro e w53 ⟨rfl, hb⟩; refine ⟨_, rfl, ?_⟩; replace BK551 := Aside0.mk (blk_below (bk BK551) hb); replace BK552 := Aside0.mk (blk_below (bk BK552) hb); replace BK561 := Aside0.mk (blk_below (bk BK561) hb); replace BK565 := Aside0.mk (blk_below (bk BK565) hb); replace BK569 := Aside0.mk (blk_below (bk BK569) hb); replace BK573 := Aside0.mk (blk_below (g := gb573) (o := .cells #[.int .i64 t570, .int .i64 t571] 23 (0, 0)) (by (with_reducible repeat (first | refine blk_drewN ?_ _ | refine blk_drew ?_ | refine blk_alloc ?_ _)); refine blk_put (cs := #[.int .i64 t570, .int .i64 0]) ?_ 1 _ rfl; (with_reducible repeat (first | refine blk_drewN ?_ _ | refine blk_drew ?_ | refine blk_alloc ?_ _)); refine blk_put (cs := #[.int .i64 0, .int .i64 0]) ?_ 0 _ rfl; (with_reducible repeat (first | refine blk_drewN ?_ _ | refine blk_drew ?_ | refine blk_alloc ?_ _)); exact BK573.out) hb); replace HB := Aside0.mk (below_step (bl HB) hb); (try clear hb); (try clear hb2); (try clear hk); (try clear hi)) | ((with_reducible refine gate_dst (N := 16) rfl ?_); refine box_event ?hg (N := 16) ?hd (cs := #[.int .i64 0, .int .i64 0]) (t := 23) ?hr ?_; (case hd => rfl); (case hg => rfl); (case hr => first | (go_simp; done) | (go_simp; rfl)); intro gb577 hg w54 hbox hb; have BK577 := Aside0.mk (hbox); have GW577 := geB hg (bl HB); have GE577 := geB hg (bl HB); replace HB := Aside0.mk (below_step (bl HB) hb); have NB551_577 := nlt hg (bk BK551); have NB577_551 := ngt hg (bk BK551); replace BK551 := Aside0.mk (blk_below (bk BK551) hb); have NB552_577 := nlt hg (bk BK552); have NB577_552 := ngt hg (bk BK552); replace BK552 := Aside0.mk (blk_below (bk BK552) hb); have NB561_577 := nlt hg (bk BK561); have NB577_561 := ngt hg (bk BK561); replace BK561 := Aside0.mk (blk_below (bk BK561) hb); have NB565_577 := nlt hg (bk BK565); have NB577_565 := ngt hg (bk BK565); replace BK565 := Aside0.mk (blk_below (bk BK565) hb); have NB569_577 := nlt hg (bk BK569); have NB577_569 := ngt hg (bk BK569); replace BK569 := Aside0.mk (blk_below (bk BK569) hb); have NB573_577 := nlt hg (bk BK573); have NB577_573 := ngt hg (bk BK573); replace BK573 := Aside0.mk (blk_below (bk BK573) hb); clear hb hbox hg; have hnb55 := NB577_551.out; have hnc55 := NB551_577.out; have hnb56 := NB577_552.out; have hnc56 := NB552_577.out; have hnb57 := NB577_561.out; have hnc57 := NB561_577.out; have hnb58 := NB577_565.out; have hnc58 := NB565_577.out; have hnb59 := NB577_569.out; have hnc59 := NB569_577.out; have hnb60 := NB577_573.out; have hnc60 := NB573_577.out; have hcz61_0 : w54.cell? ⟨gb577, 0, none⟩ = some (.int .i64 0) := bc BK577 0; have hcz61_1 : w54.cell? ⟨gb577, 1, none⟩ = some (.int .i64 0) := bc BK577 1; have hfz61_0 := blk_frozen BK577.out 0; have hfz61_1 := blk_frozen BK577.out 1; have hcz62_0 : w54.cell? ⟨gb551, 0, none⟩ = some (.int .i64 a0_0) := bc BK551 0; have hcz62_1 : w54.cell? ⟨gb551, 1, none⟩ = some (.int .i64 a0_1) := bc BK551 1; have hcz62_2 : w54.cell? ⟨gb551, 2, none⟩ = some (.int .i64 a0_2) := bc BK551 2; have hcz62_3 : w54.cell? ⟨gb551, 3, none⟩ = some (.int .i64 a0_3) := bc BK551 3; have hcz62_4 : w54.cell? ⟨gb551, 4, none⟩ = some (.int .i64 a0_4) := bc BK551 4; have hcz62_5 : w54.cell? ⟨gb551, 5, none⟩ = some (.slice A0_5 l0_5.length c0_5) := bc BK551 5; have hcz62_6 : w54.cell? ⟨gb551, 6, none⟩ = some (.slice A0_6 l0_6.length c0_6) := bc BK551 6; have hcz62_7 : w54.cell? ⟨gb551, 7, none⟩ = some (.slice A0_7 l0_7.length c0_7) := bc BK551 7; have hfz62_0 := blk_frozen BK551.out 0; have hfz62_1 := blk_frozen BK551.out 1; have hfz62_2 := blk_frozen BK551.out 2; have hfz62_3 := blk_frozen BK551.out 3; have hfz62_4 := blk_frozen BK551.out 4; have hfz62_5 := blk_frozen BK551.out 5; have hfz62_6 := blk_frozen BK551.out 6; have hfz62_7 := blk_frozen BK551.out 7) | ((with_reducible refine gate_callee (f := 24) rfl ?_); refine goesL_ (some 79) rfl rfl Tryd.func24 (by kernel_rfl) rfl #[.agg #[.int .i64 a0_0, .int .i64 a0_1, .int .i64 a0_2, .int .i64 a0_3, .int .i64 a0_4, .slice A0_5 l0_5.length c0_5, .slice A0_6 l0_6.length c0_6, .slice A0_7 l0_7.length c0_7], .int .i64 t555] rfl (by (try simp only [List.map_toArray, List.map_cons, List.map_nil]); first | done | rfl | (simp only [List.length_drop, List.length_take]; rfl)) ?_; (with_reducible refine (star_Offset.calls a0_0 a0_1 a0_2 a0_3 a0_4 _ _ l0_5 _ _ l0_6 _ _ l0_7 t555 t578 t579 t580 _ ?side1 ?side2 ?side3 ?side4 ?side5 ?side6 ?side7 A13.out).mono ?_); (case side1 => exact Kd.C_below HR0_5.out (bl HB)); (case side2 => exact HC0_5.out); (case side3 => exact Kd.C_below HR0_6.out (bl HB)); (case side4 => exact HC0_6.out); (case side5 => exact Kd.C_below HR0_7.out (bl HB)); (case side6 => exact HC0_7.out); (case side7 => exact Go.Proofs.YtohbeninpmmmpaaDoor.Ways.below HWays.out (bl HB)); rintro e w63 ⟨rfl, hb⟩; refine ⟨_, rfl, ?_⟩; replace BK551 := Aside0.mk (blk_below (bk BK551) hb); replace BK552 := Aside0.mk (blk_below (bk BK552) hb); replace BK561 := Aside0.mk (blk_below (bk BK561) hb); replace BK565 := Aside0.mk (blk_below (bk BK565) hb); replace BK569 := Aside0.mk (blk_below (bk BK569) hb); replace BK573 := Aside0.mk (blk_below (bk BK573) hb); replace BK577 := Aside0.mk (blk_below (g := gb577) (o := .cells #[.int .i64 t574, .int .i64 t575] 23 (0, 0)) (by (with_reducible repeat (first | refine blk_drewN ?_ _ | refine blk_drew ?_ | refine blk_alloc ?_ _)); refine blk_put (cs := #[.int .i64 t574, .int .i64 0]) ?_ 1 _ rfl; (with_reducible repeat (first | refine blk_drewN ?_ _ | refine blk_drew ?_ | refine blk_alloc ?_ _)); refine blk_put (cs := #[.int .i64 0, .int .i64 0]) ?_ 0 _ rfl; (with_reducible repeat (first | refine blk_drewN ?_ _ | refine blk_drew ?_ | refine blk_alloc ?_ _)); exact BK577.out) hb); replace HB := Aside0.mk (below_step (bl HB) hb); (try clear hb); (try clear hb2); (try clear hk); (try clear hi)) | ((with_reducible refine gate_dst (N := 18) rfl ?_); refine box_event ?hg (N := 18) ?hd (cs := #[.int .i64 0, .int .i64 0]) (t := 23) ?hr ?_; (case hd => rfl); (case hg => rfl); (case hr => first | (go_simp; done) | (go_simp; rfl)); intro gb581 hg w64 hbox hb; have BK581 := Aside0.mk (hbox); have GW581 := geB hg (bl HB); have GE581 := geB hg (bl HB); replace HB := Aside0.mk (below_step (bl HB) hb); have NB551_581 := nlt hg (bk BK551); have NB581_551 := ngt hg (bk BK551); replace BK551 := Aside0.mk (blk_below (bk BK551) hb); have NB552_581 := nlt hg (bk BK552); have NB581_552 := ngt hg (bk BK552); replace BK552 := Aside0.mk (blk_below (bk BK552) hb); have NB561_581 := nlt hg (bk BK561); have NB581_561 := ngt hg (bk BK561); replace BK561 := Aside0.mk (blk_below (bk BK561) hb); have NB565_581 := nlt hg (bk BK565); have NB581_565 := ngt hg (bk BK565); replace BK565 := Aside0.mk (blk_below (bk BK565) hb); have NB569_581 := nlt hg (bk BK569); have NB581_569 := ngt hg (bk BK569); replace BK569 := Aside0.mk (blk_below (bk BK569) hb); have NB573_581 := nlt hg (bk BK573); have NB581_573 := ngt hg (bk BK573); replace BK573 := Aside0.mk (blk_below (bk BK573) hb); have NB577_581 := nlt hg (bk BK577); have NB581_577 := ngt hg (bk BK577); replace BK577 := Aside0.mk (blk_below (bk BK577) hb); clear hb hbox hg; have hnb65 := NB581_551.out; have hnc65 := NB551_581.out; have hnb66 := NB581_552.out; have hnc66 := NB552_581.out; have hnb67 := NB581_561.out; have hnc67 := NB561_581.out; have hnb68 := NB581_565.out; have hnc68 := NB565_581.out; have hnb69 := NB581_569.out; have hnc69 := NB569_581.out; have hnb70 := NB581_573.out; have hnc70 := NB573_581.out; have hnb71 := NB581_577.out; have hnc71 := NB577_581.out; have hcz72_0 : w64.cell? ⟨gb581, 0, none⟩ = some (.int .i64 0) := bc BK581 0; have hcz72_1 : w64.cell? ⟨gb581, 1, none⟩ = some (.int .i64 0) := bc BK581 1; have hfz72_0 := blk_frozen BK581.out 0; have hfz72_1 := blk_frozen BK581.out 1; have hcz73_0 : w64.cell? ⟨gb551, 0, none⟩ = some (.int .i64 a0_0) := bc BK551 0; have hcz73_1 : w64.cell? ⟨gb551, 1, none⟩ = some (.int .i64 a0_1) := bc BK551 1; have hcz73_2 : w64.cell? ⟨gb551, 2, none⟩ = some (.int .i64 a0_2) := bc BK551 2; have hcz73_3 : w64.cell? ⟨gb551, 3, none⟩ = some (.int .i64 a0_3) := bc BK551 3; have hcz73_4 : w64.cell? ⟨gb551, 4, none⟩ = some (.int .i64 a0_4) := bc BK551 4; have hcz73_5 : w64.cell? ⟨gb551, 5, none⟩ = some (.slice A0_5 l0_5.length c0_5) := bc BK551 5; have hcz73_6 : w64.cell? ⟨gb551, 6, none⟩ = some (.slice A0_6 l0_6.length c0_6) := bc BK551 6; have hcz73_7 : w64.cell? ⟨gb551, 7, none⟩ = some (.slice A0_7 l0_7.length c0_7) := bc BK551 7; have hfz73_0 := blk_frozen BK551.out 0; have hfz73_1 := blk_frozen BK551.out 1; have hfz73_2 := blk_frozen BK551.out 2; have hfz73_3 := blk_frozen BK551.out 3; have hfz73_4 := blk_frozen BK551.out 4; have hfz73_5 := blk_frozen BK551.out 5; have hfz73_6 := blk_frozen BK551.out 6; have hfz73_7 := blk_frozen BK551.out 7) | ((with_reducible refine gate_callee (f := 24) rfl ?_); refine goesL_ (some 85) rfl rfl Tryd.func24 (by kernel_rfl) rfl #[.agg #[.int .i64 a0_0, .int .i64 a0_1, .int .i64 a0_2, .int .i64 a0_3, .int .i64 a0_4, .slice A0_5 l0_5.length c0_5, .slice A0_6 l0_6.length c0_6, .slice A0_7 l0_7.length c0_7], .int .i64 t556] rfl (by (try simp only [List.map_toArray, List.map_cons, List.map_nil]); first | done | rfl | (simp only [List.length_drop, List.length_take]; rfl)) ?_; (with_reducible refine (star_Offset.calls a0_0 a0_1 a0_2 a0_3 a0_4 _ _ l0_5 _ _ l0_6 _ _ l0_7 t556 t582 t583 t584 _ ?side1 ?side2 ?side3 ?side4 ?side5 ?side6 ?side7 A14.out).mono ?_); (case side1 => exact Kd.C_below HR0_5.out (bl HB)); (case side2 => exact HC0_5.out); (case side3 => exact Kd.C_below HR0_6.out (bl HB)); (case side4 => exact HC0_6.out); (case side5 => exact Kd.C_below HR0_7.out (bl HB)); (case side6 => exact HC0_7.out); (case side7 => exact Go.Proofs.YtohbeninpmmmpaaDoor.Ways.below HWays.out (bl HB)); rintro e w74 ⟨rfl, hb⟩; refine ⟨_, rfl, ?_⟩; replace BK551 := Aside0.mk (blk_below (bk BK551) hb); replace BK552 := Aside0.mk (blk_below (bk BK552) hb); replace BK561 := Aside0.mk (blk_below (bk BK561) hb); replace BK565 := Aside0.mk (blk_below (bk BK565) hb); replace BK569 := Aside0.mk (blk_below (bk BK569) hb); replace BK573 := Aside0.mk (blk_below (bk BK573) hb); replace BK577 := Aside0.mk (blk_below (bk BK577) hb); replace BK581 := Aside0.mk (blk_below (g := gb581) (o := .cells #[.int .i64 t578, .int .i64 t579] 23 (0, 0)) (by (with_reducible repeat (first | refine blk_drewN ?_ _ | refine blk_drew ?_ | refine blk_alloc ?_ _)); refine blk_put (cs := #[.int .i64 t578, .int .i64 0]) ?_ 1 _ rfl; (with_reducible repeat (first | refine blk_drewN ?_ _ | refine blk_drew ?_ | refine blk_alloc ?_ _)); refine blk_put (cs := #[.int .i64 0, .int .i64 0]) ?_ 0 _ rfl; (with_reducible repeat (first | refine blk_drewN ?_ _ | refine blk_drew ?_ | refine blk_alloc ?_ _)); exact BK581.out) hb); replace HB := Aside0.mk (below_step (bl HB) hb); (try clear hb); (try clear hb2); (try clear hk); (try clear hi)) | ((with_reducible refine gate_dst (N := 20) rfl ?_); refine box_event ?hg (N := 20) ?hd (cs := #[.int .i64 0, .int .i64 0]) (t := 23) ?hr ?_; (case hd => rfl); (case hg => rfl); (case hr => first | (go_simp; done) | (go_simp; rfl)); intro gb585 hg w75 hbox hb; have BK585 := Aside0.mk (hbox); have GW585 := geB hg (bl HB); have GE585 := geB hg (bl HB); replace HB := Aside0.mk (below_step (bl HB) hb); have NB551_585 := nlt hg (bk BK551); have NB585_551 := ngt hg (bk BK551); replace BK551 := Aside0.mk (blk_below (bk BK551) hb); have NB552_585 := nlt hg (bk BK552); have NB585_552 := ngt hg (bk BK552); replace BK552 := Aside0.mk (blk_below (bk BK552) hb); have NB561_585 := nlt hg (bk BK561); have NB585_561 := ngt hg (bk BK561); replace BK561 := Aside0.mk (blk_below (bk BK561) hb); have NB565_585 := nlt hg (bk BK565); have NB585_565 := ngt hg (bk BK565); replace BK565 := Aside0.mk (blk_below (bk BK565) hb); have NB569_585 := nlt hg (bk BK569); have NB585_569 := ngt hg (bk BK569); replace BK569 := Aside0.mk (blk_below (bk BK569) hb); have NB573_585 := nlt hg (bk BK573); have NB585_573 := ngt hg (bk BK573); replace BK573 := Aside0.mk (blk_below (bk BK573) hb); have NB577_585 := nlt hg (bk BK577); have NB585_577 := ngt hg (bk BK577); replace BK577 := Aside0.mk (blk_below (bk BK577) hb); have NB581_585 := nlt hg (bk BK581); have NB585_581 := ngt hg (bk BK581); replace BK581 := Aside0.mk (blk_below (bk BK581) hb); clear hb hbox hg; have hnb76 := NB585_551.out; have hnc76 := NB551_585.out; have hnb77 := NB585_552.out; have hnc77 := NB552_585.out; have hnb78 := NB585_561.out; have hnc78 := NB561_585.out; have hnb79 := NB585_565.out; have hnc79 := NB565_585.out; have hnb80 := NB585_569.out; have hnc80 := NB569_585.out; have hnb81 := NB585_573.out; have hnc81 := NB573_585.out; have hnb82 := NB585_577.out; have hnc82 := NB577_585.out; have hnb83 := NB585_581.out; have hnc83 := NB581_585.out; have hcz84_0 : w75.cell? ⟨gb585, 0, none⟩ = some (.int .i64 0) := bc BK585 0; have hcz84_1 : w75.cell? ⟨gb585, 1, none⟩ = some (.int .i64 0) := bc BK585 1; have hfz84_0 := blk_frozen BK585.out 0; have hfz84_1 := blk_frozen BK585.out 1))
  (try simp only [Act.put, List.setIfInBounds_toArray, List.set_cons_zero, List.set_cons_succ])
  go_cut [115] (fun v115 wc => ∃ (kq : Nat) (x115_14 : Bool), v115 = .bool x115_14 ∧ Aside0 (remontoirlaw03_StarApart.j0 kq t560 x115_14 t558 t559 t562 t563 t566 t567 t570 t571 t574 t575 t578 t579 t582 t583 = some r) ∧ Aside0 (kq ≤ k) ∧ Aside0 (wc.heap[gb551]? = some (.cells #[.int .i64 a0_0, .int .i64 a0_1, .int .i64 a0_2, .int .i64 a0_3, .int .i64 a0_4, (.slice A0_5 l0_5.length c0_5), (.slice A0_6 l0_6.length c0_6), (.slice A0_7 l0_7.length c0_7)] 27 (0, 0))) ∧ Aside0 (wc.heap[gb552]? = some (.cells #[.int .i64 a1_0, .int .i64 a1_1, .int .i64 a1_2] 40 (0, 0))) ∧ Aside0 (wc.heap[gb561]? = some (.cells #[.int .i64 t558, .int .i64 t559] 23 (0, 0))) ∧ Aside0 (wc.heap[gb565]? = some (.cells #[.int .i64 t562, .int .i64 t563] 23 (0, 0))) ∧ Aside0 (wc.heap[gb569]? = some (.cells #[.int .i64 t566, .int .i64 t567] 23 (0, 0))) ∧ Aside0 (wc.heap[gb573]? = some (.cells #[.int .i64 t570, .int .i64 t571] 23 (0, 0))) ∧ Aside0 (wc.heap[gb577]? = some (.cells #[.int .i64 t574, .int .i64 t575] 23 (0, 0))) ∧ Aside0 (wc.heap[gb581]? = some (.cells #[.int .i64 t578, .int .i64 t579] 23 (0, 0))) ∧ Aside0 (wc.heap[gb585]? = some (.cells #[.int .i64 t582, .int .i64 t583] 23 (0, 0))) ∧ Aside0 (Below w.heap.size w wc))
  case first =>
   have H := HC15.out
   clear HC15
   by_cases c85 : t564 = t560
   ·
    rw [if_pos c85] at H
    have c85b0 : (t564 == t560) = true := beq_iff_eq.mpr c85
    have c85b1 : (t564 != t560) = false := bne_eq_false_iff_eq.mpr c85
    clear c85
    (first | rw [c85b0] | rw [c85b1] | (simp only [i64_w, i32_w]; first | rw [c85b0] | rw [c85b1]) | skip)
    by_cases c86 : t568 = t560
    ·
     rw [if_pos c86] at H
     have c86b0 : (t568 == t560) = true := beq_iff_eq.mpr c86
     have c86b1 : (t568 != t560) = false := bne_eq_false_iff_eq.mpr c86
     clear c86
     by_cases c87 : t572 = t560
     ·
      rw [if_pos c87] at H
      have c87b0 : (t572 == t560) = true := beq_iff_eq.mpr c87
      have c87b1 : (t572 != t560) = false := bne_eq_false_iff_eq.mpr c87
      clear c87
      by_cases c88 : t576 = t560
      ·
       rw [if_pos c88] at H
       have c88b0 : (t576 == t560) = true := beq_iff_eq.mpr c88
       have c88b1 : (t576 != t560) = false := bne_eq_false_iff_eq.mpr c88
       clear c88
       by_cases c89 : t580 = t560
       ·
        rw [if_pos c89] at H
        have c89b0 : (t580 == t560) = true := beq_iff_eq.mpr c89
        have c89b1 : (t580 != t560) = false := bne_eq_false_iff_eq.mpr c89
        clear c89
        have H' := Aside0.mk H
        clear H
        go_wp2
        go_meet
        case rel => exact ⟨_, ((t584 != t560)), (by first | rfl | (simp; done) | (simp [*]; done)), H', ⟨by first | omega | exact Nat.le_refl _⟩, ⟨bk BK551⟩, ⟨bk BK552⟩, ⟨bk BK561⟩, ⟨bk BK565⟩, ⟨bk BK569⟩, ⟨bk BK573⟩, ⟨bk BK577⟩, ⟨bk BK581⟩, ⟨by (with_reducible repeat (first | refine blk_drewN ?_ _ | refine blk_drew ?_ | refine blk_alloc ?_ _)); refine blk_put (cs := #[.int .i64 t582, .int .i64 0]) ?_ 1 _ rfl; (with_reducible repeat (first | refine blk_drewN ?_ _ | refine blk_drew ?_ | refine blk_alloc ?_ _)); refine blk_put (cs := #[.int .i64 0, .int .i64 0]) ?_ 0 _ rfl; (with_reducible repeat (first | refine blk_drewN ?_ _ | refine blk_drew ?_ | refine blk_alloc ?_ _)); exact BK585.out⟩, ⟨bl HB⟩⟩
       ·
        rw [if_neg c89] at H
        have c89b0 : (t580 == t560) = false := beq_eq_false_iff_ne.mpr c89
        have c89b1 : (t580 != t560) = true := bne_iff_ne.mpr c89
        have H' := Aside0.mk H
        clear H
        go_wp2
        go_meet
        case rel => exact ⟨_, (true), (by first | rfl | (simp; done) | (simp [*]; done)), H', ⟨by first | omega | exact Nat.le_refl _⟩, ⟨bk BK551⟩, ⟨bk BK552⟩, ⟨bk BK561⟩, ⟨bk BK565⟩, ⟨bk BK569⟩, ⟨bk BK573⟩, ⟨bk BK577⟩, ⟨bk BK581⟩, ⟨by (with_reducible repeat (first | refine blk_drewN ?_ _ | refine blk_drew ?_ | refine blk_alloc ?_ _)); refine blk_put (cs := #[.int .i64 t582, .int .i64 0]) ?_ 1 _ rfl; (with_reducible repeat (first | refine blk_drewN ?_ _ | refine blk_drew ?_ | refine blk_alloc ?_ _)); refine blk_put (cs := #[.int .i64 0, .int .i64 0]) ?_ 0 _ rfl; (with_reducible repeat (first | refine blk_drewN ?_ _ | refine blk_drew ?_ | refine blk_alloc ?_ _)); exact BK585.out⟩, ⟨bl HB⟩⟩
      ·
       rw [if_neg c88] at H
       have c88b0 : (t576 == t560) = false := beq_eq_false_iff_ne.mpr c88
       have c88b1 : (t576 != t560) = true := bne_iff_ne.mpr c88
       have H' := Aside0.mk H
       clear H
       go_wp2
       go_meet
       case rel => exact ⟨_, (true), (by first | rfl | (simp; done) | (simp [*]; done)), H', ⟨by first | omega | exact Nat.le_refl _⟩, ⟨bk BK551⟩, ⟨bk BK552⟩, ⟨bk BK561⟩, ⟨bk BK565⟩, ⟨bk BK569⟩, ⟨bk BK573⟩, ⟨bk BK577⟩, ⟨bk BK581⟩, ⟨by (with_reducible repeat (first | refine blk_drewN ?_ _ | refine blk_drew ?_ | refine blk_alloc ?_ _)); refine blk_put (cs := #[.int .i64 t582, .int .i64 0]) ?_ 1 _ rfl; (with_reducible repeat (first | refine blk_drewN ?_ _ | refine blk_drew ?_ | refine blk_alloc ?_ _)); refine blk_put (cs := #[.int .i64 0, .int .i64 0]) ?_ 0 _ rfl; (with_reducible repeat (first | refine blk_drewN ?_ _ | refine blk_drew ?_ | refine blk_alloc ?_ _)); exact BK585.out⟩, ⟨bl HB⟩⟩
     ·
      rw [if_neg c87] at H
      have c87b0 : (t572 == t560) = false := beq_eq_false_iff_ne.mpr c87
      have c87b1 : (t572 != t560) = true := bne_iff_ne.mpr c87
      have H' := Aside0.mk H
      clear H
      go_wp2
      go_meet
      case rel => exact ⟨_, (true), (by first | rfl | (simp; done) | (simp [*]; done)), H', ⟨by first | omega | exact Nat.le_refl _⟩, ⟨bk BK551⟩, ⟨bk BK552⟩, ⟨bk BK561⟩, ⟨bk BK565⟩, ⟨bk BK569⟩, ⟨bk BK573⟩, ⟨bk BK577⟩, ⟨bk BK581⟩, ⟨by (with_reducible repeat (first | refine blk_drewN ?_ _ | refine blk_drew ?_ | refine blk_alloc ?_ _)); refine blk_put (cs := #[.int .i64 t582, .int .i64 0]) ?_ 1 _ rfl; (with_reducible repeat (first | refine blk_drewN ?_ _ | refine blk_drew ?_ | refine blk_alloc ?_ _)); refine blk_put (cs := #[.int .i64 0, .int .i64 0]) ?_ 0 _ rfl; (with_reducible repeat (first | refine blk_drewN ?_ _ | refine blk_drew ?_ | refine blk_alloc ?_ _)); exact BK585.out⟩, ⟨bl HB⟩⟩
    ·
     rw [if_neg c86] at H
     have c86b0 : (t568 == t560) = false := beq_eq_false_iff_ne.mpr c86
     have c86b1 : (t568 != t560) = true := bne_iff_ne.mpr c86
     have H' := Aside0.mk H
     clear H
     go_wp2
     go_meet
     case rel => exact ⟨_, (true), (by first | rfl | (simp; done) | (simp [*]; done)), H', ⟨by first | omega | exact Nat.le_refl _⟩, ⟨bk BK551⟩, ⟨bk BK552⟩, ⟨bk BK561⟩, ⟨bk BK565⟩, ⟨bk BK569⟩, ⟨bk BK573⟩, ⟨bk BK577⟩, ⟨bk BK581⟩, ⟨by (with_reducible repeat (first | refine blk_drewN ?_ _ | refine blk_drew ?_ | refine blk_alloc ?_ _)); refine blk_put (cs := #[.int .i64 t582, .int .i64 0]) ?_ 1 _ rfl; (with_reducible repeat (first | refine blk_drewN ?_ _ | refine blk_drew ?_ | refine blk_alloc ?_ _)); refine blk_put (cs := #[.int .i64 0, .int .i64 0]) ?_ 0 _ rfl; (with_reducible repeat (first | refine blk_drewN ?_ _ | refine blk_drew ?_ | refine blk_alloc ?_ _)); exact BK585.out⟩, ⟨bl HB⟩⟩
   ·
    rw [if_neg c85] at H
    have c85b0 : (t564 == t560) = false := beq_eq_false_iff_ne.mpr c85
    have c85b1 : (t564 != t560) = true := bne_iff_ne.mpr c85
    (first | rw [c85b0] | rw [c85b1] | (simp only [i64_w, i32_w]; first | rw [c85b0] | rw [c85b1]) | skip)
    have H' := Aside0.mk H
    clear H
    go_wp2
    go_meet
    case rel => exact ⟨_, (true), (by first | rfl | (simp; done) | (simp [*]; done)), H', ⟨by first | omega | exact Nat.le_refl _⟩, ⟨bk BK551⟩, ⟨bk BK552⟩, ⟨bk BK561⟩, ⟨bk BK565⟩, ⟨bk BK569⟩, ⟨bk BK573⟩, ⟨bk BK577⟩, ⟨bk BK581⟩, ⟨by (with_reducible repeat (first | refine blk_drewN ?_ _ | refine blk_drew ?_ | refine blk_alloc ?_ _)); refine blk_put (cs := #[.int .i64 t582, .int .i64 0]) ?_ 1 _ rfl; (with_reducible repeat (first | refine blk_drewN ?_ _ | refine blk_drew ?_ | refine blk_alloc ?_ _)); refine blk_put (cs := #[.int .i64 0, .int .i64 0]) ?_ 0 _ rfl; (with_reducible repeat (first | refine blk_drewN ?_ _ | refine blk_drew ?_ | refine blk_alloc ?_ _)); exact BK585.out⟩, ⟨bl HB⟩⟩
  case rest =>
   clear HC15
   (try clear c1); (try clear c2); (try clear p2); (try clear c3); (try clear c4); (try clear c5); (try clear c6); (try clear c7); (try clear c8); (try clear c12); (try clear c18); (try clear c21); (try clear c24); (try clear c25); (try clear c26); (try clear c31); (try clear c32); (try clear c33); (try clear c38); (try clear c39); (try clear c40); (try clear c41); (try clear c42); (try clear c46); (try clear c47); (try clear c48); (try clear c49); (try clear c50); (try clear c55); (try clear c56); (try clear c57); (try clear c58); (try clear c59); (try clear c60); (try clear c65); (try clear c66); (try clear c67); (try clear c68); (try clear c69); (try clear c70); (try clear c71); (try clear c76); (try clear c77); (try clear c78); (try clear c79); (try clear c80); (try clear c81); (try clear c82); (try clear c83); (try clear c85); (try clear c85b0); (try clear c85b1); (try clear c86); (try clear c86b0); (try clear c86b1); (try clear c87); (try clear c87b0); (try clear c87b1); (try clear c88); (try clear c88b0); (try clear c88b1); (try clear c89); (try clear c89b0); (try clear c89b1); (try clear hcz19_0); (try clear hcz19_1); (try clear hcz19_2); (try clear hcz19_3); (try clear hcz19_4); (try clear hcz19_5); (try clear hcz19_6); (try clear hcz19_7); (try clear hcz22_0); (try clear hcz22_1); (try clear hcz22_2); (try clear hcz22_3); (try clear hcz22_4); (try clear hcz22_5); (try clear hcz22_6); (try clear hcz22_7); (try clear hcz27_0); (try clear hcz27_1); (try clear hcz28_0); (try clear hcz28_1); (try clear hcz28_2); (try clear hcz28_3); (try clear hcz28_4); (try clear hcz28_5); (try clear hcz28_6); (try clear hcz28_7); (try clear hcz34_0); (try clear hcz34_1); (try clear hcz35_0); (try clear hcz35_1); (try clear hcz35_2); (try clear hcz35_3); (try clear hcz35_4); (try clear hcz35_5); (try clear hcz35_6); (try clear hcz35_7); (try clear hcz42_0); (try clear hcz42_1); (try clear hcz43_0); (try clear hcz43_1); (try clear hcz43_2); (try clear hcz43_3); (try clear hcz43_4)
   (try clear hcz43_5); (try clear hcz43_6); (try clear hcz43_7); (try clear hcz51_0); (try clear hcz51_1); (try clear hcz52_0); (try clear hcz52_1); (try clear hcz52_2); (try clear hcz52_3); (try clear hcz52_4); (try clear hcz52_5); (try clear hcz52_6); (try clear hcz52_7); (try clear hcz61_0); (try clear hcz61_1); (try clear hcz62_0); (try clear hcz62_1); (try clear hcz62_2); (try clear hcz62_3); (try clear hcz62_4); (try clear hcz62_5); (try clear hcz62_6); (try clear hcz62_7); (try clear hcz72_0); (try clear hcz72_1); (try clear hcz73_0); (try clear hcz73_1); (try clear hcz73_2); (try clear hcz73_3); (try clear hcz73_4); (try clear hcz73_5); (try clear hcz73_6); (try clear hcz73_7); (try clear hcz84_0); (try clear hcz84_1); (try clear hfz19_0); (try clear hfz19_1); (try clear hfz19_2); (try clear hfz19_3); (try clear hfz19_4); (try clear hfz19_5); (try clear hfz19_6); (try clear hfz19_7); (try clear hfz22_0); (try clear hfz22_1); (try clear hfz22_2); (try clear hfz22_3); (try clear hfz22_4); (try clear hfz22_5); (try clear hfz22_6); (try clear hfz22_7); (try clear hfz27_0); (try clear hfz27_1); (try clear hfz28_0); (try clear hfz28_1); (try clear hfz28_2); (try clear hfz28_3); (try clear hfz28_4); (try clear hfz28_5); (try clear hfz28_6); (try clear hfz28_7); (try clear hfz34_0); (try clear hfz34_1); (try clear hfz35_0); (try clear hfz35_1); (try clear hfz35_2); (try clear hfz35_3); (try clear hfz35_4); (try clear hfz35_5); (try clear hfz35_6); (try clear hfz35_7); (try clear hfz42_0); (try clear hfz42_1); (try clear hfz43_0); (try clear hfz43_1); (try clear hfz43_2); (try clear hfz43_3); (try clear hfz43_4); (try clear hfz43_5); (try clear hfz43_6); (try clear hfz43_7); (try clear hfz51_0); (try clear hfz51_1); (try clear hfz52_0); (try clear hfz52_1); (try clear hfz52_2); (try clear hfz52_3); (try clear hfz52_4); (try clear hfz52_5); (try clear hfz52_6); (try clear hfz52_7); (try clear hfz61_0); (try clear hfz61_1); (try clear hfz62_0); (try clear hfz62_1); (try clear hfz62_2)
   (try clear hfz62_3); (try clear hfz62_4); (try clear hfz62_5); (try clear hfz62_6); (try clear hfz62_7); (try clear hfz72_0); (try clear hfz72_1); (try clear hfz73_0); (try clear hfz73_1); (try clear hfz73_2); (try clear hfz73_3); (try clear hfz73_4); (try clear hfz73_5); (try clear hfz73_6); (try clear hfz73_7); (try clear hfz84_0); (try clear hfz84_1)
   (try clear BK551); (try clear BK552); (try clear BK561); (try clear BK565); (try clear BK569); (try clear BK573); (try clear BK577); (try clear BK581); (try clear BK585); (try clear HB)
   obtain ⟨kq, x115_14, rfl, HA, HJ14, BK551, BK552, BK561, BK565, BK569, BK573, BK577, BK581, BK585, HB⟩ := hcut
   cases kq with
   | zero => exact absurd HA.out (by simp [remontoirlaw03_StarApart.j0])
   | succ kj14 =>
    have H := HA.out
    clear HA
    simp only [remontoirlaw03_StarApart.j0] at H
    by_cases c90 : x115_14 = true
    ·
     subst c90
     have H1 : (some false) = some r := by rw [if_pos rfl] at H; exact H
     clear H
     have H := H1
     clear H1
     obtain rfl := Option.some.inj H
     go_wp2
     go_ret
     exact ⟨by first | rfl | (simp [errW_none, errW_some] <;> rfl) | (simp [*, errW_none, errW_some] <;> rfl), by repeat (first | (with_reducible first | exact HB.out | apply below_alloc | apply pw_below_drewN | apply below_drew1 | refine below_set ?_ GE551.out | refine below_set ?_ GE552.out | refine below_set ?_ GE561.out | refine below_set ?_ GE565.out | refine below_set ?_ GE569.out | refine below_set ?_ GE573.out | refine below_set ?_ GE577.out | refine below_set ?_ GE581.out | refine below_set ?_ GE585.out) | exact HB.out)⟩
    ·
     replace c90 := Bool.eq_false_iff.mpr c90
     subst c90
     have H1 : (if t560 = 0 then ((remontoirref00_To.f (wrap64 (t558 + t562)) (wrap64 (t559 + t563))).bind fun bt587 => ((remontoirref00_Within.f t566 t567 bt587.1 bt587.2).bind fun t589 => (if t589 = true then ((remontoirref00_To.f (wrap64 (-t559)) (wrap64 (-t558))).bind fun bt590 => (if (t570 == bt590.1 && (t571 == bt590.2)) = true then ((remontoirref00_To.f 0 0).bind fun bt592 => (if (t574 == bt592.1 && (t575 == bt592.2)) = true then ((remontoirref00_To.f (wrap64 (t578 + t558)) (wrap64 (t579 + t559))).bind fun bt594 => ((remontoirref00_Within.f t582 t583 bt594.1 bt594.2).bind fun t596 => (if t596 = true then ((remontoirlaw03_works.f).bind fun t597 => (some t597)) else (some false)))) else (some false))) else (some false))) else (some false)))) else (if t560 = 32 then ((remontoirlaw03_works.f).bind fun t586 => (some t586)) else (some false))) = some r := by rw [if_neg (show ¬ (false = true) by decide)] at H; exact H
     clear H
     have H := H1
     clear H1
     by_cases c91 : t560 = 0
     ·
      rw [if_pos c91] at H
      have c91b0 : (t560 == 0) = true := beq_iff_eq.mpr c91
      have c91b1 : (t560 != 0) = false := bne_eq_false_iff_eq.mpr c91
      clear c91
      replace H := Option.bind_eq_some_iff.mp H
      obtain ⟨⟨t587, t588⟩, A920, H⟩ := H
      replace H : ((remontoirref00_Within.f t566 t567 t587 t588).bind fun t589 => (if t589 = true then ((remontoirref00_To.f (wrap64 (-t559)) (wrap64 (-t558))).bind fun bt590 => (if (t570 == bt590.1 && (t571 == bt590.2)) = true then ((remontoirref00_To.f 0 0).bind fun bt592 => (if (t574 == bt592.1 && (t575 == bt592.2)) = true then ((remontoirref00_To.f (wrap64 (t578 + t558)) (wrap64 (t579 + t559))).bind fun bt594 => ((remontoirref00_Within.f t582 t583 bt594.1 bt594.2).bind fun t596 => (if t596 = true then ((remontoirlaw03_works.f).bind fun t597 => (some t597)) else (some false)))) else (some false))) else (some false))) else (some false))) = some r := H
      have A92 := Aside0.mk A920
      clear A920
      replace H := Option.bind_eq_some_iff.mp H
      obtain ⟨t589, A930, H⟩ := H
      replace H : (if t589 = true then ((remontoirref00_To.f (wrap64 (-t559)) (wrap64 (-t558))).bind fun bt590 => (if (t570 == bt590.1 && (t571 == bt590.2)) = true then ((remontoirref00_To.f 0 0).bind fun bt592 => (if (t574 == bt592.1 && (t575 == bt592.2)) = true then ((remontoirref00_To.f (wrap64 (t578 + t558)) (wrap64 (t579 + t559))).bind fun bt594 => ((remontoirref00_Within.f t582 t583 bt594.1 bt594.2).bind fun t596 => (if t596 = true then ((remontoirlaw03_works.f).bind fun t597 => (some t597)) else (some false)))) else (some false))) else (some false))) else (some false)) = some r := H
      have A93 := Aside0.mk A930
      clear A930
      by_cases c94 : t589 = true
      ·
       subst c94
       have H1 : ((remontoirref00_To.f (wrap64 (-t559)) (wrap64 (-t558))).bind fun bt590 => (if (t570 == bt590.1 && (t571 == bt590.2)) = true then ((remontoirref00_To.f 0 0).bind fun bt592 => (if (t574 == bt592.1 && (t575 == bt592.2)) = true then ((remontoirref00_To.f (wrap64 (t578 + t558)) (wrap64 (t579 + t559))).bind fun bt594 => ((remontoirref00_Within.f t582 t583 bt594.1 bt594.2).bind fun t596 => (if t596 = true then ((remontoirlaw03_works.f).bind fun t597 => (some t597)) else (some false)))) else (some false))) else (some false))) = some r := by rw [if_pos rfl] at H; exact H
       clear H
       have H := H1
       clear H1
       replace H := Option.bind_eq_some_iff.mp H
       obtain ⟨⟨t590, t591⟩, A950, H⟩ := H
       replace H : (if (t570 == t590 && (t571 == t591)) = true then ((remontoirref00_To.f 0 0).bind fun bt592 => (if (t574 == bt592.1 && (t575 == bt592.2)) = true then ((remontoirref00_To.f (wrap64 (t578 + t558)) (wrap64 (t579 + t559))).bind fun bt594 => ((remontoirref00_Within.f t582 t583 bt594.1 bt594.2).bind fun t596 => (if t596 = true then ((remontoirlaw03_works.f).bind fun t597 => (some t597)) else (some false)))) else (some false))) else (some false)) = some r := H
       have A95 := Aside0.mk A950
       clear A950
       by_cases c96 : (t570 == t590 && (t571 == t591)) = true
       ·
        rw [if_pos c96] at H
        have c96b0 : (t570 == t590 && (t571 == t591)) = true := c96
        (try (have c96b1 : decide (t570 = t590 && (t571 == t591)) = true := by simpa using c96))
        (try (have c96b2 : (t570 == t590 && (t571 == t591)) = true := by simpa using c96))
        clear c96
        replace H := Option.bind_eq_some_iff.mp H
        obtain ⟨⟨t592, t593⟩, A970, H⟩ := H
        replace H : (if (t574 == t592 && (t575 == t593)) = true then ((remontoirref00_To.f (wrap64 (t578 + t558)) (wrap64 (t579 + t559))).bind fun bt594 => ((remontoirref00_Within.f t582 t583 bt594.1 bt594.2).bind fun t596 => (if t596 = true then ((remontoirlaw03_works.f).bind fun t597 => (some t597)) else (some false)))) else (some false)) = some r := H
        have A97 := Aside0.mk A970
        clear A970
        by_cases c98 : (t574 == t592 && (t575 == t593)) = true
        ·
         rw [if_pos c98] at H
         have c98b0 : (t574 == t592 && (t575 == t593)) = true := c98
         (try (have c98b1 : decide (t574 = t592 && (t575 == t593)) = true := by simpa using c98))
         (try (have c98b2 : (t574 == t592 && (t575 == t593)) = true := by simpa using c98))
         clear c98
         replace H := Option.bind_eq_some_iff.mp H
         obtain ⟨⟨t594, t595⟩, A990, H⟩ := H
         replace H : ((remontoirref00_Within.f t582 t583 t594 t595).bind fun t596 => (if t596 = true then ((remontoirlaw03_works.f).bind fun t597 => (some t597)) else (some false))) = some r := H
         have A99 := Aside0.mk A990
         clear A990
         replace H := Option.bind_eq_some_iff.mp H
         obtain ⟨t596, A1000, H⟩ := H
         replace H : (if t596 = true then ((remontoirlaw03_works.f).bind fun t597 => (some t597)) else (some false)) = some r := H
         have A100 := Aside0.mk A1000
         clear A1000
         by_cases c101 : t596 = true
         ·
          subst c101
          have H1 : ((remontoirlaw03_works.f).bind fun t597 => (some t597)) = some r := by rw [if_pos rfl] at H; exact H
          clear H
          have H := H1
          clear H1
          replace H := Option.bind_eq_some_iff.mp H
          obtain ⟨t597, A1020, H⟩ := H
          replace H : (some t597) = some r := H
          have A102 := Aside0.mk A1020
          clear A1020
          obtain rfl := Option.some.inj H
          try go_wp2
          replace BK551 := Aside0.mk (blk_drew BK551.out)
          replace BK552 := Aside0.mk (blk_drew BK552.out)
          replace BK561 := Aside0.mk (blk_drew BK561.out)
          replace BK565 := Aside0.mk (blk_drew BK565.out)
          replace BK569 := Aside0.mk (blk_drew BK569.out)
          replace BK573 := Aside0.mk (blk_drew BK573.out)
          replace BK577 := Aside0.mk (blk_drew BK577.out)
          replace BK581 := Aside0.mk (blk_drew BK581.out)
          replace BK585 := Aside0.mk (blk_drew BK585.out)
          replace HB := Aside0.mk (below_drew1 HB.out)
          refine start_ (n := 48) (S := fun w' => w'.cell? ⟨gb569, 0, none⟩ = some (.int .i64 t566) ∧ w'.cell? ⟨gb569, 1, none⟩ = some (.int .i64 t567) ∧ w'.cell? ⟨gb561, 0, none⟩ = some (.int .i64 t558) ∧ w'.cell? ⟨gb561, 1, none⟩ = some (.int .i64 t559) ∧ w'.cell? ⟨gb565, 0, none⟩ = some (.int .i64 t562) ∧ w'.cell? ⟨gb565, 1, none⟩ = some (.int .i64 t563) ∧ w'.cell? ⟨gb573, 0, none⟩ = some (.int .i64 t570) ∧ w'.cell? ⟨gb573, 1, none⟩ = some (.int .i64 t571) ∧ w'.cell? ⟨gb577, 0, none⟩ = some (.int .i64 t574) ∧ w'.cell? ⟨gb577, 1, none⟩ = some (.int .i64 t575) ∧ w'.cell? ⟨gb585, 0, none⟩ = some (.int .i64 t582) ∧ w'.cell? ⟨gb585, 1, none⟩ = some (.int .i64 t583) ∧ w'.cell? ⟨gb581, 0, none⟩ = some (.int .i64 t578) ∧ w'.cell? ⟨gb581, 1, none⟩ = some (.int .i64 t579)) (ds := []) #[false, false, false, false, false, false, false, false, false, false, false, false, false, false, false, false, false, false, false, false, false, false, false, false, false, false, false, false, false, false, false, false, false, false, false, false, false, false, false, false, false, false, false, false, false, false, false, false] (by kernel_rfl) rfl rfl ⟨bc BK569 0, bc BK569 1, bc BK561 0, bc BK561 1, bc BK565 0, bc BK565 1, bc BK573 0, bc BK573 1, bc BK577 0, bc BK577 1, bc BK585 0, bc BK585 1, bc BK581 0, bc BK581 1⟩ (fun hHeld => ?_); refine with_tabW remontoirlaw03_StarApart.tab15 remontoirlaw03_StarApart.bits15 (fun HT_ HW_ => ?_)
          generalize wc.drew = w103 at BK551 BK552 BK561 BK565 BK569 BK573 BK577 BK581 BK585 HB hHeld ⊢
          refine pureA 1 124 ?_
          refine pureA 3 126 ?_
          refine pureA 6 129 ?_
          refine pureA 8 131 ?_
          refine takeA 0 123 rfl rfl (by rintro w' ⟨s0, s1, s2, s3, s4, s5, s6, s7, s8, s9, s10, s11, s12, s13⟩; go_simp; with_reducible rfl) ?_
          refine takeA 2 125 rfl rfl (by rintro w' ⟨s0, s1, s2, s3, s4, s5, s6, s7, s8, s9, s10, s11, s12, s13⟩; go_simp; with_reducible rfl) ?_
          refine takeA 4 127 rfl rfl (by rintro w' ⟨s0, s1, s2, s3, s4, s5, s6, s7, s8, s9, s10, s11, s12, s13⟩; go_simp; with_reducible rfl) ?_
          refine pureA 5 128 ?_
          refine takeA 7 130 rfl rfl (by rintro w' ⟨s0, s1, s2, s3, s4, s5, s6, s7, s8, s9, s10, s11, s12, s13⟩; go_simp; with_reducible rfl) ?_
          refine takeA 9 132 rfl rfl (by rintro w' ⟨s0, s1, s2, s3, s4, s5, s6, s7, s8, s9, s10, s11, s12, s13⟩; go_simp; with_reducible rfl) ?_
          refine pureA 10 133 ?_
          refine oneA 11 (some 134) (fun K hK => ?_)
          refine goes_ Tryd.func43 (by kernel_rfl) rfl #[.int .i64 (wrap64 (t558 + t562)), .int .i64 (wrap64 (t559 + t563))] (by rfl) rfl rfl (by (try simp only [List.map_toArray, List.map_cons, List.map_nil]); first | done | rfl | (simp only [List.length_drop, List.length_take]; rfl)) ?_
          with_reducible refine (remontoirref00_To.calls (wrap64 (t558 + t562)) (wrap64 (t559 + t563)) t587 t588 _ A92.out).mono ?_
          rintro e w104 ⟨rfl, hb⟩
          refine ⟨_, rfl, ?_⟩
          replace BK551 := Aside0.mk (blk_below (bk BK551) hb)
          replace BK552 := Aside0.mk (blk_below (bk BK552) hb)
          replace BK561 := Aside0.mk (blk_below (bk BK561) hb)
          replace BK565 := Aside0.mk (blk_below (bk BK565) hb)
          replace BK569 := Aside0.mk (blk_below (bk BK569) hb)
          replace BK573 := Aside0.mk (blk_below (bk BK573) hb)
          replace BK577 := Aside0.mk (blk_below (bk BK577) hb)
          replace BK581 := Aside0.mk (blk_below (bk BK581) hb)
          replace BK585 := Aside0.mk (blk_below (bk BK585) hb)
          replace HB := Aside0.mk (below_step (bl HB) hb)
          (try clear hb)
          (try clear hb2)
          (try clear hk)
          (try clear hi)
          refine hK.out _ _ ⟨bc BK569 0, bc BK569 1, bc BK561 0, bc BK561 1, bc BK565 0, bc BK565 1, bc BK573 0, bc BK573 1, bc BK577 0, bc BK577 1, bc BK585 0, bc BK585 1, bc BK581 0, bc BK581 1⟩ (fun hHeld => ?_)
          clear hK K
          refine normA 134 ?_
          refine oneA 12 (some 135) (fun K hK => ?_)
          refine goes_ Tryd.func41 (by kernel_rfl) rfl #[.agg #[.int .i64 t566, .int .i64 t567], .agg #[.int .i64 t587, .int .i64 t588]] (by rfl) rfl rfl (by (try simp only [List.map_toArray, List.map_cons, List.map_nil]); first | done | rfl | (simp only [List.length_drop, List.length_take]; rfl)) ?_
          with_reducible refine (remontoirref00_Within.calls t566 t567 t587 t588 true _ A93.out).mono ?_
          rintro e w105 ⟨rfl, hb⟩
          refine ⟨_, rfl, ?_⟩
          replace BK551 := Aside0.mk (blk_below (bk BK551) hb)
          replace BK552 := Aside0.mk (blk_below (bk BK552) hb)
          replace BK561 := Aside0.mk (blk_below (bk BK561) hb)
          replace BK565 := Aside0.mk (blk_below (bk BK565) hb)
          replace BK569 := Aside0.mk (blk_below (bk BK569) hb)
          replace BK573 := Aside0.mk (blk_below (bk BK573) hb)
          replace BK577 := Aside0.mk (blk_below (bk BK577) hb)
          replace BK581 := Aside0.mk (blk_below (bk BK581) hb)
          replace BK585 := Aside0.mk (blk_below (bk BK585) hb)
          replace HB := Aside0.mk (below_step (bl HB) hb)
          (try clear hb)
          (try clear hb2)
          (try clear hk)
          (try clear hi)
          refine hK.out _ _ ⟨bc BK569 0, bc BK569 1, bc BK561 0, bc BK561 1, bc BK565 0, bc BK565 1, bc BK573 0, bc BK573 1, bc BK577 0, bc BK577 1, bc BK585 0, bc BK585 1, bc BK581 0, bc BK581 1⟩ (fun hHeld => ?_)
          clear hK K
          refine normA 135 ?_
          refine pureA 13 136 ?_
          refine pureA 15 138 ?_
          refine pureA 18 141 ?_
          refine takeA 14 137 rfl rfl (by rintro w' ⟨s0, s1, s2, s3, s4, s5, s6, s7, s8, s9, s10, s11, s12, s13⟩; go_simp; with_reducible rfl) ?_
          refine takeA 16 139 rfl rfl (by rintro w' ⟨s0, s1, s2, s3, s4, s5, s6, s7, s8, s9, s10, s11, s12, s13⟩; go_simp; with_reducible rfl) ?_
          refine pureA 17 140 ?_
          refine takeA 19 142 rfl rfl (by rintro w' ⟨s0, s1, s2, s3, s4, s5, s6, s7, s8, s9, s10, s11, s12, s13⟩; go_simp; with_reducible rfl) ?_
          refine pureA 20 143 ?_
          refine oneA 21 (some 144) (fun K hK => ?_)
          refine goes_ Tryd.func43 (by kernel_rfl) rfl #[.int .i64 (wrap64 (-t559)), .int .i64 (wrap64 (-t558))] (by rfl) rfl rfl (by (try simp only [List.map_toArray, List.map_cons, List.map_nil]); first | done | rfl | (simp only [List.length_drop, List.length_take]; rfl)) ?_
          with_reducible refine (remontoirref00_To.calls (wrap64 (-t559)) (wrap64 (-t558)) t590 t591 _ A95.out).mono ?_
          rintro e w106 ⟨rfl, hb⟩
          refine ⟨_, rfl, ?_⟩
          replace BK551 := Aside0.mk (blk_below (bk BK551) hb)
          replace BK552 := Aside0.mk (blk_below (bk BK552) hb)
          replace BK561 := Aside0.mk (blk_below (bk BK561) hb)
          replace BK565 := Aside0.mk (blk_below (bk BK565) hb)
          replace BK569 := Aside0.mk (blk_below (bk BK569) hb)
          replace BK573 := Aside0.mk (blk_below (bk BK573) hb)
          replace BK577 := Aside0.mk (blk_below (bk BK577) hb)
          replace BK581 := Aside0.mk (blk_below (bk BK581) hb)
          replace BK585 := Aside0.mk (blk_below (bk BK585) hb)
          replace HB := Aside0.mk (below_step (bl HB) hb)
          (try clear hb)
          (try clear hb2)
          (try clear hk)
          (try clear hi)
          refine hK.out _ _ ⟨bc BK569 0, bc BK569 1, bc BK561 0, bc BK561 1, bc BK565 0, bc BK565 1, bc BK573 0, bc BK573 1, bc BK577 0, bc BK577 1, bc BK585 0, bc BK585 1, bc BK581 0, bc BK581 1⟩ (fun hHeld => ?_)
          clear hK K
          refine normA 144 ?_
          refine pureA 22 145 ?_
          refine pureA 23 146 ?_
          refine pureA 24 147 ?_
          refine takeA 25 148 rfl rfl (by rintro w' ⟨s0, s1, s2, s3, s4, s5, s6, s7, s8, s9, s10, s11, s12, s13⟩; go_simp; with_reducible rfl) ?_
          refine oneA 26 (some 149) (fun K hK => ?_)
          refine goes_ Tryd.func43 (by kernel_rfl) rfl #[.int .i64 0, .int .i64 0] (by rfl) rfl rfl (by (try simp only [List.map_toArray, List.map_cons, List.map_nil]); first | done | rfl | (simp only [List.length_drop, List.length_take]; rfl)) ?_
          with_reducible refine (remontoirref00_To.calls 0 0 t592 t593 _ A97.out).mono ?_
          rintro e w107 ⟨rfl, hb⟩
          refine ⟨_, rfl, ?_⟩
          replace BK551 := Aside0.mk (blk_below (bk BK551) hb)
          replace BK552 := Aside0.mk (blk_below (bk BK552) hb)
          replace BK561 := Aside0.mk (blk_below (bk BK561) hb)
          replace BK565 := Aside0.mk (blk_below (bk BK565) hb)
          replace BK569 := Aside0.mk (blk_below (bk BK569) hb)
          replace BK573 := Aside0.mk (blk_below (bk BK573) hb)
          replace BK577 := Aside0.mk (blk_below (bk BK577) hb)
          replace BK581 := Aside0.mk (blk_below (bk BK581) hb)
          replace BK585 := Aside0.mk (blk_below (bk BK585) hb)
          replace HB := Aside0.mk (below_step (bl HB) hb)
          (try clear hb)
          (try clear hb2)
          (try clear hk)
          (try clear hi)
          refine hK.out _ _ ⟨bc BK569 0, bc BK569 1, bc BK561 0, bc BK561 1, bc BK565 0, bc BK565 1, bc BK573 0, bc BK573 1, bc BK577 0, bc BK577 1, bc BK585 0, bc BK585 1, bc BK581 0, bc BK581 1⟩ (fun hHeld => ?_)
          clear hK K
          refine normA 149 ?_
          refine pureA 27 150 ?_
          refine pureA 28 151 ?_
          refine pureA 29 152 ?_
          refine pureA 31 154 ?_
          refine pureA 33 156 ?_
          refine pureA 36 159 ?_
          refine pureA 38 161 ?_
          refine takeA 30 153 rfl rfl (by rintro w' ⟨s0, s1, s2, s3, s4, s5, s6, s7, s8, s9, s10, s11, s12, s13⟩; go_simp; with_reducible rfl) ?_
          refine takeA 32 155 rfl rfl (by rintro w' ⟨s0, s1, s2, s3, s4, s5, s6, s7, s8, s9, s10, s11, s12, s13⟩; go_simp; with_reducible rfl) ?_
          refine takeA 34 157 rfl rfl (by rintro w' ⟨s0, s1, s2, s3, s4, s5, s6, s7, s8, s9, s10, s11, s12, s13⟩; go_simp; with_reducible rfl) ?_
          refine pureA 35 158 ?_
          refine takeA 37 160 rfl rfl (by rintro w' ⟨s0, s1, s2, s3, s4, s5, s6, s7, s8, s9, s10, s11, s12, s13⟩; go_simp; with_reducible rfl) ?_
          refine takeA 39 162 rfl rfl (by rintro w' ⟨s0, s1, s2, s3, s4, s5, s6, s7, s8, s9, s10, s11, s12, s13⟩; go_simp; with_reducible rfl) ?_
          refine pureA 40 163 ?_
          refine oneA 41 (some 164) (fun K hK => ?_)
          refine goes_ Tryd.func43 (by kernel_rfl) rfl #[.int .i64 (wrap64 (t578 + t558)), .int .i64 (wrap64 (t579 + t559))] (by rfl) rfl rfl (by (try simp only [List.map_toArray, List.map_cons, List.map_nil]); first | done | rfl | (simp only [List.length_drop, List.length_take]; rfl)) ?_
          with_reducible refine (remontoirref00_To.calls (wrap64 (t578 + t558)) (wrap64 (t579 + t559)) t594 t595 _ A99.out).mono ?_
          rintro e w108 ⟨rfl, hb⟩
          refine ⟨_, rfl, ?_⟩
          replace BK551 := Aside0.mk (blk_below (bk BK551) hb)
          replace BK552 := Aside0.mk (blk_below (bk BK552) hb)
          replace BK561 := Aside0.mk (blk_below (bk BK561) hb)
          replace BK565 := Aside0.mk (blk_below (bk BK565) hb)
          replace BK569 := Aside0.mk (blk_below (bk BK569) hb)
          replace BK573 := Aside0.mk (blk_below (bk BK573) hb)
          replace BK577 := Aside0.mk (blk_below (bk BK577) hb)
          replace BK581 := Aside0.mk (blk_below (bk BK581) hb)
          replace BK585 := Aside0.mk (blk_below (bk BK585) hb)
          replace HB := Aside0.mk (below_step (bl HB) hb)
          (try clear hb)
          (try clear hb2)
          (try clear hk)
          (try clear hi)
          refine hK.out _ _ ⟨bc BK569 0, bc BK569 1, bc BK561 0, bc BK561 1, bc BK565 0, bc BK565 1, bc BK573 0, bc BK573 1, bc BK577 0, bc BK577 1, bc BK585 0, bc BK585 1, bc BK581 0, bc BK581 1⟩ (fun hHeld => ?_)
          clear hK K
          refine normA 164 ?_
          refine oneA 42 (some 165) (fun K hK => ?_)
          refine goes_ Tryd.func41 (by kernel_rfl) rfl #[.agg #[.int .i64 t582, .int .i64 t583], .agg #[.int .i64 t594, .int .i64 t595]] (by rfl) rfl rfl (by (try simp only [List.map_toArray, List.map_cons, List.map_nil]); first | done | rfl | (simp only [List.length_drop, List.length_take]; rfl)) ?_
          with_reducible refine (remontoirref00_Within.calls t582 t583 t594 t595 true _ A100.out).mono ?_
          rintro e w109 ⟨rfl, hb⟩
          refine ⟨_, rfl, ?_⟩
          replace BK551 := Aside0.mk (blk_below (bk BK551) hb)
          replace BK552 := Aside0.mk (blk_below (bk BK552) hb)
          replace BK561 := Aside0.mk (blk_below (bk BK561) hb)
          replace BK565 := Aside0.mk (blk_below (bk BK565) hb)
          replace BK569 := Aside0.mk (blk_below (bk BK569) hb)
          replace BK573 := Aside0.mk (blk_below (bk BK573) hb)
          replace BK577 := Aside0.mk (blk_below (bk BK577) hb)
          replace BK581 := Aside0.mk (blk_below (bk BK581) hb)
          replace BK585 := Aside0.mk (blk_below (bk BK585) hb)
          replace HB := Aside0.mk (below_step (bl HB) hb)
          (try clear hb)
          (try clear hb2)
          (try clear hk)
          (try clear hi)
          refine hK.out _ _ ⟨bc BK569 0, bc BK569 1, bc BK561 0, bc BK561 1, bc BK565 0, bc BK565 1, bc BK573 0, bc BK573 1, bc BK577 0, bc BK577 1, bc BK585 0, bc BK585 1, bc BK581 0, bc BK581 1⟩ (fun hHeld => ?_)
          clear hK K
          refine normA 165 ?_
          refine pureA 43 166 ?_
          refine pureA 44 167 ?_
          refine oneA 45 (some 168) (fun K hK => ?_)
          refine goes_ Tryd.func23 (by kernel_rfl) rfl #[] (by rfl) rfl rfl (by (try simp only [List.map_toArray, List.map_cons, List.map_nil]); first | done | rfl | (simp only [List.length_drop, List.length_take]; rfl)) ?_
          with_reducible refine (remontoirlaw03_works.calls  t597 _ ?side1 A102.out).mono ?_
          (case side1 => exact Go.Proofs.YtohbeninpmmmpaaDoor.Ways.below HWays.out (bl HB))
          rintro e w110 ⟨rfl, hb⟩
          refine ⟨_, rfl, ?_⟩
          replace BK551 := Aside0.mk (blk_below (bk BK551) hb)
          replace BK552 := Aside0.mk (blk_below (bk BK552) hb)
          replace BK561 := Aside0.mk (blk_below (bk BK561) hb)
          replace BK565 := Aside0.mk (blk_below (bk BK565) hb)
          replace BK569 := Aside0.mk (blk_below (bk BK569) hb)
          replace BK573 := Aside0.mk (blk_below (bk BK573) hb)
          replace BK577 := Aside0.mk (blk_below (bk BK577) hb)
          replace BK581 := Aside0.mk (blk_below (bk BK581) hb)
          replace BK585 := Aside0.mk (blk_below (bk BK585) hb)
          replace HB := Aside0.mk (below_step (bl HB) hb)
          (try clear hb)
          (try clear hb2)
          (try clear hk)
          (try clear hi)
          refine hK.out _ _ ⟨bc BK569 0, bc BK569 1, bc BK561 0, bc BK561 1, bc BK565 0, bc BK565 1, bc BK573 0, bc BK573 1, bc BK577 0, bc BK577 1, bc BK585 0, bc BK585 1, bc BK581 0, bc BK581 1⟩ (fun hHeld => ?_)
          clear hK K
          refine normA 168 ?_
          refine pureA 46 169 ?_
          refine pureA 47 4 ?_
          refine done_ (done_of HT_.out (by kernel_rfl)) ?_
          try go_wp2
          go_ret
          exact ⟨by first | rfl | (simp [errW_none, errW_some] <;> rfl) | (simp [*, errW_none, errW_some] <;> rfl), by repeat (first | (with_reducible first | exact HB.out | apply below_alloc | apply pw_below_drewN | apply below_drew1 | refine below_set ?_ GE551.out | refine below_set ?_ GE552.out | refine below_set ?_ GE561.out | refine below_set ?_ GE565.out | refine below_set ?_ GE569.out | refine below_set ?_ GE573.out | refine below_set ?_ GE577.out | refine below_set ?_ GE581.out | refine below_set ?_ GE585.out) | exact HB.out)⟩
         ·
          replace c101 := Bool.eq_false_iff.mpr c101
          subst c101
          have H1 : (some false) = some r := by rw [if_neg (show ¬ (false = true) by decide)] at H; exact H
          clear H
          have H := H1
          clear H1
          obtain rfl := Option.some.inj H
          try go_wp2
          replace BK551 := Aside0.mk (blk_drew BK551.out)
          replace BK552 := Aside0.mk (blk_drew BK552.out)
          replace BK561 := Aside0.mk (blk_drew BK561.out)
          replace BK565 := Aside0.mk (blk_drew BK565.out)
          replace BK569 := Aside0.mk (blk_drew BK569.out)
          replace BK573 := Aside0.mk (blk_drew BK573.out)
          replace BK577 := Aside0.mk (blk_drew BK577.out)
          replace BK581 := Aside0.mk (blk_drew BK581.out)
          replace BK585 := Aside0.mk (blk_drew BK585.out)
          replace HB := Aside0.mk (below_drew1 HB.out)
          refine start_ (n := 48) (S := fun w' => w'.cell? ⟨gb569, 0, none⟩ = some (.int .i64 t566) ∧ w'.cell? ⟨gb569, 1, none⟩ = some (.int .i64 t567) ∧ w'.cell? ⟨gb561, 0, none⟩ = some (.int .i64 t558) ∧ w'.cell? ⟨gb561, 1, none⟩ = some (.int .i64 t559) ∧ w'.cell? ⟨gb565, 0, none⟩ = some (.int .i64 t562) ∧ w'.cell? ⟨gb565, 1, none⟩ = some (.int .i64 t563) ∧ w'.cell? ⟨gb573, 0, none⟩ = some (.int .i64 t570) ∧ w'.cell? ⟨gb573, 1, none⟩ = some (.int .i64 t571) ∧ w'.cell? ⟨gb577, 0, none⟩ = some (.int .i64 t574) ∧ w'.cell? ⟨gb577, 1, none⟩ = some (.int .i64 t575) ∧ w'.cell? ⟨gb585, 0, none⟩ = some (.int .i64 t582) ∧ w'.cell? ⟨gb585, 1, none⟩ = some (.int .i64 t583) ∧ w'.cell? ⟨gb581, 0, none⟩ = some (.int .i64 t578) ∧ w'.cell? ⟨gb581, 1, none⟩ = some (.int .i64 t579)) (ds := []) #[false, false, false, false, false, false, false, false, false, false, false, false, false, false, false, false, false, false, false, false, false, false, false, false, false, false, false, false, false, false, false, false, false, false, false, false, false, false, false, false, false, false, false, false, false, false, false, false] (by kernel_rfl) rfl rfl ⟨bc BK569 0, bc BK569 1, bc BK561 0, bc BK561 1, bc BK565 0, bc BK565 1, bc BK573 0, bc BK573 1, bc BK577 0, bc BK577 1, bc BK585 0, bc BK585 1, bc BK581 0, bc BK581 1⟩ (fun hHeld => ?_); refine with_tabW remontoirlaw03_StarApart.tab15 remontoirlaw03_StarApart.bits15 (fun HT_ HW_ => ?_)
          generalize wc.drew = w111 at BK551 BK552 BK561 BK565 BK569 BK573 BK577 BK581 BK585 HB hHeld ⊢
          refine pureA 1 124 ?_
          refine pureA 3 126 ?_
          refine pureA 6 129 ?_
          refine pureA 8 131 ?_
          refine takeA 0 123 rfl rfl (by rintro w' ⟨s0, s1, s2, s3, s4, s5, s6, s7, s8, s9, s10, s11, s12, s13⟩; go_simp; with_reducible rfl) ?_
          refine takeA 2 125 rfl rfl (by rintro w' ⟨s0, s1, s2, s3, s4, s5, s6, s7, s8, s9, s10, s11, s12, s13⟩; go_simp; with_reducible rfl) ?_
          refine takeA 4 127 rfl rfl (by rintro w' ⟨s0, s1, s2, s3, s4, s5, s6, s7, s8, s9, s10, s11, s12, s13⟩; go_simp; with_reducible rfl) ?_
          refine pureA 5 128 ?_
          refine takeA 7 130 rfl rfl (by rintro w' ⟨s0, s1, s2, s3, s4, s5, s6, s7, s8, s9, s10, s11, s12, s13⟩; go_simp; with_reducible rfl) ?_
          refine takeA 9 132 rfl rfl (by rintro w' ⟨s0, s1, s2, s3, s4, s5, s6, s7, s8, s9, s10, s11, s12, s13⟩; go_simp; with_reducible rfl) ?_
          refine pureA 10 133 ?_
          refine oneA 11 (some 134) (fun K hK => ?_)
          refine goes_ Tryd.func43 (by kernel_rfl) rfl #[.int .i64 (wrap64 (t558 + t562)), .int .i64 (wrap64 (t559 + t563))] (by rfl) rfl rfl (by (try simp only [List.map_toArray, List.map_cons, List.map_nil]); first | done | rfl | (simp only [List.length_drop, List.length_take]; rfl)) ?_
          with_reducible refine (remontoirref00_To.calls (wrap64 (t558 + t562)) (wrap64 (t559 + t563)) t587 t588 _ A92.out).mono ?_
          rintro e w112 ⟨rfl, hb⟩
          refine ⟨_, rfl, ?_⟩
          replace BK551 := Aside0.mk (blk_below (bk BK551) hb)
          replace BK552 := Aside0.mk (blk_below (bk BK552) hb)
          replace BK561 := Aside0.mk (blk_below (bk BK561) hb)
          replace BK565 := Aside0.mk (blk_below (bk BK565) hb)
          replace BK569 := Aside0.mk (blk_below (bk BK569) hb)
          replace BK573 := Aside0.mk (blk_below (bk BK573) hb)
          replace BK577 := Aside0.mk (blk_below (bk BK577) hb)
          replace BK581 := Aside0.mk (blk_below (bk BK581) hb)
          replace BK585 := Aside0.mk (blk_below (bk BK585) hb)
          replace HB := Aside0.mk (below_step (bl HB) hb)
          (try clear hb)
          (try clear hb2)
          (try clear hk)
          (try clear hi)
          refine hK.out _ _ ⟨bc BK569 0, bc BK569 1, bc BK561 0, bc BK561 1, bc BK565 0, bc BK565 1, bc BK573 0, bc BK573 1, bc BK577 0, bc BK577 1, bc BK585 0, bc BK585 1, bc BK581 0, bc BK581 1⟩ (fun hHeld => ?_)
          clear hK K
          refine normA 134 ?_
          refine oneA 12 (some 135) (fun K hK => ?_)
          refine goes_ Tryd.func41 (by kernel_rfl) rfl #[.agg #[.int .i64 t566, .int .i64 t567], .agg #[.int .i64 t587, .int .i64 t588]] (by rfl) rfl rfl (by (try simp only [List.map_toArray, List.map_cons, List.map_nil]); first | done | rfl | (simp only [List.length_drop, List.length_take]; rfl)) ?_
          with_reducible refine (remontoirref00_Within.calls t566 t567 t587 t588 true _ A93.out).mono ?_
          rintro e w113 ⟨rfl, hb⟩
          refine ⟨_, rfl, ?_⟩
          replace BK551 := Aside0.mk (blk_below (bk BK551) hb)
          replace BK552 := Aside0.mk (blk_below (bk BK552) hb)
          replace BK561 := Aside0.mk (blk_below (bk BK561) hb)
          replace BK565 := Aside0.mk (blk_below (bk BK565) hb)
          replace BK569 := Aside0.mk (blk_below (bk BK569) hb)
          replace BK573 := Aside0.mk (blk_below (bk BK573) hb)
          replace BK577 := Aside0.mk (blk_below (bk BK577) hb)
          replace BK581 := Aside0.mk (blk_below (bk BK581) hb)
          replace BK585 := Aside0.mk (blk_below (bk BK585) hb)
          replace HB := Aside0.mk (below_step (bl HB) hb)
          (try clear hb)
          (try clear hb2)
          (try clear hk)
          (try clear hi)
          refine hK.out _ _ ⟨bc BK569 0, bc BK569 1, bc BK561 0, bc BK561 1, bc BK565 0, bc BK565 1, bc BK573 0, bc BK573 1, bc BK577 0, bc BK577 1, bc BK585 0, bc BK585 1, bc BK581 0, bc BK581 1⟩ (fun hHeld => ?_)
          clear hK K
          refine normA 135 ?_
          refine pureA 13 136 ?_
          refine pureA 15 138 ?_
          refine pureA 18 141 ?_
          refine takeA 14 137 rfl rfl (by rintro w' ⟨s0, s1, s2, s3, s4, s5, s6, s7, s8, s9, s10, s11, s12, s13⟩; go_simp; with_reducible rfl) ?_
          refine takeA 16 139 rfl rfl (by rintro w' ⟨s0, s1, s2, s3, s4, s5, s6, s7, s8, s9, s10, s11, s12, s13⟩; go_simp; with_reducible rfl) ?_
          refine pureA 17 140 ?_
          refine takeA 19 142 rfl rfl (by rintro w' ⟨s0, s1, s2, s3, s4, s5, s6, s7, s8, s9, s10, s11, s12, s13⟩; go_simp; with_reducible rfl) ?_
          refine pureA 20 143 ?_
          refine oneA 21 (some 144) (fun K hK => ?_)
          refine goes_ Tryd.func43 (by kernel_rfl) rfl #[.int .i64 (wrap64 (-t559)), .int .i64 (wrap64 (-t558))] (by rfl) rfl rfl (by (try simp only [List.map_toArray, List.map_cons, List.map_nil]); first | done | rfl | (simp only [List.length_drop, List.length_take]; rfl)) ?_
          with_reducible refine (remontoirref00_To.calls (wrap64 (-t559)) (wrap64 (-t558)) t590 t591 _ A95.out).mono ?_
          rintro e w114 ⟨rfl, hb⟩
          refine ⟨_, rfl, ?_⟩
          replace BK551 := Aside0.mk (blk_below (bk BK551) hb)
          replace BK552 := Aside0.mk (blk_below (bk BK552) hb)
          replace BK561 := Aside0.mk (blk_below (bk BK561) hb)
          replace BK565 := Aside0.mk (blk_below (bk BK565) hb)
          replace BK569 := Aside0.mk (blk_below (bk BK569) hb)
          replace BK573 := Aside0.mk (blk_below (bk BK573) hb)
          replace BK577 := Aside0.mk (blk_below (bk BK577) hb)
          replace BK581 := Aside0.mk (blk_below (bk BK581) hb)
          replace BK585 := Aside0.mk (blk_below (bk BK585) hb)
          replace HB := Aside0.mk (below_step (bl HB) hb)
          (try clear hb)
          (try clear hb2)
          (try clear hk)
          (try clear hi)
          refine hK.out _ _ ⟨bc BK569 0, bc BK569 1, bc BK561 0, bc BK561 1, bc BK565 0, bc BK565 1, bc BK573 0, bc BK573 1, bc BK577 0, bc BK577 1, bc BK585 0, bc BK585 1, bc BK581 0, bc BK581 1⟩ (fun hHeld => ?_)
          clear hK K
          refine normA 144 ?_
          refine pureA 22 145 ?_
          refine pureA 23 146 ?_
          refine pureA 24 147 ?_
          refine takeA 25 148 rfl rfl (by rintro w' ⟨s0, s1, s2, s3, s4, s5, s6, s7, s8, s9, s10, s11, s12, s13⟩; go_simp; with_reducible rfl) ?_
          refine oneA 26 (some 149) (fun K hK => ?_)
          refine goes_ Tryd.func43 (by kernel_rfl) rfl #[.int .i64 0, .int .i64 0] (by rfl) rfl rfl (by (try simp only [List.map_toArray, List.map_cons, List.map_nil]); first | done | rfl | (simp only [List.length_drop, List.length_take]; rfl)) ?_
          with_reducible refine (remontoirref00_To.calls 0 0 t592 t593 _ A97.out).mono ?_
          rintro e w115 ⟨rfl, hb⟩
          refine ⟨_, rfl, ?_⟩
          replace BK551 := Aside0.mk (blk_below (bk BK551) hb)
          replace BK552 := Aside0.mk (blk_below (bk BK552) hb)
          replace BK561 := Aside0.mk (blk_below (bk BK561) hb)
          replace BK565 := Aside0.mk (blk_below (bk BK565) hb)
          replace BK569 := Aside0.mk (blk_below (bk BK569) hb)
          replace BK573 := Aside0.mk (blk_below (bk BK573) hb)
          replace BK577 := Aside0.mk (blk_below (bk BK577) hb)
          replace BK581 := Aside0.mk (blk_below (bk BK581) hb)
          replace BK585 := Aside0.mk (blk_below (bk BK585) hb)
          replace HB := Aside0.mk (below_step (bl HB) hb)
          (try clear hb)
          (try clear hb2)
          (try clear hk)
          (try clear hi)
          refine hK.out _ _ ⟨bc BK569 0, bc BK569 1, bc BK561 0, bc BK561 1, bc BK565 0, bc BK565 1, bc BK573 0, bc BK573 1, bc BK577 0, bc BK577 1, bc BK585 0, bc BK585 1, bc BK581 0, bc BK581 1⟩ (fun hHeld => ?_)
          clear hK K
          refine normA 149 ?_
          refine pureA 27 150 ?_
          refine pureA 28 151 ?_
          refine pureA 29 152 ?_
          refine pureA 31 154 ?_
          refine pureA 33 156 ?_
          refine pureA 36 159 ?_
          refine pureA 38 161 ?_
          refine takeA 30 153 rfl rfl (by rintro w' ⟨s0, s1, s2, s3, s4, s5, s6, s7, s8, s9, s10, s11, s12, s13⟩; go_simp; with_reducible rfl) ?_
          refine takeA 32 155 rfl rfl (by rintro w' ⟨s0, s1, s2, s3, s4, s5, s6, s7, s8, s9, s10, s11, s12, s13⟩; go_simp; with_reducible rfl) ?_
          refine takeA 34 157 rfl rfl (by rintro w' ⟨s0, s1, s2, s3, s4, s5, s6, s7, s8, s9, s10, s11, s12, s13⟩; go_simp; with_reducible rfl) ?_
          refine pureA 35 158 ?_
          refine takeA 37 160 rfl rfl (by rintro w' ⟨s0, s1, s2, s3, s4, s5, s6, s7, s8, s9, s10, s11, s12, s13⟩; go_simp; with_reducible rfl) ?_
          refine takeA 39 162 rfl rfl (by rintro w' ⟨s0, s1, s2, s3, s4, s5, s6, s7, s8, s9, s10, s11, s12, s13⟩; go_simp; with_reducible rfl) ?_
          refine pureA 40 163 ?_
          refine oneA 41 (some 164) (fun K hK => ?_)
          refine goes_ Tryd.func43 (by kernel_rfl) rfl #[.int .i64 (wrap64 (t578 + t558)), .int .i64 (wrap64 (t579 + t559))] (by rfl) rfl rfl (by (try simp only [List.map_toArray, List.map_cons, List.map_nil]); first | done | rfl | (simp only [List.length_drop, List.length_take]; rfl)) ?_
          with_reducible refine (remontoirref00_To.calls (wrap64 (t578 + t558)) (wrap64 (t579 + t559)) t594 t595 _ A99.out).mono ?_
          rintro e w116 ⟨rfl, hb⟩
          refine ⟨_, rfl, ?_⟩
          replace BK551 := Aside0.mk (blk_below (bk BK551) hb)
          replace BK552 := Aside0.mk (blk_below (bk BK552) hb)
          replace BK561 := Aside0.mk (blk_below (bk BK561) hb)
          replace BK565 := Aside0.mk (blk_below (bk BK565) hb)
          replace BK569 := Aside0.mk (blk_below (bk BK569) hb)
          replace BK573 := Aside0.mk (blk_below (bk BK573) hb)
          replace BK577 := Aside0.mk (blk_below (bk BK577) hb)
          replace BK581 := Aside0.mk (blk_below (bk BK581) hb)
          replace BK585 := Aside0.mk (blk_below (bk BK585) hb)
          replace HB := Aside0.mk (below_step (bl HB) hb)
          (try clear hb)
          (try clear hb2)
          (try clear hk)
          (try clear hi)
          refine hK.out _ _ ⟨bc BK569 0, bc BK569 1, bc BK561 0, bc BK561 1, bc BK565 0, bc BK565 1, bc BK573 0, bc BK573 1, bc BK577 0, bc BK577 1, bc BK585 0, bc BK585 1, bc BK581 0, bc BK581 1⟩ (fun hHeld => ?_)
          clear hK K
          refine normA 164 ?_
          refine oneA 42 (some 165) (fun K hK => ?_)
          refine goes_ Tryd.func41 (by kernel_rfl) rfl #[.agg #[.int .i64 t582, .int .i64 t583], .agg #[.int .i64 t594, .int .i64 t595]] (by rfl) rfl rfl (by (try simp only [List.map_toArray, List.map_cons, List.map_nil]); first | done | rfl | (simp only [List.length_drop, List.length_take]; rfl)) ?_
          with_reducible refine (remontoirref00_Within.calls t582 t583 t594 t595 false _ A100.out).mono ?_
          rintro e w117 ⟨rfl, hb⟩
          refine ⟨_, rfl, ?_⟩
          replace BK551 := Aside0.mk (blk_below (bk BK551) hb)
          replace BK552 := Aside0.mk (blk_below (bk BK552) hb)
          replace BK561 := Aside0.mk (blk_below (bk BK561) hb)
          replace BK565 := Aside0.mk (blk_below (bk BK565) hb)
          replace BK569 := Aside0.mk (blk_below (bk BK569) hb)
          replace BK573 := Aside0.mk (blk_below (bk BK573) hb)
          replace BK577 := Aside0.mk (blk_below (bk BK577) hb)
          replace BK581 := Aside0.mk (blk_below (bk BK581) hb)
          replace BK585 := Aside0.mk (blk_below (bk BK585) hb)
          replace HB := Aside0.mk (below_step (bl HB) hb)
          (try clear hb)
          (try clear hb2)
          (try clear hk)
          (try clear hi)
          refine hK.out _ _ ⟨bc BK569 0, bc BK569 1, bc BK561 0, bc BK561 1, bc BK565 0, bc BK565 1, bc BK573 0, bc BK573 1, bc BK577 0, bc BK577 1, bc BK585 0, bc BK585 1, bc BK581 0, bc BK581 1⟩ (fun hHeld => ?_)
          clear hK K
          refine normA 165 ?_
          refine pureA 43 166 ?_
          refine pureA 44 167 ?_
          refine pureU 45 168 ?_
          refine pureA 46 169 ?_
          refine pureA 47 4 ?_
          refine done_ (done_of HT_.out (by kernel_rfl)) ?_
          try go_wp2
          go_ret
          exact ⟨by first | rfl | (simp [errW_none, errW_some] <;> rfl) | (simp [*, errW_none, errW_some] <;> rfl), by repeat (first | (with_reducible first | exact HB.out | apply below_alloc | apply pw_below_drewN | apply below_drew1 | refine below_set ?_ GE551.out | refine below_set ?_ GE552.out | refine below_set ?_ GE561.out | refine below_set ?_ GE565.out | refine below_set ?_ GE569.out | refine below_set ?_ GE573.out | refine below_set ?_ GE577.out | refine below_set ?_ GE581.out | refine below_set ?_ GE585.out) | exact HB.out)⟩
        ·
         rw [if_neg c98] at H
         have c98b0 : (t574 == t592 && (t575 == t593)) = false := by simpa using c98
         (try (have c98b1 : decide (t574 = t592 && (t575 == t593)) = false := by simpa using c98))
         (try (have c98b2 : (t574 == t592 && (t575 == t593)) = false := by simpa using c98))
         (try (have c98b3 : ¬ (t574 = t592 && (t575 == t593)) := by simpa using c98))
         clear c98
         obtain rfl := Option.some.inj H
         try go_wp2
         replace BK551 := Aside0.mk (blk_drew BK551.out)
         replace BK552 := Aside0.mk (blk_drew BK552.out)
         replace BK561 := Aside0.mk (blk_drew BK561.out)
         replace BK565 := Aside0.mk (blk_drew BK565.out)
         replace BK569 := Aside0.mk (blk_drew BK569.out)
         replace BK573 := Aside0.mk (blk_drew BK573.out)
         replace BK577 := Aside0.mk (blk_drew BK577.out)
         replace BK581 := Aside0.mk (blk_drew BK581.out)
         replace BK585 := Aside0.mk (blk_drew BK585.out)
         replace HB := Aside0.mk (below_drew1 HB.out)
         refine start_ (n := 48) (S := fun w' => w'.cell? ⟨gb569, 0, none⟩ = some (.int .i64 t566) ∧ w'.cell? ⟨gb569, 1, none⟩ = some (.int .i64 t567) ∧ w'.cell? ⟨gb561, 0, none⟩ = some (.int .i64 t558) ∧ w'.cell? ⟨gb561, 1, none⟩ = some (.int .i64 t559) ∧ w'.cell? ⟨gb565, 0, none⟩ = some (.int .i64 t562) ∧ w'.cell? ⟨gb565, 1, none⟩ = some (.int .i64 t563) ∧ w'.cell? ⟨gb573, 0, none⟩ = some (.int .i64 t570) ∧ w'.cell? ⟨gb573, 1, none⟩ = some (.int .i64 t571) ∧ w'.cell? ⟨gb577, 0, none⟩ = some (.int .i64 t574) ∧ w'.cell? ⟨gb577, 1, none⟩ = some (.int .i64 t575)) (ds := []) #[false, false, false, false, false, false, false, false, false, false, false, false, false, false, false, false, false, false, false, false, false, false, false, false, false, false, false, false, false, false, false, false, false, false, false, false, false, false, false, false, false, false, false, false, false, false, false, false] (by kernel_rfl) rfl rfl ⟨bc BK569 0, bc BK569 1, bc BK561 0, bc BK561 1, bc BK565 0, bc BK565 1, bc BK573 0, bc BK573 1, bc BK577 0, bc BK577 1⟩ (fun hHeld => ?_); refine with_tabW remontoirlaw03_StarApart.tab15 remontoirlaw03_StarApart.bits15 (fun HT_ HW_ => ?_)
         generalize wc.drew = w118 at BK551 BK552 BK561 BK565 BK569 BK573 BK577 BK581 BK585 HB hHeld ⊢
         refine pureA 1 124 ?_
         refine pureA 3 126 ?_
         refine pureA 6 129 ?_
         refine pureA 8 131 ?_
         refine takeA 0 123 rfl rfl (by rintro w' ⟨s0, s1, s2, s3, s4, s5, s6, s7, s8, s9⟩; go_simp; with_reducible rfl) ?_
         refine takeA 2 125 rfl rfl (by rintro w' ⟨s0, s1, s2, s3, s4, s5, s6, s7, s8, s9⟩; go_simp; with_reducible rfl) ?_
         refine takeA 4 127 rfl rfl (by rintro w' ⟨s0, s1, s2, s3, s4, s5, s6, s7, s8, s9⟩; go_simp; with_reducible rfl) ?_
         refine pureA 5 128 ?_
         refine takeA 7 130 rfl rfl (by rintro w' ⟨s0, s1, s2, s3, s4, s5, s6, s7, s8, s9⟩; go_simp; with_reducible rfl) ?_
         refine takeA 9 132 rfl rfl (by rintro w' ⟨s0, s1, s2, s3, s4, s5, s6, s7, s8, s9⟩; go_simp; with_reducible rfl) ?_
         refine pureA 10 133 ?_
         refine oneA 11 (some 134) (fun K hK => ?_)
         refine goes_ Tryd.func43 (by kernel_rfl) rfl #[.int .i64 (wrap64 (t558 + t562)), .int .i64 (wrap64 (t559 + t563))] (by rfl) rfl rfl (by (try simp only [List.map_toArray, List.map_cons, List.map_nil]); first | done | rfl | (simp only [List.length_drop, List.length_take]; rfl)) ?_
         with_reducible refine (remontoirref00_To.calls (wrap64 (t558 + t562)) (wrap64 (t559 + t563)) t587 t588 _ A92.out).mono ?_
         rintro e w119 ⟨rfl, hb⟩
         refine ⟨_, rfl, ?_⟩
         replace BK551 := Aside0.mk (blk_below (bk BK551) hb)
         replace BK552 := Aside0.mk (blk_below (bk BK552) hb)
         replace BK561 := Aside0.mk (blk_below (bk BK561) hb)
         replace BK565 := Aside0.mk (blk_below (bk BK565) hb)
         replace BK569 := Aside0.mk (blk_below (bk BK569) hb)
         replace BK573 := Aside0.mk (blk_below (bk BK573) hb)
         replace BK577 := Aside0.mk (blk_below (bk BK577) hb)
         replace BK581 := Aside0.mk (blk_below (bk BK581) hb)
         replace BK585 := Aside0.mk (blk_below (bk BK585) hb)
         replace HB := Aside0.mk (below_step (bl HB) hb)
         (try clear hb)
         (try clear hb2)
         (try clear hk)
         (try clear hi)
         refine hK.out _ _ ⟨bc BK569 0, bc BK569 1, bc BK561 0, bc BK561 1, bc BK565 0, bc BK565 1, bc BK573 0, bc BK573 1, bc BK577 0, bc BK577 1⟩ (fun hHeld => ?_)
         clear hK K
         refine normA 134 ?_
         refine oneA 12 (some 135) (fun K hK => ?_)
         refine goes_ Tryd.func41 (by kernel_rfl) rfl #[.agg #[.int .i64 t566, .int .i64 t567], .agg #[.int .i64 t587, .int .i64 t588]] (by rfl) rfl rfl (by (try simp only [List.map_toArray, List.map_cons, List.map_nil]); first | done | rfl | (simp only [List.length_drop, List.length_take]; rfl)) ?_
         with_reducible refine (remontoirref00_Within.calls t566 t567 t587 t588 true _ A93.out).mono ?_
         rintro e w120 ⟨rfl, hb⟩
         refine ⟨_, rfl, ?_⟩
         replace BK551 := Aside0.mk (blk_below (bk BK551) hb)
         replace BK552 := Aside0.mk (blk_below (bk BK552) hb)
         replace BK561 := Aside0.mk (blk_below (bk BK561) hb)
         replace BK565 := Aside0.mk (blk_below (bk BK565) hb)
         replace BK569 := Aside0.mk (blk_below (bk BK569) hb)
         replace BK573 := Aside0.mk (blk_below (bk BK573) hb)
         replace BK577 := Aside0.mk (blk_below (bk BK577) hb)
         replace BK581 := Aside0.mk (blk_below (bk BK581) hb)
         replace BK585 := Aside0.mk (blk_below (bk BK585) hb)
         replace HB := Aside0.mk (below_step (bl HB) hb)
         (try clear hb)
         (try clear hb2)
         (try clear hk)
         (try clear hi)
         refine hK.out _ _ ⟨bc BK569 0, bc BK569 1, bc BK561 0, bc BK561 1, bc BK565 0, bc BK565 1, bc BK573 0, bc BK573 1, bc BK577 0, bc BK577 1⟩ (fun hHeld => ?_)
         clear hK K
         refine normA 135 ?_
         refine pureA 13 136 ?_
         refine pureA 15 138 ?_
         refine pureA 18 141 ?_
         refine takeA 14 137 rfl rfl (by rintro w' ⟨s0, s1, s2, s3, s4, s5, s6, s7, s8, s9⟩; go_simp; with_reducible rfl) ?_
         refine takeA 16 139 rfl rfl (by rintro w' ⟨s0, s1, s2, s3, s4, s5, s6, s7, s8, s9⟩; go_simp; with_reducible rfl) ?_
         refine pureA 17 140 ?_
         refine takeA 19 142 rfl rfl (by rintro w' ⟨s0, s1, s2, s3, s4, s5, s6, s7, s8, s9⟩; go_simp; with_reducible rfl) ?_
         refine pureA 20 143 ?_
         refine oneA 21 (some 144) (fun K hK => ?_)
         refine goes_ Tryd.func43 (by kernel_rfl) rfl #[.int .i64 (wrap64 (-t559)), .int .i64 (wrap64 (-t558))] (by rfl) rfl rfl (by (try simp only [List.map_toArray, List.map_cons, List.map_nil]); first | done | rfl | (simp only [List.length_drop, List.length_take]; rfl)) ?_
         with_reducible refine (remontoirref00_To.calls (wrap64 (-t559)) (wrap64 (-t558)) t590 t591 _ A95.out).mono ?_
         rintro e w121 ⟨rfl, hb⟩
         refine ⟨_, rfl, ?_⟩
         replace BK551 := Aside0.mk (blk_below (bk BK551) hb)
         replace BK552 := Aside0.mk (blk_below (bk BK552) hb)
         replace BK561 := Aside0.mk (blk_below (bk BK561) hb)
         replace BK565 := Aside0.mk (blk_below (bk BK565) hb)
         replace BK569 := Aside0.mk (blk_below (bk BK569) hb)
         replace BK573 := Aside0.mk (blk_below (bk BK573) hb)
         replace BK577 := Aside0.mk (blk_below (bk BK577) hb)
         replace BK581 := Aside0.mk (blk_below (bk BK581) hb)
         replace BK585 := Aside0.mk (blk_below (bk BK585) hb)
         replace HB := Aside0.mk (below_step (bl HB) hb)
         (try clear hb)
         (try clear hb2)
         (try clear hk)
         (try clear hi)
         refine hK.out _ _ ⟨bc BK569 0, bc BK569 1, bc BK561 0, bc BK561 1, bc BK565 0, bc BK565 1, bc BK573 0, bc BK573 1, bc BK577 0, bc BK577 1⟩ (fun hHeld => ?_)
         clear hK K
         refine normA 144 ?_
         refine pureA 22 145 ?_
         refine pureA 23 146 ?_
         refine pureA 24 147 ?_
         refine takeA 25 148 rfl rfl (by rintro w' ⟨s0, s1, s2, s3, s4, s5, s6, s7, s8, s9⟩; go_simp; with_reducible rfl) ?_
         refine oneA 26 (some 149) (fun K hK => ?_)
         refine goes_ Tryd.func43 (by kernel_rfl) rfl #[.int .i64 0, .int .i64 0] (by rfl) rfl rfl (by (try simp only [List.map_toArray, List.map_cons, List.map_nil]); first | done | rfl | (simp only [List.length_drop, List.length_take]; rfl)) ?_
         with_reducible refine (remontoirref00_To.calls 0 0 t592 t593 _ A97.out).mono ?_
         rintro e w122 ⟨rfl, hb⟩
         refine ⟨_, rfl, ?_⟩
         replace BK551 := Aside0.mk (blk_below (bk BK551) hb)
         replace BK552 := Aside0.mk (blk_below (bk BK552) hb)
         replace BK561 := Aside0.mk (blk_below (bk BK561) hb)
         replace BK565 := Aside0.mk (blk_below (bk BK565) hb)
         replace BK569 := Aside0.mk (blk_below (bk BK569) hb)
         replace BK573 := Aside0.mk (blk_below (bk BK573) hb)
         replace BK577 := Aside0.mk (blk_below (bk BK577) hb)
         replace BK581 := Aside0.mk (blk_below (bk BK581) hb)
         replace BK585 := Aside0.mk (blk_below (bk BK585) hb)
         replace HB := Aside0.mk (below_step (bl HB) hb)
         (try clear hb)
         (try clear hb2)
         (try clear hk)
         (try clear hi)
         refine hK.out _ _ ⟨bc BK569 0, bc BK569 1, bc BK561 0, bc BK561 1, bc BK565 0, bc BK565 1, bc BK573 0, bc BK573 1, bc BK577 0, bc BK577 1⟩ (fun hHeld => ?_)
         clear hK K
         refine normA 149 ?_
         refine pureA 27 150 ?_
         refine pureA 28 151 ?_
         refine pureA 29 152 ?_
         refine pureU 30 153 ?_
         refine pureU 31 154 ?_
         refine pureU 32 155 ?_
         refine pureU 33 156 ?_
         refine pureU 34 157 ?_
         refine pureU 35 158 ?_
         refine pureU 36 159 ?_
         refine pureU 37 160 ?_
         refine pureU 38 161 ?_
         refine pureU 39 162 ?_
         refine pureU 40 163 ?_
         refine pureU 41 164 ?_
         refine pureU 42 165 ?_
         refine pureA 43 166 ?_
         refine pureA 44 167 ?_
         refine pureU 45 168 ?_
         refine pureA 46 169 ?_
         refine pureA 47 4 ?_
         refine done_ (done_of HT_.out (by kernel_rfl)) ?_
         try go_wp2
         go_ret
         exact ⟨by first | rfl | (simp [errW_none, errW_some] <;> rfl) | (simp [*, errW_none, errW_some] <;> rfl), by repeat (first | (with_reducible first | exact HB.out | apply below_alloc | apply pw_below_drewN | apply below_drew1 | refine below_set ?_ GE551.out | refine below_set ?_ GE552.out | refine below_set ?_ GE561.out | refine below_set ?_ GE565.out | refine below_set ?_ GE569.out | refine below_set ?_ GE573.out | refine below_set ?_ GE577.out | refine below_set ?_ GE581.out | refine below_set ?_ GE585.out) | exact HB.out)⟩
       ·
        rw [if_neg c96] at H
        have c96b0 : (t570 == t590 && (t571 == t591)) = false := by simpa using c96
        (try (have c96b1 : decide (t570 = t590 && (t571 == t591)) = false := by simpa using c96))
        (try (have c96b2 : (t570 == t590 && (t571 == t591)) = false := by simpa using c96))
        (try (have c96b3 : ¬ (t570 = t590 && (t571 == t591)) := by simpa using c96))
        clear c96
        obtain rfl := Option.some.inj H
        try go_wp2
        replace BK551 := Aside0.mk (blk_drew BK551.out)
        replace BK552 := Aside0.mk (blk_drew BK552.out)
        replace BK561 := Aside0.mk (blk_drew BK561.out)
        replace BK565 := Aside0.mk (blk_drew BK565.out)
        replace BK569 := Aside0.mk (blk_drew BK569.out)
        replace BK573 := Aside0.mk (blk_drew BK573.out)
        replace BK577 := Aside0.mk (blk_drew BK577.out)
        replace BK581 := Aside0.mk (blk_drew BK581.out)
        replace BK585 := Aside0.mk (blk_drew BK585.out)
        replace HB := Aside0.mk (below_drew1 HB.out)
        refine start_ (n := 48) (S := fun w' => w'.cell? ⟨gb569, 0, none⟩ = some (.int .i64 t566) ∧ w'.cell? ⟨gb569, 1, none⟩ = some (.int .i64 t567) ∧ w'.cell? ⟨gb561, 0, none⟩ = some (.int .i64 t558) ∧ w'.cell? ⟨gb561, 1, none⟩ = some (.int .i64 t559) ∧ w'.cell? ⟨gb565, 0, none⟩ = some (.int .i64 t562) ∧ w'.cell? ⟨gb565, 1, none⟩ = some (.int .i64 t563) ∧ w'.cell? ⟨gb573, 0, none⟩ = some (.int .i64 t570) ∧ w'.cell? ⟨gb573, 1, none⟩ = some (.int .i64 t571)) (ds := []) #[false, false, false, false, false, false, false, false, false, false, false, false, false, false, false, false, false, false, false, false, false, false, false, false, false, false, false, false, false, false, false, false, false, false, false, false, false, false, false, false, false, false, false, false, false, false, false, false] (by kernel_rfl) rfl rfl ⟨bc BK569 0, bc BK569 1, bc BK561 0, bc BK561 1, bc BK565 0, bc BK565 1, bc BK573 0, bc BK573 1⟩ (fun hHeld => ?_); refine with_tabW remontoirlaw03_StarApart.tab15 remontoirlaw03_StarApart.bits15 (fun HT_ HW_ => ?_)
        generalize wc.drew = w123 at BK551 BK552 BK561 BK565 BK569 BK573 BK577 BK581 BK585 HB hHeld ⊢
        refine pureA 1 124 ?_
        refine pureA 3 126 ?_
        refine pureA 6 129 ?_
        refine pureA 8 131 ?_
        refine takeA 0 123 rfl rfl (by rintro w' ⟨s0, s1, s2, s3, s4, s5, s6, s7⟩; go_simp; with_reducible rfl) ?_
        refine takeA 2 125 rfl rfl (by rintro w' ⟨s0, s1, s2, s3, s4, s5, s6, s7⟩; go_simp; with_reducible rfl) ?_
        refine takeA 4 127 rfl rfl (by rintro w' ⟨s0, s1, s2, s3, s4, s5, s6, s7⟩; go_simp; with_reducible rfl) ?_
        refine pureA 5 128 ?_
        refine takeA 7 130 rfl rfl (by rintro w' ⟨s0, s1, s2, s3, s4, s5, s6, s7⟩; go_simp; with_reducible rfl) ?_
        refine takeA 9 132 rfl rfl (by rintro w' ⟨s0, s1, s2, s3, s4, s5, s6, s7⟩; go_simp; with_reducible rfl) ?_
        refine pureA 10 133 ?_
        refine oneA 11 (some 134) (fun K hK => ?_)
        refine goes_ Tryd.func43 (by kernel_rfl) rfl #[.int .i64 (wrap64 (t558 + t562)), .int .i64 (wrap64 (t559 + t563))] (by rfl) rfl rfl (by (try simp only [List.map_toArray, List.map_cons, List.map_nil]); first | done | rfl | (simp only [List.length_drop, List.length_take]; rfl)) ?_
        with_reducible refine (remontoirref00_To.calls (wrap64 (t558 + t562)) (wrap64 (t559 + t563)) t587 t588 _ A92.out).mono ?_
        rintro e w124 ⟨rfl, hb⟩
        refine ⟨_, rfl, ?_⟩
        replace BK551 := Aside0.mk (blk_below (bk BK551) hb)
        replace BK552 := Aside0.mk (blk_below (bk BK552) hb)
        replace BK561 := Aside0.mk (blk_below (bk BK561) hb)
        replace BK565 := Aside0.mk (blk_below (bk BK565) hb)
        replace BK569 := Aside0.mk (blk_below (bk BK569) hb)
        replace BK573 := Aside0.mk (blk_below (bk BK573) hb)
        replace BK577 := Aside0.mk (blk_below (bk BK577) hb)
        replace BK581 := Aside0.mk (blk_below (bk BK581) hb)
        replace BK585 := Aside0.mk (blk_below (bk BK585) hb)
        replace HB := Aside0.mk (below_step (bl HB) hb)
        (try clear hb)
        (try clear hb2)
        (try clear hk)
        (try clear hi)
        refine hK.out _ _ ⟨bc BK569 0, bc BK569 1, bc BK561 0, bc BK561 1, bc BK565 0, bc BK565 1, bc BK573 0, bc BK573 1⟩ (fun hHeld => ?_)
        clear hK K
        refine normA 134 ?_
        refine oneA 12 (some 135) (fun K hK => ?_)
        refine goes_ Tryd.func41 (by kernel_rfl) rfl #[.agg #[.int .i64 t566, .int .i64 t567], .agg #[.int .i64 t587, .int .i64 t588]] (by rfl) rfl rfl (by (try simp only [List.map_toArray, List.map_cons, List.map_nil]); first | done | rfl | (simp only [List.length_drop, List.length_take]; rfl)) ?_
        with_reducible refine (remontoirref00_Within.calls t566 t567 t587 t588 true _ A93.out).mono ?_
        rintro e w125 ⟨rfl, hb⟩
        refine ⟨_, rfl, ?_⟩
        replace BK551 := Aside0.mk (blk_below (bk BK551) hb)
        replace BK552 := Aside0.mk (blk_below (bk BK552) hb)
        replace BK561 := Aside0.mk (blk_below (bk BK561) hb)
        replace BK565 := Aside0.mk (blk_below (bk BK565) hb)
        replace BK569 := Aside0.mk (blk_below (bk BK569) hb)
        replace BK573 := Aside0.mk (blk_below (bk BK573) hb)
        replace BK577 := Aside0.mk (blk_below (bk BK577) hb)
        replace BK581 := Aside0.mk (blk_below (bk BK581) hb)
        replace BK585 := Aside0.mk (blk_below (bk BK585) hb)
        replace HB := Aside0.mk (below_step (bl HB) hb)
        (try clear hb)
        (try clear hb2)
        (try clear hk)
        (try clear hi)
        refine hK.out _ _ ⟨bc BK569 0, bc BK569 1, bc BK561 0, bc BK561 1, bc BK565 0, bc BK565 1, bc BK573 0, bc BK573 1⟩ (fun hHeld => ?_)
        clear hK K
        refine normA 135 ?_
        refine pureA 13 136 ?_
        refine pureA 15 138 ?_
        refine pureA 18 141 ?_
        refine takeA 14 137 rfl rfl (by rintro w' ⟨s0, s1, s2, s3, s4, s5, s6, s7⟩; go_simp; with_reducible rfl) ?_
        refine takeA 16 139 rfl rfl (by rintro w' ⟨s0, s1, s2, s3, s4, s5, s6, s7⟩; go_simp; with_reducible rfl) ?_
        refine pureA 17 140 ?_
        refine takeA 19 142 rfl rfl (by rintro w' ⟨s0, s1, s2, s3, s4, s5, s6, s7⟩; go_simp; with_reducible rfl) ?_
        refine pureA 20 143 ?_
        refine oneA 21 (some 144) (fun K hK => ?_)
        refine goes_ Tryd.func43 (by kernel_rfl) rfl #[.int .i64 (wrap64 (-t559)), .int .i64 (wrap64 (-t558))] (by rfl) rfl rfl (by (try simp only [List.map_toArray, List.map_cons, List.map_nil]); first | done | rfl | (simp only [List.length_drop, List.length_take]; rfl)) ?_
        with_reducible refine (remontoirref00_To.calls (wrap64 (-t559)) (wrap64 (-t558)) t590 t591 _ A95.out).mono ?_
        rintro e w126 ⟨rfl, hb⟩
        refine ⟨_, rfl, ?_⟩
        replace BK551 := Aside0.mk (blk_below (bk BK551) hb)
        replace BK552 := Aside0.mk (blk_below (bk BK552) hb)
        replace BK561 := Aside0.mk (blk_below (bk BK561) hb)
        replace BK565 := Aside0.mk (blk_below (bk BK565) hb)
        replace BK569 := Aside0.mk (blk_below (bk BK569) hb)
        replace BK573 := Aside0.mk (blk_below (bk BK573) hb)
        replace BK577 := Aside0.mk (blk_below (bk BK577) hb)
        replace BK581 := Aside0.mk (blk_below (bk BK581) hb)
        replace BK585 := Aside0.mk (blk_below (bk BK585) hb)
        replace HB := Aside0.mk (below_step (bl HB) hb)
        (try clear hb)
        (try clear hb2)
        (try clear hk)
        (try clear hi)
        refine hK.out _ _ ⟨bc BK569 0, bc BK569 1, bc BK561 0, bc BK561 1, bc BK565 0, bc BK565 1, bc BK573 0, bc BK573 1⟩ (fun hHeld => ?_)
        clear hK K
        refine normA 144 ?_
        refine pureA 22 145 ?_
        refine pureA 23 146 ?_
        refine pureA 24 147 ?_
        refine pureU 25 148 ?_
        refine pureU 26 149 ?_
        refine pureU 27 150 ?_
        refine pureA 28 151 ?_
        refine pureA 29 152 ?_
        refine pureU 30 153 ?_
        refine pureU 31 154 ?_
        refine pureU 32 155 ?_
        refine pureU 33 156 ?_
        refine pureU 34 157 ?_
        refine pureU 35 158 ?_
        refine pureU 36 159 ?_
        refine pureU 37 160 ?_
        refine pureU 38 161 ?_
        refine pureU 39 162 ?_
        refine pureU 40 163 ?_
        refine pureU 41 164 ?_
        refine pureU 42 165 ?_
        refine pureA 43 166 ?_
        refine pureA 44 167 ?_
        refine pureU 45 168 ?_
        refine pureA 46 169 ?_
        refine pureA 47 4 ?_
        refine done_ (done_of HT_.out (by kernel_rfl)) ?_
        try go_wp2
        go_ret
        exact ⟨by first | rfl | (simp [errW_none, errW_some] <;> rfl) | (simp [*, errW_none, errW_some] <;> rfl), by repeat (first | (with_reducible first | exact HB.out | apply below_alloc | apply pw_below_drewN | apply below_drew1 | refine below_set ?_ GE551.out | refine below_set ?_ GE552.out | refine below_set ?_ GE561.out | refine below_set ?_ GE565.out | refine below_set ?_ GE569.out | refine below_set ?_ GE573.out | refine below_set ?_ GE577.out | refine below_set ?_ GE581.out | refine below_set ?_ GE585.out) | exact HB.out)⟩
      ·
       replace c94 := Bool.eq_false_iff.mpr c94
       subst c94
       have H1 : (some false) = some r := by rw [if_neg (show ¬ (false = true) by decide)] at H; exact H
       clear H
       have H := H1
       clear H1
       obtain rfl := Option.some.inj H
       try go_wp2
       replace BK551 := Aside0.mk (blk_drew BK551.out)
       replace BK552 := Aside0.mk (blk_drew BK552.out)
       replace BK561 := Aside0.mk (blk_drew BK561.out)
       replace BK565 := Aside0.mk (blk_drew BK565.out)
       replace BK569 := Aside0.mk (blk_drew BK569.out)
       replace BK573 := Aside0.mk (blk_drew BK573.out)
       replace BK577 := Aside0.mk (blk_drew BK577.out)
       replace BK581 := Aside0.mk (blk_drew BK581.out)
       replace BK585 := Aside0.mk (blk_drew BK585.out)
       replace HB := Aside0.mk (below_drew1 HB.out)
       refine start_ (n := 48) (S := fun w' => w'.cell? ⟨gb569, 0, none⟩ = some (.int .i64 t566) ∧ w'.cell? ⟨gb569, 1, none⟩ = some (.int .i64 t567) ∧ w'.cell? ⟨gb561, 0, none⟩ = some (.int .i64 t558) ∧ w'.cell? ⟨gb561, 1, none⟩ = some (.int .i64 t559) ∧ w'.cell? ⟨gb565, 0, none⟩ = some (.int .i64 t562) ∧ w'.cell? ⟨gb565, 1, none⟩ = some (.int .i64 t563)) (ds := []) #[false, false, false, false, false, false, false, false, false, false, false, false, false, false, false, false, false, false, false, false, false, false, false, false, false, false, false, false, false, false, false, false, false, false, false, false, false, false, false, false, false, false, false, false, false, false, false, false] (by kernel_rfl) rfl rfl ⟨bc BK569 0, bc BK569 1, bc BK561 0, bc BK561 1, bc BK565 0, bc BK565 1⟩ (fun hHeld => ?_); refine with_tabW remontoirlaw03_StarApart.tab15 remontoirlaw03_StarApart.bits15 (fun HT_ HW_ => ?_)
       generalize wc.drew = w127 at BK551 BK552 BK561 BK565 BK569 BK573 BK577 BK581 BK585 HB hHeld ⊢
       refine pureA 1 124 ?_
       refine pureA 3 126 ?_
       refine pureA 6 129 ?_
       refine pureA 8 131 ?_
       refine takeA 0 123 rfl rfl (by rintro w' ⟨s0, s1, s2, s3, s4, s5⟩; go_simp; with_reducible rfl) ?_
       refine takeA 2 125 rfl rfl (by rintro w' ⟨s0, s1, s2, s3, s4, s5⟩; go_simp; with_reducible rfl) ?_
       refine takeA 4 127 rfl rfl (by rintro w' ⟨s0, s1, s2, s3, s4, s5⟩; go_simp; with_reducible rfl) ?_
       refine pureA 5 128 ?_
       refine takeA 7 130 rfl rfl (by rintro w' ⟨s0, s1, s2, s3, s4, s5⟩; go_simp; with_reducible rfl) ?_
       refine takeA 9 132 rfl rfl (by rintro w' ⟨s0, s1, s2, s3, s4, s5⟩; go_simp; with_reducible rfl) ?_
       refine pureA 10 133 ?_
       refine oneA 11 (some 134) (fun K hK => ?_)
       refine goes_ Tryd.func43 (by kernel_rfl) rfl #[.int .i64 (wrap64 (t558 + t562)), .int .i64 (wrap64 (t559 + t563))] (by rfl) rfl rfl (by (try simp only [List.map_toArray, List.map_cons, List.map_nil]); first | done | rfl | (simp only [List.length_drop, List.length_take]; rfl)) ?_
       with_reducible refine (remontoirref00_To.calls (wrap64 (t558 + t562)) (wrap64 (t559 + t563)) t587 t588 _ A92.out).mono ?_
       rintro e w128 ⟨rfl, hb⟩
       refine ⟨_, rfl, ?_⟩
       replace BK551 := Aside0.mk (blk_below (bk BK551) hb)
       replace BK552 := Aside0.mk (blk_below (bk BK552) hb)
       replace BK561 := Aside0.mk (blk_below (bk BK561) hb)
       replace BK565 := Aside0.mk (blk_below (bk BK565) hb)
       replace BK569 := Aside0.mk (blk_below (bk BK569) hb)
       replace BK573 := Aside0.mk (blk_below (bk BK573) hb)
       replace BK577 := Aside0.mk (blk_below (bk BK577) hb)
       replace BK581 := Aside0.mk (blk_below (bk BK581) hb)
       replace BK585 := Aside0.mk (blk_below (bk BK585) hb)
       replace HB := Aside0.mk (below_step (bl HB) hb)
       (try clear hb)
       (try clear hb2)
       (try clear hk)
       (try clear hi)
       refine hK.out _ _ ⟨bc BK569 0, bc BK569 1, bc BK561 0, bc BK561 1, bc BK565 0, bc BK565 1⟩ (fun hHeld => ?_)
       clear hK K
       refine normA 134 ?_
       refine oneA 12 (some 135) (fun K hK => ?_)
       refine goes_ Tryd.func41 (by kernel_rfl) rfl #[.agg #[.int .i64 t566, .int .i64 t567], .agg #[.int .i64 t587, .int .i64 t588]] (by rfl) rfl rfl (by (try simp only [List.map_toArray, List.map_cons, List.map_nil]); first | done | rfl | (simp only [List.length_drop, List.length_take]; rfl)) ?_
       with_reducible refine (remontoirref00_Within.calls t566 t567 t587 t588 false _ A93.out).mono ?_
       rintro e w129 ⟨rfl, hb⟩
       refine ⟨_, rfl, ?_⟩
       replace BK551 := Aside0.mk (blk_below (bk BK551) hb)
       replace BK552 := Aside0.mk (blk_below (bk BK552) hb)
       replace BK561 := Aside0.mk (blk_below (bk BK561) hb)
       replace BK565 := Aside0.mk (blk_below (bk BK565) hb)
       replace BK569 := Aside0.mk (blk_below (bk BK569) hb)
       replace BK573 := Aside0.mk (blk_below (bk BK573) hb)
       replace BK577 := Aside0.mk (blk_below (bk BK577) hb)
       replace BK581 := Aside0.mk (blk_below (bk BK581) hb)
       replace BK585 := Aside0.mk (blk_below (bk BK585) hb)
       replace HB := Aside0.mk (below_step (bl HB) hb)
       (try clear hb)
       (try clear hb2)
       (try clear hk)
       (try clear hi)
       refine hK.out _ _ ⟨bc BK569 0, bc BK569 1, bc BK561 0, bc BK561 1, bc BK565 0, bc BK565 1⟩ (fun hHeld => ?_)
       clear hK K
       refine normA 135 ?_
       refine pureA 13 136 ?_
       refine pureU 14 137 ?_
       refine pureU 15 138 ?_
       refine pureU 16 139 ?_
       refine pureU 17 140 ?_
       refine pureU 18 141 ?_
       refine pureU 19 142 ?_
       refine pureU 20 143 ?_
       refine pureU 21 144 ?_
       refine pureU 22 145 ?_
       refine pureA 23 146 ?_
       refine pureA 24 147 ?_
       refine pureU 25 148 ?_
       refine pureU 26 149 ?_
       refine pureU 27 150 ?_
       refine pureA 28 151 ?_
       refine pureA 29 152 ?_
       refine pureU 30 153 ?_
       refine pureU 31 154 ?_
       refine pureU 32 155 ?_
       refine pureU 33 156 ?_
       refine pureU 34 157 ?_
       refine pureU 35 158 ?_
       refine pureU 36 159 ?_
       refine pureU 37 160 ?_
       refine pureU 38 161 ?_
       refine pureU 39 162 ?_
       refine pureU 40 163 ?_
       refine pureU 41 164 ?_
       refine pureU 42 165 ?_
       refine pureA 43 166 ?_
       refine pureA 44 167 ?_
       refine pureU 45 168 ?_
       refine pureA 46 169 ?_
       refine pureA 47 4 ?_
       refine done_ (done_of HT_.out (by kernel_rfl)) ?_
       try go_wp2
       go_ret
       exact ⟨by first | rfl | (simp [errW_none, errW_some] <;> rfl) | (simp [*, errW_none, errW_some] <;> rfl), by repeat (first | (with_reducible first | exact HB.out | apply below_alloc | apply pw_below_drewN | apply below_drew1 | refine below_set ?_ GE551.out | refine below_set ?_ GE552.out | refine below_set ?_ GE561.out | refine below_set ?_ GE565.out | refine below_set ?_ GE569.out | refine below_set ?_ GE573.out | refine below_set ?_ GE577.out | refine below_set ?_ GE581.out | refine below_set ?_ GE585.out) | exact HB.out)⟩
     ·
      rw [if_neg c91] at H
      have c91b0 : (t560 == 0) = false := beq_eq_false_iff_ne.mpr c91
      have c91b1 : (t560 != 0) = true := bne_iff_ne.mpr c91
      by_cases c130 : t560 = 32
      ·
       rw [if_pos c130] at H
       have c130b0 : (t560 == 32) = true := beq_iff_eq.mpr c130
       have c130b1 : (t560 != 32) = false := bne_eq_false_iff_eq.mpr c130
       clear c130
       replace H := Option.bind_eq_some_iff.mp H
       obtain ⟨t586, A1310, H⟩ := H
       replace H : (some t586) = some r := H
       have A131 := Aside0.mk A1310
       clear A1310
       obtain rfl := Option.some.inj H
       go_wp2_with (first | (go_at_call 23; (with_reducible refine (remontoirlaw03_works.calls  t586 _ ?side1 A131.out).mono ?_); (case side1 => exact Go.Proofs.YtohbeninpmmmpaaDoor.Ways.below HWays.out (bl HB)); rintro e w132 ⟨rfl, hb⟩; replace BK551 := Aside0.mk (blk_below (bk BK551) hb); replace BK552 := Aside0.mk (blk_below (bk BK552) hb); replace BK561 := Aside0.mk (blk_below (bk BK561) hb); replace BK565 := Aside0.mk (blk_below (bk BK565) hb); replace BK569 := Aside0.mk (blk_below (bk BK569) hb); replace BK573 := Aside0.mk (blk_below (bk BK573) hb); replace BK577 := Aside0.mk (blk_below (bk BK577) hb); replace BK581 := Aside0.mk (blk_below (bk BK581) hb); replace BK585 := Aside0.mk (blk_below (bk BK585) hb); replace HB := Aside0.mk (below_step (bl HB) hb); (try clear hb); (try clear hb2); (try clear hk); (try clear hi)))
       go_ret
       exact ⟨by first | rfl | (simp [errW_none, errW_some] <;> rfl) | (simp [*, errW_none, errW_some] <;> rfl), by repeat (first | (with_reducible first | exact HB.out | apply below_alloc | apply pw_below_drewN | apply below_drew1 | refine below_set ?_ GE551.out | refine below_set ?_ GE552.out | refine below_set ?_ GE561.out | refine below_set ?_ GE565.out | refine below_set ?_ GE569.out | refine below_set ?_ GE573.out | refine below_set ?_ GE577.out | refine below_set ?_ GE581.out | refine below_set ?_ GE585.out) | exact HB.out)⟩
      ·
       rw [if_neg c130] at H
       have c130b0 : (t560 == 32) = false := beq_eq_false_iff_ne.mpr c130
       have c130b1 : (t560 != 32) = true := bne_iff_ne.mpr c130
       obtain rfl := Option.some.inj H
       go_wp2
       go_ret
       exact ⟨by first | rfl | (simp [errW_none, errW_some] <;> rfl) | (simp [*, errW_none, errW_some] <;> rfl), by repeat (first | (with_reducible first | exact HB.out | apply below_alloc | apply pw_below_drewN | apply below_drew1 | refine below_set ?_ GE551.out | refine below_set ?_ GE552.out | refine below_set ?_ GE561.out | refine below_set ?_ GE565.out | refine below_set ?_ GE569.out | refine below_set ?_ GE573.out | refine below_set ?_ GE577.out | refine below_set ?_ GE581.out | refine below_set ?_ GE585.out) | exact HB.out)⟩
 ·
  replace c4 := Bool.eq_false_iff.mpr c4
  subst c4
  have H1 : ((remontoirlaw03_works.f).bind fun t554 => (some t554)) = some r := by rw [if_neg (show ¬ (false = true) by decide)] at H; exact H
  clear H
  have H := H1
  clear H1
  replace H := Option.bind_eq_some_iff.mp H
  obtain ⟨t554, A1330, H⟩ := H
  replace H : (some t554) = some r := H
  have A133 := Aside0.mk A1330
  clear A1330
  obtain rfl := Option.some.inj H
  go_enter Tryd.func12, Tryd.ntmps12
  go_wp2_with (first | ((with_reducible refine gate_dst (N := 2) rfl ?_); refine box_event ?hg (N := 2) ?hd (cs := #[.int .i64 a0_0, .int .i64 a0_1, .int .i64 a0_2, .int .i64 a0_3, .int .i64 a0_4, .slice A0_5 l0_5.length c0_5, .slice A0_6 l0_6.length c0_6, .slice A0_7 l0_7.length c0_7]) (t := 27) ?hr ?_; (case hd => rfl); (case hg => rfl); (case hr => first | (go_simp; done) | (go_simp; rfl)); intro gb551 hg w134 hbox hb; have BK551 := Aside0.mk (hbox); have GW551 := geB hg (bl HB); have GE551 := geB hg (bl HB); replace HB := Aside0.mk (below_step (bl HB) hb); clear hb hbox hg) | ((with_reducible refine gate_dst (N := 3) rfl ?_); refine box_event ?hg (N := 3) ?hd (cs := #[.int .i64 a1_0, .int .i64 a1_1, .int .i64 a1_2]) (t := 40) ?hr ?_; (case hd => rfl); (case hg => rfl); (case hr => first | (go_simp; done) | (go_simp; rfl)); intro gb552 hg w135 hbox hb; have BK552 := Aside0.mk (hbox); have GW552 := geB hg (bl HB); have GE552 := geB hg (bl HB); replace HB := Aside0.mk (below_step (bl HB) hb); have NB551_552 := nlt hg (bk BK551); have NB552_551 := ngt hg (bk BK551); replace BK551 := Aside0.mk (blk_below (bk BK551) hb); clear hb hbox hg; have hnb136 := NB551_552.out; have hnc136 := NB552_551.out; have hcz137_0 : w135.cell? ⟨gb551, 0, none⟩ = some (.int .i64 a0_0) := bc BK551 0; have hcz137_1 : w135.cell? ⟨gb551, 1, none⟩ = some (.int .i64 a0_1) := bc BK551 1; have hcz137_2 : w135.cell? ⟨gb551, 2, none⟩ = some (.int .i64 a0_2) := bc BK551 2; have hcz137_3 : w135.cell? ⟨gb551, 3, none⟩ = some (.int .i64 a0_3) := bc BK551 3; have hcz137_4 : w135.cell? ⟨gb551, 4, none⟩ = some (.int .i64 a0_4) := bc BK551 4; have hcz137_5 : w135.cell? ⟨gb551, 5, none⟩ = some (.slice A0_5 l0_5.length c0_5) := bc BK551 5; have hcz137_6 : w135.cell? ⟨gb551, 6, none⟩ = some (.slice A0_6 l0_6.length c0_6) := bc BK551 6; have hcz137_7 : w135.cell? ⟨gb551, 7, none⟩ = some (.slice A0_7 l0_7.length c0_7) := bc BK551 7; have hfz137_0 := blk_frozen BK551.out 0; have hfz137_1 := blk_frozen BK551.out 1; have hfz137_2 := blk_frozen BK551.out 2; have hfz137_3 := blk_frozen BK551.out 3; have hfz137_4 := blk_frozen BK551.out 4; have hfz137_5 := blk_frozen BK551.out 5; have hfz137_6 := blk_frozen BK551.out 6; have hfz137_7 := blk_frozen BK551.out 7) | ((with_reducible refine gate_callee (f := 38) rfl ?_); refine goesL_ (some 23) rfl rfl Tryd.func38 (by kernel_rfl) rfl #[.agg #[.int .i64 a0_0, .int .i64 a0_1, .int .i64 a0_2, .int .i64 a0_3, .int .i64 a0_4, .slice A0_5 l0_5.length c0_5, .slice A0_6 l0_6.length c0_6, .slice A0_7 l0_7.length c0_7]] rfl (by (try simp only [List.map_toArray, List.map_cons, List.map_nil]); first | done | rfl | (simp only [List.length_drop, List.length_take]; rfl)) ?_; (with_reducible refine (remontoirlaw03_sound.calls a0_0 a0_1 a0_2 a0_3 a0_4 _ _ l0_5 _ _ l0_6 _ _ l0_7 false _ ?side1 ?side2 ?side3 ?side4 ?side5 ?side6 ?side7 A3.out).mono ?_); (case side1 => repeat (first | exact (Kd.C_below HR0_5.out HB.out) | (with_reducible refine Kd.C_alloc ?_ _) | (with_reducible refine Kd.C_drewN ?_ _) | (with_reducible refine Kd.C_drew ?_))); (case side2 => exact HC0_5.out); (case side3 => repeat (first | exact (Kd.C_below HR0_6.out HB.out) | (with_reducible refine Kd.C_alloc ?_ _) | (with_reducible refine Kd.C_drewN ?_ _) | (with_reducible refine Kd.C_drew ?_))); (case side4 => exact HC0_6.out); (case side5 => repeat (first | exact (Kd.C_below HR0_7.out HB.out) | (with_reducible refine Kd.C_alloc ?_ _) | (with_reducible refine Kd.C_drewN ?_ _) | (with_reducible refine Kd.C_drew ?_))); (case side6 => exact HC0_7.out); (case side7 => exact Go.Proofs.YtohbeninpmmmpaaDoor.Ways.below HWays.out (bl HB)); rintro e w138 ⟨rfl, hb⟩; refine ⟨_, rfl, ?_⟩; replace BK551 := Aside0.mk (blk_below (bk BK551) hb); replace BK552 := Aside0.mk (blk_below (bk BK552) hb); replace HB := Aside0.mk (below_step (bl HB) hb); (try clear hb); (try clear hb2); (try clear hk); (try clear hi)) | ((with_reducible refine gate_callee (f := 23) rfl ?_); refine goesL_ (some 25) rfl rfl Tryd.func23 (by kernel_rfl) rfl #[] rfl (by (try simp only [List.map_toArray, List.map_cons, List.map_nil]); first | done | rfl | (simp only [List.length_drop, List.length_take]; rfl)) ?_; (with_reducible refine (remontoirlaw03_works.calls  t554 _ ?side1 A133.out).mono ?_); (case side1 => exact Go.Proofs.YtohbeninpmmmpaaDoor.Ways.below HWays.out (bl HB)); rintro e w139 ⟨rfl, hb⟩; refine ⟨_, rfl, ?_⟩; replace BK551 := Aside0.mk (blk_below (bk BK551) hb); replace BK552 := Aside0.mk (blk_below (bk BK552) hb); replace HB := Aside0.mk (below_step (bl HB) hb); (try clear hb); (try clear hb2); (try clear hk); (try clear hi)))
  go_ret
  exact ⟨by first | rfl | (simp [errW_none, errW_some] <;> rfl) | (simp [*, errW_none, errW_some] <;> rfl), by repeat (first | (with_reducible first | exact HB.out | apply below_alloc | apply pw_below_drewN | apply below_drew1 | refine below_set ?_ GE551.out | refine below_set ?_ GE552.out) | exact HB.out)⟩

end Go.Proofs.TrydX.X
end

section
/- Plain: what the functions of star answer of a book that Check lets in; sound. -/
set_option linter.unusedVariables false
set_option linter.unusedSimpArgs false
set_option linter.unusedSectionVars false
namespace Go.Proofs.YtohbeninpmmmpaaDoor
open Go.RowKit Go.Proofs.YtohbeninpmmmpaaDoorW.PrintWords Go.Proofs.YtohbeninpmmmpaaDoorW.PrintLast Go.Proofs.YtohbeninpmmmpaaDoorW.PrintMore TrydX.X
theorem wr {x : Int} (h : -9223372036854775808 ≤ x ∧ x ≤ 9223372036854775807) : wrap64 x = x := IntWalk.wrap64_in x h
theorem within_f (x y a b : Int) : remontoirref00_Within.f x y a b = some (decide (a ≤ x ∧ y ≤ b)) := by
  unfold remontoirref00_Within.f
  split <;> simp_all
  omega
theorem to_f (a b : Int) : remontoirref00_To.f a b = some (a, b) := rfl
theorem Rest_f (x m : Int) (hm : 0 < m) (hm2 : m ≤ 4611686018427387904) : ∃ r, remontoirref00_Rest.f x m = some r ∧ 0 ≤ r ∧ r < m := by
  unfold remontoirref00_Rest.f
  rw [if_neg (by omega)]
  have h1 := Int.tmod_lt_of_pos x hm
  have h2 := Int.lt_tmod_of_pos x hm
  split
  · rename_i h
    rw [wr (by omega)]
    exact ⟨_, rfl, by omega, by omega⟩
  · exact ⟨_, rfl, by omega, h1⟩
section
variable {b : Bk}
theorem Bk.small (hb : b.ok) : b.l5.length ≤ 17592186044416 ∧ b.l6.length ≤ 17592186044416 ∧ b.l7.length ≤ 17592186044416 := by
  obtain ⟨h5, h6, h7⟩ := BookOk.len hb
  omega
theorem ask_f (hb : b.ok) {ok : Bool} (h : ok = true) : askE b.N b.b0 b.b1 b.r0 b.r1 b.l5 b.l6 b.l7 ok = if b.can [] = true then 0 else 32 := by
  unfold askE
  rw [if_pos (checkB_iff.2 hb), if_pos h]
  rfl
/-- What is told of a question, and the error. -/
def Bk.ans (b : Bk) (lo hi : Int) : Int × Int × Int := if b.can [] = true then (-lo, hi, 0) else (0, 0, 32)
theorem ans_is (hb : b.ok) {ok : Bool} (h : ok = true) (lo hi : Int) : (if askE b.N b.b0 b.b1 b.r0 b.r1 b.l5 b.l6 b.l7 ok = 0 then -lo else 0, if askE b.N b.b0 b.b1 b.r0 b.r1 b.l5 b.l6 b.l7 ok = 0 then hi else 0, askE b.N b.b0 b.b1 b.r0 b.r1 b.l5 b.l6 b.l7 ok) = b.ans lo hi := by
  rw [ask_f hb h]
  unfold Bk.ans
  by_cases hc : b.can [] = true
  · simp [hc]
  · simp [hc]
theorem off_f (hb : b.ok) {n : Int} (h : 0 ≤ n ∧ n < b.N) : star_Offset.f b.N b.b0 b.b1 b.r0 b.r1 b.l5 b.l6 b.l7 n = some (b.ans (b.told [] 0 (1 + n.toNat)) (b.told [] (1 + n.toNat) 0)) := by
  have hN := BookOk.n hb
  unfold star_Offset.f
  rw [if_pos (Bk.small hb)]
  exact congrArg some (ans_is hb (by rw [wr (by omega)]; exact decide_eq_true (by omega)) _ _)
theorem btw_f (hb : b.ok) {n m : Int} (h : 0 ≤ n ∧ n < b.N) (h' : 0 ≤ m ∧ m < b.N) : star_Between.f b.N b.b0 b.b1 b.r0 b.r1 b.l5 b.l6 b.l7 n m = some (b.ans (b.told [] (1 + n.toNat) (1 + m.toNat)) (b.told [] (1 + m.toNat) (1 + n.toNat))) := by
  have hN := BookOk.n hb
  unfold star_Between.f
  rw [if_pos (Bk.small hb)]
  exact congrArg some (ans_is hb (by rw [wr (by omega), Bool.and_eq_true]; exact ⟨decide_eq_true (by omega), decide_eq_true (by omega)⟩) _ _)
end
theorem sound_f {N b0 b1 r0 r1 : Int} {l5 l6 : List S23} {l7 : List S63} (h5 : l5.length ≤ 17592186044416) (h6 : l6.length ≤ 17592186044416) (h7 : l7.length ≤ 17592186044416) : remontoirlaw03_sound.f N b0 b1 r0 r1 l5 l6 l7 = some (checkB N b0 b1 r0 r1 l5 l6 l7) := if_pos ⟨h5, h6, h7⟩
end Go.Proofs.YtohbeninpmmmpaaDoor
end

section
/- The plain law of StarApart. -/
set_option linter.unusedVariables false
set_option linter.unusedSimpArgs false
namespace Go.Proofs.YtohbeninpmmmpaaDoor
open Go.RowKit Go.Proofs.YtohbeninpmmmpaaDoorW.PrintWords Go.Proofs.YtohbeninpmmmpaaDoorW.PrintLast Go.Proofs.YtohbeninpmmmpaaDoorW.PrintMore TrydX.X
theorem works_f : remontoirlaw03_works.f = some true := rfl
theorem starApart_pure (a0_0 a0_1 a0_2 a0_3 a0_4 : Int) (l0_5 l0_6 : List S23) (l0_7 : List S63) (a1_0 a1_1 a1_2 : Int) (h0 : W64 a0_0 ∧ W64 a0_1 ∧ W64 a0_2 ∧ W64 a0_3 ∧ W64 a0_4)
    (w5 : ∀ z ∈ l0_5, W64 z.f0 ∧ W64 z.f1) (w6 : ∀ z ∈ l0_6, W64 z.f0 ∧ W64 z.f1) (w7 : ∀ z ∈ l0_7, W64 z.f0 ∧ W64 z.f1 ∧ W64 z.f2 ∧ W64 z.f3 ∧ W64 z.f4)
    (h5 : l0_5.length ≤ 8796093022208) (h6 : l0_6.length ≤ 8796093022208) (h7 : l0_7.length ≤ 3518437208883) (h1 : W64 a1_0 ∧ W64 a1_1 ∧ W64 a1_2) :
    ∃ k, remontoirlaw03_StarApart.f k a0_0 a0_1 a0_2 a0_3 a0_4 l0_5 l0_6 l0_7 a1_0 a1_1 a1_2 = some true := by
  obtain ⟨K, hK⟩ : ∃ K : Nat, K = 500 := ⟨_, rfl⟩
  refine ⟨K + 2, ?_⟩
  unfold remontoirlaw03_StarApart.f
  rw [sound_f (by omega) (by omega) (by omega), Option.bind_some]
  by_cases hc : checkB a0_0 a0_1 a0_2 a0_3 a0_4 l0_5 l0_6 l0_7 = true
  · have hB := checkB_iff.1 hc
    have hN := hB.n
    obtain ⟨i, hi, hi0, hi1⟩ := Rest_f a1_0 a0_0 (by omega) (by omega)
    obtain ⟨j, hj, hj0, hj1⟩ := Rest_f a1_1 a0_0 (by omega) (by omega)
    obtain ⟨m, hm, hm0, hm1⟩ := Rest_f a1_2 a0_0 (by omega) (by omega)
    obtain ⟨b, hb⟩ : ∃ b : Bk, b = ⟨a0_0, a0_1, a0_2, a0_3, a0_4, l0_5, l0_6, l0_7⟩ := ⟨_, rfl⟩
    have hok : b.ok := by rw [hb]; exact hB
    have bi : 0 ≤ i ∧ i < b.N := by rw [hb]; exact ⟨hi0, hi1⟩
    have bj : 0 ≤ j ∧ j < b.N := by rw [hb]; exact ⟨hj0, hj1⟩
    have bm : 0 ≤ m ∧ m < b.N := by rw [hb]; exact ⟨hm0, hm1⟩
    have e1 := btw_f hok bi bj
    have e2 := btw_f hok bj bm
    have e3 := btw_f hok bi bm
    have e4 := btw_f hok bj bi
    have e5 := btw_f hok bi bi
    have e6 := off_f hok bi
    have e7 := off_f hok bj
    simp only [hb] at e1 e2 e3 e4 e5 e6 e7
    rw [← hb] at e1 e2 e3 e4 e5 e6 e7
    rw [if_pos hc, hi, Option.bind_some, hj, Option.bind_some, hm, Option.bind_some, e1, Option.bind_some, e2, Option.bind_some, e3, Option.bind_some, e4, Option.bind_some, e5, Option.bind_some, e6, Option.bind_some, e7, Option.bind_some]
    have hNb : b.N = a0_0 := by rw [hb]
    clear e1 e2 e3 e4 e5 e6 e7 hb hB hc
    by_cases hcan : b.can [] = true
    · have ui : b.used (1 + i.toNat) := .inr (.inl ⟨by omega, by omega⟩)
      have uj : b.used (1 + j.toNat) := .inr (.inl ⟨by omega, by omega⟩)
      have um : b.used (1 + m.toNat) := .inr (.inl ⟨by omega, by omega⟩)
      have u0 : b.used 0 := b.used0
      have near := fun {x y} => Bk.told_near hok (wo := []) hcan (i := x) (k := y)
      have tri := fun {x y z} => Bk.told_tri hok (wo := []) hcan (i := x) (j := y) (k := z)
      have n1 := near ui uj
      have n2 := near uj ui
      have n3 := near uj um
      have n4 := near um uj
      have n5 := near ui um
      have n6 := near um ui
      have n7 := near u0 ui
      have n8 := near ui u0
      have n9 := near u0 uj
      have n10 := near uj u0
      have t1 := tri ui uj um
      have t2 := tri um uj ui
      have t3 := tri uj ui u0
      have t4 := tri u0 ui uj
      have s1 := Bk.told_self hok (wo := []) hcan ui
      simp only [Bk.ans, hcan, if_true]
      generalize b.told [] = T at *
      simp only [bne_self_eq_false, remontoirlaw03_StarApart.j0, Bool.false_eq_true, if_false, if_true, to_f, Option.bind_some, within_f, s1]
      rw [wr (by omega), wr (by omega), wr (by omega), wr (by omega), wr (by omega), wr (by omega)]
      rw [if_pos (decide_eq_true (by omega))]
      simp [works_f]
      omega
    · simp [Bk.ans, hcan, remontoirlaw03_StarApart.j0, works_f]
  · rw [if_neg hc, works_f, Option.bind_some]
end Go.Proofs.YtohbeninpmmmpaaDoor
end
