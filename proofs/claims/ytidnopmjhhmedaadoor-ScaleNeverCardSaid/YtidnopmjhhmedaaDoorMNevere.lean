/- PROVED: ScaleNeverCardSaid, for every input, where the listed variable reads as the program's text lays it. Part 5 of 5: of this session; merged by wip/tools/mkClaim.py. -/
import Derived.Test.YtidnopmjhhmedaaDoorMNeverb
import Derived.Test.YtidnopmjhhmedaaDoorMNeverc
import Derived.Test.YtidnopmjhhmedaaDoorMNeverd
import Derived.Test.YtidnopmjhhmedaaDoorCards
import Derived.Test.YtidnopmjhhmedaaDoorTie
import Derived.WalkKit
import Derived.Below
import Derived.Carry
import Derived.SevenTiedAt
section
-- Written by wip/tools/pr.py (a program of this repo over the kit's print.py).
namespace Go.Proofs.TrydX.X
open Go.RowKit Go.Proofs.YtidnopmjhhmedaaDoorW.PrintWords Go.Proofs.YtidnopmjhhmedaaDoorW.PrintLast Go.Proofs.YtidnopmjhhmedaaDoorW.PrintMore
attribute [local go_sem] max2_int min2_int max_two min_two max_three min_three max_four min_four   -- for this text's walks alone
set_option linter.unusedVariables false
set_option linter.unusedSimpArgs false

/-! ### remontoirlaw04_ScaleNever: function 7 -/
mutual
def remontoirlaw04_ScaleNever.j0 : Nat → Int → List Int → List Int → Bool → Option (Bool)
  | 0, _, _, _, _ => none
  | k + 1, x9, x10, x11, x68 => if x68 = true then (some false) else (remontoirlaw04_ScaleNever.l0 k x9 x10 x11 0)
def remontoirlaw04_ScaleNever.l0 : Nat → Int → List Int → List Int → Int → Option (Bool)
  | 0, _, _, _, _ => none
  | k + 1, x9, x10, x11, x13 => if x13 < (x10.length : Int) then (if 0 ≤ (wrap64 (x13 + 1)) then (if (wrap64 (x13 + 1)) < (x11.length : Int) then (if 0 ≤ x13 then (if x13 < (x11.length : Int) then (if (wrap64 ((rd x11 (wrap64 (x13 + 1))) - (rd x11 x13))) < 500 then (some false) else (if (wrap64 ((rd x11 (wrap64 (x13 + 1))) - (rd x11 x13))) > 1500 then (some false) else (remontoirlaw04_ScaleNever.l0 k x9 x10 x11 (wrap64 (x13 + 1))))) else (none)) else (none)) else (none)) else (none)) else (if 0 ≤ (x10.length : Int) then (if (x10.length : Int) < (x11.length : Int) then ((remontoirref00_Total.f k x10).bind fun t370 => (if (wrap64 ((rd x11 (x10.length : Int)) - x9)) = (wrap64 ((wrap64 (1000 * (x10.length : Int))) + t370)) then ((remontoirlaw04_works.f).bind fun t371 => (some t371)) else (some false))) else (none)) else (none))
end
def remontoirlaw04_ScaleNever.f (k : Nat) (a0_0 : Int) (a0_1 : Int) (a0_2 : Int) (a0_3 : Int) (a0_4 : Int) (a1 : Int) (l2 : List Int) : Option (Bool) := (remontoirlaw04_isRule.f a0_0 a0_1 a0_2 a0_3 a0_4).bind fun t348 => (if t348 = true then ((remontoirref00_Rest.f a1 10000001).bind fun t356 => ((remontoirref00_At.f l2 0).bind fun t357 => ((remontoirref00_Rest.f t357 40).bind fun t358 => ((remontoirlaw04_steered.f k a0_0 a0_1 a0_2 a0_3 a0_4 t358 l2 false).bind fun t359 => ((scale_Shown.f a0_0 a0_1 a0_2 a0_3 a0_4 t356 t359).bind fun bt362 => (if bt362.2 = 0 then (if (bt362.1.length : Int) = (wrap64 ((t359.length : Int) + 1)) then (if 0 < (bt362.1.length : Int) then (remontoirlaw04_ScaleNever.j0 k t356 t359 bt362.1 ((rd bt362.1 0) != t356)) else (none)) else (remontoirlaw04_ScaleNever.j0 k t356 t359 bt362.1 true)) else (remontoirlaw04_ScaleNever.j0 k t356 t359 bt362.1 true))))))) else ((scale_Shown.f a0_0 a0_1 a0_2 a0_3 a0_4 0 ([] : List Int)).bind fun bt349 => (if bt349.2 = 40 then (if (bt349.1.length : Int) = 0 then ((remontoirlaw04_works.f).bind fun t353 => (some t353)) else (if bt349.2 = 0 then ((remontoirlaw04_works.f).bind fun t354 => (some t354)) else (some false))) else (if bt349.2 = 0 then ((remontoirlaw04_works.f).bind fun t355 => (some t355)) else (some false)))))
def remontoirlaw04_ScaleNever.T12 : Bool × List (List Nat × List Nat) := (true, [([], []), ([], []), ([1], [1]), ([0, 2], [0, 2]), ([3], [3]), ([], []), ([], []), ([5, 6], [5, 6]), ([7], [7]), ([4, 8], [4, 8]), ([9, 0, 1, 2, 3, 4, 5, 6, 7, 8, 9], [9])])
def remontoirlaw04_ScaleNever.B12 : List Nat := [0, 0, 2, 7, 15, 0, 0, 96, 224, 511, 1023]
theorem remontoirlaw04_ScaleNever.tab12 : rtab .any (opsOf Tryd.f7 12) = remontoirlaw04_ScaleNever.T12 := by kernel_rfl
theorem remontoirlaw04_ScaleNever.bits12 : waitsOk remontoirlaw04_ScaleNever.T12.2 remontoirlaw04_ScaleNever.B12 = true := by kernel_rfl
def remontoirlaw04_ScaleNever.T15 : Bool × List (List Nat × List Nat) := (true, [([], []), ([], []), ([1], [1]), ([0, 2], [0, 2]), ([3], [3]), ([], []), ([4, 5], [4, 5]), ([], []), ([7], [7]), ([8], [8]), ([], []), ([10], [10]), ([9, 11], [9, 11]), ([6, 12], [6, 12]), ([13, 11], [13]), ([14, 14], [14]), ([14, 15], [14, 15]), ([16, 15, 0, 1, 2, 3, 4, 5, 6, 7, 8, 9, 10, 11, 12, 13, 14, 15, 16], [16])])
def remontoirlaw04_ScaleNever.B15 : List Nat := [0, 0, 2, 7, 15, 0, 63, 0, 128, 384, 0, 1024, 3968, 8191, 16383, 32767, 65535, 131071]
theorem remontoirlaw04_ScaleNever.tab15 : rtab .any (opsOf Tryd.f7 15) = remontoirlaw04_ScaleNever.T15 := by kernel_rfl
theorem remontoirlaw04_ScaleNever.bits15 : waitsOk remontoirlaw04_ScaleNever.T15.2 remontoirlaw04_ScaleNever.B15 = true := by kernel_rfl
set_option maxHeartbeats 8000000 in
set_option maxRecDepth 100000 in
theorem remontoirlaw04_ScaleNever.calls (k : Nat) (a0_0 : Int) (a0_1 : Int) (a0_2 : Int) (a0_3 : Int) (a0_4 : Int) (a1 : Int) (A2 : Option Addr) (c2 : Nat) (l2 : List Int) (r : Bool) (w : World) (hr2 : Kd.C (Kd.int .i64) w A2 l2.length l2) (hc2 : l2.length ≤ c2) (hWays : Go.Proofs.YtidnopmjhhmedaaDoor.Ways w) (h : remontoirlaw04_ScaleNever.f k a0_0 a0_1 a0_2 a0_3 a0_4 a1 l2 = some r) :
    Calls Tryd.prog 7 #[.agg #[.int .i64 a0_0, .int .i64 a0_1, .int .i64 a0_2, .int .i64 a0_3, .int .i64 a0_4], .int .i64 a1, .slice A2 l2.length c2] w fun e w' => e = .returned (.bool r) ∧ Below w.heap.size w w' := by
  have hu25 := Tryd.underlying25
  have HR2 := Aside0.mk hr2
  have HC2 := Aside0.mk hc2
  clear hr2 hc2
  have HB := Aside0.mk (Below.refl w.heap.size w)
  have HWays := Aside0.mk hWays
  clear hWays
  have H : ((remontoirlaw04_isRule.f a0_0 a0_1 a0_2 a0_3 a0_4).bind fun t348 => (if t348 = true then ((remontoirref00_Rest.f a1 10000001).bind fun t356 => ((remontoirref00_At.f l2 0).bind fun t357 => ((remontoirref00_Rest.f t357 40).bind fun t358 => ((remontoirlaw04_steered.f k a0_0 a0_1 a0_2 a0_3 a0_4 t358 l2 false).bind fun t359 => ((scale_Shown.f a0_0 a0_1 a0_2 a0_3 a0_4 t356 t359).bind fun bt362 => (if bt362.2 = 0 then (if (bt362.1.length : Int) = (wrap64 ((t359.length : Int) + 1)) then (if 0 < (bt362.1.length : Int) then (remontoirlaw04_ScaleNever.j0 k t356 t359 bt362.1 ((rd bt362.1 0) != t356)) else (none)) else (remontoirlaw04_ScaleNever.j0 k t356 t359 bt362.1 true)) else (remontoirlaw04_ScaleNever.j0 k t356 t359 bt362.1 true))))))) else ((scale_Shown.f a0_0 a0_1 a0_2 a0_3 a0_4 0 ([] : List Int)).bind fun bt349 => (if bt349.2 = 40 then (if (bt349.1.length : Int) = 0 then ((remontoirlaw04_works.f).bind fun t353 => (some t353)) else (if bt349.2 = 0 then ((remontoirlaw04_works.f).bind fun t354 => (some t354)) else (some false))) else (if bt349.2 = 0 then ((remontoirlaw04_works.f).bind fun t355 => (some t355)) else (some false)))))) = some r := h
  clear h
  replace H := Option.bind_eq_some_iff.mp H
  obtain ⟨t348, A40, H⟩ := H
  replace H : (if t348 = true then ((remontoirref00_Rest.f a1 10000001).bind fun t356 => ((remontoirref00_At.f l2 0).bind fun t357 => ((remontoirref00_Rest.f t357 40).bind fun t358 => ((remontoirlaw04_steered.f k a0_0 a0_1 a0_2 a0_3 a0_4 t358 l2 false).bind fun t359 => ((scale_Shown.f a0_0 a0_1 a0_2 a0_3 a0_4 t356 t359).bind fun bt362 => (if bt362.2 = 0 then (if (bt362.1.length : Int) = (wrap64 ((t359.length : Int) + 1)) then (if 0 < (bt362.1.length : Int) then (remontoirlaw04_ScaleNever.j0 k t356 t359 bt362.1 ((rd bt362.1 0) != t356)) else (none)) else (remontoirlaw04_ScaleNever.j0 k t356 t359 bt362.1 true)) else (remontoirlaw04_ScaleNever.j0 k t356 t359 bt362.1 true))))))) else ((scale_Shown.f a0_0 a0_1 a0_2 a0_3 a0_4 0 ([] : List Int)).bind fun bt349 => (if bt349.2 = 40 then (if (bt349.1.length : Int) = 0 then ((remontoirlaw04_works.f).bind fun t353 => (some t353)) else (if bt349.2 = 0 then ((remontoirlaw04_works.f).bind fun t354 => (some t354)) else (some false))) else (if bt349.2 = 0 then ((remontoirlaw04_works.f).bind fun t355 => (some t355)) else (some false))))) = some r := H
  have A4 := Aside0.mk A40
  clear A40
  by_cases c5 : t348 = true
  · subst c5
    have H1 : ((remontoirref00_Rest.f a1 10000001).bind fun t356 => ((remontoirref00_At.f l2 0).bind fun t357 => ((remontoirref00_Rest.f t357 40).bind fun t358 => ((remontoirlaw04_steered.f k a0_0 a0_1 a0_2 a0_3 a0_4 t358 l2 false).bind fun t359 => ((scale_Shown.f a0_0 a0_1 a0_2 a0_3 a0_4 t356 t359).bind fun bt362 => (if bt362.2 = 0 then (if (bt362.1.length : Int) = (wrap64 ((t359.length : Int) + 1)) then (if 0 < (bt362.1.length : Int) then (remontoirlaw04_ScaleNever.j0 k t356 t359 bt362.1 ((rd bt362.1 0) != t356)) else (none)) else (remontoirlaw04_ScaleNever.j0 k t356 t359 bt362.1 true)) else (remontoirlaw04_ScaleNever.j0 k t356 t359 bt362.1 true))))))) = some r := by rw [if_pos rfl] at H; exact H
    clear H
    have H := H1
    clear H1
    replace H := Option.bind_eq_some_iff.mp H
    obtain ⟨t356, A60, H⟩ := H
    replace H : ((remontoirref00_At.f l2 0).bind fun t357 => ((remontoirref00_Rest.f t357 40).bind fun t358 => ((remontoirlaw04_steered.f k a0_0 a0_1 a0_2 a0_3 a0_4 t358 l2 false).bind fun t359 => ((scale_Shown.f a0_0 a0_1 a0_2 a0_3 a0_4 t356 t359).bind fun bt362 => (if bt362.2 = 0 then (if (bt362.1.length : Int) = (wrap64 ((t359.length : Int) + 1)) then (if 0 < (bt362.1.length : Int) then (remontoirlaw04_ScaleNever.j0 k t356 t359 bt362.1 ((rd bt362.1 0) != t356)) else (none)) else (remontoirlaw04_ScaleNever.j0 k t356 t359 bt362.1 true)) else (remontoirlaw04_ScaleNever.j0 k t356 t359 bt362.1 true)))))) = some r := H
    have A6 := Aside0.mk A60
    clear A60
    replace H := Option.bind_eq_some_iff.mp H
    obtain ⟨t357, A70, H⟩ := H
    replace H : ((remontoirref00_Rest.f t357 40).bind fun t358 => ((remontoirlaw04_steered.f k a0_0 a0_1 a0_2 a0_3 a0_4 t358 l2 false).bind fun t359 => ((scale_Shown.f a0_0 a0_1 a0_2 a0_3 a0_4 t356 t359).bind fun bt362 => (if bt362.2 = 0 then (if (bt362.1.length : Int) = (wrap64 ((t359.length : Int) + 1)) then (if 0 < (bt362.1.length : Int) then (remontoirlaw04_ScaleNever.j0 k t356 t359 bt362.1 ((rd bt362.1 0) != t356)) else (none)) else (remontoirlaw04_ScaleNever.j0 k t356 t359 bt362.1 true)) else (remontoirlaw04_ScaleNever.j0 k t356 t359 bt362.1 true))))) = some r := H
    have A7 := Aside0.mk A70
    clear A70
    replace H := Option.bind_eq_some_iff.mp H
    obtain ⟨t358, A80, H⟩ := H
    replace H : ((remontoirlaw04_steered.f k a0_0 a0_1 a0_2 a0_3 a0_4 t358 l2 false).bind fun t359 => ((scale_Shown.f a0_0 a0_1 a0_2 a0_3 a0_4 t356 t359).bind fun bt362 => (if bt362.2 = 0 then (if (bt362.1.length : Int) = (wrap64 ((t359.length : Int) + 1)) then (if 0 < (bt362.1.length : Int) then (remontoirlaw04_ScaleNever.j0 k t356 t359 bt362.1 ((rd bt362.1 0) != t356)) else (none)) else (remontoirlaw04_ScaleNever.j0 k t356 t359 bt362.1 true)) else (remontoirlaw04_ScaleNever.j0 k t356 t359 bt362.1 true)))) = some r := H
    have A8 := Aside0.mk A80
    clear A80
    replace H := Option.bind_eq_some_iff.mp H
    obtain ⟨t359, A90, H⟩ := H
    replace H : ((scale_Shown.f a0_0 a0_1 a0_2 a0_3 a0_4 t356 t359).bind fun bt362 => (if bt362.2 = 0 then (if (bt362.1.length : Int) = (wrap64 ((t359.length : Int) + 1)) then (if 0 < (bt362.1.length : Int) then (remontoirlaw04_ScaleNever.j0 k t356 t359 bt362.1 ((rd bt362.1 0) != t356)) else (none)) else (remontoirlaw04_ScaleNever.j0 k t356 t359 bt362.1 true)) else (remontoirlaw04_ScaleNever.j0 k t356 t359 bt362.1 true))) = some r := H
    have A9 := Aside0.mk A90
    clear A90
    replace H := Option.bind_eq_some_iff.mp H
    obtain ⟨⟨t362, t365⟩, A100, H⟩ := H
    replace H : (if t365 = 0 then (if (t362.length : Int) = (wrap64 ((t359.length : Int) + 1)) then (if 0 < (t362.length : Int) then (remontoirlaw04_ScaleNever.j0 k t356 t359 t362 ((rd t362 0) != t356)) else (none)) else (remontoirlaw04_ScaleNever.j0 k t356 t359 t362 true)) else (remontoirlaw04_ScaleNever.j0 k t356 t359 t362 true)) = some r := H
    have A10 := Aside0.mk A100
    clear A100
    have HC11 := Aside0.mk H
    clear H
    go_enter Tryd.func7, Tryd.ntmps7
    try go_wp2_with (first | ((with_reducible refine gate_dst (N := 3) rfl ?_); (try (refine gate_guard (by rfl) ?_; dsimp only)); refine box_event ?hg (N := 3) ?hd (cs := #[.int .i64 a0_0, .int .i64 a0_1, .int .i64 a0_2, .int .i64 a0_3, .int .i64 a0_4]) (t := 25) ?hr ?_; (case hd => rfl); (case hg => rfl); (case hr => first | (go_simp; done) | (go_simp; rfl)); intro gb347 hg w12 hbox hb; have n0_ := Aside0.mk (below_step (by repeat (first | (with_reducible first | exact HB.out | apply below_alloc | apply pw_below_drewN | apply below_drew1) | exact HB.out)) hb); have n1_ := Aside0.mk (hbox); have n2_ := Aside0.mk ((by rw [hg]; exact (below_size (by repeat (first | (with_reducible first | exact HB.out | apply below_alloc | apply pw_below_drewN | apply below_drew1) | exact HB.out))) : w.heap.size ≤ gb347)); have n3_ := Aside0.mk ((by rw [hg]; exact (below_size (by repeat (first | (with_reducible first | exact HB.out | apply below_alloc | apply pw_below_drewN | apply below_drew1) | exact HB.out))) : w.heap.size ≤ gb347)); clear HB; have HB := n0_; have BK347 := n1_; have GW347 := n2_; have GE347 := n3_; clear n0_ n1_ n2_ n3_; clear hb hbox hg; have hcz13_0 : w12.cell? ⟨gb347, 0, none⟩ = some (.int .i64 a0_0) := (blk_cell BK347.out 0).trans rfl; have hcz13_1 : w12.cell? ⟨gb347, 1, none⟩ = some (.int .i64 a0_1) := (blk_cell BK347.out 1).trans rfl; have hcz13_2 : w12.cell? ⟨gb347, 2, none⟩ = some (.int .i64 a0_2) := (blk_cell BK347.out 2).trans rfl; have hcz13_3 : w12.cell? ⟨gb347, 3, none⟩ = some (.int .i64 a0_3) := (blk_cell BK347.out 3).trans rfl; have hcz13_4 : w12.cell? ⟨gb347, 4, none⟩ = some (.int .i64 a0_4) := (blk_cell BK347.out 4).trans rfl; have hfz13_0 := blk_frozen BK347.out 0; have hfz13_1 := blk_frozen BK347.out 1; have hfz13_2 := blk_frozen BK347.out 2; have hfz13_3 := blk_frozen BK347.out 3; have hfz13_4 := blk_frozen BK347.out 4) | ((with_reducible refine gate_callee (f := 37) rfl ?_); refine goesL_ (some 16) rfl rfl Tryd.func37 (by kernel_rfl) rfl #[.agg #[.int .i64 a0_0, .int .i64 a0_1, .int .i64 a0_2, .int .i64 a0_3, .int .i64 a0_4]] rfl (by (try simp only [List.map_toArray, List.map_cons, List.map_nil]); first | done | rfl | (simp only [List.length_drop, List.length_take]; rfl)) ?_; (with_reducible refine (remontoirlaw04_isRule.calls a0_0 a0_1 a0_2 a0_3 a0_4 true _ ?side1 A4.out).mono ?_); (case side1 => exact Go.Proofs.YtidnopmjhhmedaaDoor.Ways.below HWays.out (by repeat (first | (with_reducible first | exact HB.out | apply below_alloc | apply pw_below_drewN | apply below_drew1 | refine below_set ?_ GE347.out) | exact HB.out))); rintro e w14 ⟨rfl, hb⟩; refine ⟨_, rfl, ?_⟩; have n0_ := Aside0.mk (blk_below (g := gb347) (o := .cells #[.int .i64 a0_0, .int .i64 a0_1, .int .i64 a0_2, .int .i64 a0_3, .int .i64 a0_4] 25 (0, 0)) (by (with_reducible repeat (first | refine blk_drewN ?_ _ | refine blk_drew ?_ | refine blk_alloc ?_ _)); exact BK347.out) hb); have n1_ := Aside0.mk (below_step (by repeat (first | (with_reducible first | exact HB.out | apply below_alloc | apply pw_below_drewN | apply below_drew1 | refine below_set ?_ GE347.out) | exact HB.out)) hb); clear BK347; clear HB; have BK347 := n0_; have HB := n1_; clear n0_ n1_; (try clear hb); (try clear hb2); (try clear hk); (try clear hi)) | ((with_reducible refine gate_callee (f := 38) rfl ?_); refine goesL_ (some 38) rfl rfl Tryd.func38 (by kernel_rfl) rfl #[.int .i64 a1, .int .i64 10000001] rfl (by (try simp only [List.map_toArray, List.map_cons, List.map_nil]); first | done | rfl | (simp only [List.length_drop, List.length_take]; rfl)) ?_; (with_reducible refine (remontoirref00_Rest.calls a1 10000001 t356 _ A6.out).mono ?_); rintro e w' ⟨rfl, ⟨nd, rfl⟩⟩; refine ⟨_, rfl, ?_⟩))
    (try (rw [drewN_self w14]; generalize hq_ : World.drewN w14 _ = w14; have n0_ : Aside0 (w14.heap[gb347]? = some (.cells #[.int .i64 a0_0, .int .i64 a0_1, .int .i64 a0_2, .int .i64 a0_3, .int .i64 a0_4] 25 (0, 0))) := ⟨by rw [← hq_]; exact (by (with_reducible repeat (first | refine blk_drewN ?_ _ | refine blk_drew ?_ | refine blk_alloc ?_ _)); exact BK347.out)⟩; have n1_ : Aside0 (Below w.heap.size w w14) := ⟨by rw [← hq_]; exact (by repeat (first | (with_reducible first | exact HB.out | apply below_alloc | apply pw_below_drewN | apply below_drew1 | refine below_set ?_ GE347.out) | exact HB.out))⟩; clear BK347 HB hq_; have BK347 := n0_; have HB := n1_; clear n0_ n1_))
    have n0_ := Aside0.mk (blk_drew BK347.out)
    have n1_ := Aside0.mk (below_drew1 HB.out)
    clear BK347
    clear HB
    have BK347 := n0_
    have HB := n1_
    clear n0_ n1_
    refine start_ (n := 7) (S := fun w' => w'.cell? ⟨gb347, 0, none⟩ = some (.int .i64 a0_0) ∧ w'.cell? ⟨gb347, 1, none⟩ = some (.int .i64 a0_1) ∧ w'.cell? ⟨gb347, 2, none⟩ = some (.int .i64 a0_2) ∧ w'.cell? ⟨gb347, 3, none⟩ = some (.int .i64 a0_3) ∧ w'.cell? ⟨gb347, 4, none⟩ = some (.int .i64 a0_4)) (ds := []) #[false, false, false, false, false, false, false] (by kernel_rfl) rfl rfl ⟨(blk_cell BK347.out 0).trans rfl, (blk_cell BK347.out 1).trans rfl, (blk_cell BK347.out 2).trans rfl, (blk_cell BK347.out 3).trans rfl, (blk_cell BK347.out 4).trans rfl⟩ (fun hHeld => ?_)
    generalize w14.drew = w15 at BK347 HB hHeld ⊢
    refine pure_ (i := 1) (N := some 40) (v := ?_) (a' := ?_) #[false, true, false, false, false, false, false] rfl rfl (by kernel_rfl) (fun _ _ _ h => h) (Or.inl ⟨by rfl, ?_⟩) ?_ ?_
    rotate_left
    · intro w'
      go_simp
      with_reducible rfl
    rotate_left
    · simp only [Act.put, List.setIfInBounds_toArray, List.set_cons_zero, List.set_cons_succ, i64_w, i32_w]
      rfl
    refine pure_ (i := 4) (N := some 43) (v := ?_) (a' := ?_) #[false, true, false, false, true, false, false] rfl rfl (by kernel_rfl) (fun _ _ _ h => h) (Or.inl ⟨by rfl, ?_⟩) ?_ ?_
    rotate_left
    · intro w'
      go_simp
      with_reducible rfl
    rotate_left
    · simp only [Act.put, List.setIfInBounds_toArray, List.set_cons_zero, List.set_cons_succ, i64_w, i32_w]
      rfl
    refine take_ (i := 0) (N := some 39) (v := ?_) (a' := ?_) #[true, true, false, false, true, false, false] rfl rfl (by kernel_rfl) (fun _ _ _ h => h) (Or.inl ⟨by rfl, ?_⟩) hHeld ?_ ?_
    rotate_left
    · rintro w' ⟨s0, s1, s2, s3, s4⟩
      go_simp
      with_reducible rfl
    rotate_left
    · simp only [Act.put, List.setIfInBounds_toArray, List.set_cons_zero, List.set_cons_succ, i64_w, i32_w]
      rfl
    refine one_ (i := 2) (N := some 41) #[true, true, true, false, true, false, false] rfl rfl (by kernel_rfl) (by decide) (fun K hK => ?_)
    refine goes_ Tryd.func40 (by kernel_rfl) rfl #[.slice A2 l2.length c2, .int .i64 0] (by rfl) rfl rfl (by (try simp only [List.map_toArray, List.map_cons, List.map_nil]); first | done | rfl | (simp only [List.length_drop, List.length_take]; rfl)) ?_
    with_reducible refine (remontoirref00_At.calls _ _ l2 0 t357 _ ?side1 ?side2 A7.out).mono ?_
    (case side1 => repeat (first | exact (Kd.C_below HR2.out HB.out) | (with_reducible refine Kd.C_alloc ?_ _) | (with_reducible refine Kd.C_drewN ?_ _) | (with_reducible refine Kd.C_drew ?_)))
    (case side2 => exact HC2.out)
    rintro e w' ⟨rfl, ⟨nd, rfl⟩⟩
    refine ⟨_, rfl, ?_⟩
    refine hK.out _ _ ⟨(blk_cell BK347.out 0).trans rfl, (blk_cell BK347.out 1).trans rfl, (blk_cell BK347.out 2).trans rfl, (blk_cell BK347.out 3).trans rfl, (blk_cell BK347.out 4).trans rfl⟩ (fun hHeld => ?_)
    clear hK K
    refine norm_ (a' := ?_) ?_ ?_
    rotate_left
    · show Act.put _ (some 41) _ = _
      simp only [Act.put, List.setIfInBounds_toArray, List.set_cons_zero, List.set_cons_succ, i64_w, i32_w]
      rfl
    refine one_ (i := 3) (N := some 42) #[true, true, true, true, true, false, false] rfl rfl (by kernel_rfl) (by decide) (fun K hK => ?_)
    refine goes_ Tryd.func38 (by kernel_rfl) rfl #[.int .i64 t357, .int .i64 40] (by rfl) rfl rfl (by (try simp only [List.map_toArray, List.map_cons, List.map_nil]); first | done | rfl | (simp only [List.length_drop, List.length_take]; rfl)) ?_
    with_reducible refine (remontoirref00_Rest.calls t357 40 t358 _ A8.out).mono ?_
    rintro e w' ⟨rfl, ⟨nd, rfl⟩⟩
    refine ⟨_, rfl, ?_⟩
    refine hK.out _ _ ⟨(blk_cell BK347.out 0).trans rfl, (blk_cell BK347.out 1).trans rfl, (blk_cell BK347.out 2).trans rfl, (blk_cell BK347.out 3).trans rfl, (blk_cell BK347.out 4).trans rfl⟩ (fun hHeld => ?_)
    clear hK K
    refine norm_ (a' := ?_) ?_ ?_
    rotate_left
    · show Act.put _ (some 42) _ = _
      simp only [Act.put, List.setIfInBounds_toArray, List.set_cons_zero, List.set_cons_succ, i64_w, i32_w]
      rfl
    refine one_ (i := 5) (N := some 44) #[true, true, true, true, true, true, false] rfl rfl (by kernel_rfl) (by decide) (fun K hK => ?_)
    refine goes_ Tryd.func39 (by kernel_rfl) rfl #[.agg #[.int .i64 a0_0, .int .i64 a0_1, .int .i64 a0_2, .int .i64 a0_3, .int .i64 a0_4], .int .i64 t358, .slice A2 l2.length c2, .bool false] (by rfl) rfl rfl (by (try simp only [List.map_toArray, List.map_cons, List.map_nil]); first | done | rfl | (simp only [List.length_drop, List.length_take]; rfl)) ?_
    with_reducible refine (remontoirlaw04_steered.calls k a0_0 a0_1 a0_2 a0_3 a0_4 t358 _ _ l2 false t359 _ ?side1 ?side2 A9.out).mono ?_
    (case side1 => repeat (first | exact (Kd.C_below HR2.out (by repeat (first | (with_reducible first | exact HB.out | apply below_alloc | apply pw_below_drewN | apply below_drew1 | refine below_set ?_ GE347.out) | exact HB.out))) | (with_reducible refine Kd.C_alloc ?_ _) | (with_reducible refine Kd.C_drewN ?_ _) | (with_reducible refine Kd.C_drew ?_)))
    (case side2 => exact HC2.out)
    rintro e w16 ⟨v360, rfl, ho0, hb⟩
    refine ⟨_, rfl, ?_⟩
    have n0_ := Aside0.mk (Kd.R_lower ho0 (below_size (by repeat (first | (with_reducible first | exact HB.out | apply below_alloc | apply pw_below_drewN | apply below_drew1 | refine below_set ?_ GE347.out) | exact HB.out))))
    have n1_ := Aside0.mk (blk_below (g := gb347) (o := .cells #[.int .i64 a0_0, .int .i64 a0_1, .int .i64 a0_2, .int .i64 a0_3, .int .i64 a0_4] 25 (0, 0)) (by (with_reducible repeat (first | refine blk_drewN ?_ _ | refine blk_drew ?_ | refine blk_alloc ?_ _)); exact BK347.out) hb)
    have n2_ := Aside0.mk (below_step (by repeat (first | (with_reducible first | exact HB.out | apply below_alloc | apply pw_below_drewN | apply below_drew1 | refine below_set ?_ GE347.out) | exact HB.out)) hb)
    clear BK347
    clear HB
    have HO361 := n0_
    have BK347 := n1_
    have HB := n2_
    clear n0_ n1_ n2_
    (try clear hb)
    (try clear hb2)
    (try clear hk)
    (try clear hi)
    (try clear ho0)
    refine hK.out _ _ ⟨(blk_cell BK347.out 0).trans rfl, (blk_cell BK347.out 1).trans rfl, (blk_cell BK347.out 2).trans rfl, (blk_cell BK347.out 3).trans rfl, (blk_cell BK347.out 4).trans rfl⟩ (fun hHeld => ?_)
    clear hK K
    refine norm_ (a' := ?_) ?_ ?_
    rotate_left
    · show Act.put _ (some 44) _ = _
      simp only [Act.put, List.setIfInBounds_toArray, List.set_cons_zero, List.set_cons_succ, i64_w, i32_w]
      rfl
    refine pure_ (i := 6) (N := some 10) (v := ?_) (a' := ?_) #[true, true, true, true, true, true, true] rfl rfl (by kernel_rfl) (fun _ _ _ h => h) (Or.inl ⟨by rfl, ?_⟩) ?_ ?_
    rotate_left
    · intro w'
      go_simp
      with_reducible rfl
    rotate_left
    · simp only [Act.put, List.setIfInBounds_toArray, List.set_cons_zero, List.set_cons_succ, i64_w, i32_w]
      rfl
    refine done_ (by kernel_rfl) ?_
    have hcz17_0 : w16.cell? ⟨gb347, 0, none⟩ = some (.int .i64 a0_0) := (blk_cell BK347.out 0).trans rfl
    have hcz17_1 : w16.cell? ⟨gb347, 1, none⟩ = some (.int .i64 a0_1) := (blk_cell BK347.out 1).trans rfl
    have hcz17_2 : w16.cell? ⟨gb347, 2, none⟩ = some (.int .i64 a0_2) := (blk_cell BK347.out 2).trans rfl
    have hcz17_3 : w16.cell? ⟨gb347, 3, none⟩ = some (.int .i64 a0_3) := (blk_cell BK347.out 3).trans rfl
    have hcz17_4 : w16.cell? ⟨gb347, 4, none⟩ = some (.int .i64 a0_4) := (blk_cell BK347.out 4).trans rfl
    have hfz17_0 := blk_frozen BK347.out 0
    have hfz17_1 := blk_frozen BK347.out 1
    have hfz17_2 := blk_frozen BK347.out 2
    have hfz17_3 := blk_frozen BK347.out 3
    have hfz17_4 := blk_frozen BK347.out 4
    obtain ⟨Ao18, co18, eo18⟩ := Kd.R_slice HO361.out
    subst eo18
    go_upto_region 7 with (first | ((with_reducible refine gate_callee (f := 24) rfl ?_); refine goesL_ (some 49) rfl rfl Tryd.func24 (by kernel_rfl) rfl #[.agg #[.int .i64 a0_0, .int .i64 a0_1, .int .i64 a0_2, .int .i64 a0_3, .int .i64 a0_4], .int .i64 t356, .slice Ao18 t359.length co18] rfl (by (try simp only [List.map_toArray, List.map_cons, List.map_nil]); first | done | rfl | (simp only [List.length_drop, List.length_take]; rfl)) ?_; (with_reducible refine (scale_Shown.calls a0_0 a0_1 a0_2 a0_3 a0_4 t356 _ _ t359 t362 t365 _ ?side1 ?side2 ?side3 A10.out).mono ?_); (case side1 => repeat (first | exact (Kd.R_reads' HO361.out).2.2 | (with_reducible refine Kd.C_alloc ?_ _) | (with_reducible refine Kd.C_drewN ?_ _) | (with_reducible refine Kd.C_drew ?_))); (case side2 => exact (Kd.R_reads' HO361.out).2.1); (case side3 => exact Go.Proofs.YtidnopmjhhmedaaDoor.Ways.below HWays.out (by repeat (first | (with_reducible first | exact HB.out | apply below_alloc | apply pw_below_drewN | apply below_drew1 | refine below_set ?_ GE347.out) | exact HB.out))); rintro e w19 ⟨v363, rfl, ho0, hb⟩; refine ⟨_, rfl, ?_⟩; have n0_ := Aside0.mk (Kd.R_below (by (with_reducible repeat (first | apply Kd.R_alloc | apply Kd.R_drewN | apply Kd.R_drew)); exact HO361.out) hb); have n1_ := Aside0.mk (Kd.V_lower (Kd.V_mono (ok' := fun k_ => some k_ ≠ (.slice Ao18 t359.length co18 : Value).ownBlock ∧ k_ ≠ gb347) ho0 (fun k_ hk_ => ⟨(Kd.fresh' (Kd.R_lt (by (with_reducible repeat (first | apply Kd.R_alloc | apply Kd.R_drewN | apply Kd.R_drew)); exact HO361.out)) k_ hk_), (Kd.freshB (g := gb347) (o := .cells #[.int .i64 a0_0, .int .i64 a0_1, .int .i64 a0_2, .int .i64 a0_3, .int .i64 a0_4] 25 (0, 0)) (by (with_reducible repeat (first | refine blk_drewN ?_ _ | refine blk_drew ?_ | refine blk_alloc ?_ _)); exact BK347.out) k_ hk_)⟩)) (below_size (by repeat (first | (with_reducible first | exact HB.out | apply below_alloc | apply pw_below_drewN | apply below_drew1 | refine below_set ?_ GE347.out) | exact HB.out)))); have n2_ := Aside0.mk (blk_below (g := gb347) (o := .cells #[.int .i64 a0_0, .int .i64 a0_1, .int .i64 a0_2, .int .i64 a0_3, .int .i64 a0_4] 25 (0, 0)) (by (with_reducible repeat (first | refine blk_drewN ?_ _ | refine blk_drew ?_ | refine blk_alloc ?_ _)); exact BK347.out) hb); have n3_ := Aside0.mk (below_step (by repeat (first | (with_reducible first | exact HB.out | apply below_alloc | apply pw_below_drewN | apply below_drew1 | refine below_set ?_ GE347.out) | exact HB.out)) hb); clear HO361; clear BK347; clear HB; have HO361 := n0_; have HO364 := n1_; have BK347 := n2_; have HB := n3_; clear n0_ n1_ n2_ n3_; (try clear hb); (try clear hb2); (try clear hk); (try clear hi); (try clear ho0)))
    (try simp only [Act.put, List.setIfInBounds_toArray, List.set_cons_zero, List.set_cons_succ])
    go_cut [68] (fun v68 wc => ∃ (kq : Nat) (x68_10 : Bool), v68 = .bool x68_10 ∧ Aside0 (remontoirlaw04_ScaleNever.j0 kq t356 t359 t362 x68_10 = some r) ∧ Aside0 (kq ≤ k) ∧ Aside0 (Kd.R (Kd.int .i64) 3 wc w.heap.size (fun _ => True) (.slice Ao18 t359.length co18) t359) ∧ Aside0 (Kd.V (Kd.int .i64) 3 wc w.heap.size (fun k_ => some k_ ≠ ((.slice Ao18 t359.length co18) : Value).ownBlock ∧ k_ ≠ gb347) v363 t362) ∧ Aside0 (wc.heap[gb347]? = some (.cells #[.int .i64 a0_0, .int .i64 a0_1, .int .i64 a0_2, .int .i64 a0_3, .int .i64 a0_4] 25 (0, 0))) ∧ Aside0 (Below w.heap.size w wc))
    case first =>
      have H := HC11.out
      clear HC11
      by_cases c20 : t365 = 0
      · rw [if_pos c20] at H
        have c20b0 : (t365 == 0) = true := beq_iff_eq.mpr c20
        have c20b1 : (t365 != 0) = false := bne_eq_false_iff_eq.mpr c20
        clear c20
        (first | rw [c20b0] | (simp only [i64_w, i32_w]; rw [c20b0]) | skip)
        by_cases c21 : (t362.length : Int) = (wrap64 ((t359.length : Int) + 1))
        · rw [if_pos c21] at H
          have c21b0 : ((t362.length : Int) == (wrap64 ((t359.length : Int) + 1))) = true := beq_iff_eq.mpr c21
          have c21b1 : ((t362.length : Int) != (wrap64 ((t359.length : Int) + 1))) = false := bne_eq_false_iff_eq.mpr c21
          clear c21
          by_cases c22 : 0 < (t362.length : Int)
          · rw [if_pos c22] at H
            have c22b0 : decide (0 < (t362.length : Int)) = true := decide_eq_true c22
            have c22b1 : decide (0 < t362.length) = true := decide_eq_true (by omega)
            clear c22
            have H' := Aside0.mk H
            clear H
            obtain ⟨Ao23, co23, eo23⟩ := Kd.V_slice HO364.out
            subst eo23
            have p366 : 0 ≤ (0 : Int) := (by omega)
            have q366 : 0 < (t362.length : Int) := of_decide_eq_true (by first | (with_reducible assumption) | assumption)
            obtain ⟨ad366, e366, hx366_0⟩ := Kd.at_int (Kd.V_reads' HO364.out).2.2 0 p366 q366
            cases e366
            have qi366 : (0 < t362.length) = True := eq_true (by omega)
            (try rw [show ((0 : Int)).toNat = 0 from rfl] at hx366_0)
            (try rw [Addr.add_zero'] at hx366_0)
            replace p366 := eq_true p366
            replace q366 := eq_true q366
            go_wp2
            go_meet
            case rel => exact ⟨_, (((rd t362 0) != t356)), (by first | rfl | (simp; done) | (simp [*]; done)), H', ⟨by first | omega | exact Nat.le_refl _⟩, ⟨by (with_reducible repeat (first | apply Kd.R_alloc | apply Kd.R_drewN | apply Kd.R_drew)); exact HO361.out⟩, ⟨by (with_reducible repeat (first | apply Kd.V_alloc | apply Kd.V_drewN | apply Kd.V_drew)); exact HO364.out⟩, ⟨by (with_reducible repeat (first | refine blk_drewN ?_ _ | refine blk_drew ?_ | refine blk_alloc ?_ _)); exact BK347.out⟩, ⟨by repeat (first | (with_reducible first | exact HB.out | apply below_alloc | apply pw_below_drewN | apply below_drew1 | refine below_set ?_ GE347.out) | exact HB.out)⟩⟩
          · rw [if_neg c22] at H
            exact absurd H (by simp)
        · rw [if_neg c21] at H
          have c21b0 : ((t362.length : Int) == (wrap64 ((t359.length : Int) + 1))) = false := beq_eq_false_iff_ne.mpr c21
          have c21b1 : ((t362.length : Int) != (wrap64 ((t359.length : Int) + 1))) = true := bne_iff_ne.mpr c21
          have H' := Aside0.mk H
          clear H
          obtain ⟨Ao24, co24, eo24⟩ := Kd.V_slice HO364.out
          subst eo24
          go_wp2
          go_meet
          case rel => exact ⟨_, (true), (by first | rfl | (simp; done) | (simp [*]; done)), H', ⟨by first | omega | exact Nat.le_refl _⟩, ⟨by (with_reducible repeat (first | apply Kd.R_alloc | apply Kd.R_drewN | apply Kd.R_drew)); exact HO361.out⟩, ⟨by (with_reducible repeat (first | apply Kd.V_alloc | apply Kd.V_drewN | apply Kd.V_drew)); exact HO364.out⟩, ⟨by (with_reducible repeat (first | refine blk_drewN ?_ _ | refine blk_drew ?_ | refine blk_alloc ?_ _)); exact BK347.out⟩, ⟨by repeat (first | (with_reducible first | exact HB.out | apply below_alloc | apply pw_below_drewN | apply below_drew1 | refine below_set ?_ GE347.out) | exact HB.out)⟩⟩
      · rw [if_neg c20] at H
        have c20b0 : (t365 == 0) = false := beq_eq_false_iff_ne.mpr c20
        have c20b1 : (t365 != 0) = true := bne_iff_ne.mpr c20
        (first | rw [c20b0] | (simp only [i64_w, i32_w]; rw [c20b0]) | skip)
        have H' := Aside0.mk H
        clear H
        go_wp2
        go_meet
        case rel => exact ⟨_, (true), (by first | rfl | (simp; done) | (simp [*]; done)), H', ⟨by first | omega | exact Nat.le_refl _⟩, ⟨by (with_reducible repeat (first | apply Kd.R_alloc | apply Kd.R_drewN | apply Kd.R_drew)); exact HO361.out⟩, ⟨by (with_reducible repeat (first | apply Kd.V_alloc | apply Kd.V_drewN | apply Kd.V_drew)); exact HO364.out⟩, ⟨by (with_reducible repeat (first | refine blk_drewN ?_ _ | refine blk_drew ?_ | refine blk_alloc ?_ _)); exact BK347.out⟩, ⟨by repeat (first | (with_reducible first | exact HB.out | apply below_alloc | apply pw_below_drewN | apply below_drew1 | refine below_set ?_ GE347.out) | exact HB.out)⟩⟩
    case rest =>
      clear HC11
      try clear c2
      try clear p2
      try clear c3
      try clear p3
      try clear q3
      try clear hx3
      try clear qi3
      try clear c4
      try clear c5
      try clear p6
      try clear c7
      try clear c20
      try clear c20b0
      try clear c20b1
      try clear c21
      try clear c21b0
      try clear c21b1
      try clear c22
      try clear c22b0
      try clear c22b1
      try clear c24
      try clear hcz13_0
      try clear hcz13_1
      try clear hcz13_2
      try clear hcz13_3
      try clear hcz13_4
      try clear hcz17_0
      try clear hcz17_1
      try clear hcz17_2
      try clear hcz17_3
      try clear hcz17_4
      try clear hfz13_0
      try clear hfz13_1
      try clear hfz13_2
      try clear hfz13_3
      try clear hfz13_4
      try clear hfz17_0
      try clear hfz17_1
      try clear hfz17_2
      try clear hfz17_3
      try clear hfz17_4
      try clear hx366_0
      try clear p366
      try clear q366
      obtain ⟨kq, x68_10, rfl, HA, HJ10, HO_10, HO_11, BK347, HB⟩ := hcut
      cases kq with
      | zero => exact absurd HA.out (by simp [remontoirlaw04_ScaleNever.j0])
      | succ kj10 =>
        have H := HA.out
        clear HA
        simp only [remontoirlaw04_ScaleNever.j0] at H
        by_cases c25 : x68_10 = true
        · subst c25
          have H1 : (some false) = some r := by rw [if_pos rfl] at H; exact H
          clear H
          have H := H1
          clear H1
          obtain rfl := Option.some.inj H
          go_wp2
          go_ret
          exact ⟨by first | rfl | (simp [errW_none, errW_some] <;> rfl) | (simp [*, errW_none, errW_some] <;> rfl), by repeat (first | (with_reducible first | exact HB.out | apply below_alloc | apply pw_below_drewN | apply below_drew1 | refine below_set ?_ GE347.out) | exact HB.out)⟩
        · replace c25 := Bool.eq_false_iff.mpr c25
          subst c25
          have H1 : (remontoirlaw04_ScaleNever.l0 kj10 t356 t359 t362 0) = some r := by rw [if_neg (show ¬ (false = true) by decide)] at H; exact H
          clear H
          have H := H1
          clear H1
          have H' := Aside0.mk H
          clear H
          go_wp2
          go_loopg [13] kj10 (fun kq v13 w' => ∃ (x13_2 : Int), v13 = .int .i64 x13_2 ∧ Aside0 (remontoirlaw04_ScaleNever.l0 kq t356 t359 t362 x13_2 = some r) ∧ Aside0 (kq ≤ kj10) ∧ Aside0 (Kd.R (Kd.int .i64) 3 w' w.heap.size (fun _ => True) (.slice Ao18 t359.length co18) t359) ∧ Aside0 (Kd.V (Kd.int .i64) 3 w' w.heap.size (fun k_ => some k_ ≠ ((.slice Ao18 t359.length co18) : Value).ownBlock ∧ k_ ≠ gb347) v363 t362) ∧ Aside0 (w'.heap[gb347]? = some (.cells #[.int .i64 a0_0, .int .i64 a0_1, .int .i64 a0_2, .int .i64 a0_3, .int .i64 a0_4] 25 (0, 0))) ∧ Aside0 (Below w.heap.size w w'))
          case atStart => exact ⟨(0), (by first | rfl | (simp; done) | (simp [*]; done)), H', ⟨Nat.le_refl _⟩, ⟨by (with_reducible repeat (first | apply Kd.R_alloc | apply Kd.R_drewN | apply Kd.R_drew)); exact HO_10.out⟩, ⟨by (with_reducible repeat (first | apply Kd.V_alloc | apply Kd.V_drewN | apply Kd.V_drew)); exact HO_11.out⟩, ⟨by (with_reducible repeat (first | refine blk_drewN ?_ _ | refine blk_drew ?_ | refine blk_alloc ?_ _)); exact BK347.out⟩, ⟨by repeat (first | (with_reducible first | exact HB.out | apply below_alloc | apply pw_below_drewN | apply below_drew1 | refine below_set ?_ GE347.out) | exact HB.out)⟩⟩
          case round =>
            clear H'
            try clear c2
            try clear p2
            try clear c3
            try clear p3
            try clear q3
            try clear hx3
            try clear qi3
            try clear c4
            try clear c5
            try clear p6
            try clear c7
            try clear c20
            try clear c20b0
            try clear c20b1
            try clear c21
            try clear c21b0
            try clear c21b1
            try clear c22
            try clear c22b0
            try clear c22b1
            try clear c24
            try clear c25
            try clear hcz13_0
            try clear hcz13_1
            try clear hcz13_2
            try clear hcz13_3
            try clear hcz13_4
            try clear hcz17_0
            try clear hcz17_1
            try clear hcz17_2
            try clear hcz17_3
            try clear hcz17_4
            try clear hfz13_0
            try clear hfz13_1
            try clear hfz13_2
            try clear hfz13_3
            try clear hfz13_4
            try clear hfz17_0
            try clear hfz17_1
            try clear hfz17_2
            try clear hfz17_3
            try clear hfz17_4
            try clear hx366_0
            try clear p2
            try clear p3
            try clear p366
            try clear p6
            try clear q3
            try clear q366
            obtain ⟨x13_2, rfl, HA, HK2, HO_10, HO_11, BK347, HB⟩ := hrel
            cases gk with
            | zero => exact absurd HA.out (by simp [remontoirlaw04_ScaleNever.l0])
            | succ k2 =>
              have H := HA.out
              clear HA
              simp only [remontoirlaw04_ScaleNever.l0] at H
              by_cases c26 : x13_2 < (t359.length : Int)
              · rw [if_pos c26] at H
                have c26b0 : decide (x13_2 < (t359.length : Int)) = true := decide_eq_true c26
                clear c26
                obtain ⟨ji27, hji27⟩ : ∃ j_ : Int, (wrap64 (x13_2 + 1)) = j_ := ⟨_, rfl⟩
                replace H : (if 0 ≤ (ji27) then (if (ji27) < (t362.length : Int) then (if 0 ≤ x13_2 then (if x13_2 < (t362.length : Int) then (if (wrap64 ((rd t362 (ji27)) - (rd t362 x13_2))) < 500 then (some false) else (if (wrap64 ((rd t362 (ji27)) - (rd t362 x13_2))) > 1500 then (some false) else (remontoirlaw04_ScaleNever.l0 k2 t356 t359 t362 ji27))) else (none)) else (none)) else (none)) else (none)) = some r := by first | (rw [hji27] at H; exact H) | (simp only [hji27] at H ⊢; exact H)
                have hji27w : (IntKind.i64.wrap (x13_2 + 1)) = ji27 := (i64_w _).trans hji27
                by_cases c28 : 0 ≤ (ji27)
                · rw [if_pos c28] at H
                  have c28b0 : decide (0 ≤ (ji27)) = true := decide_eq_true c28
                  clear c28
                  by_cases c29 : (ji27) < (t362.length : Int)
                  · rw [if_pos c29] at H
                    have c29b0 : decide ((ji27) < (t362.length : Int)) = true := decide_eq_true c29
                    clear c29
                    by_cases c30 : 0 ≤ x13_2
                    · rw [if_pos c30] at H
                      have c30b0 : decide (0 ≤ x13_2) = true := decide_eq_true c30
                      clear c30
                      by_cases c31 : x13_2 < (t362.length : Int)
                      · rw [if_pos c31] at H
                        have c31b0 : decide (x13_2 < (t362.length : Int)) = true := decide_eq_true c31
                        clear c31
                        by_cases c32 : (wrap64 ((rd t362 (ji27)) - (rd t362 x13_2))) < 500
                        · rw [if_pos c32] at H
                          have c32b0 : decide ((wrap64 ((rd t362 (ji27)) - (rd t362 x13_2))) < 500) = true := decide_eq_true c32
                          clear c32
                          obtain rfl := Option.some.inj H
                          try go_wp2
                          have n0_ := Aside0.mk (Kd.R_drew HO_10.out)
                          have n1_ := Aside0.mk (Kd.V_drew HO_11.out)
                          have n2_ := Aside0.mk (blk_drew BK347.out)
                          have n3_ := Aside0.mk (below_drew1 HB.out)
                          clear HO_10
                          clear HO_11
                          clear BK347
                          clear HB
                          have HO_10 := n0_
                          have HO_11 := n1_
                          have BK347 := n2_
                          have HB := n3_
                          clear n0_ n1_ n2_ n3_
                          obtain ⟨Ao34, co34, eo34⟩ := Kd.V_slice HO_11.out
                          (first | subst eo34 | (injection eo34 with f1_ f2_ f3_; have f4_ := f1_.symm; have f5_ := f3_.symm; clear f1_ f2_ f3_; subst f4_; subst f5_))
                          have p367 : 0 ≤ ((ji27) : Int) := of_decide_eq_true (by first | (with_reducible assumption) | assumption)
                          have q367 : (ji27) < (t362.length : Int) := of_decide_eq_true (by first | (with_reducible assumption) | assumption)
                          obtain ⟨ad367, e367, hx367_0⟩ := Kd.at_int (Kd.V_reads' HO_11.out).2.2 (ji27) p367 q367
                          cases e367
                          replace p367 := eq_true p367
                          replace q367 := eq_true q367
                          have p368 : 0 ≤ (x13_2 : Int) := of_decide_eq_true (by first | (with_reducible assumption) | assumption)
                          have q368 : x13_2 < (t362.length : Int) := of_decide_eq_true (by first | (with_reducible assumption) | assumption)
                          obtain ⟨ad368, e368, hx368_0⟩ := Kd.at_int (Kd.V_reads' HO_11.out).2.2 x13_2 p368 q368
                          obtain rfl : ad367 = ad368 := (by injection e368)
                          replace p368 := eq_true p368
                          replace q368 := eq_true q368
                          refine start_ (n := 11) (S := fun w' => w'.cell? (ad367.add ((ji27)).toNat) = some (.int .i64 (rd t362 (ji27))) ∧ w'.cell? (ad367.add (x13_2).toNat) = some (.int .i64 (rd t362 x13_2))) (ds := []) #[false, false, false, false, false, false, false, false, false, false, false] (by kernel_rfl) rfl rfl ⟨hx367_0, hx368_0⟩ (fun hHeld => ?_); refine with_tabW remontoirlaw04_ScaleNever.tab12 remontoirlaw04_ScaleNever.bits12 (fun HT_ HW_ => ?_)
                          generalize wr.drew = w33 at HO_10 HO_11 BK347 HB hx367_0 hx368_0 hHeld ⊢
                          refine pure_ (i := 0) (N := some 75) (v := ?_) (a' := ?_) #[true, false, false, false, false, false, false, false, false, false, false] rfl rfl (any_of HT_.out (by kernel_rfl)) (fun _ _ _ h => h) (Or.inl ⟨by rfl, ?_⟩) ?_ ?_
                          rotate_left
                          · intro w'
                            go_simp
                            with_reducible rfl
                          rotate_left
                          · simp only [Act.put, List.setIfInBounds_toArray, List.set_cons_zero, List.set_cons_succ, i64_w, i32_w]
                            rfl
                          refine pure_ (i := 1) (N := some 76) (v := ?_) (a' := ?_) #[true, true, false, false, false, false, false, false, false, false, false] rfl rfl (any_of HT_.out (by kernel_rfl)) (fun _ _ _ h => h) (Or.inl ⟨by rfl, ?_⟩) ?_ ?_
                          rotate_left
                          · intro w'
                            go_simp
                            with_reducible rfl
                          rotate_left
                          · simp only [Act.put, List.setIfInBounds_toArray, List.set_cons_zero, List.set_cons_succ, i64_w, i32_w]
                            rfl
                          refine pure_ (i := 2) (N := some 77) (v := ?_) (a' := ?_) #[true, true, true, false, false, false, false, false, false, false, false] rfl rfl (any_of HT_.out (by kernel_rfl)) (fun _ _ _ h => h) (Or.inl ⟨by rfl, ?_⟩) ?_ ?_
                          rotate_left
                          · intro w'
                            go_simp
                            with_reducible rfl
                          rotate_left
                          · simp only [Act.put, List.setIfInBounds_toArray, List.set_cons_zero, List.set_cons_succ, i64_w, i32_w]
                            rfl
                          refine pure_ (i := 3) (N := some 78) (v := ?_) (a' := ?_) #[true, true, true, true, false, false, false, false, false, false, false] rfl rfl (any_of HT_.out (by kernel_rfl)) (fun _ _ _ h => h) (Or.inl ⟨by rfl, ?_⟩) ?_ ?_
                          rotate_left
                          · intro w'
                            go_simp
                            with_reducible rfl
                          rotate_left
                          · simp only [Act.put, List.setIfInBounds_toArray, List.set_cons_zero, List.set_cons_succ, i64_w, i32_w]
                            rfl
                          refine pure_ (i := 5) (N := some 80) (v := ?_) (a' := ?_) #[true, true, true, true, false, true, false, false, false, false, false] rfl rfl (any_of HT_.out (by kernel_rfl)) (fun _ _ _ h => h) (Or.inl ⟨by rfl, ?_⟩) ?_ ?_
                          rotate_left
                          · intro w'
                            go_simp
                            with_reducible rfl
                          rotate_left
                          · simp only [Act.put, List.setIfInBounds_toArray, List.set_cons_zero, List.set_cons_succ, i64_w, i32_w]
                            rfl
                          refine pure_ (i := 6) (N := some 81) (v := ?_) (a' := ?_) #[true, true, true, true, false, true, true, false, false, false, false] rfl rfl (any_of HT_.out (by kernel_rfl)) (fun _ _ _ h => h) (Or.inl ⟨by rfl, ?_⟩) ?_ ?_
                          rotate_left
                          · intro w'
                            go_simp
                            with_reducible rfl
                          rotate_left
                          · simp only [Act.put, List.setIfInBounds_toArray, List.set_cons_zero, List.set_cons_succ, i64_w, i32_w]
                            rfl
                          refine pure_ (i := 7) (N := some 82) (v := ?_) (a' := ?_) #[true, true, true, true, false, true, true, true, false, false, false] rfl rfl (any_of HT_.out (by kernel_rfl)) (fun _ _ _ h => h) (Or.inl ⟨by rfl, ?_⟩) ?_ ?_
                          rotate_left
                          · intro w'
                            go_simp
                            with_reducible rfl
                          rotate_left
                          · simp only [Act.put, List.setIfInBounds_toArray, List.set_cons_zero, List.set_cons_succ, i64_w, i32_w]
                            rfl
                          refine take_ (i := 4) (N := some 79) (v := ?_) (a' := ?_) #[true, true, true, true, true, true, true, true, false, false, false] rfl rfl (take_ofW HT_.out HW_.out (by kernel_rfl)) (fun _ _ _ h => h) (Or.inl ⟨by rfl, ?_⟩) hHeld ?_ ?_
                          rotate_left
                          · rintro w' ⟨s0, s1⟩
                            go_simp
                            with_reducible rfl
                          rotate_left
                          · simp only [Act.put, List.setIfInBounds_toArray, List.set_cons_zero, List.set_cons_succ, i64_w, i32_w]
                            rfl
                          refine take_ (i := 8) (N := some 83) (v := ?_) (a' := ?_) #[true, true, true, true, true, true, true, true, true, false, false] rfl rfl (take_ofW HT_.out HW_.out (by kernel_rfl)) (fun _ _ _ h => h) (Or.inl ⟨by rfl, ?_⟩) hHeld ?_ ?_
                          rotate_left
                          · rintro w' ⟨s0, s1⟩
                            go_simp
                            with_reducible rfl
                          rotate_left
                          · simp only [Act.put, List.setIfInBounds_toArray, List.set_cons_zero, List.set_cons_succ, i64_w, i32_w]
                            rfl
                          refine pure_ (i := 9) (N := some 84) (v := ?_) (a' := ?_) #[true, true, true, true, true, true, true, true, true, true, false] rfl rfl (any_of HT_.out (by kernel_rfl)) (fun _ _ _ h => h) (Or.inl ⟨by rfl, ?_⟩) ?_ ?_
                          rotate_left
                          · intro w'
                            go_simp
                            with_reducible rfl
                          rotate_left
                          · simp only [Act.put, List.setIfInBounds_toArray, List.set_cons_zero, List.set_cons_succ, i64_w, i32_w]
                            rfl
                          refine pure_ (i := 10) (N := some 14) (v := ?_) (a' := ?_) #[true, true, true, true, true, true, true, true, true, true, true] rfl rfl (any_of HT_.out (by kernel_rfl)) (fun _ _ _ h => h) (Or.inl ⟨by rfl, ?_⟩) ?_ ?_
                          rotate_left
                          · intro w'
                            go_simp
                            with_reducible rfl
                          rotate_left
                          · simp only [Act.put, List.setIfInBounds_toArray, List.set_cons_zero, List.set_cons_succ, i64_w, i32_w]
                            rfl
                          refine done_ (done_of HT_.out (by kernel_rfl)) ?_
                          try go_wp2
                          go_ret
                          exact ⟨by first | rfl | (simp [errW_none, errW_some] <;> rfl) | (simp only [← hji27]; first | rfl | (simp [errW_none, errW_some] <;> rfl)) | (simp [*, errW_none, errW_some] <;> rfl), by repeat (first | (with_reducible first | exact HB.out | apply below_alloc | apply pw_below_drewN | apply below_drew1 | refine below_set ?_ GE347.out) | exact HB.out)⟩
                        · rw [if_neg c32] at H
                          have c32b0 : decide ((wrap64 ((rd t362 (ji27)) - (rd t362 x13_2))) < 500) = false := decide_eq_false c32
                          clear c32
                          by_cases c35 : (wrap64 ((rd t362 (ji27)) - (rd t362 x13_2))) > 1500
                          · rw [if_pos c35] at H
                            have c35b0 : decide (1500 < (wrap64 ((rd t362 (ji27)) - (rd t362 x13_2)))) = true := decide_eq_true c35
                            clear c35
                            obtain rfl := Option.some.inj H
                            try go_wp2
                            have n0_ := Aside0.mk (Kd.R_drew HO_10.out)
                            have n1_ := Aside0.mk (Kd.V_drew HO_11.out)
                            have n2_ := Aside0.mk (blk_drew BK347.out)
                            have n3_ := Aside0.mk (below_drew1 HB.out)
                            clear HO_10
                            clear HO_11
                            clear BK347
                            clear HB
                            have HO_10 := n0_
                            have HO_11 := n1_
                            have BK347 := n2_
                            have HB := n3_
                            clear n0_ n1_ n2_ n3_
                            obtain ⟨Ao37, co37, eo37⟩ := Kd.V_slice HO_11.out
                            (first | subst eo37 | (injection eo37 with f1_ f2_ f3_; have f4_ := f1_.symm; have f5_ := f3_.symm; clear f1_ f2_ f3_; subst f4_; subst f5_))
                            have p367 : 0 ≤ ((ji27) : Int) := of_decide_eq_true (by first | (with_reducible assumption) | assumption)
                            have q367 : (ji27) < (t362.length : Int) := of_decide_eq_true (by first | (with_reducible assumption) | assumption)
                            obtain ⟨ad367, e367, hx367_0⟩ := Kd.at_int (Kd.V_reads' HO_11.out).2.2 (ji27) p367 q367
                            cases e367
                            replace p367 := eq_true p367
                            replace q367 := eq_true q367
                            have p368 : 0 ≤ (x13_2 : Int) := of_decide_eq_true (by first | (with_reducible assumption) | assumption)
                            have q368 : x13_2 < (t362.length : Int) := of_decide_eq_true (by first | (with_reducible assumption) | assumption)
                            obtain ⟨ad368, e368, hx368_0⟩ := Kd.at_int (Kd.V_reads' HO_11.out).2.2 x13_2 p368 q368
                            obtain rfl : ad367 = ad368 := (by injection e368)
                            replace p368 := eq_true p368
                            replace q368 := eq_true q368
                            refine start_ (n := 11) (S := fun w' => w'.cell? (ad367.add ((ji27)).toNat) = some (.int .i64 (rd t362 (ji27))) ∧ w'.cell? (ad367.add (x13_2).toNat) = some (.int .i64 (rd t362 x13_2))) (ds := []) #[false, false, false, false, false, false, false, false, false, false, false] (by kernel_rfl) rfl rfl ⟨hx367_0, hx368_0⟩ (fun hHeld => ?_); refine with_tabW remontoirlaw04_ScaleNever.tab12 remontoirlaw04_ScaleNever.bits12 (fun HT_ HW_ => ?_)
                            generalize wr.drew = w36 at HO_10 HO_11 BK347 HB hx367_0 hx368_0 hHeld ⊢
                            refine pure_ (i := 0) (N := some 75) (v := ?_) (a' := ?_) #[true, false, false, false, false, false, false, false, false, false, false] rfl rfl (any_of HT_.out (by kernel_rfl)) (fun _ _ _ h => h) (Or.inl ⟨by rfl, ?_⟩) ?_ ?_
                            rotate_left
                            · intro w'
                              go_simp
                              with_reducible rfl
                            rotate_left
                            · simp only [Act.put, List.setIfInBounds_toArray, List.set_cons_zero, List.set_cons_succ, i64_w, i32_w]
                              rfl
                            refine pure_ (i := 1) (N := some 76) (v := ?_) (a' := ?_) #[true, true, false, false, false, false, false, false, false, false, false] rfl rfl (any_of HT_.out (by kernel_rfl)) (fun _ _ _ h => h) (Or.inl ⟨by rfl, ?_⟩) ?_ ?_
                            rotate_left
                            · intro w'
                              go_simp
                              with_reducible rfl
                            rotate_left
                            · simp only [Act.put, List.setIfInBounds_toArray, List.set_cons_zero, List.set_cons_succ, i64_w, i32_w]
                              rfl
                            refine pure_ (i := 2) (N := some 77) (v := ?_) (a' := ?_) #[true, true, true, false, false, false, false, false, false, false, false] rfl rfl (any_of HT_.out (by kernel_rfl)) (fun _ _ _ h => h) (Or.inl ⟨by rfl, ?_⟩) ?_ ?_
                            rotate_left
                            · intro w'
                              go_simp
                              with_reducible rfl
                            rotate_left
                            · simp only [Act.put, List.setIfInBounds_toArray, List.set_cons_zero, List.set_cons_succ, i64_w, i32_w]
                              rfl
                            refine pure_ (i := 3) (N := some 78) (v := ?_) (a' := ?_) #[true, true, true, true, false, false, false, false, false, false, false] rfl rfl (any_of HT_.out (by kernel_rfl)) (fun _ _ _ h => h) (Or.inl ⟨by rfl, ?_⟩) ?_ ?_
                            rotate_left
                            · intro w'
                              go_simp
                              with_reducible rfl
                            rotate_left
                            · simp only [Act.put, List.setIfInBounds_toArray, List.set_cons_zero, List.set_cons_succ, i64_w, i32_w]
                              rfl
                            refine pure_ (i := 5) (N := some 80) (v := ?_) (a' := ?_) #[true, true, true, true, false, true, false, false, false, false, false] rfl rfl (any_of HT_.out (by kernel_rfl)) (fun _ _ _ h => h) (Or.inl ⟨by rfl, ?_⟩) ?_ ?_
                            rotate_left
                            · intro w'
                              go_simp
                              with_reducible rfl
                            rotate_left
                            · simp only [Act.put, List.setIfInBounds_toArray, List.set_cons_zero, List.set_cons_succ, i64_w, i32_w]
                              rfl
                            refine pure_ (i := 6) (N := some 81) (v := ?_) (a' := ?_) #[true, true, true, true, false, true, true, false, false, false, false] rfl rfl (any_of HT_.out (by kernel_rfl)) (fun _ _ _ h => h) (Or.inl ⟨by rfl, ?_⟩) ?_ ?_
                            rotate_left
                            · intro w'
                              go_simp
                              with_reducible rfl
                            rotate_left
                            · simp only [Act.put, List.setIfInBounds_toArray, List.set_cons_zero, List.set_cons_succ, i64_w, i32_w]
                              rfl
                            refine pure_ (i := 7) (N := some 82) (v := ?_) (a' := ?_) #[true, true, true, true, false, true, true, true, false, false, false] rfl rfl (any_of HT_.out (by kernel_rfl)) (fun _ _ _ h => h) (Or.inl ⟨by rfl, ?_⟩) ?_ ?_
                            rotate_left
                            · intro w'
                              go_simp
                              with_reducible rfl
                            rotate_left
                            · simp only [Act.put, List.setIfInBounds_toArray, List.set_cons_zero, List.set_cons_succ, i64_w, i32_w]
                              rfl
                            refine take_ (i := 4) (N := some 79) (v := ?_) (a' := ?_) #[true, true, true, true, true, true, true, true, false, false, false] rfl rfl (take_ofW HT_.out HW_.out (by kernel_rfl)) (fun _ _ _ h => h) (Or.inl ⟨by rfl, ?_⟩) hHeld ?_ ?_
                            rotate_left
                            · rintro w' ⟨s0, s1⟩
                              go_simp
                              with_reducible rfl
                            rotate_left
                            · simp only [Act.put, List.setIfInBounds_toArray, List.set_cons_zero, List.set_cons_succ, i64_w, i32_w]
                              rfl
                            refine take_ (i := 8) (N := some 83) (v := ?_) (a' := ?_) #[true, true, true, true, true, true, true, true, true, false, false] rfl rfl (take_ofW HT_.out HW_.out (by kernel_rfl)) (fun _ _ _ h => h) (Or.inl ⟨by rfl, ?_⟩) hHeld ?_ ?_
                            rotate_left
                            · rintro w' ⟨s0, s1⟩
                              go_simp
                              with_reducible rfl
                            rotate_left
                            · simp only [Act.put, List.setIfInBounds_toArray, List.set_cons_zero, List.set_cons_succ, i64_w, i32_w]
                              rfl
                            refine pure_ (i := 9) (N := some 84) (v := ?_) (a' := ?_) #[true, true, true, true, true, true, true, true, true, true, false] rfl rfl (any_of HT_.out (by kernel_rfl)) (fun _ _ _ h => h) (Or.inl ⟨by rfl, ?_⟩) ?_ ?_
                            rotate_left
                            · intro w'
                              go_simp
                              with_reducible rfl
                            rotate_left
                            · simp only [Act.put, List.setIfInBounds_toArray, List.set_cons_zero, List.set_cons_succ, i64_w, i32_w]
                              rfl
                            refine pure_ (i := 10) (N := some 14) (v := ?_) (a' := ?_) #[true, true, true, true, true, true, true, true, true, true, true] rfl rfl (any_of HT_.out (by kernel_rfl)) (fun _ _ _ h => h) (Or.inl ⟨by rfl, ?_⟩) ?_ ?_
                            rotate_left
                            · intro w'
                              go_simp
                              with_reducible rfl
                            rotate_left
                            · simp only [Act.put, List.setIfInBounds_toArray, List.set_cons_zero, List.set_cons_succ, i64_w, i32_w]
                              rfl
                            refine done_ (done_of HT_.out (by kernel_rfl)) ?_
                            try go_wp2
                            go_ret
                            exact ⟨by first | rfl | (simp [errW_none, errW_some] <;> rfl) | (simp only [← hji27]; first | rfl | (simp [errW_none, errW_some] <;> rfl)) | (simp [*, errW_none, errW_some] <;> rfl), by repeat (first | (with_reducible first | exact HB.out | apply below_alloc | apply pw_below_drewN | apply below_drew1 | refine below_set ?_ GE347.out) | exact HB.out)⟩
                          · rw [if_neg c35] at H
                            have c35b0 : decide (1500 < (wrap64 ((rd t362 (ji27)) - (rd t362 x13_2)))) = false := decide_eq_false c35
                            clear c35
                            have H' := Aside0.mk H
                            clear H
                            try go_wp2
                            have n0_ := Aside0.mk (Kd.R_drew HO_10.out)
                            have n1_ := Aside0.mk (Kd.V_drew HO_11.out)
                            have n2_ := Aside0.mk (blk_drew BK347.out)
                            have n3_ := Aside0.mk (below_drew1 HB.out)
                            clear HO_10
                            clear HO_11
                            clear BK347
                            clear HB
                            have HO_10 := n0_
                            have HO_11 := n1_
                            have BK347 := n2_
                            have HB := n3_
                            clear n0_ n1_ n2_ n3_
                            obtain ⟨Ao39, co39, eo39⟩ := Kd.V_slice HO_11.out
                            (first | subst eo39 | (injection eo39 with f1_ f2_ f3_; have f4_ := f1_.symm; have f5_ := f3_.symm; clear f1_ f2_ f3_; subst f4_; subst f5_))
                            have p367 : 0 ≤ ((ji27) : Int) := of_decide_eq_true (by first | (with_reducible assumption) | assumption)
                            have q367 : (ji27) < (t362.length : Int) := of_decide_eq_true (by first | (with_reducible assumption) | assumption)
                            obtain ⟨ad367, e367, hx367_0⟩ := Kd.at_int (Kd.V_reads' HO_11.out).2.2 (ji27) p367 q367
                            cases e367
                            replace p367 := eq_true p367
                            replace q367 := eq_true q367
                            have p368 : 0 ≤ (x13_2 : Int) := of_decide_eq_true (by first | (with_reducible assumption) | assumption)
                            have q368 : x13_2 < (t362.length : Int) := of_decide_eq_true (by first | (with_reducible assumption) | assumption)
                            obtain ⟨ad368, e368, hx368_0⟩ := Kd.at_int (Kd.V_reads' HO_11.out).2.2 x13_2 p368 q368
                            obtain rfl : ad367 = ad368 := (by injection e368)
                            replace p368 := eq_true p368
                            replace q368 := eq_true q368
                            refine start_ (n := 11) (S := fun w' => w'.cell? (ad367.add ((ji27)).toNat) = some (.int .i64 (rd t362 (ji27))) ∧ w'.cell? (ad367.add (x13_2).toNat) = some (.int .i64 (rd t362 x13_2))) (ds := []) #[false, false, false, false, false, false, false, false, false, false, false] (by kernel_rfl) rfl rfl ⟨hx367_0, hx368_0⟩ (fun hHeld => ?_); refine with_tabW remontoirlaw04_ScaleNever.tab12 remontoirlaw04_ScaleNever.bits12 (fun HT_ HW_ => ?_)
                            generalize wr.drew = w38 at HO_10 HO_11 BK347 HB hx367_0 hx368_0 hHeld ⊢
                            refine pure_ (i := 0) (N := some 75) (v := ?_) (a' := ?_) #[true, false, false, false, false, false, false, false, false, false, false] rfl rfl (any_of HT_.out (by kernel_rfl)) (fun _ _ _ h => h) (Or.inl ⟨by rfl, ?_⟩) ?_ ?_
                            rotate_left
                            · intro w'
                              go_simp
                              with_reducible rfl
                            rotate_left
                            · simp only [Act.put, List.setIfInBounds_toArray, List.set_cons_zero, List.set_cons_succ, i64_w, i32_w]
                              rfl
                            refine pure_ (i := 1) (N := some 76) (v := ?_) (a' := ?_) #[true, true, false, false, false, false, false, false, false, false, false] rfl rfl (any_of HT_.out (by kernel_rfl)) (fun _ _ _ h => h) (Or.inl ⟨by rfl, ?_⟩) ?_ ?_
                            rotate_left
                            · intro w'
                              go_simp
                              with_reducible rfl
                            rotate_left
                            · simp only [Act.put, List.setIfInBounds_toArray, List.set_cons_zero, List.set_cons_succ, i64_w, i32_w]
                              rfl
                            refine pure_ (i := 2) (N := some 77) (v := ?_) (a' := ?_) #[true, true, true, false, false, false, false, false, false, false, false] rfl rfl (any_of HT_.out (by kernel_rfl)) (fun _ _ _ h => h) (Or.inl ⟨by rfl, ?_⟩) ?_ ?_
                            rotate_left
                            · intro w'
                              go_simp
                              with_reducible rfl
                            rotate_left
                            · simp only [Act.put, List.setIfInBounds_toArray, List.set_cons_zero, List.set_cons_succ, i64_w, i32_w]
                              rfl
                            refine pure_ (i := 3) (N := some 78) (v := ?_) (a' := ?_) #[true, true, true, true, false, false, false, false, false, false, false] rfl rfl (any_of HT_.out (by kernel_rfl)) (fun _ _ _ h => h) (Or.inl ⟨by rfl, ?_⟩) ?_ ?_
                            rotate_left
                            · intro w'
                              go_simp
                              with_reducible rfl
                            rotate_left
                            · simp only [Act.put, List.setIfInBounds_toArray, List.set_cons_zero, List.set_cons_succ, i64_w, i32_w]
                              rfl
                            refine pure_ (i := 5) (N := some 80) (v := ?_) (a' := ?_) #[true, true, true, true, false, true, false, false, false, false, false] rfl rfl (any_of HT_.out (by kernel_rfl)) (fun _ _ _ h => h) (Or.inl ⟨by rfl, ?_⟩) ?_ ?_
                            rotate_left
                            · intro w'
                              go_simp
                              with_reducible rfl
                            rotate_left
                            · simp only [Act.put, List.setIfInBounds_toArray, List.set_cons_zero, List.set_cons_succ, i64_w, i32_w]
                              rfl
                            refine pure_ (i := 6) (N := some 81) (v := ?_) (a' := ?_) #[true, true, true, true, false, true, true, false, false, false, false] rfl rfl (any_of HT_.out (by kernel_rfl)) (fun _ _ _ h => h) (Or.inl ⟨by rfl, ?_⟩) ?_ ?_
                            rotate_left
                            · intro w'
                              go_simp
                              with_reducible rfl
                            rotate_left
                            · simp only [Act.put, List.setIfInBounds_toArray, List.set_cons_zero, List.set_cons_succ, i64_w, i32_w]
                              rfl
                            refine pure_ (i := 7) (N := some 82) (v := ?_) (a' := ?_) #[true, true, true, true, false, true, true, true, false, false, false] rfl rfl (any_of HT_.out (by kernel_rfl)) (fun _ _ _ h => h) (Or.inl ⟨by rfl, ?_⟩) ?_ ?_
                            rotate_left
                            · intro w'
                              go_simp
                              with_reducible rfl
                            rotate_left
                            · simp only [Act.put, List.setIfInBounds_toArray, List.set_cons_zero, List.set_cons_succ, i64_w, i32_w]
                              rfl
                            refine take_ (i := 4) (N := some 79) (v := ?_) (a' := ?_) #[true, true, true, true, true, true, true, true, false, false, false] rfl rfl (take_ofW HT_.out HW_.out (by kernel_rfl)) (fun _ _ _ h => h) (Or.inl ⟨by rfl, ?_⟩) hHeld ?_ ?_
                            rotate_left
                            · rintro w' ⟨s0, s1⟩
                              go_simp
                              with_reducible rfl
                            rotate_left
                            · simp only [Act.put, List.setIfInBounds_toArray, List.set_cons_zero, List.set_cons_succ, i64_w, i32_w]
                              rfl
                            refine take_ (i := 8) (N := some 83) (v := ?_) (a' := ?_) #[true, true, true, true, true, true, true, true, true, false, false] rfl rfl (take_ofW HT_.out HW_.out (by kernel_rfl)) (fun _ _ _ h => h) (Or.inl ⟨by rfl, ?_⟩) hHeld ?_ ?_
                            rotate_left
                            · rintro w' ⟨s0, s1⟩
                              go_simp
                              with_reducible rfl
                            rotate_left
                            · simp only [Act.put, List.setIfInBounds_toArray, List.set_cons_zero, List.set_cons_succ, i64_w, i32_w]
                              rfl
                            refine pure_ (i := 9) (N := some 84) (v := ?_) (a' := ?_) #[true, true, true, true, true, true, true, true, true, true, false] rfl rfl (any_of HT_.out (by kernel_rfl)) (fun _ _ _ h => h) (Or.inl ⟨by rfl, ?_⟩) ?_ ?_
                            rotate_left
                            · intro w'
                              go_simp
                              with_reducible rfl
                            rotate_left
                            · simp only [Act.put, List.setIfInBounds_toArray, List.set_cons_zero, List.set_cons_succ, i64_w, i32_w]
                              rfl
                            refine pure_ (i := 10) (N := some 14) (v := ?_) (a' := ?_) #[true, true, true, true, true, true, true, true, true, true, true] rfl rfl (any_of HT_.out (by kernel_rfl)) (fun _ _ _ h => h) (Or.inl ⟨by rfl, ?_⟩) ?_ ?_
                            rotate_left
                            · intro w'
                              go_simp
                              with_reducible rfl
                            rotate_left
                            · simp only [Act.put, List.setIfInBounds_toArray, List.set_cons_zero, List.set_cons_succ, i64_w, i32_w]
                              rfl
                            refine done_ (done_of HT_.out (by kernel_rfl)) ?_
                            try go_wp2
                            go_roundg k2
                            case measure => have := HJ10.out; have := HK2.out; omega
                            case rel => exact ⟨(ji27), (by first | rfl | (simp; done) | (simp only [← hji27] <;> (first | rfl | simp)) | (simp [*]; done)), H', ⟨by have := HJ10.out; have := HK2.out; omega⟩, ⟨by (with_reducible repeat (first | apply Kd.R_alloc | apply Kd.R_drewN | apply Kd.R_drew)); exact HO_10.out⟩, ⟨by (with_reducible repeat (first | apply Kd.V_alloc | apply Kd.V_drewN | apply Kd.V_drew)); exact HO_11.out⟩, ⟨by (with_reducible repeat (first | refine blk_drewN ?_ _ | refine blk_drew ?_ | refine blk_alloc ?_ _)); exact BK347.out⟩, ⟨by repeat (first | (with_reducible first | exact HB.out | apply below_alloc | apply pw_below_drewN | apply below_drew1 | refine below_set ?_ GE347.out) | exact HB.out)⟩⟩
                      · rw [if_neg c31] at H
                        exact absurd H (by simp)
                    · rw [if_neg c30] at H
                      exact absurd H (by simp)
                  · rw [if_neg c29] at H
                    exact absurd H (by simp)
                · rw [if_neg c28] at H
                  exact absurd H (by simp)
              · rw [if_neg c26] at H
                have c26b0 : decide (x13_2 < (t359.length : Int)) = false := decide_eq_false c26
                clear c26
                by_cases c40 : 0 ≤ (t359.length : Int)
                · rw [if_pos c40] at H
                  have c40b0 : decide (0 ≤ (t359.length : Int)) = true := decide_eq_true c40
                  have c40b1 : decide (0 ≤ t359.length) = true := decide_eq_true (by omega)
                  clear c40
                  by_cases c41 : (t359.length : Int) < (t362.length : Int)
                  · rw [if_pos c41] at H
                    have c41b0 : decide ((t359.length : Int) < (t362.length : Int)) = true := decide_eq_true c41
                    have c41b1 : decide (t359.length < t362.length) = true := decide_eq_true (Int.ofNat_lt.mp c41)
                    clear c41
                    replace H := Option.bind_eq_some_iff.mp H
                    obtain ⟨t370, A420, H⟩ := H
                    replace H : (if (wrap64 ((rd t362 (t359.length : Int)) - t356)) = (wrap64 ((wrap64 (1000 * (t359.length : Int))) + t370)) then ((remontoirlaw04_works.f).bind fun t371 => (some t371)) else (some false)) = some r := H
                    have A42 := Aside0.mk A420
                    clear A420
                    by_cases c43 : (wrap64 ((rd t362 (t359.length : Int)) - t356)) = (wrap64 ((wrap64 (1000 * (t359.length : Int))) + t370))
                    · rw [if_pos c43] at H
                      have c43b0 : ((wrap64 ((rd t362 (t359.length : Int)) - t356)) == (wrap64 ((wrap64 (1000 * (t359.length : Int))) + t370))) = true := beq_iff_eq.mpr c43
                      have c43b1 : ((wrap64 ((rd t362 (t359.length : Int)) - t356)) != (wrap64 ((wrap64 (1000 * (t359.length : Int))) + t370))) = false := bne_eq_false_iff_eq.mpr c43
                      clear c43
                      replace H := Option.bind_eq_some_iff.mp H
                      obtain ⟨t371, A440, H⟩ := H
                      replace H : (some t371) = some r := H
                      have A44 := Aside0.mk A440
                      clear A440
                      obtain rfl := Option.some.inj H
                      try go_wp2
                      have n0_ := Aside0.mk (Kd.R_drew HO_10.out)
                      have n1_ := Aside0.mk (Kd.V_drew HO_11.out)
                      have n2_ := Aside0.mk (blk_drew BK347.out)
                      have n3_ := Aside0.mk (below_drew1 HB.out)
                      clear HO_10
                      clear HO_11
                      clear BK347
                      clear HB
                      have HO_10 := n0_
                      have HO_11 := n1_
                      have BK347 := n2_
                      have HB := n3_
                      clear n0_ n1_ n2_ n3_
                      obtain ⟨Ao46, co46, eo46⟩ := Kd.V_slice HO_11.out
                      (first | subst eo46 | (injection eo46 with f1_ f2_ f3_; have f4_ := f1_.symm; have f5_ := f3_.symm; clear f1_ f2_ f3_; subst f4_; subst f5_))
                      have p369 : 0 ≤ ((t359.length : Int) : Int) := of_decide_eq_true (by first | (with_reducible assumption) | assumption)
                      have q369 : (t359.length : Int) < (t362.length : Int) := of_decide_eq_true (by first | (with_reducible assumption) | assumption)
                      obtain ⟨ad369, e369, hx369_0⟩ := Kd.at_int (Kd.V_reads' HO_11.out).2.2 (t359.length : Int) p369 q369
                      cases e369
                      (try simp only [Go.IntWalk.toNatUp] at hx369_0)
                      replace p369 := eq_true p369
                      replace q369 := eq_true q369
                      refine start_ (n := 18) (S := fun w' => w'.cell? (ad369.add t359.length) = some (.int .i64 (rd t362 (t359.length : Int)))) (ds := []) #[false, false, false, false, false, false, false, false, false, false, false, false, false, false, false, false, false, false] (by kernel_rfl) rfl rfl (hx369_0) (fun hHeld => ?_); refine with_tabW remontoirlaw04_ScaleNever.tab15 remontoirlaw04_ScaleNever.bits15 (fun HT_ HW_ => ?_)
                      generalize wr.drew = w45 at HO_10 HO_11 BK347 HB hx369_0 hHeld ⊢
                      refine pure_ (i := 0) (N := some 91) (v := ?_) (a' := ?_) #[true, false, false, false, false, false, false, false, false, false, false, false, false, false, false, false, false, false] rfl rfl (any_of HT_.out (by kernel_rfl)) (fun _ _ _ h => h) (Or.inl ⟨by rfl, ?_⟩) ?_ ?_
                      rotate_left
                      · intro w'
                        go_simp
                        with_reducible rfl
                      rotate_left
                      · simp only [Act.put, List.setIfInBounds_toArray, List.set_cons_zero, List.set_cons_succ, i64_w, i32_w]
                        rfl
                      refine pure_ (i := 1) (N := some 92) (v := ?_) (a' := ?_) #[true, true, false, false, false, false, false, false, false, false, false, false, false, false, false, false, false, false] rfl rfl (any_of HT_.out (by kernel_rfl)) (fun _ _ _ h => h) (Or.inl ⟨by rfl, ?_⟩) ?_ ?_
                      rotate_left
                      · intro w'
                        go_simp
                        with_reducible rfl
                      rotate_left
                      · simp only [Act.put, List.setIfInBounds_toArray, List.set_cons_zero, List.set_cons_succ, i64_w, i32_w]
                        rfl
                      refine pure_ (i := 2) (N := some 93) (v := ?_) (a' := ?_) #[true, true, true, false, false, false, false, false, false, false, false, false, false, false, false, false, false, false] rfl rfl (any_of HT_.out (by kernel_rfl)) (fun _ _ _ h => h) (Or.inl ⟨by rfl, ?_⟩) ?_ ?_
                      rotate_left
                      · intro w'
                        go_simp
                        with_reducible rfl
                      rotate_left
                      · simp only [Act.put, List.setIfInBounds_toArray, List.set_cons_zero, List.set_cons_succ, i64_w, i32_w]
                        rfl
                      refine pure_ (i := 3) (N := some 94) (v := ?_) (a' := ?_) #[true, true, true, true, false, false, false, false, false, false, false, false, false, false, false, false, false, false] rfl rfl (any_of HT_.out (by kernel_rfl)) (fun _ _ _ h => h) (Or.inl ⟨by rfl, ?_⟩) ?_ ?_
                      rotate_left
                      · intro w'
                        go_simp
                        with_reducible rfl
                      rotate_left
                      · simp only [Act.put, List.setIfInBounds_toArray, List.set_cons_zero, List.set_cons_succ, i64_w, i32_w]
                        rfl
                      refine pure_ (i := 5) (N := some 96) (v := ?_) (a' := ?_) #[true, true, true, true, false, true, false, false, false, false, false, false, false, false, false, false, false, false] rfl rfl (any_of HT_.out (by kernel_rfl)) (fun _ _ _ h => h) (Or.inl ⟨by rfl, ?_⟩) ?_ ?_
                      rotate_left
                      · intro w'
                        go_simp
                        with_reducible rfl
                      rotate_left
                      · simp only [Act.put, List.setIfInBounds_toArray, List.set_cons_zero, List.set_cons_succ, i64_w, i32_w]
                        rfl
                      refine pure_ (i := 7) (N := some 98) (v := ?_) (a' := ?_) #[true, true, true, true, false, true, false, true, false, false, false, false, false, false, false, false, false, false] rfl rfl (any_of HT_.out (by kernel_rfl)) (fun _ _ _ h => h) (Or.inl ⟨by rfl, ?_⟩) ?_ ?_
                      rotate_left
                      · intro w'
                        go_simp
                        with_reducible rfl
                      rotate_left
                      · simp only [Act.put, List.setIfInBounds_toArray, List.set_cons_zero, List.set_cons_succ, i64_w, i32_w]
                        rfl
                      refine pure_ (i := 8) (N := some 99) (v := ?_) (a' := ?_) #[true, true, true, true, false, true, false, true, true, false, false, false, false, false, false, false, false, false] rfl rfl (any_of HT_.out (by kernel_rfl)) (fun _ _ _ h => h) (Or.inl ⟨by rfl, ?_⟩) ?_ ?_
                      rotate_left
                      · intro w'
                        go_simp
                        with_reducible rfl
                      rotate_left
                      · simp only [Act.put, List.setIfInBounds_toArray, List.set_cons_zero, List.set_cons_succ, i64_w, i32_w]
                        rfl
                      refine pure_ (i := 9) (N := some 100) (v := ?_) (a' := ?_) #[true, true, true, true, false, true, false, true, true, true, false, false, false, false, false, false, false, false] rfl rfl (any_of HT_.out (by kernel_rfl)) (fun _ _ _ h => h) (Or.inl ⟨by rfl, ?_⟩) ?_ ?_
                      rotate_left
                      · intro w'
                        go_simp
                        with_reducible rfl
                      rotate_left
                      · simp only [Act.put, List.setIfInBounds_toArray, List.set_cons_zero, List.set_cons_succ, i64_w, i32_w]
                        rfl
                      refine pure_ (i := 10) (N := some 101) (v := ?_) (a' := ?_) #[true, true, true, true, false, true, false, true, true, true, true, false, false, false, false, false, false, false] rfl rfl (any_of HT_.out (by kernel_rfl)) (fun _ _ _ h => h) (Or.inl ⟨by rfl, ?_⟩) ?_ ?_
                      rotate_left
                      · intro w'
                        go_simp
                        with_reducible rfl
                      rotate_left
                      · simp only [Act.put, List.setIfInBounds_toArray, List.set_cons_zero, List.set_cons_succ, i64_w, i32_w]
                        rfl
                      refine take_ (i := 4) (N := some 95) (v := ?_) (a' := ?_) #[true, true, true, true, true, true, false, true, true, true, true, false, false, false, false, false, false, false] rfl rfl (take_ofW HT_.out HW_.out (by kernel_rfl)) (fun _ _ _ h => h) (Or.inl ⟨by rfl, ?_⟩) hHeld ?_ ?_
                      rotate_left
                      · intro w' s0
                        go_simp
                        with_reducible rfl
                      rotate_left
                      · simp only [Act.put, List.setIfInBounds_toArray, List.set_cons_zero, List.set_cons_succ, i64_w, i32_w]
                        rfl
                      refine pure_ (i := 6) (N := some 97) (v := ?_) (a' := ?_) #[true, true, true, true, true, true, true, true, true, true, true, false, false, false, false, false, false, false] rfl rfl (any_of HT_.out (by kernel_rfl)) (fun _ _ _ h => h) (Or.inl ⟨by rfl, ?_⟩) ?_ ?_
                      rotate_left
                      · intro w'
                        go_simp
                        with_reducible rfl
                      rotate_left
                      · simp only [Act.put, List.setIfInBounds_toArray, List.set_cons_zero, List.set_cons_succ, i64_w, i32_w]
                        rfl
                      refine one_ (i := 11) (N := some 102) #[true, true, true, true, true, true, true, true, true, true, true, true, false, false, false, false, false, false] rfl rfl (one_of HT_.out (by kernel_rfl)) (by decide) (fun K hK => ?_)
                      refine goes_ Tryd.func41 (by kernel_rfl) rfl #[.slice Ao18 t359.length co18] (by rfl) rfl rfl (by (try simp only [List.map_toArray, List.map_cons, List.map_nil]); first | done | rfl | (simp only [List.length_drop, List.length_take]; rfl)) ?_
                      with_reducible refine (remontoirref00_Total.calls k2 _ _ t359 t370 _ ?side1 ?side2 A42.out).mono ?_
                      (case side1 => repeat (first | exact (Kd.R_reads' HO_10.out).2.2 | (with_reducible refine Kd.C_alloc ?_ _) | (with_reducible refine Kd.C_drewN ?_ _) | (with_reducible refine Kd.C_drew ?_)))
                      (case side2 => exact (Kd.R_reads' HO_10.out).2.1)
                      rintro e w' ⟨rfl, ⟨nd, rfl⟩⟩
                      refine ⟨_, rfl, ?_⟩
                      refine hK.out _ _ (hHeld) (fun hHeld => ?_)
                      clear hK K
                      refine norm_ (a' := ?_) ?_ ?_
                      rotate_left
                      · show Act.put _ (some 102) _ = _
                        simp only [Act.put, List.setIfInBounds_toArray, List.set_cons_zero, List.set_cons_succ, i64_w, i32_w]
                        rfl
                      refine pure_ (i := 12) (N := some 103) (v := ?_) (a' := ?_) #[true, true, true, true, true, true, true, true, true, true, true, true, true, false, false, false, false, false] rfl rfl (any_of HT_.out (by kernel_rfl)) (fun _ _ _ h => h) (Or.inl ⟨by rfl, ?_⟩) ?_ ?_
                      rotate_left
                      · intro w'
                        go_simp
                        with_reducible rfl
                      rotate_left
                      · simp only [Act.put, List.setIfInBounds_toArray, List.set_cons_zero, List.set_cons_succ, i64_w, i32_w]
                        rfl
                      refine pure_ (i := 13) (N := some 104) (v := ?_) (a' := ?_) #[true, true, true, true, true, true, true, true, true, true, true, true, true, true, false, false, false, false] rfl rfl (any_of HT_.out (by kernel_rfl)) (fun _ _ _ h => h) (Or.inl ⟨by rfl, ?_⟩) ?_ ?_
                      rotate_left
                      · intro w'
                        go_simp
                        with_reducible rfl
                      rotate_left
                      · simp only [Act.put, List.setIfInBounds_toArray, List.set_cons_zero, List.set_cons_succ, i64_w, i32_w]
                        rfl
                      refine pure_ (i := 14) (N := some 105) (v := ?_) (a' := ?_) #[true, true, true, true, true, true, true, true, true, true, true, true, true, true, true, false, false, false] rfl rfl (any_of HT_.out (by kernel_rfl)) (fun _ _ _ h => h) (Or.inl ⟨by rfl, ?_⟩) ?_ ?_
                      rotate_left
                      · intro w'
                        go_simp
                        with_reducible rfl
                      rotate_left
                      · simp only [Act.put, List.setIfInBounds_toArray, List.set_cons_zero, List.set_cons_succ, i64_w, i32_w]
                        rfl
                      refine one_ (i := 15) (N := some 106) #[true, true, true, true, true, true, true, true, true, true, true, true, true, true, true, true, false, false] rfl rfl (one_of HT_.out (by kernel_rfl)) (by decide) (fun K hK => ?_)
                      refine goes_ Tryd.func21 (by kernel_rfl) rfl #[] (by rfl) rfl rfl (by (try simp only [List.map_toArray, List.map_cons, List.map_nil]); first | done | rfl | (simp only [List.length_drop, List.length_take]; rfl)) ?_
                      with_reducible refine (remontoirlaw04_works.calls  t371 _ ?side1 A44.out).mono ?_
                      (case side1 => exact Go.Proofs.YtidnopmjhhmedaaDoor.Ways.below HWays.out (by repeat (first | (with_reducible first | exact HB.out | apply below_alloc | apply pw_below_drewN | apply below_drew1 | refine below_set ?_ GE347.out) | exact HB.out)))
                      rintro e w47 ⟨rfl, hb⟩
                      have HS0_ := (hb.cell (World.block_lt_of_cell? _ _ (hHeld))).trans (hHeld)
                      refine ⟨_, rfl, ?_⟩
                      have n0_ := Aside0.mk (Kd.R_below (by (with_reducible repeat (first | apply Kd.R_alloc | apply Kd.R_drewN | apply Kd.R_drew)); exact HO_10.out) hb)
                      have n1_ := Aside0.mk (Kd.V_below (by (with_reducible repeat (first | apply Kd.V_alloc | apply Kd.V_drewN | apply Kd.V_drew)); exact HO_11.out) hb)
                      have n2_ := Aside0.mk (blk_below (g := gb347) (o := .cells #[.int .i64 a0_0, .int .i64 a0_1, .int .i64 a0_2, .int .i64 a0_3, .int .i64 a0_4] 25 (0, 0)) (by (with_reducible repeat (first | refine blk_drewN ?_ _ | refine blk_drew ?_ | refine blk_alloc ?_ _)); exact BK347.out) hb)
                      have n3_ := Aside0.mk (below_step (by repeat (first | (with_reducible first | exact HB.out | apply below_alloc | apply pw_below_drewN | apply below_drew1 | refine below_set ?_ GE347.out) | exact HB.out)) hb)
                      clear HO_10
                      clear HO_11
                      clear BK347
                      clear HB
                      have HO_10 := n0_
                      have HO_11 := n1_
                      have BK347 := n2_
                      have HB := n3_
                      clear n0_ n1_ n2_ n3_
                      (try clear hb)
                      (try clear hb2)
                      (try clear hk)
                      (try clear hi)
                      refine hK.out _ _ (HS0_) (fun hHeld => ?_)
                      clear hK K
                      refine norm_ (a' := ?_) ?_ ?_
                      rotate_left
                      · show Act.put _ (some 106) _ = _
                        simp only [Act.put, List.setIfInBounds_toArray, List.set_cons_zero, List.set_cons_succ, i64_w, i32_w]
                        rfl
                      refine pure_ (i := 16) (N := some 107) (v := ?_) (a' := ?_) #[true, true, true, true, true, true, true, true, true, true, true, true, true, true, true, true, true, false] rfl rfl (any_of HT_.out (by kernel_rfl)) (fun _ _ _ h => h) (Or.inl ⟨by rfl, ?_⟩) ?_ ?_
                      rotate_left
                      · intro w'
                        go_simp
                        with_reducible rfl
                      rotate_left
                      · simp only [Act.put, List.setIfInBounds_toArray, List.set_cons_zero, List.set_cons_succ, i64_w, i32_w]
                        rfl
                      refine pure_ (i := 17) (N := some 6) (v := ?_) (a' := ?_) #[true, true, true, true, true, true, true, true, true, true, true, true, true, true, true, true, true, true] rfl rfl (any_of HT_.out (by kernel_rfl)) (fun _ _ _ h => h) (Or.inl ⟨by rfl, ?_⟩) ?_ ?_
                      rotate_left
                      · intro w'
                        go_simp
                        with_reducible rfl
                      rotate_left
                      · simp only [Act.put, List.setIfInBounds_toArray, List.set_cons_zero, List.set_cons_succ, i64_w, i32_w]
                        rfl
                      refine done_ (done_of HT_.out (by kernel_rfl)) ?_
                      try go_wp2
                      go_ret
                      exact ⟨by first | rfl | (simp [errW_none, errW_some] <;> rfl) | (simp [*, errW_none, errW_some] <;> rfl), by repeat (first | (with_reducible first | exact HB.out | apply below_alloc | apply pw_below_drewN | apply below_drew1 | refine below_set ?_ GE347.out) | exact HB.out)⟩
                    · rw [if_neg c43] at H
                      have c43b0 : ((wrap64 ((rd t362 (t359.length : Int)) - t356)) == (wrap64 ((wrap64 (1000 * (t359.length : Int))) + t370))) = false := beq_eq_false_iff_ne.mpr c43
                      have c43b1 : ((wrap64 ((rd t362 (t359.length : Int)) - t356)) != (wrap64 ((wrap64 (1000 * (t359.length : Int))) + t370))) = true := bne_iff_ne.mpr c43
                      obtain rfl := Option.some.inj H
                      try go_wp2
                      have n0_ := Aside0.mk (Kd.R_drew HO_10.out)
                      have n1_ := Aside0.mk (Kd.V_drew HO_11.out)
                      have n2_ := Aside0.mk (blk_drew BK347.out)
                      have n3_ := Aside0.mk (below_drew1 HB.out)
                      clear HO_10
                      clear HO_11
                      clear BK347
                      clear HB
                      have HO_10 := n0_
                      have HO_11 := n1_
                      have BK347 := n2_
                      have HB := n3_
                      clear n0_ n1_ n2_ n3_
                      obtain ⟨Ao49, co49, eo49⟩ := Kd.V_slice HO_11.out
                      (first | subst eo49 | (injection eo49 with f1_ f2_ f3_; have f4_ := f1_.symm; have f5_ := f3_.symm; clear f1_ f2_ f3_; subst f4_; subst f5_))
                      have p369 : 0 ≤ ((t359.length : Int) : Int) := of_decide_eq_true (by first | (with_reducible assumption) | assumption)
                      have q369 : (t359.length : Int) < (t362.length : Int) := of_decide_eq_true (by first | (with_reducible assumption) | assumption)
                      obtain ⟨ad369, e369, hx369_0⟩ := Kd.at_int (Kd.V_reads' HO_11.out).2.2 (t359.length : Int) p369 q369
                      cases e369
                      (try simp only [Go.IntWalk.toNatUp] at hx369_0)
                      replace p369 := eq_true p369
                      replace q369 := eq_true q369
                      refine start_ (n := 18) (S := fun w' => w'.cell? (ad369.add t359.length) = some (.int .i64 (rd t362 (t359.length : Int)))) (ds := []) #[false, false, false, false, false, false, false, false, false, false, false, false, false, false, false, false, false, false] (by kernel_rfl) rfl rfl (hx369_0) (fun hHeld => ?_); refine with_tabW remontoirlaw04_ScaleNever.tab15 remontoirlaw04_ScaleNever.bits15 (fun HT_ HW_ => ?_)
                      generalize wr.drew = w48 at HO_10 HO_11 BK347 HB hx369_0 hHeld ⊢
                      refine pure_ (i := 0) (N := some 91) (v := ?_) (a' := ?_) #[true, false, false, false, false, false, false, false, false, false, false, false, false, false, false, false, false, false] rfl rfl (any_of HT_.out (by kernel_rfl)) (fun _ _ _ h => h) (Or.inl ⟨by rfl, ?_⟩) ?_ ?_
                      rotate_left
                      · intro w'
                        go_simp
                        with_reducible rfl
                      rotate_left
                      · simp only [Act.put, List.setIfInBounds_toArray, List.set_cons_zero, List.set_cons_succ, i64_w, i32_w]
                        rfl
                      refine pure_ (i := 1) (N := some 92) (v := ?_) (a' := ?_) #[true, true, false, false, false, false, false, false, false, false, false, false, false, false, false, false, false, false] rfl rfl (any_of HT_.out (by kernel_rfl)) (fun _ _ _ h => h) (Or.inl ⟨by rfl, ?_⟩) ?_ ?_
                      rotate_left
                      · intro w'
                        go_simp
                        with_reducible rfl
                      rotate_left
                      · simp only [Act.put, List.setIfInBounds_toArray, List.set_cons_zero, List.set_cons_succ, i64_w, i32_w]
                        rfl
                      refine pure_ (i := 2) (N := some 93) (v := ?_) (a' := ?_) #[true, true, true, false, false, false, false, false, false, false, false, false, false, false, false, false, false, false] rfl rfl (any_of HT_.out (by kernel_rfl)) (fun _ _ _ h => h) (Or.inl ⟨by rfl, ?_⟩) ?_ ?_
                      rotate_left
                      · intro w'
                        go_simp
                        with_reducible rfl
                      rotate_left
                      · simp only [Act.put, List.setIfInBounds_toArray, List.set_cons_zero, List.set_cons_succ, i64_w, i32_w]
                        rfl
                      refine pure_ (i := 3) (N := some 94) (v := ?_) (a' := ?_) #[true, true, true, true, false, false, false, false, false, false, false, false, false, false, false, false, false, false] rfl rfl (any_of HT_.out (by kernel_rfl)) (fun _ _ _ h => h) (Or.inl ⟨by rfl, ?_⟩) ?_ ?_
                      rotate_left
                      · intro w'
                        go_simp
                        with_reducible rfl
                      rotate_left
                      · simp only [Act.put, List.setIfInBounds_toArray, List.set_cons_zero, List.set_cons_succ, i64_w, i32_w]
                        rfl
                      refine pure_ (i := 5) (N := some 96) (v := ?_) (a' := ?_) #[true, true, true, true, false, true, false, false, false, false, false, false, false, false, false, false, false, false] rfl rfl (any_of HT_.out (by kernel_rfl)) (fun _ _ _ h => h) (Or.inl ⟨by rfl, ?_⟩) ?_ ?_
                      rotate_left
                      · intro w'
                        go_simp
                        with_reducible rfl
                      rotate_left
                      · simp only [Act.put, List.setIfInBounds_toArray, List.set_cons_zero, List.set_cons_succ, i64_w, i32_w]
                        rfl
                      refine pure_ (i := 7) (N := some 98) (v := ?_) (a' := ?_) #[true, true, true, true, false, true, false, true, false, false, false, false, false, false, false, false, false, false] rfl rfl (any_of HT_.out (by kernel_rfl)) (fun _ _ _ h => h) (Or.inl ⟨by rfl, ?_⟩) ?_ ?_
                      rotate_left
                      · intro w'
                        go_simp
                        with_reducible rfl
                      rotate_left
                      · simp only [Act.put, List.setIfInBounds_toArray, List.set_cons_zero, List.set_cons_succ, i64_w, i32_w]
                        rfl
                      refine pure_ (i := 8) (N := some 99) (v := ?_) (a' := ?_) #[true, true, true, true, false, true, false, true, true, false, false, false, false, false, false, false, false, false] rfl rfl (any_of HT_.out (by kernel_rfl)) (fun _ _ _ h => h) (Or.inl ⟨by rfl, ?_⟩) ?_ ?_
                      rotate_left
                      · intro w'
                        go_simp
                        with_reducible rfl
                      rotate_left
                      · simp only [Act.put, List.setIfInBounds_toArray, List.set_cons_zero, List.set_cons_succ, i64_w, i32_w]
                        rfl
                      refine pure_ (i := 9) (N := some 100) (v := ?_) (a' := ?_) #[true, true, true, true, false, true, false, true, true, true, false, false, false, false, false, false, false, false] rfl rfl (any_of HT_.out (by kernel_rfl)) (fun _ _ _ h => h) (Or.inl ⟨by rfl, ?_⟩) ?_ ?_
                      rotate_left
                      · intro w'
                        go_simp
                        with_reducible rfl
                      rotate_left
                      · simp only [Act.put, List.setIfInBounds_toArray, List.set_cons_zero, List.set_cons_succ, i64_w, i32_w]
                        rfl
                      refine pure_ (i := 10) (N := some 101) (v := ?_) (a' := ?_) #[true, true, true, true, false, true, false, true, true, true, true, false, false, false, false, false, false, false] rfl rfl (any_of HT_.out (by kernel_rfl)) (fun _ _ _ h => h) (Or.inl ⟨by rfl, ?_⟩) ?_ ?_
                      rotate_left
                      · intro w'
                        go_simp
                        with_reducible rfl
                      rotate_left
                      · simp only [Act.put, List.setIfInBounds_toArray, List.set_cons_zero, List.set_cons_succ, i64_w, i32_w]
                        rfl
                      refine take_ (i := 4) (N := some 95) (v := ?_) (a' := ?_) #[true, true, true, true, true, true, false, true, true, true, true, false, false, false, false, false, false, false] rfl rfl (take_ofW HT_.out HW_.out (by kernel_rfl)) (fun _ _ _ h => h) (Or.inl ⟨by rfl, ?_⟩) hHeld ?_ ?_
                      rotate_left
                      · intro w' s0
                        go_simp
                        with_reducible rfl
                      rotate_left
                      · simp only [Act.put, List.setIfInBounds_toArray, List.set_cons_zero, List.set_cons_succ, i64_w, i32_w]
                        rfl
                      refine pure_ (i := 6) (N := some 97) (v := ?_) (a' := ?_) #[true, true, true, true, true, true, true, true, true, true, true, false, false, false, false, false, false, false] rfl rfl (any_of HT_.out (by kernel_rfl)) (fun _ _ _ h => h) (Or.inl ⟨by rfl, ?_⟩) ?_ ?_
                      rotate_left
                      · intro w'
                        go_simp
                        with_reducible rfl
                      rotate_left
                      · simp only [Act.put, List.setIfInBounds_toArray, List.set_cons_zero, List.set_cons_succ, i64_w, i32_w]
                        rfl
                      refine one_ (i := 11) (N := some 102) #[true, true, true, true, true, true, true, true, true, true, true, true, false, false, false, false, false, false] rfl rfl (one_of HT_.out (by kernel_rfl)) (by decide) (fun K hK => ?_)
                      refine goes_ Tryd.func41 (by kernel_rfl) rfl #[.slice Ao18 t359.length co18] (by rfl) rfl rfl (by (try simp only [List.map_toArray, List.map_cons, List.map_nil]); first | done | rfl | (simp only [List.length_drop, List.length_take]; rfl)) ?_
                      with_reducible refine (remontoirref00_Total.calls k2 _ _ t359 t370 _ ?side1 ?side2 A42.out).mono ?_
                      (case side1 => repeat (first | exact (Kd.R_reads' HO_10.out).2.2 | (with_reducible refine Kd.C_alloc ?_ _) | (with_reducible refine Kd.C_drewN ?_ _) | (with_reducible refine Kd.C_drew ?_)))
                      (case side2 => exact (Kd.R_reads' HO_10.out).2.1)
                      rintro e w' ⟨rfl, ⟨nd, rfl⟩⟩
                      refine ⟨_, rfl, ?_⟩
                      refine hK.out _ _ (hHeld) (fun hHeld => ?_)
                      clear hK K
                      refine norm_ (a' := ?_) ?_ ?_
                      rotate_left
                      · show Act.put _ (some 102) _ = _
                        simp only [Act.put, List.setIfInBounds_toArray, List.set_cons_zero, List.set_cons_succ, i64_w, i32_w]
                        rfl
                      refine pure_ (i := 12) (N := some 103) (v := ?_) (a' := ?_) #[true, true, true, true, true, true, true, true, true, true, true, true, true, false, false, false, false, false] rfl rfl (any_of HT_.out (by kernel_rfl)) (fun _ _ _ h => h) (Or.inl ⟨by rfl, ?_⟩) ?_ ?_
                      rotate_left
                      · intro w'
                        go_simp
                        with_reducible rfl
                      rotate_left
                      · simp only [Act.put, List.setIfInBounds_toArray, List.set_cons_zero, List.set_cons_succ, i64_w, i32_w]
                        rfl
                      refine pure_ (i := 13) (N := some 104) (v := ?_) (a' := ?_) #[true, true, true, true, true, true, true, true, true, true, true, true, true, true, false, false, false, false] rfl rfl (any_of HT_.out (by kernel_rfl)) (fun _ _ _ h => h) (Or.inl ⟨by rfl, ?_⟩) ?_ ?_
                      rotate_left
                      · intro w'
                        go_simp
                        with_reducible rfl
                      rotate_left
                      · simp only [Act.put, List.setIfInBounds_toArray, List.set_cons_zero, List.set_cons_succ, i64_w, i32_w]
                        rfl
                      refine pure_ (i := 14) (N := some 105) (v := ?_) (a' := ?_) #[true, true, true, true, true, true, true, true, true, true, true, true, true, true, true, false, false, false] rfl rfl (any_of HT_.out (by kernel_rfl)) (fun _ _ _ h => h) (Or.inl ⟨by rfl, ?_⟩) ?_ ?_
                      rotate_left
                      · intro w'
                        go_simp
                        with_reducible rfl
                      rotate_left
                      · simp only [Act.put, List.setIfInBounds_toArray, List.set_cons_zero, List.set_cons_succ, i64_w, i32_w]
                        rfl
                      refine pure_ (i := 15) (N := some 106) (v := undef) (a' := ?_) #[true, true, true, true, true, true, true, true, true, true, true, true, true, true, true, true, false, false] rfl rfl (any_of HT_.out (by kernel_rfl)) (fun _ _ _ h => h) (Or.inr ⟨by rfl, rfl⟩) ?_ ?_
                      rotate_left
                      · simp only [Act.put, List.setIfInBounds_toArray, List.set_cons_zero, List.set_cons_succ, i64_w, i32_w]
                        rfl
                      refine pure_ (i := 16) (N := some 107) (v := ?_) (a' := ?_) #[true, true, true, true, true, true, true, true, true, true, true, true, true, true, true, true, true, false] rfl rfl (any_of HT_.out (by kernel_rfl)) (fun _ _ _ h => h) (Or.inl ⟨by rfl, ?_⟩) ?_ ?_
                      rotate_left
                      · intro w'
                        go_simp
                        with_reducible rfl
                      rotate_left
                      · simp only [Act.put, List.setIfInBounds_toArray, List.set_cons_zero, List.set_cons_succ, i64_w, i32_w]
                        rfl
                      refine pure_ (i := 17) (N := some 6) (v := ?_) (a' := ?_) #[true, true, true, true, true, true, true, true, true, true, true, true, true, true, true, true, true, true] rfl rfl (any_of HT_.out (by kernel_rfl)) (fun _ _ _ h => h) (Or.inl ⟨by rfl, ?_⟩) ?_ ?_
                      rotate_left
                      · intro w'
                        go_simp
                        with_reducible rfl
                      rotate_left
                      · simp only [Act.put, List.setIfInBounds_toArray, List.set_cons_zero, List.set_cons_succ, i64_w, i32_w]
                        rfl
                      refine done_ (done_of HT_.out (by kernel_rfl)) ?_
                      try go_wp2
                      go_ret
                      exact ⟨by first | rfl | (simp [errW_none, errW_some] <;> rfl) | (simp [*, errW_none, errW_some] <;> rfl), by repeat (first | (with_reducible first | exact HB.out | apply below_alloc | apply pw_below_drewN | apply below_drew1 | refine below_set ?_ GE347.out) | exact HB.out)⟩
                  · rw [if_neg c41] at H
                    exact absurd H (by simp)
                · rw [if_neg c40] at H
                  exact absurd H (by simp)
  · replace c5 := Bool.eq_false_iff.mpr c5
    subst c5
    have H1 : ((scale_Shown.f a0_0 a0_1 a0_2 a0_3 a0_4 0 ([] : List Int)).bind fun bt349 => (if bt349.2 = 40 then (if (bt349.1.length : Int) = 0 then ((remontoirlaw04_works.f).bind fun t353 => (some t353)) else (if bt349.2 = 0 then ((remontoirlaw04_works.f).bind fun t354 => (some t354)) else (some false))) else (if bt349.2 = 0 then ((remontoirlaw04_works.f).bind fun t355 => (some t355)) else (some false)))) = some r := by rw [if_neg (show ¬ (false = true) by decide)] at H; exact H
    clear H
    have H := H1
    clear H1
    replace H := Option.bind_eq_some_iff.mp H
    obtain ⟨⟨t349, t352⟩, A500, H⟩ := H
    replace H : (if t352 = 40 then (if (t349.length : Int) = 0 then ((remontoirlaw04_works.f).bind fun t353 => (some t353)) else (if t352 = 0 then ((remontoirlaw04_works.f).bind fun t354 => (some t354)) else (some false))) else (if t352 = 0 then ((remontoirlaw04_works.f).bind fun t355 => (some t355)) else (some false))) = some r := H
    have A50 := Aside0.mk A500
    clear A500
    by_cases c51 : t352 = 40
    · rw [if_pos c51] at H
      have c51b0 : (t352 == 40) = true := beq_iff_eq.mpr c51
      have c51b1 : (t352 != 40) = false := bne_eq_false_iff_eq.mpr c51
      clear c51
      by_cases c52 : (t349.length : Int) = 0
      · rw [if_pos c52] at H
        have c52b0 : ((t349.length : Int) == 0) = true := beq_iff_eq.mpr c52
        have c52b1 : ((t349.length : Int) != 0) = false := bne_eq_false_iff_eq.mpr c52
        clear c52
        replace H := Option.bind_eq_some_iff.mp H
        obtain ⟨t353, A530, H⟩ := H
        replace H : (some t353) = some r := H
        have A53 := Aside0.mk A530
        clear A530
        obtain rfl := Option.some.inj H
        go_enter Tryd.func7, Tryd.ntmps7
        go_wp2_with (first | ((with_reducible refine gate_dst (N := 3) rfl ?_); (try (refine gate_guard (by rfl) ?_; dsimp only)); refine box_event ?hg (N := 3) ?hd (cs := #[.int .i64 a0_0, .int .i64 a0_1, .int .i64 a0_2, .int .i64 a0_3, .int .i64 a0_4]) (t := 25) ?hr ?_; (case hd => rfl); (case hg => rfl); (case hr => first | (go_simp; done) | (go_simp; rfl)); intro gb347 hg w54 hbox hb; have n0_ := Aside0.mk (below_step (by repeat (first | (with_reducible first | exact HB.out | apply below_alloc | apply pw_below_drewN | apply below_drew1) | exact HB.out)) hb); have n1_ := Aside0.mk (hbox); have n2_ := Aside0.mk ((by rw [hg]; exact (below_size (by repeat (first | (with_reducible first | exact HB.out | apply below_alloc | apply pw_below_drewN | apply below_drew1) | exact HB.out))) : w.heap.size ≤ gb347)); have n3_ := Aside0.mk ((by rw [hg]; exact (below_size (by repeat (first | (with_reducible first | exact HB.out | apply below_alloc | apply pw_below_drewN | apply below_drew1) | exact HB.out))) : w.heap.size ≤ gb347)); clear HB; have HB := n0_; have BK347 := n1_; have GW347 := n2_; have GE347 := n3_; clear n0_ n1_ n2_ n3_; clear hb hbox hg; have hcz55_0 : w54.cell? ⟨gb347, 0, none⟩ = some (.int .i64 a0_0) := (blk_cell BK347.out 0).trans rfl; have hcz55_1 : w54.cell? ⟨gb347, 1, none⟩ = some (.int .i64 a0_1) := (blk_cell BK347.out 1).trans rfl; have hcz55_2 : w54.cell? ⟨gb347, 2, none⟩ = some (.int .i64 a0_2) := (blk_cell BK347.out 2).trans rfl; have hcz55_3 : w54.cell? ⟨gb347, 3, none⟩ = some (.int .i64 a0_3) := (blk_cell BK347.out 3).trans rfl; have hcz55_4 : w54.cell? ⟨gb347, 4, none⟩ = some (.int .i64 a0_4) := (blk_cell BK347.out 4).trans rfl; have hfz55_0 := blk_frozen BK347.out 0; have hfz55_1 := blk_frozen BK347.out 1; have hfz55_2 := blk_frozen BK347.out 2; have hfz55_3 := blk_frozen BK347.out 3; have hfz55_4 := blk_frozen BK347.out 4) | ((with_reducible refine gate_callee (f := 37) rfl ?_); refine goesL_ (some 16) rfl rfl Tryd.func37 (by kernel_rfl) rfl #[.agg #[.int .i64 a0_0, .int .i64 a0_1, .int .i64 a0_2, .int .i64 a0_3, .int .i64 a0_4]] rfl (by (try simp only [List.map_toArray, List.map_cons, List.map_nil]); first | done | rfl | (simp only [List.length_drop, List.length_take]; rfl)) ?_; (with_reducible refine (remontoirlaw04_isRule.calls a0_0 a0_1 a0_2 a0_3 a0_4 false _ ?side1 A4.out).mono ?_); (case side1 => exact Go.Proofs.YtidnopmjhhmedaaDoor.Ways.below HWays.out (by repeat (first | (with_reducible first | exact HB.out | apply below_alloc | apply pw_below_drewN | apply below_drew1 | refine below_set ?_ GE347.out) | exact HB.out))); rintro e w56 ⟨rfl, hb⟩; refine ⟨_, rfl, ?_⟩; have n0_ := Aside0.mk (blk_below (g := gb347) (o := .cells #[.int .i64 a0_0, .int .i64 a0_1, .int .i64 a0_2, .int .i64 a0_3, .int .i64 a0_4] 25 (0, 0)) (by (with_reducible repeat (first | refine blk_drewN ?_ _ | refine blk_drew ?_ | refine blk_alloc ?_ _)); exact BK347.out) hb); have n1_ := Aside0.mk (below_step (by repeat (first | (with_reducible first | exact HB.out | apply below_alloc | apply pw_below_drewN | apply below_drew1 | refine below_set ?_ GE347.out) | exact HB.out)) hb); clear BK347; clear HB; have BK347 := n0_; have HB := n1_; clear n0_ n1_; (try clear hb); (try clear hb2); (try clear hk); (try clear hi); have hcz57_0 : w56.cell? ⟨gb347, 0, none⟩ = some (.int .i64 a0_0) := (blk_cell BK347.out 0).trans rfl; have hcz57_1 : w56.cell? ⟨gb347, 1, none⟩ = some (.int .i64 a0_1) := (blk_cell BK347.out 1).trans rfl; have hcz57_2 : w56.cell? ⟨gb347, 2, none⟩ = some (.int .i64 a0_2) := (blk_cell BK347.out 2).trans rfl; have hcz57_3 : w56.cell? ⟨gb347, 3, none⟩ = some (.int .i64 a0_3) := (blk_cell BK347.out 3).trans rfl; have hcz57_4 : w56.cell? ⟨gb347, 4, none⟩ = some (.int .i64 a0_4) := (blk_cell BK347.out 4).trans rfl; have hfz57_0 := blk_frozen BK347.out 0; have hfz57_1 := blk_frozen BK347.out 1; have hfz57_2 := blk_frozen BK347.out 2; have hfz57_3 := blk_frozen BK347.out 3; have hfz57_4 := blk_frozen BK347.out 4) | ((with_reducible refine gate_callee (f := 24) rfl ?_); refine goesL_ (some 20) rfl rfl Tryd.func24 (by kernel_rfl) rfl #[.agg #[.int .i64 a0_0, .int .i64 a0_1, .int .i64 a0_2, .int .i64 a0_3, .int .i64 a0_4], .int .i64 0, .slice none 0 0] rfl (by (try simp only [List.map_toArray, List.map_cons, List.map_nil]); first | done | rfl | (simp only [List.length_drop, List.length_take]; rfl)) ?_; (refine (scale_Shown.calls a0_0 a0_1 a0_2 a0_3 a0_4 0 _ _ ([] : List Int) t349 t352 _ ?side1 ?side2 ?side3 A50.out).mono ?_); (case side1 => exact Kd.C_nil _ _); (case side2 => exact Nat.le_refl _); (case side3 => exact Go.Proofs.YtidnopmjhhmedaaDoor.Ways.below HWays.out (by repeat (first | (with_reducible first | exact HB.out | apply below_alloc | apply pw_below_drewN | apply below_drew1 | refine below_set ?_ GE347.out) | exact HB.out))); rintro e w58 ⟨v350, rfl, ho0, hb⟩; refine ⟨_, rfl, ?_⟩; have n0_ := Aside0.mk (Kd.V_lower (Kd.V_mono (ok' := fun k_ => k_ ≠ gb347) ho0 (fun k_ hk_ => (Kd.freshB (g := gb347) (o := .cells #[.int .i64 a0_0, .int .i64 a0_1, .int .i64 a0_2, .int .i64 a0_3, .int .i64 a0_4] 25 (0, 0)) (by (with_reducible repeat (first | refine blk_drewN ?_ _ | refine blk_drew ?_ | refine blk_alloc ?_ _)); exact BK347.out) k_ hk_))) (below_size (by repeat (first | (with_reducible first | exact HB.out | apply below_alloc | apply pw_below_drewN | apply below_drew1 | refine below_set ?_ GE347.out) | exact HB.out)))); have n1_ := Aside0.mk (blk_below (g := gb347) (o := .cells #[.int .i64 a0_0, .int .i64 a0_1, .int .i64 a0_2, .int .i64 a0_3, .int .i64 a0_4] 25 (0, 0)) (by (with_reducible repeat (first | refine blk_drewN ?_ _ | refine blk_drew ?_ | refine blk_alloc ?_ _)); exact BK347.out) hb); have n2_ := Aside0.mk (below_step (by repeat (first | (with_reducible first | exact HB.out | apply below_alloc | apply pw_below_drewN | apply below_drew1 | refine below_set ?_ GE347.out) | exact HB.out)) hb); clear BK347; clear HB; have HO351 := n0_; have BK347 := n1_; have HB := n2_; clear n0_ n1_ n2_; (try clear hb); (try clear hb2); (try clear hk); (try clear hi); (try clear ho0); obtain ⟨Ao59, co59, eo59⟩ := Kd.V_slice HO351.out; subst eo59) | (go_at_call 21; (with_reducible refine (remontoirlaw04_works.calls  t353 _ ?side1 A53.out).mono ?_); (case side1 => exact Go.Proofs.YtidnopmjhhmedaaDoor.Ways.below HWays.out (by repeat (first | (with_reducible first | exact HB.out | apply below_alloc | apply pw_below_drewN | apply below_drew1 | refine below_set ?_ GE347.out) | exact HB.out))); rintro e w60 ⟨rfl, hb⟩; have n0_ := Aside0.mk (Kd.V_below (by (with_reducible repeat (first | apply Kd.V_alloc | apply Kd.V_drewN | apply Kd.V_drew)); exact HO351.out) hb); have n1_ := Aside0.mk (blk_below (g := gb347) (o := .cells #[.int .i64 a0_0, .int .i64 a0_1, .int .i64 a0_2, .int .i64 a0_3, .int .i64 a0_4] 25 (0, 0)) (by (with_reducible repeat (first | refine blk_drewN ?_ _ | refine blk_drew ?_ | refine blk_alloc ?_ _)); exact BK347.out) hb); have n2_ := Aside0.mk (below_step (by repeat (first | (with_reducible first | exact HB.out | apply below_alloc | apply pw_below_drewN | apply below_drew1 | refine below_set ?_ GE347.out) | exact HB.out)) hb); clear HO351; clear BK347; clear HB; have HO351 := n0_; have BK347 := n1_; have HB := n2_; clear n0_ n1_ n2_; (try clear hb); (try clear hb2); (try clear hk); (try clear hi)))
        go_ret
        exact ⟨by first | rfl | (simp [errW_none, errW_some] <;> rfl) | (simp [*, errW_none, errW_some] <;> rfl), by repeat (first | (with_reducible first | exact HB.out | apply below_alloc | apply pw_below_drewN | apply below_drew1 | refine below_set ?_ GE347.out) | exact HB.out)⟩
      · rw [if_neg c52] at H
        have c52b0 : ((t349.length : Int) == 0) = false := beq_eq_false_iff_ne.mpr c52
        have c52b1 : ((t349.length : Int) != 0) = true := bne_iff_ne.mpr c52
        have c52b2 : ¬ (t349 = []) := fun h_ => c52 (by rw [h_]; rfl)
        by_cases c61 : t352 = 0
        · rw [if_pos c61] at H
          have c61b0 : (t352 == 0) = true := beq_iff_eq.mpr c61
          have c61b1 : (t352 != 0) = false := bne_eq_false_iff_eq.mpr c61
          clear c61
          replace H := Option.bind_eq_some_iff.mp H
          obtain ⟨t354, A620, H⟩ := H
          replace H : (some t354) = some r := H
          have A62 := Aside0.mk A620
          clear A620
          obtain rfl := Option.some.inj H
          go_enter Tryd.func7, Tryd.ntmps7
          go_wp2_with (first | ((with_reducible refine gate_dst (N := 3) rfl ?_); (try (refine gate_guard (by rfl) ?_; dsimp only)); refine box_event ?hg (N := 3) ?hd (cs := #[.int .i64 a0_0, .int .i64 a0_1, .int .i64 a0_2, .int .i64 a0_3, .int .i64 a0_4]) (t := 25) ?hr ?_; (case hd => rfl); (case hg => rfl); (case hr => first | (go_simp; done) | (go_simp; rfl)); intro gb347 hg w63 hbox hb; have n0_ := Aside0.mk (below_step (by repeat (first | (with_reducible first | exact HB.out | apply below_alloc | apply pw_below_drewN | apply below_drew1) | exact HB.out)) hb); have n1_ := Aside0.mk (hbox); have n2_ := Aside0.mk ((by rw [hg]; exact (below_size (by repeat (first | (with_reducible first | exact HB.out | apply below_alloc | apply pw_below_drewN | apply below_drew1) | exact HB.out))) : w.heap.size ≤ gb347)); have n3_ := Aside0.mk ((by rw [hg]; exact (below_size (by repeat (first | (with_reducible first | exact HB.out | apply below_alloc | apply pw_below_drewN | apply below_drew1) | exact HB.out))) : w.heap.size ≤ gb347)); clear HB; have HB := n0_; have BK347 := n1_; have GW347 := n2_; have GE347 := n3_; clear n0_ n1_ n2_ n3_; clear hb hbox hg; have hcz64_0 : w63.cell? ⟨gb347, 0, none⟩ = some (.int .i64 a0_0) := (blk_cell BK347.out 0).trans rfl; have hcz64_1 : w63.cell? ⟨gb347, 1, none⟩ = some (.int .i64 a0_1) := (blk_cell BK347.out 1).trans rfl; have hcz64_2 : w63.cell? ⟨gb347, 2, none⟩ = some (.int .i64 a0_2) := (blk_cell BK347.out 2).trans rfl; have hcz64_3 : w63.cell? ⟨gb347, 3, none⟩ = some (.int .i64 a0_3) := (blk_cell BK347.out 3).trans rfl; have hcz64_4 : w63.cell? ⟨gb347, 4, none⟩ = some (.int .i64 a0_4) := (blk_cell BK347.out 4).trans rfl; have hfz64_0 := blk_frozen BK347.out 0; have hfz64_1 := blk_frozen BK347.out 1; have hfz64_2 := blk_frozen BK347.out 2; have hfz64_3 := blk_frozen BK347.out 3; have hfz64_4 := blk_frozen BK347.out 4) | ((with_reducible refine gate_callee (f := 37) rfl ?_); refine goesL_ (some 16) rfl rfl Tryd.func37 (by kernel_rfl) rfl #[.agg #[.int .i64 a0_0, .int .i64 a0_1, .int .i64 a0_2, .int .i64 a0_3, .int .i64 a0_4]] rfl (by (try simp only [List.map_toArray, List.map_cons, List.map_nil]); first | done | rfl | (simp only [List.length_drop, List.length_take]; rfl)) ?_; (with_reducible refine (remontoirlaw04_isRule.calls a0_0 a0_1 a0_2 a0_3 a0_4 false _ ?side1 A4.out).mono ?_); (case side1 => exact Go.Proofs.YtidnopmjhhmedaaDoor.Ways.below HWays.out (by repeat (first | (with_reducible first | exact HB.out | apply below_alloc | apply pw_below_drewN | apply below_drew1 | refine below_set ?_ GE347.out) | exact HB.out))); rintro e w65 ⟨rfl, hb⟩; refine ⟨_, rfl, ?_⟩; have n0_ := Aside0.mk (blk_below (g := gb347) (o := .cells #[.int .i64 a0_0, .int .i64 a0_1, .int .i64 a0_2, .int .i64 a0_3, .int .i64 a0_4] 25 (0, 0)) (by (with_reducible repeat (first | refine blk_drewN ?_ _ | refine blk_drew ?_ | refine blk_alloc ?_ _)); exact BK347.out) hb); have n1_ := Aside0.mk (below_step (by repeat (first | (with_reducible first | exact HB.out | apply below_alloc | apply pw_below_drewN | apply below_drew1 | refine below_set ?_ GE347.out) | exact HB.out)) hb); clear BK347; clear HB; have BK347 := n0_; have HB := n1_; clear n0_ n1_; (try clear hb); (try clear hb2); (try clear hk); (try clear hi); have hcz66_0 : w65.cell? ⟨gb347, 0, none⟩ = some (.int .i64 a0_0) := (blk_cell BK347.out 0).trans rfl; have hcz66_1 : w65.cell? ⟨gb347, 1, none⟩ = some (.int .i64 a0_1) := (blk_cell BK347.out 1).trans rfl; have hcz66_2 : w65.cell? ⟨gb347, 2, none⟩ = some (.int .i64 a0_2) := (blk_cell BK347.out 2).trans rfl; have hcz66_3 : w65.cell? ⟨gb347, 3, none⟩ = some (.int .i64 a0_3) := (blk_cell BK347.out 3).trans rfl; have hcz66_4 : w65.cell? ⟨gb347, 4, none⟩ = some (.int .i64 a0_4) := (blk_cell BK347.out 4).trans rfl; have hfz66_0 := blk_frozen BK347.out 0; have hfz66_1 := blk_frozen BK347.out 1; have hfz66_2 := blk_frozen BK347.out 2; have hfz66_3 := blk_frozen BK347.out 3; have hfz66_4 := blk_frozen BK347.out 4) | ((with_reducible refine gate_callee (f := 24) rfl ?_); refine goesL_ (some 20) rfl rfl Tryd.func24 (by kernel_rfl) rfl #[.agg #[.int .i64 a0_0, .int .i64 a0_1, .int .i64 a0_2, .int .i64 a0_3, .int .i64 a0_4], .int .i64 0, .slice none 0 0] rfl (by (try simp only [List.map_toArray, List.map_cons, List.map_nil]); first | done | rfl | (simp only [List.length_drop, List.length_take]; rfl)) ?_; (refine (scale_Shown.calls a0_0 a0_1 a0_2 a0_3 a0_4 0 _ _ ([] : List Int) t349 t352 _ ?side1 ?side2 ?side3 A50.out).mono ?_); (case side1 => exact Kd.C_nil _ _); (case side2 => exact Nat.le_refl _); (case side3 => exact Go.Proofs.YtidnopmjhhmedaaDoor.Ways.below HWays.out (by repeat (first | (with_reducible first | exact HB.out | apply below_alloc | apply pw_below_drewN | apply below_drew1 | refine below_set ?_ GE347.out) | exact HB.out))); rintro e w67 ⟨v350, rfl, ho0, hb⟩; refine ⟨_, rfl, ?_⟩; have n0_ := Aside0.mk (Kd.V_lower (Kd.V_mono (ok' := fun k_ => k_ ≠ gb347) ho0 (fun k_ hk_ => (Kd.freshB (g := gb347) (o := .cells #[.int .i64 a0_0, .int .i64 a0_1, .int .i64 a0_2, .int .i64 a0_3, .int .i64 a0_4] 25 (0, 0)) (by (with_reducible repeat (first | refine blk_drewN ?_ _ | refine blk_drew ?_ | refine blk_alloc ?_ _)); exact BK347.out) k_ hk_))) (below_size (by repeat (first | (with_reducible first | exact HB.out | apply below_alloc | apply pw_below_drewN | apply below_drew1 | refine below_set ?_ GE347.out) | exact HB.out)))); have n1_ := Aside0.mk (blk_below (g := gb347) (o := .cells #[.int .i64 a0_0, .int .i64 a0_1, .int .i64 a0_2, .int .i64 a0_3, .int .i64 a0_4] 25 (0, 0)) (by (with_reducible repeat (first | refine blk_drewN ?_ _ | refine blk_drew ?_ | refine blk_alloc ?_ _)); exact BK347.out) hb); have n2_ := Aside0.mk (below_step (by repeat (first | (with_reducible first | exact HB.out | apply below_alloc | apply pw_below_drewN | apply below_drew1 | refine below_set ?_ GE347.out) | exact HB.out)) hb); clear BK347; clear HB; have HO351 := n0_; have BK347 := n1_; have HB := n2_; clear n0_ n1_ n2_; (try clear hb); (try clear hb2); (try clear hk); (try clear hi); (try clear ho0); obtain ⟨Ao68, co68, eo68⟩ := Kd.V_slice HO351.out; subst eo68) | (go_at_call 21; (with_reducible refine (remontoirlaw04_works.calls  t354 _ ?side1 A62.out).mono ?_); (case side1 => exact Go.Proofs.YtidnopmjhhmedaaDoor.Ways.below HWays.out (by repeat (first | (with_reducible first | exact HB.out | apply below_alloc | apply pw_below_drewN | apply below_drew1 | refine below_set ?_ GE347.out) | exact HB.out))); rintro e w69 ⟨rfl, hb⟩; have n0_ := Aside0.mk (Kd.V_below (by (with_reducible repeat (first | apply Kd.V_alloc | apply Kd.V_drewN | apply Kd.V_drew)); exact HO351.out) hb); have n1_ := Aside0.mk (blk_below (g := gb347) (o := .cells #[.int .i64 a0_0, .int .i64 a0_1, .int .i64 a0_2, .int .i64 a0_3, .int .i64 a0_4] 25 (0, 0)) (by (with_reducible repeat (first | refine blk_drewN ?_ _ | refine blk_drew ?_ | refine blk_alloc ?_ _)); exact BK347.out) hb); have n2_ := Aside0.mk (below_step (by repeat (first | (with_reducible first | exact HB.out | apply below_alloc | apply pw_below_drewN | apply below_drew1 | refine below_set ?_ GE347.out) | exact HB.out)) hb); clear HO351; clear BK347; clear HB; have HO351 := n0_; have BK347 := n1_; have HB := n2_; clear n0_ n1_ n2_; (try clear hb); (try clear hb2); (try clear hk); (try clear hi)))
          go_ret
          exact ⟨by first | rfl | (simp [errW_none, errW_some] <;> rfl) | (simp [*, errW_none, errW_some] <;> rfl), by repeat (first | (with_reducible first | exact HB.out | apply below_alloc | apply pw_below_drewN | apply below_drew1 | refine below_set ?_ GE347.out) | exact HB.out)⟩
        · rw [if_neg c61] at H
          have c61b0 : (t352 == 0) = false := beq_eq_false_iff_ne.mpr c61
          have c61b1 : (t352 != 0) = true := bne_iff_ne.mpr c61
          obtain rfl := Option.some.inj H
          go_enter Tryd.func7, Tryd.ntmps7
          go_wp2_with (first | ((with_reducible refine gate_dst (N := 3) rfl ?_); (try (refine gate_guard (by rfl) ?_; dsimp only)); refine box_event ?hg (N := 3) ?hd (cs := #[.int .i64 a0_0, .int .i64 a0_1, .int .i64 a0_2, .int .i64 a0_3, .int .i64 a0_4]) (t := 25) ?hr ?_; (case hd => rfl); (case hg => rfl); (case hr => first | (go_simp; done) | (go_simp; rfl)); intro gb347 hg w70 hbox hb; have n0_ := Aside0.mk (below_step (by repeat (first | (with_reducible first | exact HB.out | apply below_alloc | apply pw_below_drewN | apply below_drew1) | exact HB.out)) hb); have n1_ := Aside0.mk (hbox); have n2_ := Aside0.mk ((by rw [hg]; exact (below_size (by repeat (first | (with_reducible first | exact HB.out | apply below_alloc | apply pw_below_drewN | apply below_drew1) | exact HB.out))) : w.heap.size ≤ gb347)); have n3_ := Aside0.mk ((by rw [hg]; exact (below_size (by repeat (first | (with_reducible first | exact HB.out | apply below_alloc | apply pw_below_drewN | apply below_drew1) | exact HB.out))) : w.heap.size ≤ gb347)); clear HB; have HB := n0_; have BK347 := n1_; have GW347 := n2_; have GE347 := n3_; clear n0_ n1_ n2_ n3_; clear hb hbox hg; have hcz71_0 : w70.cell? ⟨gb347, 0, none⟩ = some (.int .i64 a0_0) := (blk_cell BK347.out 0).trans rfl; have hcz71_1 : w70.cell? ⟨gb347, 1, none⟩ = some (.int .i64 a0_1) := (blk_cell BK347.out 1).trans rfl; have hcz71_2 : w70.cell? ⟨gb347, 2, none⟩ = some (.int .i64 a0_2) := (blk_cell BK347.out 2).trans rfl; have hcz71_3 : w70.cell? ⟨gb347, 3, none⟩ = some (.int .i64 a0_3) := (blk_cell BK347.out 3).trans rfl; have hcz71_4 : w70.cell? ⟨gb347, 4, none⟩ = some (.int .i64 a0_4) := (blk_cell BK347.out 4).trans rfl; have hfz71_0 := blk_frozen BK347.out 0; have hfz71_1 := blk_frozen BK347.out 1; have hfz71_2 := blk_frozen BK347.out 2; have hfz71_3 := blk_frozen BK347.out 3; have hfz71_4 := blk_frozen BK347.out 4) | ((with_reducible refine gate_callee (f := 37) rfl ?_); refine goesL_ (some 16) rfl rfl Tryd.func37 (by kernel_rfl) rfl #[.agg #[.int .i64 a0_0, .int .i64 a0_1, .int .i64 a0_2, .int .i64 a0_3, .int .i64 a0_4]] rfl (by (try simp only [List.map_toArray, List.map_cons, List.map_nil]); first | done | rfl | (simp only [List.length_drop, List.length_take]; rfl)) ?_; (with_reducible refine (remontoirlaw04_isRule.calls a0_0 a0_1 a0_2 a0_3 a0_4 false _ ?side1 A4.out).mono ?_); (case side1 => exact Go.Proofs.YtidnopmjhhmedaaDoor.Ways.below HWays.out (by repeat (first | (with_reducible first | exact HB.out | apply below_alloc | apply pw_below_drewN | apply below_drew1 | refine below_set ?_ GE347.out) | exact HB.out))); rintro e w72 ⟨rfl, hb⟩; refine ⟨_, rfl, ?_⟩; have n0_ := Aside0.mk (blk_below (g := gb347) (o := .cells #[.int .i64 a0_0, .int .i64 a0_1, .int .i64 a0_2, .int .i64 a0_3, .int .i64 a0_4] 25 (0, 0)) (by (with_reducible repeat (first | refine blk_drewN ?_ _ | refine blk_drew ?_ | refine blk_alloc ?_ _)); exact BK347.out) hb); have n1_ := Aside0.mk (below_step (by repeat (first | (with_reducible first | exact HB.out | apply below_alloc | apply pw_below_drewN | apply below_drew1 | refine below_set ?_ GE347.out) | exact HB.out)) hb); clear BK347; clear HB; have BK347 := n0_; have HB := n1_; clear n0_ n1_; (try clear hb); (try clear hb2); (try clear hk); (try clear hi); have hcz73_0 : w72.cell? ⟨gb347, 0, none⟩ = some (.int .i64 a0_0) := (blk_cell BK347.out 0).trans rfl; have hcz73_1 : w72.cell? ⟨gb347, 1, none⟩ = some (.int .i64 a0_1) := (blk_cell BK347.out 1).trans rfl; have hcz73_2 : w72.cell? ⟨gb347, 2, none⟩ = some (.int .i64 a0_2) := (blk_cell BK347.out 2).trans rfl; have hcz73_3 : w72.cell? ⟨gb347, 3, none⟩ = some (.int .i64 a0_3) := (blk_cell BK347.out 3).trans rfl; have hcz73_4 : w72.cell? ⟨gb347, 4, none⟩ = some (.int .i64 a0_4) := (blk_cell BK347.out 4).trans rfl; have hfz73_0 := blk_frozen BK347.out 0; have hfz73_1 := blk_frozen BK347.out 1; have hfz73_2 := blk_frozen BK347.out 2; have hfz73_3 := blk_frozen BK347.out 3; have hfz73_4 := blk_frozen BK347.out 4) | ((with_reducible refine gate_callee (f := 24) rfl ?_); refine goesL_ (some 20) rfl rfl Tryd.func24 (by kernel_rfl) rfl #[.agg #[.int .i64 a0_0, .int .i64 a0_1, .int .i64 a0_2, .int .i64 a0_3, .int .i64 a0_4], .int .i64 0, .slice none 0 0] rfl (by (try simp only [List.map_toArray, List.map_cons, List.map_nil]); first | done | rfl | (simp only [List.length_drop, List.length_take]; rfl)) ?_; (refine (scale_Shown.calls a0_0 a0_1 a0_2 a0_3 a0_4 0 _ _ ([] : List Int) t349 t352 _ ?side1 ?side2 ?side3 A50.out).mono ?_); (case side1 => exact Kd.C_nil _ _); (case side2 => exact Nat.le_refl _); (case side3 => exact Go.Proofs.YtidnopmjhhmedaaDoor.Ways.below HWays.out (by repeat (first | (with_reducible first | exact HB.out | apply below_alloc | apply pw_below_drewN | apply below_drew1 | refine below_set ?_ GE347.out) | exact HB.out))); rintro e w74 ⟨v350, rfl, ho0, hb⟩; refine ⟨_, rfl, ?_⟩; have n0_ := Aside0.mk (Kd.V_lower (Kd.V_mono (ok' := fun k_ => k_ ≠ gb347) ho0 (fun k_ hk_ => (Kd.freshB (g := gb347) (o := .cells #[.int .i64 a0_0, .int .i64 a0_1, .int .i64 a0_2, .int .i64 a0_3, .int .i64 a0_4] 25 (0, 0)) (by (with_reducible repeat (first | refine blk_drewN ?_ _ | refine blk_drew ?_ | refine blk_alloc ?_ _)); exact BK347.out) k_ hk_))) (below_size (by repeat (first | (with_reducible first | exact HB.out | apply below_alloc | apply pw_below_drewN | apply below_drew1 | refine below_set ?_ GE347.out) | exact HB.out)))); have n1_ := Aside0.mk (blk_below (g := gb347) (o := .cells #[.int .i64 a0_0, .int .i64 a0_1, .int .i64 a0_2, .int .i64 a0_3, .int .i64 a0_4] 25 (0, 0)) (by (with_reducible repeat (first | refine blk_drewN ?_ _ | refine blk_drew ?_ | refine blk_alloc ?_ _)); exact BK347.out) hb); have n2_ := Aside0.mk (below_step (by repeat (first | (with_reducible first | exact HB.out | apply below_alloc | apply pw_below_drewN | apply below_drew1 | refine below_set ?_ GE347.out) | exact HB.out)) hb); clear BK347; clear HB; have HO351 := n0_; have BK347 := n1_; have HB := n2_; clear n0_ n1_ n2_; (try clear hb); (try clear hb2); (try clear hk); (try clear hi); (try clear ho0); obtain ⟨Ao75, co75, eo75⟩ := Kd.V_slice HO351.out; subst eo75))
          go_ret
          exact ⟨by first | rfl | (simp [errW_none, errW_some] <;> rfl) | (simp [*, errW_none, errW_some] <;> rfl), by repeat (first | (with_reducible first | exact HB.out | apply below_alloc | apply pw_below_drewN | apply below_drew1 | refine below_set ?_ GE347.out) | exact HB.out)⟩
    · rw [if_neg c51] at H
      have c51b0 : (t352 == 40) = false := beq_eq_false_iff_ne.mpr c51
      have c51b1 : (t352 != 40) = true := bne_iff_ne.mpr c51
      by_cases c76 : t352 = 0
      · rw [if_pos c76] at H
        have c76b0 : (t352 == 0) = true := beq_iff_eq.mpr c76
        have c76b1 : (t352 != 0) = false := bne_eq_false_iff_eq.mpr c76
        clear c76
        replace H := Option.bind_eq_some_iff.mp H
        obtain ⟨t355, A770, H⟩ := H
        replace H : (some t355) = some r := H
        have A77 := Aside0.mk A770
        clear A770
        obtain rfl := Option.some.inj H
        go_enter Tryd.func7, Tryd.ntmps7
        go_wp2_with (first | ((with_reducible refine gate_dst (N := 3) rfl ?_); (try (refine gate_guard (by rfl) ?_; dsimp only)); refine box_event ?hg (N := 3) ?hd (cs := #[.int .i64 a0_0, .int .i64 a0_1, .int .i64 a0_2, .int .i64 a0_3, .int .i64 a0_4]) (t := 25) ?hr ?_; (case hd => rfl); (case hg => rfl); (case hr => first | (go_simp; done) | (go_simp; rfl)); intro gb347 hg w78 hbox hb; have n0_ := Aside0.mk (below_step (by repeat (first | (with_reducible first | exact HB.out | apply below_alloc | apply pw_below_drewN | apply below_drew1) | exact HB.out)) hb); have n1_ := Aside0.mk (hbox); have n2_ := Aside0.mk ((by rw [hg]; exact (below_size (by repeat (first | (with_reducible first | exact HB.out | apply below_alloc | apply pw_below_drewN | apply below_drew1) | exact HB.out))) : w.heap.size ≤ gb347)); have n3_ := Aside0.mk ((by rw [hg]; exact (below_size (by repeat (first | (with_reducible first | exact HB.out | apply below_alloc | apply pw_below_drewN | apply below_drew1) | exact HB.out))) : w.heap.size ≤ gb347)); clear HB; have HB := n0_; have BK347 := n1_; have GW347 := n2_; have GE347 := n3_; clear n0_ n1_ n2_ n3_; clear hb hbox hg; have hcz79_0 : w78.cell? ⟨gb347, 0, none⟩ = some (.int .i64 a0_0) := (blk_cell BK347.out 0).trans rfl; have hcz79_1 : w78.cell? ⟨gb347, 1, none⟩ = some (.int .i64 a0_1) := (blk_cell BK347.out 1).trans rfl; have hcz79_2 : w78.cell? ⟨gb347, 2, none⟩ = some (.int .i64 a0_2) := (blk_cell BK347.out 2).trans rfl; have hcz79_3 : w78.cell? ⟨gb347, 3, none⟩ = some (.int .i64 a0_3) := (blk_cell BK347.out 3).trans rfl; have hcz79_4 : w78.cell? ⟨gb347, 4, none⟩ = some (.int .i64 a0_4) := (blk_cell BK347.out 4).trans rfl; have hfz79_0 := blk_frozen BK347.out 0; have hfz79_1 := blk_frozen BK347.out 1; have hfz79_2 := blk_frozen BK347.out 2; have hfz79_3 := blk_frozen BK347.out 3; have hfz79_4 := blk_frozen BK347.out 4) | ((with_reducible refine gate_callee (f := 37) rfl ?_); refine goesL_ (some 16) rfl rfl Tryd.func37 (by kernel_rfl) rfl #[.agg #[.int .i64 a0_0, .int .i64 a0_1, .int .i64 a0_2, .int .i64 a0_3, .int .i64 a0_4]] rfl (by (try simp only [List.map_toArray, List.map_cons, List.map_nil]); first | done | rfl | (simp only [List.length_drop, List.length_take]; rfl)) ?_; (with_reducible refine (remontoirlaw04_isRule.calls a0_0 a0_1 a0_2 a0_3 a0_4 false _ ?side1 A4.out).mono ?_); (case side1 => exact Go.Proofs.YtidnopmjhhmedaaDoor.Ways.below HWays.out (by repeat (first | (with_reducible first | exact HB.out | apply below_alloc | apply pw_below_drewN | apply below_drew1 | refine below_set ?_ GE347.out) | exact HB.out))); rintro e w80 ⟨rfl, hb⟩; refine ⟨_, rfl, ?_⟩; have n0_ := Aside0.mk (blk_below (g := gb347) (o := .cells #[.int .i64 a0_0, .int .i64 a0_1, .int .i64 a0_2, .int .i64 a0_3, .int .i64 a0_4] 25 (0, 0)) (by (with_reducible repeat (first | refine blk_drewN ?_ _ | refine blk_drew ?_ | refine blk_alloc ?_ _)); exact BK347.out) hb); have n1_ := Aside0.mk (below_step (by repeat (first | (with_reducible first | exact HB.out | apply below_alloc | apply pw_below_drewN | apply below_drew1 | refine below_set ?_ GE347.out) | exact HB.out)) hb); clear BK347; clear HB; have BK347 := n0_; have HB := n1_; clear n0_ n1_; (try clear hb); (try clear hb2); (try clear hk); (try clear hi); have hcz81_0 : w80.cell? ⟨gb347, 0, none⟩ = some (.int .i64 a0_0) := (blk_cell BK347.out 0).trans rfl; have hcz81_1 : w80.cell? ⟨gb347, 1, none⟩ = some (.int .i64 a0_1) := (blk_cell BK347.out 1).trans rfl; have hcz81_2 : w80.cell? ⟨gb347, 2, none⟩ = some (.int .i64 a0_2) := (blk_cell BK347.out 2).trans rfl; have hcz81_3 : w80.cell? ⟨gb347, 3, none⟩ = some (.int .i64 a0_3) := (blk_cell BK347.out 3).trans rfl; have hcz81_4 : w80.cell? ⟨gb347, 4, none⟩ = some (.int .i64 a0_4) := (blk_cell BK347.out 4).trans rfl; have hfz81_0 := blk_frozen BK347.out 0; have hfz81_1 := blk_frozen BK347.out 1; have hfz81_2 := blk_frozen BK347.out 2; have hfz81_3 := blk_frozen BK347.out 3; have hfz81_4 := blk_frozen BK347.out 4) | ((with_reducible refine gate_callee (f := 24) rfl ?_); refine goesL_ (some 20) rfl rfl Tryd.func24 (by kernel_rfl) rfl #[.agg #[.int .i64 a0_0, .int .i64 a0_1, .int .i64 a0_2, .int .i64 a0_3, .int .i64 a0_4], .int .i64 0, .slice none 0 0] rfl (by (try simp only [List.map_toArray, List.map_cons, List.map_nil]); first | done | rfl | (simp only [List.length_drop, List.length_take]; rfl)) ?_; (refine (scale_Shown.calls a0_0 a0_1 a0_2 a0_3 a0_4 0 _ _ ([] : List Int) t349 t352 _ ?side1 ?side2 ?side3 A50.out).mono ?_); (case side1 => exact Kd.C_nil _ _); (case side2 => exact Nat.le_refl _); (case side3 => exact Go.Proofs.YtidnopmjhhmedaaDoor.Ways.below HWays.out (by repeat (first | (with_reducible first | exact HB.out | apply below_alloc | apply pw_below_drewN | apply below_drew1 | refine below_set ?_ GE347.out) | exact HB.out))); rintro e w82 ⟨v350, rfl, ho0, hb⟩; refine ⟨_, rfl, ?_⟩; have n0_ := Aside0.mk (Kd.V_lower (Kd.V_mono (ok' := fun k_ => k_ ≠ gb347) ho0 (fun k_ hk_ => (Kd.freshB (g := gb347) (o := .cells #[.int .i64 a0_0, .int .i64 a0_1, .int .i64 a0_2, .int .i64 a0_3, .int .i64 a0_4] 25 (0, 0)) (by (with_reducible repeat (first | refine blk_drewN ?_ _ | refine blk_drew ?_ | refine blk_alloc ?_ _)); exact BK347.out) k_ hk_))) (below_size (by repeat (first | (with_reducible first | exact HB.out | apply below_alloc | apply pw_below_drewN | apply below_drew1 | refine below_set ?_ GE347.out) | exact HB.out)))); have n1_ := Aside0.mk (blk_below (g := gb347) (o := .cells #[.int .i64 a0_0, .int .i64 a0_1, .int .i64 a0_2, .int .i64 a0_3, .int .i64 a0_4] 25 (0, 0)) (by (with_reducible repeat (first | refine blk_drewN ?_ _ | refine blk_drew ?_ | refine blk_alloc ?_ _)); exact BK347.out) hb); have n2_ := Aside0.mk (below_step (by repeat (first | (with_reducible first | exact HB.out | apply below_alloc | apply pw_below_drewN | apply below_drew1 | refine below_set ?_ GE347.out) | exact HB.out)) hb); clear BK347; clear HB; have HO351 := n0_; have BK347 := n1_; have HB := n2_; clear n0_ n1_ n2_; (try clear hb); (try clear hb2); (try clear hk); (try clear hi); (try clear ho0)) | (go_at_call 21; (with_reducible refine (remontoirlaw04_works.calls  t355 _ ?side1 A77.out).mono ?_); (case side1 => exact Go.Proofs.YtidnopmjhhmedaaDoor.Ways.below HWays.out (by repeat (first | (with_reducible first | exact HB.out | apply below_alloc | apply pw_below_drewN | apply below_drew1 | refine below_set ?_ GE347.out) | exact HB.out))); rintro e w83 ⟨rfl, hb⟩; have n0_ := Aside0.mk (Kd.V_below (by (with_reducible repeat (first | apply Kd.V_alloc | apply Kd.V_drewN | apply Kd.V_drew)); exact HO351.out) hb); have n1_ := Aside0.mk (blk_below (g := gb347) (o := .cells #[.int .i64 a0_0, .int .i64 a0_1, .int .i64 a0_2, .int .i64 a0_3, .int .i64 a0_4] 25 (0, 0)) (by (with_reducible repeat (first | refine blk_drewN ?_ _ | refine blk_drew ?_ | refine blk_alloc ?_ _)); exact BK347.out) hb); have n2_ := Aside0.mk (below_step (by repeat (first | (with_reducible first | exact HB.out | apply below_alloc | apply pw_below_drewN | apply below_drew1 | refine below_set ?_ GE347.out) | exact HB.out)) hb); clear HO351; clear BK347; clear HB; have HO351 := n0_; have BK347 := n1_; have HB := n2_; clear n0_ n1_ n2_; (try clear hb); (try clear hb2); (try clear hk); (try clear hi)))
        go_ret
        exact ⟨by first | rfl | (simp [errW_none, errW_some] <;> rfl) | (simp [*, errW_none, errW_some] <;> rfl), by repeat (first | (with_reducible first | exact HB.out | apply below_alloc | apply pw_below_drewN | apply below_drew1 | refine below_set ?_ GE347.out) | exact HB.out)⟩
      · rw [if_neg c76] at H
        have c76b0 : (t352 == 0) = false := beq_eq_false_iff_ne.mpr c76
        have c76b1 : (t352 != 0) = true := bne_iff_ne.mpr c76
        obtain rfl := Option.some.inj H
        go_enter Tryd.func7, Tryd.ntmps7
        go_wp2_with (first | ((with_reducible refine gate_dst (N := 3) rfl ?_); (try (refine gate_guard (by rfl) ?_; dsimp only)); refine box_event ?hg (N := 3) ?hd (cs := #[.int .i64 a0_0, .int .i64 a0_1, .int .i64 a0_2, .int .i64 a0_3, .int .i64 a0_4]) (t := 25) ?hr ?_; (case hd => rfl); (case hg => rfl); (case hr => first | (go_simp; done) | (go_simp; rfl)); intro gb347 hg w84 hbox hb; have n0_ := Aside0.mk (below_step (by repeat (first | (with_reducible first | exact HB.out | apply below_alloc | apply pw_below_drewN | apply below_drew1) | exact HB.out)) hb); have n1_ := Aside0.mk (hbox); have n2_ := Aside0.mk ((by rw [hg]; exact (below_size (by repeat (first | (with_reducible first | exact HB.out | apply below_alloc | apply pw_below_drewN | apply below_drew1) | exact HB.out))) : w.heap.size ≤ gb347)); have n3_ := Aside0.mk ((by rw [hg]; exact (below_size (by repeat (first | (with_reducible first | exact HB.out | apply below_alloc | apply pw_below_drewN | apply below_drew1) | exact HB.out))) : w.heap.size ≤ gb347)); clear HB; have HB := n0_; have BK347 := n1_; have GW347 := n2_; have GE347 := n3_; clear n0_ n1_ n2_ n3_; clear hb hbox hg; have hcz85_0 : w84.cell? ⟨gb347, 0, none⟩ = some (.int .i64 a0_0) := (blk_cell BK347.out 0).trans rfl; have hcz85_1 : w84.cell? ⟨gb347, 1, none⟩ = some (.int .i64 a0_1) := (blk_cell BK347.out 1).trans rfl; have hcz85_2 : w84.cell? ⟨gb347, 2, none⟩ = some (.int .i64 a0_2) := (blk_cell BK347.out 2).trans rfl; have hcz85_3 : w84.cell? ⟨gb347, 3, none⟩ = some (.int .i64 a0_3) := (blk_cell BK347.out 3).trans rfl; have hcz85_4 : w84.cell? ⟨gb347, 4, none⟩ = some (.int .i64 a0_4) := (blk_cell BK347.out 4).trans rfl; have hfz85_0 := blk_frozen BK347.out 0; have hfz85_1 := blk_frozen BK347.out 1; have hfz85_2 := blk_frozen BK347.out 2; have hfz85_3 := blk_frozen BK347.out 3; have hfz85_4 := blk_frozen BK347.out 4) | ((with_reducible refine gate_callee (f := 37) rfl ?_); refine goesL_ (some 16) rfl rfl Tryd.func37 (by kernel_rfl) rfl #[.agg #[.int .i64 a0_0, .int .i64 a0_1, .int .i64 a0_2, .int .i64 a0_3, .int .i64 a0_4]] rfl (by (try simp only [List.map_toArray, List.map_cons, List.map_nil]); first | done | rfl | (simp only [List.length_drop, List.length_take]; rfl)) ?_; (with_reducible refine (remontoirlaw04_isRule.calls a0_0 a0_1 a0_2 a0_3 a0_4 false _ ?side1 A4.out).mono ?_); (case side1 => exact Go.Proofs.YtidnopmjhhmedaaDoor.Ways.below HWays.out (by repeat (first | (with_reducible first | exact HB.out | apply below_alloc | apply pw_below_drewN | apply below_drew1 | refine below_set ?_ GE347.out) | exact HB.out))); rintro e w86 ⟨rfl, hb⟩; refine ⟨_, rfl, ?_⟩; have n0_ := Aside0.mk (blk_below (g := gb347) (o := .cells #[.int .i64 a0_0, .int .i64 a0_1, .int .i64 a0_2, .int .i64 a0_3, .int .i64 a0_4] 25 (0, 0)) (by (with_reducible repeat (first | refine blk_drewN ?_ _ | refine blk_drew ?_ | refine blk_alloc ?_ _)); exact BK347.out) hb); have n1_ := Aside0.mk (below_step (by repeat (first | (with_reducible first | exact HB.out | apply below_alloc | apply pw_below_drewN | apply below_drew1 | refine below_set ?_ GE347.out) | exact HB.out)) hb); clear BK347; clear HB; have BK347 := n0_; have HB := n1_; clear n0_ n1_; (try clear hb); (try clear hb2); (try clear hk); (try clear hi); have hcz87_0 : w86.cell? ⟨gb347, 0, none⟩ = some (.int .i64 a0_0) := (blk_cell BK347.out 0).trans rfl; have hcz87_1 : w86.cell? ⟨gb347, 1, none⟩ = some (.int .i64 a0_1) := (blk_cell BK347.out 1).trans rfl; have hcz87_2 : w86.cell? ⟨gb347, 2, none⟩ = some (.int .i64 a0_2) := (blk_cell BK347.out 2).trans rfl; have hcz87_3 : w86.cell? ⟨gb347, 3, none⟩ = some (.int .i64 a0_3) := (blk_cell BK347.out 3).trans rfl; have hcz87_4 : w86.cell? ⟨gb347, 4, none⟩ = some (.int .i64 a0_4) := (blk_cell BK347.out 4).trans rfl; have hfz87_0 := blk_frozen BK347.out 0; have hfz87_1 := blk_frozen BK347.out 1; have hfz87_2 := blk_frozen BK347.out 2; have hfz87_3 := blk_frozen BK347.out 3; have hfz87_4 := blk_frozen BK347.out 4) | ((with_reducible refine gate_callee (f := 24) rfl ?_); refine goesL_ (some 20) rfl rfl Tryd.func24 (by kernel_rfl) rfl #[.agg #[.int .i64 a0_0, .int .i64 a0_1, .int .i64 a0_2, .int .i64 a0_3, .int .i64 a0_4], .int .i64 0, .slice none 0 0] rfl (by (try simp only [List.map_toArray, List.map_cons, List.map_nil]); first | done | rfl | (simp only [List.length_drop, List.length_take]; rfl)) ?_; (refine (scale_Shown.calls a0_0 a0_1 a0_2 a0_3 a0_4 0 _ _ ([] : List Int) t349 t352 _ ?side1 ?side2 ?side3 A50.out).mono ?_); (case side1 => exact Kd.C_nil _ _); (case side2 => exact Nat.le_refl _); (case side3 => exact Go.Proofs.YtidnopmjhhmedaaDoor.Ways.below HWays.out (by repeat (first | (with_reducible first | exact HB.out | apply below_alloc | apply pw_below_drewN | apply below_drew1 | refine below_set ?_ GE347.out) | exact HB.out))); rintro e w88 ⟨v350, rfl, ho0, hb⟩; refine ⟨_, rfl, ?_⟩; have n0_ := Aside0.mk (Kd.V_lower (Kd.V_mono (ok' := fun k_ => k_ ≠ gb347) ho0 (fun k_ hk_ => (Kd.freshB (g := gb347) (o := .cells #[.int .i64 a0_0, .int .i64 a0_1, .int .i64 a0_2, .int .i64 a0_3, .int .i64 a0_4] 25 (0, 0)) (by (with_reducible repeat (first | refine blk_drewN ?_ _ | refine blk_drew ?_ | refine blk_alloc ?_ _)); exact BK347.out) k_ hk_))) (below_size (by repeat (first | (with_reducible first | exact HB.out | apply below_alloc | apply pw_below_drewN | apply below_drew1 | refine below_set ?_ GE347.out) | exact HB.out)))); have n1_ := Aside0.mk (blk_below (g := gb347) (o := .cells #[.int .i64 a0_0, .int .i64 a0_1, .int .i64 a0_2, .int .i64 a0_3, .int .i64 a0_4] 25 (0, 0)) (by (with_reducible repeat (first | refine blk_drewN ?_ _ | refine blk_drew ?_ | refine blk_alloc ?_ _)); exact BK347.out) hb); have n2_ := Aside0.mk (below_step (by repeat (first | (with_reducible first | exact HB.out | apply below_alloc | apply pw_below_drewN | apply below_drew1 | refine below_set ?_ GE347.out) | exact HB.out)) hb); clear BK347; clear HB; have HO351 := n0_; have BK347 := n1_; have HB := n2_; clear n0_ n1_ n2_; (try clear hb); (try clear hb2); (try clear hk); (try clear hi); (try clear ho0)))
        go_ret
        exact ⟨by first | rfl | (simp [errW_none, errW_some] <;> rfl) | (simp [*, errW_none, errW_some] <;> rfl), by repeat (first | (with_reducible first | exact HB.out | apply below_alloc | apply pw_below_drewN | apply below_drew1 | refine below_set ?_ GE347.out) | exact HB.out)⟩

end Go.Proofs.TrydX.X
end

section
/- Plain: a plan that is filled up to a level is a plan. -/
set_option linter.unusedSimpArgs false
set_option linter.unusedVariables false
namespace Go.Proofs.YtidnopmjhhmedaaDoor
open Go.RowKit

theorem sumL_cons (x : Int) (l : List Int) : sumL (x :: l) = x + sumL l := rfl
/-- Neighbours differ by at most so much; the first one from d. -/
def Steps (J : Int) : Int → List Int → Prop
  | _, [] => True
  | d, x :: l => -J ≤ x - d ∧ x - d ≤ J ∧ Steps J x l
theorem of_keeps {F S J : Int} (l : List Int) : ∀ d, keepsB F S J d l = true → (∀ x ∈ l, -S ≤ x ∧ x ≤ F) ∧ Steps J d l := by
  induction l with
  | nil => intro d _; exact ⟨fun x hx => (List.not_mem_nil hx).elim, trivial⟩
  | cons x l ih =>
    intro d h
    simp only [keepsB, Bool.and_eq_true, lies_iff] at h
    obtain ⟨h1, h2⟩ := ih x h.2
    refine ⟨fun y hy => ?_, h.1.2.1, h.1.2.2, h2⟩
    rcases List.mem_cons.1 hy with e | hy
    · subst e; exact h.1.1
    · exact h1 y hy
theorem total_from' (xs : List Int) : ∀ a : Int, (∀ x ∈ xs, -1000 ≤ x ∧ x ≤ 1000) → -1000000000 + 1000 * xs.length ≤ a → a + 1000 * xs.length ≤ 1000000000 → xs.foldl (fun a b => wrap64 (a + b)) a = a + sumL xs := by
  induction xs with
  | nil => intro a h0 h1 h2; simp [sumL]
  | cons x xs ih =>
    intro a h0 h1 h2
    have hx := h0 x (by simp)
    simp only [List.length_cons, Int.natCast_add, Int.natCast_one] at h1 h2
    rw [List.foldl_cons, IntWalk.wrap64_in _ (by constructor <;> omega), ih _ (fun y hy => h0 y (by simp [hy])) (by omega) (by omega), sumL_cons]
    omega
theorem total_is (xs : List Int) (h : ∀ x ∈ xs, -1000 ≤ x ∧ x ≤ 1000) (hl : xs.length ≤ 1000) : total xs = sumL xs := by
  rw [total, total_from' xs 0 h (by omega) (by omega)]; omega

end Go.Proofs.YtidnopmjhhmedaaDoor
end

section
-- Written by wip/tools/pr.py (a program of this repo over the kit's print.py).
namespace Go.Proofs.TrydX.X
open Go.RowKit Go.Proofs.YtidnopmjhhmedaaDoorW.PrintWords Go.Proofs.YtidnopmjhhmedaaDoorW.PrintLast Go.Proofs.YtidnopmjhhmedaaDoorW.PrintMore
attribute [local go_sem] max2_int min2_int max_two min_two max_three min_three max_four min_four   -- for this text's walks alone
set_option linter.unusedVariables false
set_option linter.unusedSimpArgs false

end Go.Proofs.TrydX.X
end

section
-- Written by wip/tools/pr.py (a program of this repo over the kit's print.py).
namespace Go.Proofs.TrydX.X
open Go.RowKit Go.Proofs.YtidnopmjhhmedaaDoorW.PrintWords Go.Proofs.YtidnopmjhhmedaaDoorW.PrintLast Go.Proofs.YtidnopmjhhmedaaDoorW.PrintMore
attribute [local go_sem] max2_int min2_int max_two min_two max_three min_three max_four min_four   -- for this text's walks alone
set_option linter.unusedVariables false
set_option linter.unusedSimpArgs false

end Go.Proofs.TrydX.X
end

section
-- Written by wip/tools/pr.py (a program of this repo over the kit's print.py).
namespace Go.Proofs.TrydX.X
open Go.RowKit Go.Proofs.YtidnopmjhhmedaaDoorW.PrintWords Go.Proofs.YtidnopmjhhmedaaDoorW.PrintLast Go.Proofs.YtidnopmjhhmedaaDoorW.PrintMore
attribute [local go_sem] max2_int min2_int max_two min_two max_three min_three max_four min_four   -- for this text's walks alone
set_option linter.unusedVariables false
set_option linter.unusedSimpArgs false

end Go.Proofs.TrydX.X
end

section
-- Written by wip/tools/pr.py (a program of this repo over the kit's print.py).
namespace Go.Proofs.TrydX.X
open Go.RowKit Go.Proofs.YtidnopmjhhmedaaDoorW.PrintWords Go.Proofs.YtidnopmjhhmedaaDoorW.PrintLast Go.Proofs.YtidnopmjhhmedaaDoorW.PrintMore
attribute [local go_sem] max2_int min2_int max_two min_two max_three min_three max_four min_four   -- for this text's walks alone
set_option linter.unusedVariables false
set_option linter.unusedSimpArgs false

end Go.Proofs.TrydX.X
end

section
-- Written by wip/tools/pr.py (a program of this repo over the kit's print.py).
namespace Go.Proofs.TrydX.X
open Go.RowKit Go.Proofs.YtidnopmjhhmedaaDoorW.PrintWords Go.Proofs.YtidnopmjhhmedaaDoorW.PrintLast Go.Proofs.YtidnopmjhhmedaaDoorW.PrintMore
attribute [local go_sem] max2_int min2_int max_two min_two max_three min_three max_four min_four   -- for this text's walks alone
set_option linter.unusedVariables false
set_option linter.unusedSimpArgs false

end Go.Proofs.TrydX.X
end

section
-- Written by wip/tools/pr.py (a program of this repo over the kit's print.py).
namespace Go.Proofs.TrydX.X
open Go.RowKit Go.Proofs.YtidnopmjhhmedaaDoorW.PrintWords Go.Proofs.YtidnopmjhhmedaaDoorW.PrintLast Go.Proofs.YtidnopmjhhmedaaDoorW.PrintMore
attribute [local go_sem] max2_int min2_int max_two min_two max_three min_three max_four min_four   -- for this text's walks alone
set_option linter.unusedVariables false
set_option linter.unusedSimpArgs false

end Go.Proofs.TrydX.X
end

section
-- Written by wip/tools/pr.py (a program of this repo over the kit's print.py).
namespace Go.Proofs.TrydX.X
open Go.RowKit Go.Proofs.YtidnopmjhhmedaaDoorW.PrintWords Go.Proofs.YtidnopmjhhmedaaDoorW.PrintLast Go.Proofs.YtidnopmjhhmedaaDoorW.PrintMore
attribute [local go_sem] max2_int min2_int max_two min_two max_three min_three max_four min_four   -- for this text's walks alone
set_option linter.unusedVariables false
set_option linter.unusedSimpArgs false

end Go.Proofs.TrydX.X
end

section
-- Written by wip/tools/pr.py (a program of this repo over the kit's print.py).
namespace Go.Proofs.TrydX.X
open Go.RowKit Go.Proofs.YtidnopmjhhmedaaDoorW.PrintWords Go.Proofs.YtidnopmjhhmedaaDoorW.PrintLast Go.Proofs.YtidnopmjhhmedaaDoorW.PrintMore
attribute [local go_sem] max2_int min2_int max_two min_two max_three min_three max_four min_four   -- for this text's walks alone
set_option linter.unusedVariables false
set_option linter.unusedSimpArgs false

end Go.Proofs.TrydX.X
end

section
-- Written by wip/tools/pr.py (a program of this repo over the kit's print.py).
namespace Go.Proofs.TrydX.X
open Go.RowKit Go.Proofs.YtidnopmjhhmedaaDoorW.PrintWords Go.Proofs.YtidnopmjhhmedaaDoorW.PrintLast Go.Proofs.YtidnopmjhhmedaaDoorW.PrintMore
attribute [local go_sem] max2_int min2_int max_two min_two max_three min_three max_four min_four   -- for this text's walks alone
set_option linter.unusedVariables false
set_option linter.unusedSimpArgs false

end Go.Proofs.TrydX.X
end

section
-- Written by wip/tools/pr.py (a program of this repo over the kit's print.py).
namespace Go.Proofs.TrydX.X
open Go.RowKit Go.Proofs.YtidnopmjhhmedaaDoorW.PrintWords Go.Proofs.YtidnopmjhhmedaaDoorW.PrintLast Go.Proofs.YtidnopmjhhmedaaDoorW.PrintMore
attribute [local go_sem] max2_int min2_int max_two min_two max_three min_three max_four min_four   -- for this text's walks alone
set_option linter.unusedVariables false
set_option linter.unusedSimpArgs false

end Go.Proofs.TrydX.X
end

section
-- Written by wip/tools/pr.py (a program of this repo over the kit's print.py).
namespace Go.Proofs.TrydX.X
open Go.RowKit Go.Proofs.YtidnopmjhhmedaaDoorW.PrintWords Go.Proofs.YtidnopmjhhmedaaDoorW.PrintLast Go.Proofs.YtidnopmjhhmedaaDoorW.PrintMore
attribute [local go_sem] max2_int min2_int max_two min_two max_three min_three max_four min_four   -- for this text's walks alone
set_option linter.unusedVariables false
set_option linter.unusedSimpArgs false

end Go.Proofs.TrydX.X
end

section
-- Written by wip/tools/pr.py (a program of this repo over the kit's print.py).
namespace Go.Proofs.TrydX.X
open Go.RowKit Go.Proofs.YtidnopmjhhmedaaDoorW.PrintWords Go.Proofs.YtidnopmjhhmedaaDoorW.PrintLast Go.Proofs.YtidnopmjhhmedaaDoorW.PrintMore
attribute [local go_sem] max2_int min2_int max_two min_two max_three min_three max_four min_four   -- for this text's walks alone
set_option linter.unusedVariables false
set_option linter.unusedSimpArgs false

end Go.Proofs.TrydX.X
end

section
/- Plain: what the reference's functions of chapter 04 tell, in the hand's own words. -/
set_option linter.unusedSimpArgs false
set_option linter.unusedVariables false
namespace Go.Proofs.TrydX.X
open Go.RowKit Go.Proofs.YtidnopmjhhmedaaDoorW.PrintWords Go.Proofs.YtidnopmjhhmedaaDoorW.PrintLast
open Go.Proofs.YtidnopmjhhmedaaDoor

theorem wr {x : Int} (h : -9223372036854775808 ≤ x ∧ x ≤ 9223372036854775807) : wrap64 x = x := IntWalk.wrap64_in x h
theorem lies_f (n a b : Int) : remontoirref00_Lies.f n a b = some (lies n a b) := by
  unfold remontoirref00_Lies.f lies
  by_cases h : a ≤ n <;> simp [h]
theorem valid_f (a b l h : Int) : remontoirref00_Valid.f a b l h = some (decide (a ≤ b) && decide (l ≤ a) && decide (b ≤ h)) := by
  unfold remontoirref00_Valid.f
  by_cases h1 : a ≤ b <;> by_cases h2 : l ≤ a <;> simp [h1, h2]
theorem drop_rd (l : List Int) (i : Nat) (h : i < l.length) : l.drop i = rd l i :: l.drop (i + 1) := by
  rw [List.drop_eq_getElem_cons h]; simp [rd, h]
theorem total_l0 (l : List Int) (hl : l.length ≤ 17592186044416) (d : Nat) : ∀ (k i : Nat) (a : Int), i + d = l.length → d < k →
    remontoirref00_Total.l0 k l a l.length i = some ((l.drop i).foldl (fun a b => wrap64 (a + b)) a) := by
  induction d with
  | zero =>
    intro k i a hi hk
    obtain ⟨k, rfl⟩ : ∃ m, k = m + 1 := ⟨k - 1, by omega⟩
    simp only [remontoirref00_Total.l0]
    rw [if_neg (by omega), List.drop_eq_nil_of_le (by omega)]; rfl
  | succ d ih =>
    intro k i a hi hk
    obtain ⟨k, rfl⟩ : ∃ m, k = m + 1 := ⟨k - 1, by omega⟩
    simp only [remontoirref00_Total.l0]
    rw [if_pos (by omega), if_pos (by omega), if_pos (by omega), drop_rd l i (by omega), wr (x := (i : Int) + 1) (by omega)]
    have := ih k (i + 1) (wrap64 (a + rd l i)) (by omega) (by omega)
    simpa using this
theorem total_f (l : List Int) (hl : l.length ≤ 17592186044416) (k : Nat) (hk : l.length < k) : remontoirref00_Total.f k l = some (total l) := by
  have := total_l0 l hl l.length k 0 0 (by omega) hk
  simpa [remontoirref00_Total.f, total] using this
theorem mn_eq (a b : Int) : mn a b = min a b := by unfold mn; omega
theorem mx_eq (a b : Int) : mx a b = max a b := by unfold mx; omega
end Go.Proofs.TrydX.X
end

section
/- Plain: draws that are steered within a rule. -/
set_option linter.unusedSimpArgs false
set_option linter.unusedVariables false
namespace Go.Proofs.TrydX.X
open Go.RowKit Go.Proofs.YtidnopmjhhmedaaDoorW.PrintWords Go.Proofs.YtidnopmjhhmedaaDoorW.PrintLast
open Go.Proofs.YtidnopmjhhmedaaDoor

theorem isRule_f (F S J L H : Int) : remontoirlaw04_isRule.f F S J L H = some (isRuleB F S J L H) := by
  unfold remontoirlaw04_isRule.f scale_Reach.f
  cases hr : isRuleB F S J L H
  · simp
  · obtain ⟨hF, hS, hJ, hL⟩ := isRuleB_spec hr
    have h0 : lies 0 0 200 = true := by decide
    simp only [if_true, h0, Option.bind_some, lies_f, valid_f, lies_iff.2 hF, lies_iff.2 hS, lies_iff.2 hJ]
    simp; omega
theorem Rest_f (x m : Int) (hm : 0 < m) (hm2 : m ≤ 4611686018427387904) : ∃ r, remontoirref00_Rest.f x m = some r ∧ 0 ≤ r ∧ r < m := by
  unfold remontoirref00_Rest.f
  rw [if_neg (by omega)]
  have h1 := Int.tmod_lt_of_pos x hm
  have h2 := Int.lt_tmod_of_pos x hm
  split
  · rename_i h
    rw [wr (by omega)]
    exact ⟨_, rfl, by omega, by omega⟩
  · exact ⟨_, rfl, by omega, h1⟩
theorem At_f (l : List Int) (i : Int) (hl : l.length ≤ 17592186044416) : ∃ v, remontoirref00_At.f l i = some v := by
  unfold remontoirref00_At.f
  split
  · exact ⟨_, rfl⟩
  · obtain ⟨r, h1, h2, h3⟩ := Rest_f i l.length (by omega) (by omega)
    rw [h1]
    simp only [Option.bind_some]
    rw [if_pos h2, if_pos h3]
    exact ⟨_, rfl⟩
theorem From_f (a b v : Int) (ha : -1000000000 ≤ a ∧ a ≤ 1000000000) (hb : -1000000000 ≤ b ∧ b ≤ 1000000000) : ∃ r, remontoirref00_From.f a b v = some r ∧ (a ≤ b → a ≤ r ∧ r ≤ b) := by
  unfold remontoirref00_From.f
  split
  · exact ⟨_, rfl, fun _ => by omega⟩
  · rw [wr (x := b - a) (by omega), wr (x := b - a + 1) (by omega), if_neg (by omega)]
    obtain ⟨r, h1, h2, h3⟩ := Rest_f v (b - a + 1) (by omega) (by omega)
    rw [h1]
    simp only [Option.bind_some]
    rw [wr (x := a + r) (by omega)]
    exact ⟨_, rfl, fun _ => by omega⟩
theorem mul_small {J : Int} {d : Nat} (hJ : 0 ≤ J ∧ J ≤ 500) (hd : d ≤ 1000) : 0 ≤ J * d ∧ J * d ≤ 500000 := by
  have h1 : 0 ≤ J * d := Int.mul_nonneg hJ.1 (by omega)
  have h2 : J * d ≤ 500 * 1000 := Int.mul_le_mul hJ.2 (by omega) (by omega) (by omega)
  omega
theorem steered_l0 {F S J L H : Int} (hr : isRuleB F S J L H = true) (l : List Int) (hl : l.length ≤ 17592186044416) (sm : Bool) {n : Nat} (hn : n ≤ 100) (d : Nat) : ∀ (k i : Nat) (last : Int) (x9 : List Int), i + d = n → d < k → x9.length = i → -S ≤ last ∧ last ≤ F →
    (sm = true → -(J * i) ≤ last ∧ last ≤ J * i ∧ -(J * (d + 1 : Nat)) ≤ last ∧ last ≤ J * (d + 1 : Nat)) →
    ∃ tl, remontoirlaw04_steered.l0 k n l sm x9 last i F S J L H = some (x9 ++ tl) ∧ tl.length = d ∧ keepsB F S J last tl = true ∧
      (sm = true → ∀ (m : Nat) x, tl[m]? = some x → -(capAt S J n (i + m)) ≤ x ∧ x ≤ capAt F J n (i + m)) := by
  obtain ⟨hF, hS, hJ, _⟩ := isRuleB_spec hr
  induction d with
  | zero =>
    intro k i last x9 hi hk hx hla hsm
    obtain ⟨k, rfl⟩ : ∃ m, k = m + 1 := ⟨k - 1, by omega⟩
    simp only [remontoirlaw04_steered.l0]
    rw [if_neg (by omega)]
    exact ⟨[], by simp, rfl, rfl, fun _ m x h => by simp at h⟩
  | succ d ih =>
    intro k i last x9 hi hk hx hla hsm
    obtain ⟨k, rfl⟩ : ∃ m, k = m + 1 := ⟨k - 1, by omega⟩
    simp only [remontoirlaw04_steered.l0, remontoirref00_To.f, Option.bind_some, remontoirref00_Both.f, mx_eq, mn_eq]
    obtain ⟨v, hv⟩ := At_f l i hl
    have hd1 := mul_small (J := J) (d := d + 1) (by omega) (by omega)
    have hd0 := mul_small (J := J) (d := d) (by omega) (by omega)
    have hi1 := mul_small (J := J) (d := i + 1) (by omega) (by omega)
    have hi0 := mul_small (J := J) (d := i) (by omega) (by omega)
    have ed : J * ((d + 1 + 1 : Nat) : Int) = J * ((d + 1 : Nat) : Int) + J := by rw [show ((d + 1 + 1 : Nat) : Int) = ((d + 1 : Nat) : Int) + 1 by omega, Int.mul_add, Int.mul_one]
    have ei : J * ((i + 1 : Nat) : Int) = J * (i : Int) + J := by rw [show ((i + 1 : Nat) : Int) = (i : Int) + 1 by omega, Int.mul_add, Int.mul_one]
    rw [if_pos (by omega), hv]
    simp only [Option.bind_some]
    rw [wr (x := -S) (by omega), wr (x := last - J) (by omega), wr (x := last + J) (by omega), wr (x := (n : Int) - i) (by omega), show (n : Int) - i = ((d + 1 : Nat) : Int) by omega,
      wr (x := J * ((d + 1 : Nat) : Int)) (by omega), wr (x := -(J * ((d + 1 : Nat) : Int))) (by omega), wr (x := (i : Int) + 1) (by omega), show (i : Int) + 1 = ((i + 1 : Nat) : Int) by omega]
    have fin : ∀ r, max (-S) (last - J) ≤ r ∧ r ≤ min F (last + J) → (sm = true → -(J * ((d + 1 : Nat) : Int)) ≤ r ∧ r ≤ J * ((d + 1 : Nat) : Int)) →
        ∃ tl, remontoirlaw04_steered.l0 k n l sm (x9 ++ [r]) r ((i + 1 : Nat) : Int) F S J L H = some (x9 ++ tl) ∧ tl.length = d + 1 ∧ keepsB F S J last tl = true ∧
          (sm = true → ∀ (m : Nat) x, tl[m]? = some x → -(capAt S J n (i + m)) ≤ x ∧ x ≤ capAt F J n (i + m)) := by
      intro r hr1 hr2
      obtain ⟨tl, g1, g2, g3, g4⟩ := ih k (i + 1) r (x9 ++ [r]) (by omega) (by omega) (by simp [hx]) (by omega) (fun h => by
        have a1 := hsm h
        have a2 := hr2 h
        exact ⟨by omega, by omega, by omega, by omega⟩)
      refine ⟨r :: tl, by rw [g1, List.append_assoc]; rfl, by simp [g2], ?_, ?_⟩
      · simp only [keepsB, Bool.and_eq_true]
        exact ⟨⟨lies_iff.2 (by omega), lies_iff.2 (by omega)⟩, g3⟩
      · intro h m x hm
        cases m with
        | zero =>
          simp at hm
          subst hm
          have a1 := hsm h
          have a2 := hr2 h
          have e1 : J * ((i : Int) + 1) = J * (i : Int) + J := by rw [Int.mul_add, Int.mul_one]
          have e2 : (n : Int) - i = ((d + 1 : Nat) : Int) := by omega
          simp only [capAt, Nat.add_zero, e1, e2]
          omega
        | succ m =>
          have := g4 h m x (by simpa using hm)
          rwa [show i + 1 + m = i + (m + 1) by omega] at this
    cases sm
    · rw [if_neg (show ¬ (false = true) by decide)]
      obtain ⟨r, h1, h2⟩ := From_f (max (-S) (last - J)) (min F (last + J)) v (by omega) (by omega)
      rw [h1]
      simp only [Option.bind_some]
      rw [if_pos (by omega)]
      exact fin r (by have := h2 (by omega); omega) (fun h => by cases h)
    · rw [if_pos rfl]
      have a1 := hsm rfl
      obtain ⟨r, h1, h2⟩ := From_f (max (max (-S) (last - J)) (-(J * ((d + 1 : Nat) : Int)))) (min (min F (last + J)) (J * ((d + 1 : Nat) : Int))) v (by omega) (by omega)
      rw [h1]
      simp only [Option.bind_some]
      rw [if_pos (by omega)]
      have := h2 (by omega)
      exact (fin r (by omega) (fun _ => by omega)).imp fun tl h => ⟨h.1, h.2.1, h.2.2.1, fun _ => h.2.2.2 rfl⟩
theorem steered_f {F S J L H : Int} (hr : isRuleB F S J L H = true) (l : List Int) (hl : l.length ≤ 17592186044416) (sm : Bool) {n : Nat} (hn : n ≤ 100) (k : Nat) (hk : n < k) :
    ∃ tl, remontoirlaw04_steered.f k F S J L H n l sm = some tl ∧ tl.length = n ∧ keepsB F S J 0 tl = true ∧ (sm = true → ∀ (m : Nat) x, tl[m]? = some x → -(capAt S J n m) ≤ x ∧ x ≤ capAt F J n m) := by
  obtain ⟨hF, hS, hJ, _⟩ := isRuleB_spec hr
  have h1 := mul_small (J := J) (d := n + 1) (by omega) (by omega)
  obtain ⟨tl, g1, g2, g3, g4⟩ := steered_l0 hr l hl sm hn n k 0 0 [] (by omega) hk rfl (by omega) (fun _ => ⟨by simp, by simp, by omega, by omega⟩)
  refine ⟨tl, by unfold remontoirlaw04_steered.f; simpa using g1, g2, g3, fun h m x hm => ?_⟩
  have := g4 h m x hm
  simpa using this
end Go.Proofs.TrydX.X
end

section
/- The plain law of ScaleNever. -/
set_option linter.unusedSimpArgs false
set_option linter.unusedVariables false
namespace Go.Proofs.YtidnopmjhhmedaaDoor
open Go.RowKit Go.Proofs.YtidnopmjhhmedaaDoorW.PrintWords Go.Proofs.YtidnopmjhhmedaaDoorW.PrintLast TrydX.X
theorem shownAt_in {a F S : Int} {l : List Int} (hF : F ≤ 500) (hS : S ≤ 500) (hb : ∀ x ∈ l, -S ≤ x ∧ x ≤ F) : ∀ i : Nat, i ≤ l.length → a + 500 * i ≤ shownAt a l i ∧ shownAt a l i ≤ a + 1500 * i
  | 0, _ => by simp [shownAt, sumL]
  | i + 1, hi => by
    have ih := shownAt_in (a := a) hF hS hb i (by omega)
    have hil : i < l.length := by omega
    have hx := hb l[i] (List.getElem_mem hil)
    have hs := shownAt_succ a l i hil
    rw [List.getElem?_eq_getElem hil] at hs
    simp only [Option.getD_some] at hs
    omega
theorem rd_shown (a : Int) (l : List Int) (i : Nat) (h : i ≤ l.length) : rd (shownL a l) i = shownAt a l i := by
  unfold rd; simp [shownL, shownTo, List.getD_eq_getElem?_getD, show i < l.length + 1 by omega]
theorem shown_len (a : Int) (l : List Int) : (shownL a l).length = l.length + 1 := by simp [shownL, shownTo]
theorem never_l0 {F S : Int} {a : Int} {l : List Int} (ha : 0 ≤ a ∧ a ≤ 10000000) (hF : F ≤ 500) (hS : S ≤ 500) (hb : ∀ x ∈ l, -S ≤ x ∧ x ≤ F) (hl : l.length ≤ 200) (d : Nat) :
    ∀ (k i : Nat), i + d = l.length → d + l.length + 1 < k → remontoirlaw04_ScaleNever.l0 k a l (shownL a l) i = some true := by
  have hsl := shown_len a l
  induction d with
  | zero =>
    intro k i hi hk
    obtain ⟨k, rfl⟩ : ∃ m, k = m + 1 := ⟨k - 1, by omega⟩
    simp only [remontoirlaw04_ScaleNever.l0]
    have hB := shownAt_in (a := a) hF hS hb l.length (by omega)
    have hsum : shownAt a l l.length = a + 1000 * (l.length : Int) + sumL l := by unfold shownAt; rw [List.take_length]
    have htot : total l = sumL l := total_is l (fun x hx => by have := hb x hx; omega) (by omega)
    rw [if_neg (by omega), if_pos (by omega), if_pos (by omega), total_f l (by omega) k (by omega), rd_shown _ _ _ (by omega)]
    simp only [Option.bind_some]
    rw [htot, wr (x := shownAt a l l.length - a) (by omega), wr (x := 1000 * (l.length : Int)) (by omega), wr (x := 1000 * (l.length : Int) + sumL l) (by omega), if_pos (by omega)]
    rfl
  | succ d ih =>
    intro k i hi hk
    obtain ⟨k, rfl⟩ : ∃ m, k = m + 1 := ⟨k - 1, by omega⟩
    simp only [remontoirlaw04_ScaleNever.l0]
    have hil : i < l.length := by omega
    have hx := hb l[i] (List.getElem_mem hil)
    have hs := shownAt_succ a l i hil
    rw [List.getElem?_eq_getElem hil] at hs
    simp only [Option.getD_some] at hs
    have hB := shownAt_in (a := a) hF hS hb i (by omega)
    rw [if_pos (by omega), wr (x := (i : Int) + 1) (by omega), show (i : Int) + 1 = ((i + 1 : Nat) : Int) by omega, if_pos (by omega), if_pos (by omega), if_pos (by omega), if_pos (by omega),
      rd_shown _ _ _ (by omega), rd_shown _ _ _ (by omega), wr (x := shownAt a l (i + 1) - shownAt a l i) (by omega), if_neg (by omega), if_neg (by omega)]
    exact ih k (i + 1) (by omega) (by omega)
theorem scaleNever_pure (F S J L H a : Int) (l : List Int) (wf : W64 F ∧ W64 S ∧ W64 J ∧ W64 L ∧ W64 H) (wa : W64 a) (wl : ∀ z ∈ l, W64 z) (hl : l.length ≤ 17592186044416) :
    ∃ k, remontoirlaw04_ScaleNever.f k F S J L H a l = some true := by
  obtain ⟨K, hK⟩ : ∃ K : Nat, K = 500 := ⟨_, rfl⟩
  refine ⟨K + 1, ?_⟩
  unfold remontoirlaw04_ScaleNever.f
  rw [isRule_f]
  simp only [Option.bind_some]
  cases hr : isRuleB F S J L H
  · simp [scale_Shown.f, hr, remontoirlaw04_works.f]
  · obtain ⟨f0, e1, g1, g2⟩ := Rest_f a 10000001 (by omega) (by omega)
    obtain ⟨v, e2⟩ := At_f l 0 hl
    obtain ⟨n0, e3, g3, g4⟩ := Rest_f v 40 (by omega) (by omega)
    obtain ⟨n, rfl⟩ : ∃ n : Nat, n0 = n := ⟨n0.toNat, by omega⟩
    obtain ⟨tl, e4, g5, g6, _⟩ := steered_f hr l hl false (n := n) (by omega) (K + 1) (by omega)
    obtain ⟨hF, hS, hJ, _⟩ := isRuleB_spec hr
    rw [if_pos rfl, e1, e2]
    simp only [Option.bind_some, e3, e4]
    have e5 : scale_Shown.f F S J L H f0 tl = some (shownL f0 tl, 0) := by
      unfold scale_Shown.f
      rw [if_pos (by omega), if_pos hr, if_pos ⟨lies_iff.2 (by omega), by omega, g6⟩]
    have hsl := shown_len f0 tl
    have e6 : rd (shownL f0 tl) 0 = f0 := by
      have := rd_shown f0 tl 0 (by omega)
      rw [show ((0 : Nat) : Int) = 0 from rfl] at this
      rw [this]; simp [shownAt, sumL]
    have e7 : remontoirlaw04_ScaleNever.l0 K f0 tl (shownL f0 tl) 0 = some true := by
      have := never_l0 (F := F) (S := S) (a := f0) (l := tl) (by omega) (by omega) (by omega) (of_keeps tl 0 g6).1 (by omega) tl.length K 0 (by omega) (by omega)
      rw [show ((0 : Nat) : Int) = 0 from rfl] at this
      exact this
    generalize shownL f0 tl = sh at e5 hsl e6 e7
    rw [e5, Option.bind_some]
    have e8 : remontoirlaw04_ScaleNever.j0 (K + 1) f0 tl sh (rd sh 0 != f0) = some true := by
      rw [e6, bne_self_eq_false]
      simp only [remontoirlaw04_ScaleNever.j0]
      rw [if_neg (by decide)]
      exact e7
    rw [if_pos rfl, wr (x := (tl.length : Int) + 1) (by omega), if_pos (by show (sh.length : Int) = _; omega), if_pos (by show 0 < (sh.length : Int); omega)]
    exact e8
end Go.Proofs.YtidnopmjhhmedaaDoor
end

section
/- The row and the card of ScaleNever. Written by wip/tools/mkRow.py. -/
set_option linter.unusedVariables false
set_option linter.unusedSimpArgs false
namespace Go.Proofs.YtidnopmjhhmedaaDoor
open Go.ChangeShapes Go.WideShapes Go.ChangeAt Go.RowKit TrydX.X

set_option maxRecDepth 100000 in
theorem scaleNever_lifted (os : Os) (started : os.Started) (H : Type) (enc : TypeId × Value → H) :
    ReturnsInHanded {} Tryd.checked os 7 .any (fun w args => (Rows.scaleNeverSpec.pre enc Tryd.prog Tryd.f7 [] false w args ∧ laidMetH Tryd.prog laid1 w) ∧ sizedMet enc Tryd.prog Tryd.f7 (OpenSpec.ofChange Rows.scaleNeverSpec) false w args)
      (Rows.scaleNeverSpec.post enc Tryd.prog Tryd.f7 false true false false) := by
  refine returnsInHanded_of_change_and (C := Tryd.checked) (X := fun w _ => laidMetH Tryd.prog laid1 w) (fun _ _ _ hh h => h.of_heap hh) own started (by kernel_rfl) Tryd.func7
    (ChangeSpec.witness_shaped (enc := enc) (C := Tryd.checked) (os := os) (X := fun w _ => laidMetH Tryd.prog laid1 w) false (World.doorLaid Tryd.prog 400 os) #[.agg #[.int .i64 0, .int .i64 0, .int .i64 0, .int .i64 0, .int .i64 0], .int .i64 0, .slice none 0 0] 8 rfl (World.shaped_of_RefB (by kernel_rfl) (by kernel_rfl)) (by kernel_rfl) (by kernel_rfl) (by kernel_rfl) (door_met os _)) ?_
  intro W base args ds gs before hval0 hW hcnd hsz0 hL _
  have hsz : (DataW.weightsEach Tryd.prog (Tryd.f7.params.toList ++ Rows.scaleNeverSpec.plain.varTypes Tryd.prog) (ds ++ gs)).all (· ≤ reachBytes) = true := hsz0
  have hval : ∀ (j : Nat) t v, Tryd.f7.params[j]? = some t → args[j]? = some v → Value.okWide Tryd.prog W .any base t v := hval0
  have hW' := hW
  obtain ⟨p, q, hA0, hV, rfl, hfz, hnd⟩ := hW
  have hA : DataW.TrodAll enc Tryd.prog W 0 (fun _ => true) true Tryd.f7.params.toList args.toList ds p := hA0
  rw [Tryd.params7] at hA hval hsz
  obtain ⟨v0, vs0, d0, ds0, p0, q0, hargs, rfl, rfl, h0, r0⟩ := trodAll_cons hA
  obtain ⟨v1, vs1, d1, ds1, p1, q1, rfl, rfl, rfl, h1, r1⟩ := trodAll_cons r0
  obtain ⟨v2, vs2, d2, ds2, p2, q2, rfl, rfl, rfl, h2, r2⟩ := trodAll_cons r1
  obtain ⟨rfl, rfl, rfl⟩ := trodAll_nil r2
  obtain rfl : args = #[v0, v1, v2] := by cases args; simp_all
  obtain ⟨rfl, rfl⟩ := trodVars_none hV
  have lt0 : ∀ x ∈ p0, x.block < W.heap.size := by obtain ⟨m, hm⟩ := h0; exact DataW.trod_lt m _ _ _ hm
  have k0 := h0
  obtain ⟨cs0, rfl, hcs0⟩ := agg_of Tryd.underlying25 (hval 0 25 v0 rfl rfl)
  obtain ⟨m0, hm0⟩ := h0
  rw [hcs0] at hm0
  obtain ⟨a_0, b_0, c_0, d_0, e_0, rfl, wf0⟩ := op25 hm0
  have lt1 : ∀ x ∈ p1, x.block < W.heap.size := by obtain ⟨m, hm⟩ := h1; exact DataW.trod_lt m _ _ _ hm
  have k1 := h1
  obtain ⟨n_1, rfl, rfl, rfl, wf1⟩ := open_int Tryd.underlying3 (hval 1 3 v1 rfl rfl) h1
  have lt2 : ∀ x ∈ p2, x.block < W.heap.size := by obtain ⟨m, hm⟩ := h2; exact DataW.trod_lt m _ _ _ hm
  have k2 := h2
  obtain ⟨A_2, len2, cap2, rfl⟩ := okWide_slice Tryd.underlying26 (hval 2 26 v2 rfl rfl)
  obtain ⟨m2, hm2⟩ := h2
  obtain ⟨B_2, c_2, l_2, e2, rd2, hc2, wf2, hs2⟩ := op26 hm2
  have z2 := hs2 (weights_at hsz (j := 2) (t := 26) (d := d2) rfl rfl)
  simp [Value.cells] at e2
  obtain ⟨rfl, rfl, rfl⟩ := e2
  obtain ⟨k, hk⟩ := scaleNever_pure a_0 b_0 c_0 d_0 e_0 n_1 l_2 wf0 wf1 wf2 z2
  clear hA0 hval0 hsz0 hsz
  refine (remontoirlaw04_ScaleNever.calls k a_0 b_0 c_0 d_0 e_0 n_1 A_2 cap2 l_2 true W rd2 hc2 (ways_of_laid hL) hk).mono fun e W' ⟨he, bel⟩ => ?_
  subst he
  exact ⟨_, rfl, _, _, _, [], _, [], hW', trodAll_mk1 (shut_bool Tryd.underlying4 _), (trodAll_cons_mk (Below.trod laidOut (by kernel_rfl) (of_decide_eq_true (by kernel_rfl)) k0 bel lt0) (trodAll_cons_mk (Below.trod laidOut (by kernel_rfl) (of_decide_eq_true (by kernel_rfl)) k1 bel lt1) (trodAll_cons_mk (Below.trod laidOut (by kernel_rfl) (of_decide_eq_true (by kernel_rfl)) k2 bel lt2) trodAll_mk0))), rfl, bel.frame _, fun h => by cases h⟩

theorem scaleNever_row : Rows.ScaleNeverSaid :=
  OpenClaim.holds_of_wide 7 Tryd.f7 rfl rfl rfl rfl rfl rfl rfl ⟨rfl, rfl, rfl, rfl, rfl⟩ rfl rfl rfl rfl rfl (by kernel_rfl) Tryd.func7 (by kernel_rfl)
    (of_decide_eq_true (by kernel_rfl)) (by unfold Func.isWrapper; first | (rw [if_pos (by decide +kernel)]; kernel_rfl) | (rw [if_neg (by decide +kernel)]; exact ⟨rfl, rfl⟩))
    (fun os started H enc _ => scaleNever_lifted os started H enc)

/-- THE CARD. -/
theorem scaleNever_holds : Rows.ScaleNeverCardSaid :=
  Claim7.holds_tied_plain_at .later [] [.funcs] true (true, "42c157d2a2e9e6c40d73358f232322a0bd5e742c3af8e9a8c48de9150ba4d318") false
    scaleNever_row (fun _ h => by cases h) (by kernel_rfl) (fun _ h => by cases h) scaleNever_row_tie rfl ⟨rfl, rfl⟩ (by kernel_rfl) rfl
    (fun f fn hf hfn => by
      obtain rfl : f = 7 := Option.some.inj ((show Tryd.prog.funcNamed "remontoir/remontoirlaw04.ScaleNever" = some 7 by kernel_rfl).symm.trans hf) |>.symm
      obtain rfl : fn = Tryd.f7 := (Option.some.inj (Tryd.func7.symm.trans hfn)).symm
      exact ⟨by kernel_rfl, fun j t ht => by
        rw [Tryd.params7] at ht
        have h3 : t ∈ [(25 : TypeId), (3 : TypeId), (26 : TypeId)] := by
          obtain ⟨hj, e⟩ := Array.getElem?_eq_some_iff.1 ht
          rw [← e]
          exact Array.getElem_mem_toList hj
        simp only [List.mem_cons, List.not_mem_nil, or_false] at h3
        rcases h3 with rfl | rfl | rfl
        · exact (show Tryd.prog.wantsStandIn 25 = false by kernel_rfl)
        · exact (show Tryd.prog.wantsStandIn 3 = false by kernel_rfl)
        · exact (show Tryd.prog.wantsStandIn 26 = false by kernel_rfl)⟩)
    (by kernel_rfl)
#print axioms scaleNever_holds
end Go.Proofs.YtidnopmjhhmedaaDoor
end
