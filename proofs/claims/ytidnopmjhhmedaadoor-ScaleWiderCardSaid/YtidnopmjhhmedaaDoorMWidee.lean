/- PROVED: ScaleWiderCardSaid, for every input, where the listed variable reads as the program's text lays it. Part 5 of 5: of this session; merged by wip/tools/mkClaim.py. -/
import Derived.Test.YtidnopmjhhmedaaDoorMWideb
import Derived.Test.YtidnopmjhhmedaaDoorMWided
import Derived.Test.YtidnopmjhhmedaaDoorMWidec
import Derived.Test.YtidnopmjhhmedaaDoorCards
import Derived.Test.YtidnopmjhhmedaaDoorTie
import Derived.WalkKit
import Derived.Below
import Derived.Carry
import Derived.SevenTiedAt
section
-- Written by wip/tools/pr.py (a program of this repo over the kit's print.py).
namespace Go.Proofs.TrydX.X
open Go.RowKit Go.Proofs.YtidnopmjhhmedaaDoorW.PrintWords Go.Proofs.YtidnopmjhhmedaaDoorW.PrintLast Go.Proofs.YtidnopmjhhmedaaDoorW.PrintMore
attribute [local go_sem] max2_int min2_int max_two min_two max_three min_three max_four min_four   -- for this text's walks alone
set_option linter.unusedVariables false
set_option linter.unusedSimpArgs false

/-! ### remontoirlaw04_ScaleWider: function 14 -/
mutual
def remontoirlaw04_ScaleWider.j0 : Nat → Int → Bool → Int → Int → Int → Int → Int → Int → List Int → List (S71) → Int → Int → Int → Int → Int → Int → Int → Int → Int → Int → List Int → List (S71) → Option (Bool)
  | 0, _, _, _, _, _, _, _, _, _, _, _, _, _, _, _, _, _, _, _, _, _, _ => none
  | k + 1, x6, x30, x622000, x622001, x622002, x622003, x622004, x622005, x622006, x622007, x623000, x623001, x623002, x623003, x626000, x626001, x626002, x626003, x626004, x626005, x626006, x626007 => if x30 = true then ((remontoirref00_To.f (mx (-100) (wrap64 (x622003 - x6))) (mn 100 (wrap64 (x622004 + x6)))).bind fun bt628 => ((remontoirref00_Rest.f x623003 (wrap64 (x622005 + 1))).bind fun t630 => ((scale_Error.f x622000 x622001 x622002 x622003 x622004 x622005 x622006 x622007 t630).bind fun bt631 => ((scale_Error.f x626000 x626001 x626002 bt628.1 bt628.2 x626005 x626006 x626007 t630).bind fun bt635 => (remontoirlaw04_ScaleWider.j1 k bt631.2.2 bt635.2.2 (bt631.2.2 != 0) bt631.1 bt631.2.1 bt635.1 bt635.2.1))))) else ((remontoirref00_Rest.f x623002 (x622007.length : Int)).bind fun t643 => ((some (([] : List (S71)) : List (S71))).bind fun y644 => (if y644.length + x622007.length < 5864062014805 then ((some (y644 ++ x622007 : List (S71))).bind fun y647 => (if 0 ≤ t643 then (if t643 < (x622007.length : Int) then ((remontoirref00_To.f (mx (-20000) (wrap64 (((rd_T71 x622007 t643).f1.f0) - x6))) (mn 20000 (wrap64 (((rd_T71 x622007 t643).f1.f1) + x6)))).bind fun bt653 => (if t643 < (y647.length : Int) then ((remontoirref00_Rest.f x623003 (wrap64 (x622005 + 1))).bind fun t656 => ((scale_Error.f x622000 x622001 x622002 x622003 x622004 x622005 x622006 x622007 t656).bind fun bt657 => ((scale_Error.f x626000 x626001 x626002 x626003 x626004 x626005 x626006 (y647.set (t643 : Int).toNat (⟨(rd_T71 x622007 t643).f0, (⟨bt653.1, bt653.2⟩ : S23)⟩ : S71)) t656).bind fun bt661 => (remontoirlaw04_ScaleWider.j2 k bt657.2.2 bt661.2.2 (bt657.2.2 != 0) bt657.1 bt657.2.1 bt661.1 bt661.2.1)))) else (none))) else (none)) else (none))) else (none))))
def remontoirlaw04_ScaleWider.j1 : Nat → Int → Int → Bool → Int → Int → Int → Int → Option (Bool)
  | 0, _, _, _, _, _, _, _ => none
  | k + 1, x10, x12, x110, x635000, x635001, x639000, x639001 => if x110 = true then (if x10 = 42 then (if x12 = 0 then ((remontoirlaw04_works.f).bind fun t639 => (some t639)) else (if x12 = x10 then ((remontoirlaw04_works.f).bind fun t640 => (some t640)) else (some false))) else (some false)) else (if x12 = 0 then ((remontoirref00_Within.f x635000 x635001 x639000 x639001).bind fun t641 => (if t641 = true then ((remontoirlaw04_works.f).bind fun t642 => (some t642)) else (some false))) else (some false))
def remontoirlaw04_ScaleWider.j2 : Nat → Int → Int → Bool → Int → Int → Int → Int → Option (Bool)
  | 0, _, _, _, _, _, _, _ => none
  | k + 1, x10, x12, x110, x661000, x661001, x665000, x665001 => if x110 = true then (if x10 = 42 then (if x12 = 0 then ((remontoirlaw04_works.f).bind fun t665 => (some t665)) else (if x12 = x10 then ((remontoirlaw04_works.f).bind fun t666 => (some t666)) else (some false))) else (some false)) else (if x12 = 0 then ((remontoirref00_Within.f x661000 x661001 x665000 x665001).bind fun t667 => (if t667 = true then ((remontoirlaw04_works.f).bind fun t668 => (some t668)) else (some false))) else (some false))
end
def remontoirlaw04_ScaleWider.f (k : Nat) (a0_0 : Int) (a0_1 : Int) (a0_2 : Int) (a0_3 : Int) (a0_4 : Int) (a0_5 : Int) (l0_6 : List Int) (l0_7 : List (S71)) (a1_0 : Int) (a1_1 : Int) (a1_2 : Int) (a1_3 : Int) : Option (Bool) := (remontoirlaw04_sound.f k a0_0 a0_1 a0_2 a0_3 a0_4 a0_5 l0_6 l0_7).bind fun t623 => (if t623 = true then ((remontoirref00_Rest.f a1_1 30).bind fun t626 => ((remontoirref00_Rest.f a1_0 2).bind fun t627 => (if t627 = 0 then (remontoirlaw04_ScaleWider.j0 k t626 true a0_0 a0_1 a0_2 a0_3 a0_4 a0_5 l0_6 l0_7 a1_0 a1_1 a1_2 a1_3 a0_0 a0_1 a0_2 a0_3 a0_4 a0_5 l0_6 l0_7) else (remontoirlaw04_ScaleWider.j0 k t626 ((l0_7.length : Int) == 0) a0_0 a0_1 a0_2 a0_3 a0_4 a0_5 l0_6 l0_7 a1_0 a1_1 a1_2 a1_3 a0_0 a0_1 a0_2 a0_3 a0_4 a0_5 l0_6 l0_7)))) else ((remontoirlaw04_works.f).bind fun t624 => (some t624)))
def remontoirlaw04_ScaleWider.T9 : Bool × List (List Nat × List Nat) := (true, [([], []), ([0], [0]), ([], []), ([], []), ([3], [3]), ([], []), ([4, 5], [4, 5]), ([6], [6]), ([7], [7]), ([], []), ([9], [9]), ([], []), ([10, 11], [10, 11]), ([12], [12]), ([13], [13]), ([14], [14]), ([], []), ([15, 16], [15, 16]), ([17], [17]), ([], []), ([19], [19]), ([], []), ([20, 21], [20, 21]), ([22], [22]), ([23], [23]), ([24], [24]), ([], []), ([25, 26], [25, 26]), ([27], [27]), ([18, 28], [18, 28]), ([8, 29], [8, 29]), ([1, 2, 0, 1, 2, 3, 4, 5, 6, 7, 8, 9, 10, 11, 12, 13, 14, 15, 16, 17, 18, 19, 20, 21, 22, 23, 24, 25, 26, 27, 28, 29, 30], [1, 2]), ([31, 30, 29, 0, 1, 2, 3, 4, 5, 6, 7, 8, 9, 10, 11, 12, 13, 14, 15, 16, 17, 18, 19, 20, 21, 22, 23, 24, 25, 26, 27, 28, 29, 30], [30, 31])])
def remontoirlaw04_ScaleWider.B9 : List Nat := [0, 1, 0, 0, 8, 0, 56, 120, 248, 0, 512, 0, 3584, 7680, 15872, 32256, 0, 130560, 261632, 0, 524288, 0, 3670016, 7864320, 16252928, 33030144, 0, 133693440, 267911168, 536870400, 1073741816, 2147483647, 4294967295]
theorem remontoirlaw04_ScaleWider.tab9 : rtab .any (opsOf Tryd.f14 9) = remontoirlaw04_ScaleWider.T9 := by kernel_rfl
theorem remontoirlaw04_ScaleWider.bits9 : waitsOk remontoirlaw04_ScaleWider.T9.2 remontoirlaw04_ScaleWider.B9 = true := by kernel_rfl
set_option maxHeartbeats 8000000 in
set_option maxRecDepth 100000 in
theorem remontoirlaw04_ScaleWider.calls (k : Nat) (a0_0 : Int) (a0_1 : Int) (a0_2 : Int) (a0_3 : Int) (a0_4 : Int) (a0_5 : Int) (A0_6 : Option Addr) (c0_6 : Nat) (l0_6 : List Int) (A0_7 : Option Addr) (c0_7 : Nat) (l0_7 : List (S71)) (a1_0 : Int) (a1_1 : Int) (a1_2 : Int) (a1_3 : Int) (r : Bool) (w : World) (hr0_6 : Kd.C (Kd.int .i64) w A0_6 l0_6.length l0_6) (hc0_6 : l0_6.length ≤ c0_6) (hr0_7 : Kd.C k71 w A0_7 l0_7.length l0_7) (hc0_7 : l0_7.length ≤ c0_7) (hWays : Go.Proofs.YtidnopmjhhmedaaDoor.Ways w) (h : remontoirlaw04_ScaleWider.f k a0_0 a0_1 a0_2 a0_3 a0_4 a0_5 l0_6 l0_7 a1_0 a1_1 a1_2 a1_3 = some r) :
    Calls Tryd.prog 14 #[.agg #[.int .i64 a0_0, .int .i64 a0_1, .int .i64 a0_2, .int .i64 a0_3, .int .i64 a0_4, .int .i64 a0_5, .slice A0_6 l0_6.length c0_6, .slice A0_7 l0_7.length c0_7], .agg #[.int .i64 a1_0, .int .i64 a1_1, .int .i64 a1_2, .int .i64 a1_3]] w fun e w' => e = .returned (.bool r) ∧ Below w.heap.size w w' := by
  have hu44 := Tryd.underlying44
  have hu65 := Tryd.underlying65
  have hu23 := Tryd.underlying23
  have hu71 := Tryd.underlying71
  have HR0_6 := Aside0.mk hr0_6
  have HC0_6 := Aside0.mk hc0_6
  clear hr0_6 hc0_6
  have HR0_7 := Aside0.mk hr0_7
  have HC0_7 := Aside0.mk hc0_7
  clear hr0_7 hc0_7
  have HB := Aside0.mk (Below.refl w.heap.size w)
  have HWays := Aside0.mk hWays
  clear hWays
  have H : ((remontoirlaw04_sound.f k a0_0 a0_1 a0_2 a0_3 a0_4 a0_5 l0_6 l0_7).bind fun t623 => (if t623 = true then ((remontoirref00_Rest.f a1_1 30).bind fun t626 => ((remontoirref00_Rest.f a1_0 2).bind fun t627 => (if t627 = 0 then (remontoirlaw04_ScaleWider.j0 k t626 true a0_0 a0_1 a0_2 a0_3 a0_4 a0_5 l0_6 l0_7 a1_0 a1_1 a1_2 a1_3 a0_0 a0_1 a0_2 a0_3 a0_4 a0_5 l0_6 l0_7) else (remontoirlaw04_ScaleWider.j0 k t626 ((l0_7.length : Int) == 0) a0_0 a0_1 a0_2 a0_3 a0_4 a0_5 l0_6 l0_7 a1_0 a1_1 a1_2 a1_3 a0_0 a0_1 a0_2 a0_3 a0_4 a0_5 l0_6 l0_7)))) else ((remontoirlaw04_works.f).bind fun t624 => (some t624)))) = some r := h
  clear h
  replace H := Option.bind_eq_some_iff.mp H
  obtain ⟨t623, A30, H⟩ := H
  replace H : (if t623 = true then ((remontoirref00_Rest.f a1_1 30).bind fun t626 => ((remontoirref00_Rest.f a1_0 2).bind fun t627 => (if t627 = 0 then (remontoirlaw04_ScaleWider.j0 k t626 true a0_0 a0_1 a0_2 a0_3 a0_4 a0_5 l0_6 l0_7 a1_0 a1_1 a1_2 a1_3 a0_0 a0_1 a0_2 a0_3 a0_4 a0_5 l0_6 l0_7) else (remontoirlaw04_ScaleWider.j0 k t626 ((l0_7.length : Int) == 0) a0_0 a0_1 a0_2 a0_3 a0_4 a0_5 l0_6 l0_7 a1_0 a1_1 a1_2 a1_3 a0_0 a0_1 a0_2 a0_3 a0_4 a0_5 l0_6 l0_7)))) else ((remontoirlaw04_works.f).bind fun t624 => (some t624))) = some r := H
  have A3 := Aside0.mk A30
  clear A30
  by_cases c4 : t623 = true
  · subst c4
    have H1 : ((remontoirref00_Rest.f a1_1 30).bind fun t626 => ((remontoirref00_Rest.f a1_0 2).bind fun t627 => (if t627 = 0 then (remontoirlaw04_ScaleWider.j0 k t626 true a0_0 a0_1 a0_2 a0_3 a0_4 a0_5 l0_6 l0_7 a1_0 a1_1 a1_2 a1_3 a0_0 a0_1 a0_2 a0_3 a0_4 a0_5 l0_6 l0_7) else (remontoirlaw04_ScaleWider.j0 k t626 ((l0_7.length : Int) == 0) a0_0 a0_1 a0_2 a0_3 a0_4 a0_5 l0_6 l0_7 a1_0 a1_1 a1_2 a1_3 a0_0 a0_1 a0_2 a0_3 a0_4 a0_5 l0_6 l0_7)))) = some r := by rw [if_pos rfl] at H; exact H
    clear H
    have H := H1
    clear H1
    replace H := Option.bind_eq_some_iff.mp H
    obtain ⟨t626, A50, H⟩ := H
    replace H : ((remontoirref00_Rest.f a1_0 2).bind fun t627 => (if t627 = 0 then (remontoirlaw04_ScaleWider.j0 k t626 true a0_0 a0_1 a0_2 a0_3 a0_4 a0_5 l0_6 l0_7 a1_0 a1_1 a1_2 a1_3 a0_0 a0_1 a0_2 a0_3 a0_4 a0_5 l0_6 l0_7) else (remontoirlaw04_ScaleWider.j0 k t626 ((l0_7.length : Int) == 0) a0_0 a0_1 a0_2 a0_3 a0_4 a0_5 l0_6 l0_7 a1_0 a1_1 a1_2 a1_3 a0_0 a0_1 a0_2 a0_3 a0_4 a0_5 l0_6 l0_7))) = some r := H
    have A5 := Aside0.mk A50
    clear A50
    have HC6 := Aside0.mk H
    clear H
    go_enter Tryd.func14, Tryd.ntmps14
    go_upto_region 5 with (first | ((with_reducible refine gate_dst (N := 2) rfl ?_); (try (refine gate_guard (by rfl) ?_; dsimp only)); refine box_event ?hg (N := 2) ?hd (cs := #[.int .i64 a0_0, .int .i64 a0_1, .int .i64 a0_2, .int .i64 a0_3, .int .i64 a0_4, .int .i64 a0_5, .slice A0_6 l0_6.length c0_6, .slice A0_7 l0_7.length c0_7]) (t := 44) ?hr ?_; (case hd => rfl); (case hg => rfl); (case hr => first | (go_simp; done) | (go_simp; rfl)); intro gb621 hg w7 hbox hb; have n0_ := Aside0.mk (below_step (by repeat (first | (with_reducible first | exact HB.out | apply below_alloc | apply pw_below_drewN | apply below_drew1) | exact HB.out)) hb); have n1_ := Aside0.mk (hbox); have n2_ := Aside0.mk ((by rw [hg]; exact (below_size (by repeat (first | (with_reducible first | exact HB.out | apply below_alloc | apply pw_below_drewN | apply below_drew1) | exact HB.out))) : w.heap.size ≤ gb621)); have n3_ := Aside0.mk ((by rw [hg]; exact (below_size (by repeat (first | (with_reducible first | exact HB.out | apply below_alloc | apply pw_below_drewN | apply below_drew1) | exact HB.out))) : w.heap.size ≤ gb621)); clear HB; have HB := n0_; have BK621 := n1_; have GW621 := n2_; have GE621 := n3_; clear n0_ n1_ n2_ n3_; clear hb hbox hg) | ((with_reducible refine gate_dst (N := 3) rfl ?_); (try (refine gate_guard (by rfl) ?_; dsimp only)); refine box_event ?hg (N := 3) ?hd (cs := #[.int .i64 a1_0, .int .i64 a1_1, .int .i64 a1_2, .int .i64 a1_3]) (t := 65) ?hr ?_; (case hd => rfl); (case hg => rfl); (case hr => first | (go_simp; done) | (go_simp; rfl)); intro gb622 hg w8 hbox hb; have n0_ := Aside0.mk (blk_below (g := gb621) (o := .cells #[.int .i64 a0_0, .int .i64 a0_1, .int .i64 a0_2, .int .i64 a0_3, .int .i64 a0_4, .int .i64 a0_5, .slice A0_6 l0_6.length c0_6, .slice A0_7 l0_7.length c0_7] 44 (0, 0)) (by (with_reducible repeat (first | refine blk_drewN ?_ _ | refine blk_drew ?_ | refine blk_alloc ?_ _)); exact BK621.out) hb); have n1_ := Aside0.mk (below_step (by repeat (first | (with_reducible first | exact HB.out | apply below_alloc | apply pw_below_drewN | apply below_drew1 | refine below_set ?_ GE621.out) | exact HB.out)) hb); have n2_ := Aside0.mk (hbox); have n3_ := Aside0.mk ((by rw [hg]; exact (below_size (by repeat (first | (with_reducible first | exact HB.out | apply below_alloc | apply pw_below_drewN | apply below_drew1 | refine below_set ?_ GE621.out) | exact HB.out))) : w.heap.size ≤ gb622)); have n4_ := Aside0.mk ((by rw [hg]; exact (below_size (by repeat (first | (with_reducible first | exact HB.out | apply below_alloc | apply pw_below_drewN | apply below_drew1 | refine below_set ?_ GE621.out) | exact HB.out))) : w.heap.size ≤ gb622)); have n5_ := Aside0.mk ((by rw [hg]; exact Nat.ne_of_lt (blk_lt (g := gb621) (o := .cells #[.int .i64 a0_0, .int .i64 a0_1, .int .i64 a0_2, .int .i64 a0_3, .int .i64 a0_4, .int .i64 a0_5, .slice A0_6 l0_6.length c0_6, .slice A0_7 l0_7.length c0_7] 44 (0, 0)) (by (with_reducible repeat (first | refine blk_drewN ?_ _ | refine blk_drew ?_ | refine blk_alloc ?_ _)); exact BK621.out)) : gb621 ≠ gb622)); have n6_ := Aside0.mk ((by rw [hg]; exact Nat.ne_of_gt (blk_lt (g := gb621) (o := .cells #[.int .i64 a0_0, .int .i64 a0_1, .int .i64 a0_2, .int .i64 a0_3, .int .i64 a0_4, .int .i64 a0_5, .slice A0_6 l0_6.length c0_6, .slice A0_7 l0_7.length c0_7] 44 (0, 0)) (by (with_reducible repeat (first | refine blk_drewN ?_ _ | refine blk_drew ?_ | refine blk_alloc ?_ _)); exact BK621.out)) : gb622 ≠ gb621)); clear BK621; clear HB; have BK621 := n0_; have HB := n1_; have BK622 := n2_; have GW622 := n3_; have GE622 := n4_; have NB621_622 := n5_; have NB622_621 := n6_; clear n0_ n1_ n2_ n3_ n4_ n5_ n6_; clear hb hbox hg; have hnb9 := NB621_622.out; have hnc9 := NB622_621.out; have hcz10_0 : w8.cell? ⟨gb621, 0, none⟩ = some (.int .i64 a0_0) := (blk_cell BK621.out 0).trans rfl; have hcz10_1 : w8.cell? ⟨gb621, 1, none⟩ = some (.int .i64 a0_1) := (blk_cell BK621.out 1).trans rfl; have hcz10_2 : w8.cell? ⟨gb621, 2, none⟩ = some (.int .i64 a0_2) := (blk_cell BK621.out 2).trans rfl; have hcz10_3 : w8.cell? ⟨gb621, 3, none⟩ = some (.int .i64 a0_3) := (blk_cell BK621.out 3).trans rfl; have hcz10_4 : w8.cell? ⟨gb621, 4, none⟩ = some (.int .i64 a0_4) := (blk_cell BK621.out 4).trans rfl; have hcz10_5 : w8.cell? ⟨gb621, 5, none⟩ = some (.int .i64 a0_5) := (blk_cell BK621.out 5).trans rfl; have hcz10_6 : w8.cell? ⟨gb621, 6, none⟩ = some (.slice A0_6 l0_6.length c0_6) := (blk_cell BK621.out 6).trans rfl; have hcz10_7 : w8.cell? ⟨gb621, 7, none⟩ = some (.slice A0_7 l0_7.length c0_7) := (blk_cell BK621.out 7).trans rfl; have hfz10_0 := blk_frozen BK621.out 0; have hfz10_1 := blk_frozen BK621.out 1; have hfz10_2 := blk_frozen BK621.out 2; have hfz10_3 := blk_frozen BK621.out 3; have hfz10_4 := blk_frozen BK621.out 4; have hfz10_5 := blk_frozen BK621.out 5; have hfz10_6 := blk_frozen BK621.out 6; have hfz10_7 := blk_frozen BK621.out 7) | ((with_reducible refine gate_callee (f := 50) rfl ?_); refine goesL_ (some 14) rfl rfl Tryd.func50 (by kernel_rfl) rfl #[.agg #[.int .i64 a0_0, .int .i64 a0_1, .int .i64 a0_2, .int .i64 a0_3, .int .i64 a0_4, .int .i64 a0_5, .slice A0_6 l0_6.length c0_6, .slice A0_7 l0_7.length c0_7]] rfl (by (try simp only [List.map_toArray, List.map_cons, List.map_nil]); first | done | rfl | (simp only [List.length_drop, List.length_take]; rfl)) ?_; (with_reducible refine (remontoirlaw04_sound.calls k a0_0 a0_1 a0_2 a0_3 a0_4 a0_5 _ _ l0_6 _ _ l0_7 true _ ?side1 ?side2 ?side3 ?side4 ?side5 A3.out).mono ?_); (case side1 => repeat (first | exact (Kd.C_below HR0_6.out HB.out) | (with_reducible refine Kd.C_alloc ?_ _) | (with_reducible refine Kd.C_drewN ?_ _) | (with_reducible refine Kd.C_drew ?_))); (case side2 => exact HC0_6.out); (case side3 => repeat (first | exact (Kd.C_below HR0_7.out HB.out) | (with_reducible refine Kd.C_alloc ?_ _) | (with_reducible refine Kd.C_drewN ?_ _) | (with_reducible refine Kd.C_drew ?_))); (case side4 => exact HC0_7.out); (case side5 => exact Go.Proofs.YtidnopmjhhmedaaDoor.Ways.below HWays.out (by repeat (first | (with_reducible first | exact HB.out | apply below_alloc | apply pw_below_drewN | apply below_drew1 | refine below_set ?_ GE621.out | refine below_set ?_ GE622.out) | exact HB.out))); rintro e w11 ⟨rfl, hb⟩; refine ⟨_, rfl, ?_⟩; have n0_ := Aside0.mk (blk_below (g := gb621) (o := .cells #[.int .i64 a0_0, .int .i64 a0_1, .int .i64 a0_2, .int .i64 a0_3, .int .i64 a0_4, .int .i64 a0_5, .slice A0_6 l0_6.length c0_6, .slice A0_7 l0_7.length c0_7] 44 (0, 0)) (by (with_reducible repeat (first | refine blk_drewN ?_ _ | refine blk_drew ?_ | refine blk_alloc ?_ _)); exact BK621.out) hb); have n1_ := Aside0.mk (blk_below (g := gb622) (o := .cells #[.int .i64 a1_0, .int .i64 a1_1, .int .i64 a1_2, .int .i64 a1_3] 65 (0, 0)) (by (with_reducible repeat (first | refine blk_drewN ?_ _ | refine blk_drew ?_ | refine blk_alloc ?_ _)); exact BK622.out) hb); have n2_ := Aside0.mk (below_step (by repeat (first | (with_reducible first | exact HB.out | apply below_alloc | apply pw_below_drewN | apply below_drew1 | refine below_set ?_ GE621.out | refine below_set ?_ GE622.out) | exact HB.out)) hb); clear BK621; clear BK622; clear HB; have BK621 := n0_; have BK622 := n1_; have HB := n2_; clear n0_ n1_ n2_; (try clear hb); (try clear hb2); (try clear hk); (try clear hi); have hcz12_0 : w11.cell? ⟨gb621, 0, none⟩ = some (.int .i64 a0_0) := (blk_cell BK621.out 0).trans rfl; have hcz12_1 : w11.cell? ⟨gb621, 1, none⟩ = some (.int .i64 a0_1) := (blk_cell BK621.out 1).trans rfl; have hcz12_2 : w11.cell? ⟨gb621, 2, none⟩ = some (.int .i64 a0_2) := (blk_cell BK621.out 2).trans rfl; have hcz12_3 : w11.cell? ⟨gb621, 3, none⟩ = some (.int .i64 a0_3) := (blk_cell BK621.out 3).trans rfl; have hcz12_4 : w11.cell? ⟨gb621, 4, none⟩ = some (.int .i64 a0_4) := (blk_cell BK621.out 4).trans rfl; have hcz12_5 : w11.cell? ⟨gb621, 5, none⟩ = some (.int .i64 a0_5) := (blk_cell BK621.out 5).trans rfl; have hcz12_6 : w11.cell? ⟨gb621, 6, none⟩ = some (.slice A0_6 l0_6.length c0_6) := (blk_cell BK621.out 6).trans rfl; have hcz12_7 : w11.cell? ⟨gb621, 7, none⟩ = some (.slice A0_7 l0_7.length c0_7) := (blk_cell BK621.out 7).trans rfl; have hfz12_0 := blk_frozen BK621.out 0; have hfz12_1 := blk_frozen BK621.out 1; have hfz12_2 := blk_frozen BK621.out 2; have hfz12_3 := blk_frozen BK621.out 3; have hfz12_4 := blk_frozen BK621.out 4; have hfz12_5 := blk_frozen BK621.out 5; have hfz12_6 := blk_frozen BK621.out 6; have hfz12_7 := blk_frozen BK621.out 7) | ((with_reducible refine gate_dst (N := 5) rfl ?_); (try (refine gate_guard (by rfl) ?_; dsimp only)); refine box_event ?hg (N := 5) ?hd (cs := #[.int .i64 0, .int .i64 0, .int .i64 0, .int .i64 0, .int .i64 0, .int .i64 0, .slice none 0 0, .slice none 0 0]) (t := 44) ?hr ?_; (case hd => rfl); (case hg => rfl); (case hr => first | (go_simp; done) | (go_simp; rfl)); intro gb625 hg w13 hbox hb; have n0_ := Aside0.mk (blk_below (g := gb621) (o := .cells #[.int .i64 a0_0, .int .i64 a0_1, .int .i64 a0_2, .int .i64 a0_3, .int .i64 a0_4, .int .i64 a0_5, .slice A0_6 l0_6.length c0_6, .slice A0_7 l0_7.length c0_7] 44 (0, 0)) (by (with_reducible repeat (first | refine blk_drewN ?_ _ | refine blk_drew ?_ | refine blk_alloc ?_ _)); exact BK621.out) hb); have n1_ := Aside0.mk (blk_below (g := gb622) (o := .cells #[.int .i64 a1_0, .int .i64 a1_1, .int .i64 a1_2, .int .i64 a1_3] 65 (0, 0)) (by (with_reducible repeat (first | refine blk_drewN ?_ _ | refine blk_drew ?_ | refine blk_alloc ?_ _)); exact BK622.out) hb); have n2_ := Aside0.mk (below_step (by repeat (first | (with_reducible first | exact HB.out | apply below_alloc | apply pw_below_drewN | apply below_drew1 | refine below_set ?_ GE621.out | refine below_set ?_ GE622.out) | exact HB.out)) hb); have n3_ := Aside0.mk (hbox); have n4_ := Aside0.mk ((by rw [hg]; exact (below_size (by repeat (first | (with_reducible first | exact HB.out | apply below_alloc | apply pw_below_drewN | apply below_drew1 | refine below_set ?_ GE621.out | refine below_set ?_ GE622.out) | exact HB.out))) : w.heap.size ≤ gb625)); have n5_ := Aside0.mk ((by rw [hg]; exact (below_size (by repeat (first | (with_reducible first | exact HB.out | apply below_alloc | apply pw_below_drewN | apply below_drew1 | refine below_set ?_ GE621.out | refine below_set ?_ GE622.out) | exact HB.out))) : w.heap.size ≤ gb625)); have n6_ := Aside0.mk ((by rw [hg]; exact Nat.ne_of_lt (blk_lt (g := gb621) (o := .cells #[.int .i64 a0_0, .int .i64 a0_1, .int .i64 a0_2, .int .i64 a0_3, .int .i64 a0_4, .int .i64 a0_5, .slice A0_6 l0_6.length c0_6, .slice A0_7 l0_7.length c0_7] 44 (0, 0)) (by (with_reducible repeat (first | refine blk_drewN ?_ _ | refine blk_drew ?_ | refine blk_alloc ?_ _)); exact BK621.out)) : gb621 ≠ gb625)); have n7_ := Aside0.mk ((by rw [hg]; exact Nat.ne_of_gt (blk_lt (g := gb621) (o := .cells #[.int .i64 a0_0, .int .i64 a0_1, .int .i64 a0_2, .int .i64 a0_3, .int .i64 a0_4, .int .i64 a0_5, .slice A0_6 l0_6.length c0_6, .slice A0_7 l0_7.length c0_7] 44 (0, 0)) (by (with_reducible repeat (first | refine blk_drewN ?_ _ | refine blk_drew ?_ | refine blk_alloc ?_ _)); exact BK621.out)) : gb625 ≠ gb621)); have n8_ := Aside0.mk ((by rw [hg]; exact Nat.ne_of_lt (blk_lt (g := gb622) (o := .cells #[.int .i64 a1_0, .int .i64 a1_1, .int .i64 a1_2, .int .i64 a1_3] 65 (0, 0)) (by (with_reducible repeat (first | refine blk_drewN ?_ _ | refine blk_drew ?_ | refine blk_alloc ?_ _)); exact BK622.out)) : gb622 ≠ gb625)); have n9_ := Aside0.mk ((by rw [hg]; exact Nat.ne_of_gt (blk_lt (g := gb622) (o := .cells #[.int .i64 a1_0, .int .i64 a1_1, .int .i64 a1_2, .int .i64 a1_3] 65 (0, 0)) (by (with_reducible repeat (first | refine blk_drewN ?_ _ | refine blk_drew ?_ | refine blk_alloc ?_ _)); exact BK622.out)) : gb625 ≠ gb622)); clear BK621; clear BK622; clear HB; have BK621 := n0_; have BK622 := n1_; have HB := n2_; have BK625 := n3_; have GW625 := n4_; have GE625 := n5_; have NB621_625 := n6_; have NB625_621 := n7_; have NB622_625 := n8_; have NB625_622 := n9_; clear n0_ n1_ n2_ n3_ n4_ n5_ n6_ n7_ n8_ n9_; clear hb hbox hg; have hnb14 := NB625_621.out; have hnc14 := NB621_625.out; have hnb15 := NB625_622.out; have hnc15 := NB622_625.out; have hcz16_0 : w13.cell? ⟨gb625, 0, none⟩ = some (.int .i64 0) := (blk_cell BK625.out 0).trans rfl; have hcz16_1 : w13.cell? ⟨gb625, 1, none⟩ = some (.int .i64 0) := (blk_cell BK625.out 1).trans rfl; have hcz16_2 : w13.cell? ⟨gb625, 2, none⟩ = some (.int .i64 0) := (blk_cell BK625.out 2).trans rfl; have hcz16_3 : w13.cell? ⟨gb625, 3, none⟩ = some (.int .i64 0) := (blk_cell BK625.out 3).trans rfl; have hcz16_4 : w13.cell? ⟨gb625, 4, none⟩ = some (.int .i64 0) := (blk_cell BK625.out 4).trans rfl; have hcz16_5 : w13.cell? ⟨gb625, 5, none⟩ = some (.int .i64 0) := (blk_cell BK625.out 5).trans rfl; have hcz16_6 : w13.cell? ⟨gb625, 6, none⟩ = some (.slice none 0 0) := (blk_cell BK625.out 6).trans rfl; have hcz16_7 : w13.cell? ⟨gb625, 7, none⟩ = some (.slice none 0 0) := (blk_cell BK625.out 7).trans rfl; have hfz16_0 := blk_frozen BK625.out 0; have hfz16_1 := blk_frozen BK625.out 1; have hfz16_2 := blk_frozen BK625.out 2; have hfz16_3 := blk_frozen BK625.out 3; have hfz16_4 := blk_frozen BK625.out 4; have hfz16_5 := blk_frozen BK625.out 5; have hfz16_6 := blk_frozen BK625.out 6; have hfz16_7 := blk_frozen BK625.out 7; have hcz17_0 : w13.cell? ⟨gb622, 0, none⟩ = some (.int .i64 a1_0) := (blk_cell BK622.out 0).trans rfl; have hcz17_1 : w13.cell? ⟨gb622, 1, none⟩ = some (.int .i64 a1_1) := (blk_cell BK622.out 1).trans rfl; have hcz17_2 : w13.cell? ⟨gb622, 2, none⟩ = some (.int .i64 a1_2) := (blk_cell BK622.out 2).trans rfl; have hcz17_3 : w13.cell? ⟨gb622, 3, none⟩ = some (.int .i64 a1_3) := (blk_cell BK622.out 3).trans rfl; have hfz17_0 := blk_frozen BK622.out 0; have hfz17_1 := blk_frozen BK622.out 1; have hfz17_2 := blk_frozen BK622.out 2; have hfz17_3 := blk_frozen BK622.out 3) | ((with_reducible refine gate_callee (f := 38) rfl ?_); refine goesL_ (some 20) rfl rfl Tryd.func38 (by kernel_rfl) rfl #[.int .i64 a1_1, .int .i64 30] rfl (by (try simp only [List.map_toArray, List.map_cons, List.map_nil]); first | done | rfl | (simp only [List.length_drop, List.length_take]; rfl)) ?_; (with_reducible refine (remontoirref00_Rest.calls a1_1 30 t626 _ A5.out).mono ?_); rintro e w' ⟨rfl, ⟨nd, rfl⟩⟩; refine ⟨_, rfl, ?_⟩))
    (try simp only [Act.put, List.setIfInBounds_toArray, List.set_cons_zero, List.set_cons_succ])
    go_cut [30] (fun v30 wc => ∃ (kq : Nat) (x30_5 : Bool), v30 = .bool x30_5 ∧ Aside0 (remontoirlaw04_ScaleWider.j0 kq t626 x30_5 a0_0 a0_1 a0_2 a0_3 a0_4 a0_5 l0_6 l0_7 a1_0 a1_1 a1_2 a1_3 a0_0 a0_1 a0_2 a0_3 a0_4 a0_5 l0_6 l0_7 = some r) ∧ Aside0 (kq ≤ k) ∧ Aside0 (wc.heap[gb621]? = some (.cells #[.int .i64 a0_0, .int .i64 a0_1, .int .i64 a0_2, .int .i64 a0_3, .int .i64 a0_4, .int .i64 a0_5, (.slice A0_6 l0_6.length c0_6), (.slice A0_7 l0_7.length c0_7)] 44 (0, 0))) ∧ Aside0 (wc.heap[gb622]? = some (.cells #[.int .i64 a1_0, .int .i64 a1_1, .int .i64 a1_2, .int .i64 a1_3] 65 (0, 0))) ∧ Aside0 (wc.heap[gb625]? = some (.cells #[.int .i64 a0_0, .int .i64 a0_1, .int .i64 a0_2, .int .i64 a0_3, .int .i64 a0_4, .int .i64 a0_5, (.slice A0_6 l0_6.length c0_6), (.slice A0_7 l0_7.length c0_7)] 44 (0, 0))) ∧ Aside0 (Below w.heap.size w wc))
    case first =>
      have H := HC6.out
      clear HC6
      replace H := Option.bind_eq_some_iff.mp H
      obtain ⟨t627, A180, H⟩ := H
      replace H : (if t627 = 0 then (remontoirlaw04_ScaleWider.j0 k t626 true a0_0 a0_1 a0_2 a0_3 a0_4 a0_5 l0_6 l0_7 a1_0 a1_1 a1_2 a1_3 a0_0 a0_1 a0_2 a0_3 a0_4 a0_5 l0_6 l0_7) else (remontoirlaw04_ScaleWider.j0 k t626 ((l0_7.length : Int) == 0) a0_0 a0_1 a0_2 a0_3 a0_4 a0_5 l0_6 l0_7 a1_0 a1_1 a1_2 a1_3 a0_0 a0_1 a0_2 a0_3 a0_4 a0_5 l0_6 l0_7)) = some r := H
      have A18 := Aside0.mk A180
      clear A180
      by_cases c19 : t627 = 0
      · rw [if_pos c19] at H
        have c19b0 : (t627 == 0) = true := beq_iff_eq.mpr c19
        have c19b1 : (t627 != 0) = false := bne_eq_false_iff_eq.mpr c19
        clear c19
        (first | rw [c19b0] | (simp only [i64_w, i32_w]; rw [c19b0]) | skip)
        have H' := Aside0.mk H
        clear H
        have hnb20 := NB622_621.out
        have hnc20 := NB621_622.out
        have hnb21 := NB622_625.out
        have hnc21 := NB625_622.out
        have hcz22_0 : w13.cell? ⟨gb622, 0, none⟩ = some (.int .i64 a1_0) := (blk_cell BK622.out 0).trans rfl
        have hcz22_1 : w13.cell? ⟨gb622, 1, none⟩ = some (.int .i64 a1_1) := (blk_cell BK622.out 1).trans rfl
        have hcz22_2 : w13.cell? ⟨gb622, 2, none⟩ = some (.int .i64 a1_2) := (blk_cell BK622.out 2).trans rfl
        have hcz22_3 : w13.cell? ⟨gb622, 3, none⟩ = some (.int .i64 a1_3) := (blk_cell BK622.out 3).trans rfl
        have hfz22_0 := blk_frozen BK622.out 0
        have hfz22_1 := blk_frozen BK622.out 1
        have hfz22_2 := blk_frozen BK622.out 2
        have hfz22_3 := blk_frozen BK622.out 3
        go_wp2_with (first | ((with_reducible refine gate_callee (f := 38) rfl ?_); refine goesL_ (some 23) rfl rfl Tryd.func38 (by kernel_rfl) rfl #[.int .i64 a1_0, .int .i64 2] rfl (by (try simp only [List.map_toArray, List.map_cons, List.map_nil]); first | done | rfl | (simp only [List.length_drop, List.length_take]; rfl)) ?_; (with_reducible refine (remontoirref00_Rest.calls a1_0 2 t627 _ A18.out).mono ?_); rintro e w' ⟨rfl, ⟨nd, rfl⟩⟩; refine ⟨_, rfl, ?_⟩))
        go_meet
        case rel => exact ⟨_, (true), (by first | rfl | (simp; done) | (simp [*]; done)), H', ⟨by first | omega | exact Nat.le_refl _⟩, ⟨by (with_reducible repeat (first | refine blk_drewN ?_ _ | refine blk_drew ?_ | refine blk_alloc ?_ _)); refine blk_far ?_ NB621_625.out _; (with_reducible repeat (first | refine blk_drewN ?_ _ | refine blk_drew ?_ | refine blk_alloc ?_ _)); refine blk_far ?_ NB621_625.out _; (with_reducible repeat (first | refine blk_drewN ?_ _ | refine blk_drew ?_ | refine blk_alloc ?_ _)); refine blk_far ?_ NB621_625.out _; (with_reducible repeat (first | refine blk_drewN ?_ _ | refine blk_drew ?_ | refine blk_alloc ?_ _)); refine blk_far ?_ NB621_625.out _; (with_reducible repeat (first | refine blk_drewN ?_ _ | refine blk_drew ?_ | refine blk_alloc ?_ _)); refine blk_far ?_ NB621_625.out _; (with_reducible repeat (first | refine blk_drewN ?_ _ | refine blk_drew ?_ | refine blk_alloc ?_ _)); refine blk_far ?_ NB621_625.out _; (with_reducible repeat (first | refine blk_drewN ?_ _ | refine blk_drew ?_ | refine blk_alloc ?_ _)); refine blk_far ?_ NB621_625.out _; (with_reducible repeat (first | refine blk_drewN ?_ _ | refine blk_drew ?_ | refine blk_alloc ?_ _)); refine blk_far ?_ NB621_625.out _; (with_reducible repeat (first | refine blk_drewN ?_ _ | refine blk_drew ?_ | refine blk_alloc ?_ _)); exact BK621.out⟩, ⟨by (with_reducible repeat (first | refine blk_drewN ?_ _ | refine blk_drew ?_ | refine blk_alloc ?_ _)); refine blk_far ?_ NB622_625.out _; (with_reducible repeat (first | refine blk_drewN ?_ _ | refine blk_drew ?_ | refine blk_alloc ?_ _)); refine blk_far ?_ NB622_625.out _; (with_reducible repeat (first | refine blk_drewN ?_ _ | refine blk_drew ?_ | refine blk_alloc ?_ _)); refine blk_far ?_ NB622_625.out _; (with_reducible repeat (first | refine blk_drewN ?_ _ | refine blk_drew ?_ | refine blk_alloc ?_ _)); refine blk_far ?_ NB622_625.out _; (with_reducible repeat (first | refine blk_drewN ?_ _ | refine blk_drew ?_ | refine blk_alloc ?_ _)); refine blk_far ?_ NB622_625.out _; (with_reducible repeat (first | refine blk_drewN ?_ _ | refine blk_drew ?_ | refine blk_alloc ?_ _)); refine blk_far ?_ NB622_625.out _; (with_reducible repeat (first | refine blk_drewN ?_ _ | refine blk_drew ?_ | refine blk_alloc ?_ _)); refine blk_far ?_ NB622_625.out _; (with_reducible repeat (first | refine blk_drewN ?_ _ | refine blk_drew ?_ | refine blk_alloc ?_ _)); refine blk_far ?_ NB622_625.out _; (with_reducible repeat (first | refine blk_drewN ?_ _ | refine blk_drew ?_ | refine blk_alloc ?_ _)); exact BK622.out⟩, ⟨by (with_reducible repeat (first | refine blk_drewN ?_ _ | refine blk_drew ?_ | refine blk_alloc ?_ _)); refine blk_put (cs := #[.int .i64 a0_0, .int .i64 a0_1, .int .i64 a0_2, .int .i64 a0_3, .int .i64 a0_4, .int .i64 a0_5, .slice A0_6 l0_6.length c0_6, .slice none 0 0]) ?_ 7 _ rfl; (with_reducible repeat (first | refine blk_drewN ?_ _ | refine blk_drew ?_ | refine blk_alloc ?_ _)); refine blk_put (cs := #[.int .i64 a0_0, .int .i64 a0_1, .int .i64 a0_2, .int .i64 a0_3, .int .i64 a0_4, .int .i64 a0_5, .slice none 0 0, .slice none 0 0]) ?_ 6 _ rfl; (with_reducible repeat (first | refine blk_drewN ?_ _ | refine blk_drew ?_ | refine blk_alloc ?_ _)); refine blk_put (cs := #[.int .i64 a0_0, .int .i64 a0_1, .int .i64 a0_2, .int .i64 a0_3, .int .i64 a0_4, .int .i64 0, .slice none 0 0, .slice none 0 0]) ?_ 5 _ rfl; (with_reducible repeat (first | refine blk_drewN ?_ _ | refine blk_drew ?_ | refine blk_alloc ?_ _)); refine blk_put (cs := #[.int .i64 a0_0, .int .i64 a0_1, .int .i64 a0_2, .int .i64 a0_3, .int .i64 0, .int .i64 0, .slice none 0 0, .slice none 0 0]) ?_ 4 _ rfl; (with_reducible repeat (first | refine blk_drewN ?_ _ | refine blk_drew ?_ | refine blk_alloc ?_ _)); refine blk_put (cs := #[.int .i64 a0_0, .int .i64 a0_1, .int .i64 a0_2, .int .i64 0, .int .i64 0, .int .i64 0, .slice none 0 0, .slice none 0 0]) ?_ 3 _ rfl; (with_reducible repeat (first | refine blk_drewN ?_ _ | refine blk_drew ?_ | refine blk_alloc ?_ _)); refine blk_put (cs := #[.int .i64 a0_0, .int .i64 a0_1, .int .i64 0, .int .i64 0, .int .i64 0, .int .i64 0, .slice none 0 0, .slice none 0 0]) ?_ 2 _ rfl; (with_reducible repeat (first | refine blk_drewN ?_ _ | refine blk_drew ?_ | refine blk_alloc ?_ _)); refine blk_put (cs := #[.int .i64 a0_0, .int .i64 0, .int .i64 0, .int .i64 0, .int .i64 0, .int .i64 0, .slice none 0 0, .slice none 0 0]) ?_ 1 _ rfl; (with_reducible repeat (first | refine blk_drewN ?_ _ | refine blk_drew ?_ | refine blk_alloc ?_ _)); refine blk_put (cs := #[.int .i64 0, .int .i64 0, .int .i64 0, .int .i64 0, .int .i64 0, .int .i64 0, .slice none 0 0, .slice none 0 0]) ?_ 0 _ rfl; (with_reducible repeat (first | refine blk_drewN ?_ _ | refine blk_drew ?_ | refine blk_alloc ?_ _)); exact BK625.out⟩, ⟨by repeat (first | (with_reducible first | exact HB.out | apply below_alloc | apply pw_below_drewN | apply below_drew1 | refine below_set ?_ GE621.out | refine below_set ?_ GE622.out | refine below_set ?_ GE625.out) | exact HB.out)⟩⟩
      · rw [if_neg c19] at H
        have c19b0 : (t627 == 0) = false := beq_eq_false_iff_ne.mpr c19
        have c19b1 : (t627 != 0) = true := bne_iff_ne.mpr c19
        (first | rw [c19b0] | (simp only [i64_w, i32_w]; rw [c19b0]) | skip)
        have H' := Aside0.mk H
        clear H
        have hnb23 := NB622_621.out
        have hnc23 := NB621_622.out
        have hnb24 := NB622_625.out
        have hnc24 := NB625_622.out
        have hcz25_0 : w13.cell? ⟨gb622, 0, none⟩ = some (.int .i64 a1_0) := (blk_cell BK622.out 0).trans rfl
        have hcz25_1 : w13.cell? ⟨gb622, 1, none⟩ = some (.int .i64 a1_1) := (blk_cell BK622.out 1).trans rfl
        have hcz25_2 : w13.cell? ⟨gb622, 2, none⟩ = some (.int .i64 a1_2) := (blk_cell BK622.out 2).trans rfl
        have hcz25_3 : w13.cell? ⟨gb622, 3, none⟩ = some (.int .i64 a1_3) := (blk_cell BK622.out 3).trans rfl
        have hfz25_0 := blk_frozen BK622.out 0
        have hfz25_1 := blk_frozen BK622.out 1
        have hfz25_2 := blk_frozen BK622.out 2
        have hfz25_3 := blk_frozen BK622.out 3
        go_wp2_with (first | ((with_reducible refine gate_callee (f := 38) rfl ?_); refine goesL_ (some 23) rfl rfl Tryd.func38 (by kernel_rfl) rfl #[.int .i64 a1_0, .int .i64 2] rfl (by (try simp only [List.map_toArray, List.map_cons, List.map_nil]); first | done | rfl | (simp only [List.length_drop, List.length_take]; rfl)) ?_; (with_reducible refine (remontoirref00_Rest.calls a1_0 2 t627 _ A18.out).mono ?_); rintro e w' ⟨rfl, ⟨nd, rfl⟩⟩; refine ⟨_, rfl, ?_⟩; have hnb26 := NB621_625.out; have hnc26 := NB625_621.out; have hcz27_0 : w13.cell? ⟨gb621, 0, none⟩ = some (.int .i64 a0_0) := (blk_cell BK621.out 0).trans rfl; have hcz27_1 : w13.cell? ⟨gb621, 1, none⟩ = some (.int .i64 a0_1) := (blk_cell BK621.out 1).trans rfl; have hcz27_2 : w13.cell? ⟨gb621, 2, none⟩ = some (.int .i64 a0_2) := (blk_cell BK621.out 2).trans rfl; have hcz27_3 : w13.cell? ⟨gb621, 3, none⟩ = some (.int .i64 a0_3) := (blk_cell BK621.out 3).trans rfl; have hcz27_4 : w13.cell? ⟨gb621, 4, none⟩ = some (.int .i64 a0_4) := (blk_cell BK621.out 4).trans rfl; have hcz27_5 : w13.cell? ⟨gb621, 5, none⟩ = some (.int .i64 a0_5) := (blk_cell BK621.out 5).trans rfl; have hcz27_6 : w13.cell? ⟨gb621, 6, none⟩ = some (.slice A0_6 l0_6.length c0_6) := (blk_cell BK621.out 6).trans rfl; have hcz27_7 : w13.cell? ⟨gb621, 7, none⟩ = some (.slice A0_7 l0_7.length c0_7) := (blk_cell BK621.out 7).trans rfl; have hfz27_0 := blk_frozen BK621.out 0; have hfz27_1 := blk_frozen BK621.out 1; have hfz27_2 := blk_frozen BK621.out 2; have hfz27_3 := blk_frozen BK621.out 3; have hfz27_4 := blk_frozen BK621.out 4; have hfz27_5 := blk_frozen BK621.out 5; have hfz27_6 := blk_frozen BK621.out 6; have hfz27_7 := blk_frozen BK621.out 7))
        go_meet
        case rel => exact ⟨_, (((l0_7.length : Int) == 0)), (by first | rfl | (simp; done) | (simp [*]; done)), H', ⟨by first | omega | exact Nat.le_refl _⟩, ⟨by (with_reducible repeat (first | refine blk_drewN ?_ _ | refine blk_drew ?_ | refine blk_alloc ?_ _)); refine blk_far ?_ NB621_625.out _; (with_reducible repeat (first | refine blk_drewN ?_ _ | refine blk_drew ?_ | refine blk_alloc ?_ _)); refine blk_far ?_ NB621_625.out _; (with_reducible repeat (first | refine blk_drewN ?_ _ | refine blk_drew ?_ | refine blk_alloc ?_ _)); refine blk_far ?_ NB621_625.out _; (with_reducible repeat (first | refine blk_drewN ?_ _ | refine blk_drew ?_ | refine blk_alloc ?_ _)); refine blk_far ?_ NB621_625.out _; (with_reducible repeat (first | refine blk_drewN ?_ _ | refine blk_drew ?_ | refine blk_alloc ?_ _)); refine blk_far ?_ NB621_625.out _; (with_reducible repeat (first | refine blk_drewN ?_ _ | refine blk_drew ?_ | refine blk_alloc ?_ _)); refine blk_far ?_ NB621_625.out _; (with_reducible repeat (first | refine blk_drewN ?_ _ | refine blk_drew ?_ | refine blk_alloc ?_ _)); refine blk_far ?_ NB621_625.out _; (with_reducible repeat (first | refine blk_drewN ?_ _ | refine blk_drew ?_ | refine blk_alloc ?_ _)); refine blk_far ?_ NB621_625.out _; (with_reducible repeat (first | refine blk_drewN ?_ _ | refine blk_drew ?_ | refine blk_alloc ?_ _)); exact BK621.out⟩, ⟨by (with_reducible repeat (first | refine blk_drewN ?_ _ | refine blk_drew ?_ | refine blk_alloc ?_ _)); refine blk_far ?_ NB622_625.out _; (with_reducible repeat (first | refine blk_drewN ?_ _ | refine blk_drew ?_ | refine blk_alloc ?_ _)); refine blk_far ?_ NB622_625.out _; (with_reducible repeat (first | refine blk_drewN ?_ _ | refine blk_drew ?_ | refine blk_alloc ?_ _)); refine blk_far ?_ NB622_625.out _; (with_reducible repeat (first | refine blk_drewN ?_ _ | refine blk_drew ?_ | refine blk_alloc ?_ _)); refine blk_far ?_ NB622_625.out _; (with_reducible repeat (first | refine blk_drewN ?_ _ | refine blk_drew ?_ | refine blk_alloc ?_ _)); refine blk_far ?_ NB622_625.out _; (with_reducible repeat (first | refine blk_drewN ?_ _ | refine blk_drew ?_ | refine blk_alloc ?_ _)); refine blk_far ?_ NB622_625.out _; (with_reducible repeat (first | refine blk_drewN ?_ _ | refine blk_drew ?_ | refine blk_alloc ?_ _)); refine blk_far ?_ NB622_625.out _; (with_reducible repeat (first | refine blk_drewN ?_ _ | refine blk_drew ?_ | refine blk_alloc ?_ _)); refine blk_far ?_ NB622_625.out _; (with_reducible repeat (first | refine blk_drewN ?_ _ | refine blk_drew ?_ | refine blk_alloc ?_ _)); exact BK622.out⟩, ⟨by (with_reducible repeat (first | refine blk_drewN ?_ _ | refine blk_drew ?_ | refine blk_alloc ?_ _)); refine blk_put (cs := #[.int .i64 a0_0, .int .i64 a0_1, .int .i64 a0_2, .int .i64 a0_3, .int .i64 a0_4, .int .i64 a0_5, .slice A0_6 l0_6.length c0_6, .slice none 0 0]) ?_ 7 _ rfl; (with_reducible repeat (first | refine blk_drewN ?_ _ | refine blk_drew ?_ | refine blk_alloc ?_ _)); refine blk_put (cs := #[.int .i64 a0_0, .int .i64 a0_1, .int .i64 a0_2, .int .i64 a0_3, .int .i64 a0_4, .int .i64 a0_5, .slice none 0 0, .slice none 0 0]) ?_ 6 _ rfl; (with_reducible repeat (first | refine blk_drewN ?_ _ | refine blk_drew ?_ | refine blk_alloc ?_ _)); refine blk_put (cs := #[.int .i64 a0_0, .int .i64 a0_1, .int .i64 a0_2, .int .i64 a0_3, .int .i64 a0_4, .int .i64 0, .slice none 0 0, .slice none 0 0]) ?_ 5 _ rfl; (with_reducible repeat (first | refine blk_drewN ?_ _ | refine blk_drew ?_ | refine blk_alloc ?_ _)); refine blk_put (cs := #[.int .i64 a0_0, .int .i64 a0_1, .int .i64 a0_2, .int .i64 a0_3, .int .i64 0, .int .i64 0, .slice none 0 0, .slice none 0 0]) ?_ 4 _ rfl; (with_reducible repeat (first | refine blk_drewN ?_ _ | refine blk_drew ?_ | refine blk_alloc ?_ _)); refine blk_put (cs := #[.int .i64 a0_0, .int .i64 a0_1, .int .i64 a0_2, .int .i64 0, .int .i64 0, .int .i64 0, .slice none 0 0, .slice none 0 0]) ?_ 3 _ rfl; (with_reducible repeat (first | refine blk_drewN ?_ _ | refine blk_drew ?_ | refine blk_alloc ?_ _)); refine blk_put (cs := #[.int .i64 a0_0, .int .i64 a0_1, .int .i64 0, .int .i64 0, .int .i64 0, .int .i64 0, .slice none 0 0, .slice none 0 0]) ?_ 2 _ rfl; (with_reducible repeat (first | refine blk_drewN ?_ _ | refine blk_drew ?_ | refine blk_alloc ?_ _)); refine blk_put (cs := #[.int .i64 a0_0, .int .i64 0, .int .i64 0, .int .i64 0, .int .i64 0, .int .i64 0, .slice none 0 0, .slice none 0 0]) ?_ 1 _ rfl; (with_reducible repeat (first | refine blk_drewN ?_ _ | refine blk_drew ?_ | refine blk_alloc ?_ _)); refine blk_put (cs := #[.int .i64 0, .int .i64 0, .int .i64 0, .int .i64 0, .int .i64 0, .int .i64 0, .slice none 0 0, .slice none 0 0]) ?_ 0 _ rfl; (with_reducible repeat (first | refine blk_drewN ?_ _ | refine blk_drew ?_ | refine blk_alloc ?_ _)); exact BK625.out⟩, ⟨by repeat (first | (with_reducible first | exact HB.out | apply below_alloc | apply pw_below_drewN | apply below_drew1 | refine below_set ?_ GE621.out | refine below_set ?_ GE622.out | refine below_set ?_ GE625.out) | exact HB.out)⟩⟩
    case rest =>
      as_aux_lemma =>
      clear HC6
      try clear c1
      try clear c2
      try clear p2
      try clear c3
      try clear c4
      try clear c5
      try clear c9
      try clear c14
      try clear c15
      try clear c19
      try clear c19b0
      try clear c19b1
      try clear c20
      try clear c21
      try clear c23
      try clear c24
      try clear c26
      try clear hcz10_0
      try clear hcz10_1
      try clear hcz10_2
      try clear hcz10_3
      try clear hcz10_4
      try clear hcz10_5
      try clear hcz10_6
      try clear hcz10_7
      try clear hcz12_0
      try clear hcz12_1
      try clear hcz12_2
      try clear hcz12_3
      try clear hcz12_4
      try clear hcz12_5
      try clear hcz12_6
      try clear hcz12_7
      try clear hcz16_0
      try clear hcz16_1
      try clear hcz16_2
      try clear hcz16_3
      try clear hcz16_4
      try clear hcz16_5
      try clear hcz16_6
      try clear hcz16_7
      try clear hcz17_0
      try clear hcz17_1
      try clear hcz17_2
      try clear hcz17_3
      try clear hcz22_0
      try clear hcz22_1
      try clear hcz22_2
      try clear hcz22_3
      try clear hcz25_0
      try clear hcz25_1
      try clear hcz25_2
      try clear hcz25_3
      try clear hcz27_0
      try clear hcz27_1
      try clear hcz27_2
      try clear hcz27_3
      try clear hcz27_4
      try clear hcz27_5
      try clear hcz27_6
      try clear hcz27_7
      try clear hfz10_0
      try clear hfz10_1
      try clear hfz10_2
      try clear hfz10_3
      try clear hfz10_4
      try clear hfz10_5
      try clear hfz10_6
      try clear hfz10_7
      try clear hfz12_0
      try clear hfz12_1
      try clear hfz12_2
      try clear hfz12_3
      try clear hfz12_4
      try clear hfz12_5
      try clear hfz12_6
      try clear hfz12_7
      try clear hfz16_0
      try clear hfz16_1
      try clear hfz16_2
      try clear hfz16_3
      try clear hfz16_4
      try clear hfz16_5
      try clear hfz16_6
      try clear hfz16_7
      try clear hfz17_0
      try clear hfz17_1
      try clear hfz17_2
      try clear hfz17_3
      try clear hfz22_0
      try clear hfz22_1
      try clear hfz22_2
      try clear hfz22_3
      try clear hfz25_0
      try clear hfz25_1
      try clear hfz25_2
      try clear hfz25_3
      try clear hfz27_0
      try clear hfz27_1
      try clear hfz27_2
      try clear hfz27_3
      try clear hfz27_4
      try clear hfz27_5
      try clear hfz27_6
      try clear hfz27_7
      obtain ⟨kq, x30_5, rfl, HA, HJ5, BK621, BK622, BK625, HB⟩ := hcut
      cases kq with
      | zero => exact absurd HA.out (by simp [remontoirlaw04_ScaleWider.j0])
      | succ kj5 =>
        have H := HA.out
        clear HA
        simp only [remontoirlaw04_ScaleWider.j0] at H
        by_cases c28 : x30_5 = true
        · subst c28
          have H1 : ((remontoirref00_To.f (mx (-100) (wrap64 (a0_3 - t626))) (mn 100 (wrap64 (a0_4 + t626)))).bind fun bt628 => ((remontoirref00_Rest.f a1_3 (wrap64 (a0_5 + 1))).bind fun t630 => ((scale_Error.f a0_0 a0_1 a0_2 a0_3 a0_4 a0_5 l0_6 l0_7 t630).bind fun bt631 => ((scale_Error.f a0_0 a0_1 a0_2 bt628.1 bt628.2 a0_5 l0_6 l0_7 t630).bind fun bt635 => (remontoirlaw04_ScaleWider.j1 kj5 bt631.2.2 bt635.2.2 (bt631.2.2 != 0) bt631.1 bt631.2.1 bt635.1 bt635.2.1))))) = some r := by rw [if_pos rfl] at H; exact H
          clear H
          have H := H1
          clear H1
          obtain ⟨ji29, hji29⟩ : ∃ j_ : Int, (mx (-100) (wrap64 (a0_3 - t626))) = j_ := ⟨_, rfl⟩
          replace H : ((remontoirref00_To.f (ji29) (mn 100 (wrap64 (a0_4 + t626)))).bind fun bt628 => ((remontoirref00_Rest.f a1_3 (wrap64 (a0_5 + 1))).bind fun t630 => ((scale_Error.f a0_0 a0_1 a0_2 a0_3 a0_4 a0_5 l0_6 l0_7 t630).bind fun bt631 => ((scale_Error.f a0_0 a0_1 a0_2 bt628.1 bt628.2 a0_5 l0_6 l0_7 t630).bind fun bt635 => (remontoirlaw04_ScaleWider.j1 kj5 bt631.2.2 bt635.2.2 (bt631.2.2 != 0) bt631.1 bt631.2.1 bt635.1 bt635.2.1))))) = some r := by first | (rw [hji29] at H; exact H) | (simp only [hji29] at H ⊢; exact H)
          have hji29_ : (if (-100) < (wrap64 (a0_3 - t626)) then (wrap64 (a0_3 - t626)) else (-100)) = ji29 := hji29
          obtain ⟨ji30, hji30⟩ : ∃ j_ : Int, (mn 100 (wrap64 (a0_4 + t626))) = j_ := ⟨_, rfl⟩
          replace H : ((remontoirref00_To.f (ji29) (ji30)).bind fun bt628 => ((remontoirref00_Rest.f a1_3 (wrap64 (a0_5 + 1))).bind fun t630 => ((scale_Error.f a0_0 a0_1 a0_2 a0_3 a0_4 a0_5 l0_6 l0_7 t630).bind fun bt631 => ((scale_Error.f a0_0 a0_1 a0_2 bt628.1 bt628.2 a0_5 l0_6 l0_7 t630).bind fun bt635 => (remontoirlaw04_ScaleWider.j1 kj5 bt631.2.2 bt635.2.2 (bt631.2.2 != 0) bt631.1 bt631.2.1 bt635.1 bt635.2.1))))) = some r := by first | (rw [hji30] at H; exact H) | (simp only [hji30] at H ⊢; exact H)
          have hji30_ : (if (wrap64 (a0_4 + t626)) < 100 then (wrap64 (a0_4 + t626)) else 100) = ji30 := hji30
          replace H := Option.bind_eq_some_iff.mp H
          obtain ⟨⟨t628, t629⟩, A310, H⟩ := H
          replace H : ((remontoirref00_Rest.f a1_3 (wrap64 (a0_5 + 1))).bind fun t630 => ((scale_Error.f a0_0 a0_1 a0_2 a0_3 a0_4 a0_5 l0_6 l0_7 t630).bind fun bt631 => ((scale_Error.f a0_0 a0_1 a0_2 t628 t629 a0_5 l0_6 l0_7 t630).bind fun bt635 => (remontoirlaw04_ScaleWider.j1 kj5 bt631.2.2 bt635.2.2 (bt631.2.2 != 0) bt631.1 bt631.2.1 bt635.1 bt635.2.1)))) = some r := H
          have A31 := Aside0.mk A310
          clear A310
          replace H := Option.bind_eq_some_iff.mp H
          obtain ⟨t630, A320, H⟩ := H
          replace H : ((scale_Error.f a0_0 a0_1 a0_2 a0_3 a0_4 a0_5 l0_6 l0_7 t630).bind fun bt631 => ((scale_Error.f a0_0 a0_1 a0_2 t628 t629 a0_5 l0_6 l0_7 t630).bind fun bt635 => (remontoirlaw04_ScaleWider.j1 kj5 bt631.2.2 bt635.2.2 (bt631.2.2 != 0) bt631.1 bt631.2.1 bt635.1 bt635.2.1))) = some r := H
          have A32 := Aside0.mk A320
          clear A320
          replace H := Option.bind_eq_some_iff.mp H
          obtain ⟨⟨t631, t632, t633⟩, A330, H⟩ := H
          replace H : ((scale_Error.f a0_0 a0_1 a0_2 t628 t629 a0_5 l0_6 l0_7 t630).bind fun bt635 => (remontoirlaw04_ScaleWider.j1 kj5 t633 bt635.2.2 (t633 != 0) t631 t632 bt635.1 bt635.2.1)) = some r := H
          have A33 := Aside0.mk A330
          clear A330
          replace H := Option.bind_eq_some_iff.mp H
          obtain ⟨⟨t635, t636, t637⟩, A340, H⟩ := H
          replace H : (remontoirlaw04_ScaleWider.j1 kj5 t633 t637 (t633 != 0) t631 t632 t635 t636) = some r := H
          have A34 := Aside0.mk A340
          clear A340
          have HC35 := Aside0.mk H
          clear H
          have hnb36 := NB621_622.out
          have hnc36 := NB622_621.out
          have hnb37 := NB621_625.out
          have hnc37 := NB625_621.out
          have hcz38_0 : wc.cell? ⟨gb621, 0, none⟩ = some (.int .i64 a0_0) := (blk_cell BK621.out 0).trans rfl
          have hcz38_1 : wc.cell? ⟨gb621, 1, none⟩ = some (.int .i64 a0_1) := (blk_cell BK621.out 1).trans rfl
          have hcz38_2 : wc.cell? ⟨gb621, 2, none⟩ = some (.int .i64 a0_2) := (blk_cell BK621.out 2).trans rfl
          have hcz38_3 : wc.cell? ⟨gb621, 3, none⟩ = some (.int .i64 a0_3) := (blk_cell BK621.out 3).trans rfl
          have hcz38_4 : wc.cell? ⟨gb621, 4, none⟩ = some (.int .i64 a0_4) := (blk_cell BK621.out 4).trans rfl
          have hcz38_5 : wc.cell? ⟨gb621, 5, none⟩ = some (.int .i64 a0_5) := (blk_cell BK621.out 5).trans rfl
          have hcz38_6 : wc.cell? ⟨gb621, 6, none⟩ = some (.slice A0_6 l0_6.length c0_6) := (blk_cell BK621.out 6).trans rfl
          have hcz38_7 : wc.cell? ⟨gb621, 7, none⟩ = some (.slice A0_7 l0_7.length c0_7) := (blk_cell BK621.out 7).trans rfl
          have hfz38_0 := blk_frozen BK621.out 0
          have hfz38_1 := blk_frozen BK621.out 1
          have hfz38_2 := blk_frozen BK621.out 2
          have hfz38_3 := blk_frozen BK621.out 3
          have hfz38_4 := blk_frozen BK621.out 4
          have hfz38_5 := blk_frozen BK621.out 5
          have hfz38_6 := blk_frozen BK621.out 6
          have hfz38_7 := blk_frozen BK621.out 7
          go_upto_region 13 with (first | ((with_reducible refine gate_callee (f := 49) rfl ?_); refine goesL_ (some 45) rfl rfl Tryd.func49 (by kernel_rfl) rfl #[.int .i64 ji29, .int .i64 ji30] rfl (by (try simp only [List.map_toArray, List.map_cons, List.map_nil]); first | done | (simp only [hji29, hji30]; rfl) | rfl | (simp only [List.length_drop, List.length_take]; rfl)) ?_; (with_reducible refine (remontoirref00_To.calls ji29 ji30 t628 t629 _ A31.out).mono ?_); rintro e w39 ⟨rfl, hb⟩; refine ⟨_, rfl, ?_⟩; have n0_ := Aside0.mk (blk_below (g := gb621) (o := .cells #[.int .i64 a0_0, .int .i64 a0_1, .int .i64 a0_2, .int .i64 a0_3, .int .i64 a0_4, .int .i64 a0_5, .slice A0_6 l0_6.length c0_6, .slice A0_7 l0_7.length c0_7] 44 (0, 0)) (by (with_reducible repeat (first | refine blk_drewN ?_ _ | refine blk_drew ?_ | refine blk_alloc ?_ _)); exact BK621.out) hb); have n1_ := Aside0.mk (blk_below (g := gb622) (o := .cells #[.int .i64 a1_0, .int .i64 a1_1, .int .i64 a1_2, .int .i64 a1_3] 65 (0, 0)) (by (with_reducible repeat (first | refine blk_drewN ?_ _ | refine blk_drew ?_ | refine blk_alloc ?_ _)); exact BK622.out) hb); have n2_ := Aside0.mk (blk_below (g := gb625) (o := .cells #[.int .i64 a0_0, .int .i64 a0_1, .int .i64 a0_2, .int .i64 a0_3, .int .i64 a0_4, .int .i64 a0_5, .slice A0_6 l0_6.length c0_6, .slice A0_7 l0_7.length c0_7] 44 (0, 0)) (by (with_reducible repeat (first | refine blk_drewN ?_ _ | refine blk_drew ?_ | refine blk_alloc ?_ _)); exact BK625.out) hb); have n3_ := Aside0.mk (below_step (by repeat (first | (with_reducible first | exact HB.out | apply below_alloc | apply pw_below_drewN | apply below_drew1 | refine below_set ?_ GE621.out | refine below_set ?_ GE622.out | refine below_set ?_ GE625.out) | exact HB.out)) hb); clear BK621; clear BK622; clear BK625; clear HB; have BK621 := n0_; have BK622 := n1_; have BK625 := n2_; have HB := n3_; clear n0_ n1_ n2_ n3_; (try clear hb); (try clear hb2); (try clear hk); (try clear hi); have hnb40 := NB625_622.out; have hnc40 := NB622_625.out; have hcz41_0 : w39.cell? ⟨gb625, 0, none⟩ = some (.int .i64 a0_0) := (blk_cell BK625.out 0).trans rfl; have hcz41_1 : w39.cell? ⟨gb625, 1, none⟩ = some (.int .i64 a0_1) := (blk_cell BK625.out 1).trans rfl; have hcz41_2 : w39.cell? ⟨gb625, 2, none⟩ = some (.int .i64 a0_2) := (blk_cell BK625.out 2).trans rfl; have hcz41_3 : w39.cell? ⟨gb625, 3, none⟩ = some (.int .i64 a0_3) := (blk_cell BK625.out 3).trans rfl; have hcz41_4 : w39.cell? ⟨gb625, 4, none⟩ = some (.int .i64 a0_4) := (blk_cell BK625.out 4).trans rfl; have hcz41_5 : w39.cell? ⟨gb625, 5, none⟩ = some (.int .i64 a0_5) := (blk_cell BK625.out 5).trans rfl; have hcz41_6 : w39.cell? ⟨gb625, 6, none⟩ = some (.slice A0_6 l0_6.length c0_6) := (blk_cell BK625.out 6).trans rfl; have hcz41_7 : w39.cell? ⟨gb625, 7, none⟩ = some (.slice A0_7 l0_7.length c0_7) := (blk_cell BK625.out 7).trans rfl; have hfz41_0 := blk_frozen BK625.out 0; have hfz41_1 := blk_frozen BK625.out 1; have hfz41_2 := blk_frozen BK625.out 2; have hfz41_3 := blk_frozen BK625.out 3; have hfz41_4 := blk_frozen BK625.out 4; have hfz41_5 := blk_frozen BK625.out 5; have hfz41_6 := blk_frozen BK625.out 6; have hfz41_7 := blk_frozen BK625.out 7; have hcz42_0 : w39.cell? ⟨gb622, 0, none⟩ = some (.int .i64 a1_0) := (blk_cell BK622.out 0).trans rfl; have hcz42_1 : w39.cell? ⟨gb622, 1, none⟩ = some (.int .i64 a1_1) := (blk_cell BK622.out 1).trans rfl; have hcz42_2 : w39.cell? ⟨gb622, 2, none⟩ = some (.int .i64 a1_2) := (blk_cell BK622.out 2).trans rfl; have hcz42_3 : w39.cell? ⟨gb622, 3, none⟩ = some (.int .i64 a1_3) := (blk_cell BK622.out 3).trans rfl; have hfz42_0 := blk_frozen BK622.out 0; have hfz42_1 := blk_frozen BK622.out 1; have hfz42_2 := blk_frozen BK622.out 2; have hfz42_3 := blk_frozen BK622.out 3; have hcz43_0 : w39.cell? ⟨gb621, 0, none⟩ = some (.int .i64 a0_0) := (blk_cell BK621.out 0).trans rfl; have hcz43_1 : w39.cell? ⟨gb621, 1, none⟩ = some (.int .i64 a0_1) := (blk_cell BK621.out 1).trans rfl; have hcz43_2 : w39.cell? ⟨gb621, 2, none⟩ = some (.int .i64 a0_2) := (blk_cell BK621.out 2).trans rfl; have hcz43_3 : w39.cell? ⟨gb621, 3, none⟩ = some (.int .i64 a0_3) := (blk_cell BK621.out 3).trans rfl; have hcz43_4 : w39.cell? ⟨gb621, 4, none⟩ = some (.int .i64 a0_4) := (blk_cell BK621.out 4).trans rfl; have hcz43_5 : w39.cell? ⟨gb621, 5, none⟩ = some (.int .i64 a0_5) := (blk_cell BK621.out 5).trans rfl; have hcz43_6 : w39.cell? ⟨gb621, 6, none⟩ = some (.slice A0_6 l0_6.length c0_6) := (blk_cell BK621.out 6).trans rfl; have hcz43_7 : w39.cell? ⟨gb621, 7, none⟩ = some (.slice A0_7 l0_7.length c0_7) := (blk_cell BK621.out 7).trans rfl; have hfz43_0 := blk_frozen BK621.out 0; have hfz43_1 := blk_frozen BK621.out 1; have hfz43_2 := blk_frozen BK621.out 2; have hfz43_3 := blk_frozen BK621.out 3; have hfz43_4 := blk_frozen BK621.out 4; have hfz43_5 := blk_frozen BK621.out 5; have hfz43_6 := blk_frozen BK621.out 6; have hfz43_7 := blk_frozen BK621.out 7) | ((with_reducible refine gate_callee (f := 38) rfl ?_); refine goesL_ (some 96) rfl rfl Tryd.func38 (by kernel_rfl) rfl #[.int .i64 a1_3, .int .i64 (wrap64 (a0_5 + 1))] rfl (by (try simp only [List.map_toArray, List.map_cons, List.map_nil]); first | done | rfl | (simp only [List.length_drop, List.length_take]; rfl)) ?_; (with_reducible refine (remontoirref00_Rest.calls a1_3 (wrap64 (a0_5 + 1)) t630 _ A32.out).mono ?_); rintro e w' ⟨rfl, ⟨nd, rfl⟩⟩; refine ⟨_, rfl, ?_⟩) | ((with_reducible refine gate_callee (f := 27) rfl ?_); refine goesL_ (some 100) rfl rfl Tryd.func27 (by kernel_rfl) rfl #[.agg #[.int .i64 a0_0, .int .i64 a0_1, .int .i64 a0_2, .int .i64 a0_3, .int .i64 a0_4, .int .i64 a0_5, .slice A0_6 l0_6.length c0_6, .slice A0_7 l0_7.length c0_7], .int .i64 t630] rfl (by (try simp only [List.map_toArray, List.map_cons, List.map_nil]); first | done | rfl | (simp only [List.length_drop, List.length_take]; rfl)) ?_; (with_reducible refine (scale_Error.calls a0_0 a0_1 a0_2 a0_3 a0_4 a0_5 _ _ l0_6 _ _ l0_7 t630 t631 t632 t633 _ ?side1 ?side2 ?side3 ?side4 ?side5 A33.out).mono ?_); (case side1 => exact Kd.C_below HR0_6.out (by repeat (first | (with_reducible first | exact HB.out | apply below_alloc | apply pw_below_drewN | apply below_drew1 | refine below_set ?_ GE621.out | refine below_set ?_ GE622.out | refine below_set ?_ GE625.out) | exact HB.out))); (case side2 => exact HC0_6.out); (case side3 => exact Kd.C_below HR0_7.out (by repeat (first | (with_reducible first | exact HB.out | apply below_alloc | apply pw_below_drewN | apply below_drew1 | refine below_set ?_ GE621.out | refine below_set ?_ GE622.out | refine below_set ?_ GE625.out) | exact HB.out))); (case side4 => exact HC0_7.out); (case side5 => exact Go.Proofs.YtidnopmjhhmedaaDoor.Ways.below HWays.out (by repeat (first | (with_reducible first | exact HB.out | apply below_alloc | apply pw_below_drewN | apply below_drew1 | refine below_set ?_ GE621.out | refine below_set ?_ GE622.out | refine below_set ?_ GE625.out) | exact HB.out))); rintro e w44 ⟨rfl, hb⟩; refine ⟨_, rfl, ?_⟩; have n0_ := Aside0.mk (blk_below (g := gb621) (o := .cells #[.int .i64 a0_0, .int .i64 a0_1, .int .i64 a0_2, .int .i64 a0_3, .int .i64 a0_4, .int .i64 a0_5, .slice A0_6 l0_6.length c0_6, .slice A0_7 l0_7.length c0_7] 44 (0, 0)) (by (with_reducible repeat (first | refine blk_drewN ?_ _ | refine blk_drew ?_ | refine blk_alloc ?_ _)); refine blk_far ?_ NB621_625.out _; (with_reducible repeat (first | refine blk_drewN ?_ _ | refine blk_drew ?_ | refine blk_alloc ?_ _)); refine blk_far ?_ NB621_625.out _; (with_reducible repeat (first | refine blk_drewN ?_ _ | refine blk_drew ?_ | refine blk_alloc ?_ _)); exact BK621.out) hb); have n1_ := Aside0.mk (blk_below (g := gb622) (o := .cells #[.int .i64 a1_0, .int .i64 a1_1, .int .i64 a1_2, .int .i64 a1_3] 65 (0, 0)) (by (with_reducible repeat (first | refine blk_drewN ?_ _ | refine blk_drew ?_ | refine blk_alloc ?_ _)); refine blk_far ?_ NB622_625.out _; (with_reducible repeat (first | refine blk_drewN ?_ _ | refine blk_drew ?_ | refine blk_alloc ?_ _)); refine blk_far ?_ NB622_625.out _; (with_reducible repeat (first | refine blk_drewN ?_ _ | refine blk_drew ?_ | refine blk_alloc ?_ _)); exact BK622.out) hb); have n2_ := Aside0.mk (blk_below (g := gb625) (o := .cells #[.int .i64 a0_0, .int .i64 a0_1, .int .i64 a0_2, .int .i64 t628, .int .i64 t629, .int .i64 a0_5, .slice A0_6 l0_6.length c0_6, .slice A0_7 l0_7.length c0_7] 44 (0, 0)) (by (with_reducible repeat (first | refine blk_drewN ?_ _ | refine blk_drew ?_ | refine blk_alloc ?_ _)); refine blk_put (cs := #[.int .i64 a0_0, .int .i64 a0_1, .int .i64 a0_2, .int .i64 t628, .int .i64 a0_4, .int .i64 a0_5, .slice A0_6 l0_6.length c0_6, .slice A0_7 l0_7.length c0_7]) ?_ 4 _ rfl; (with_reducible repeat (first | refine blk_drewN ?_ _ | refine blk_drew ?_ | refine blk_alloc ?_ _)); refine blk_put (cs := #[.int .i64 a0_0, .int .i64 a0_1, .int .i64 a0_2, .int .i64 a0_3, .int .i64 a0_4, .int .i64 a0_5, .slice A0_6 l0_6.length c0_6, .slice A0_7 l0_7.length c0_7]) ?_ 3 _ rfl; (with_reducible repeat (first | refine blk_drewN ?_ _ | refine blk_drew ?_ | refine blk_alloc ?_ _)); exact BK625.out) hb); have n3_ := Aside0.mk (below_step (by repeat (first | (with_reducible first | exact HB.out | apply below_alloc | apply pw_below_drewN | apply below_drew1 | refine below_set ?_ GE621.out | refine below_set ?_ GE622.out | refine below_set ?_ GE625.out) | exact HB.out)) hb); clear BK621; clear BK622; clear BK625; clear HB; have BK621 := n0_; have BK622 := n1_; have BK625 := n2_; have HB := n3_; clear n0_ n1_ n2_ n3_; (try clear hb); (try clear hb2); (try clear hk); (try clear hi)) | ((with_reducible refine gate_dst (N := 9) rfl ?_); (try (refine gate_guard (by rfl) ?_; dsimp only)); refine box_event ?hg (N := 9) ?hd (cs := #[.int .i64 0, .int .i64 0]) (t := 23) ?hr ?_; (case hd => rfl); (case hg => rfl); (case hr => first | (go_simp; done) | (go_simp; rfl)); intro gb634 hg w45 hbox hb; have n0_ := Aside0.mk (blk_below (g := gb621) (o := .cells #[.int .i64 a0_0, .int .i64 a0_1, .int .i64 a0_2, .int .i64 a0_3, .int .i64 a0_4, .int .i64 a0_5, .slice A0_6 l0_6.length c0_6, .slice A0_7 l0_7.length c0_7] 44 (0, 0)) (by (with_reducible repeat (first | refine blk_drewN ?_ _ | refine blk_drew ?_ | refine blk_alloc ?_ _)); exact BK621.out) hb); have n1_ := Aside0.mk (blk_below (g := gb622) (o := .cells #[.int .i64 a1_0, .int .i64 a1_1, .int .i64 a1_2, .int .i64 a1_3] 65 (0, 0)) (by (with_reducible repeat (first | refine blk_drewN ?_ _ | refine blk_drew ?_ | refine blk_alloc ?_ _)); exact BK622.out) hb); have n2_ := Aside0.mk (blk_below (g := gb625) (o := .cells #[.int .i64 a0_0, .int .i64 a0_1, .int .i64 a0_2, .int .i64 t628, .int .i64 t629, .int .i64 a0_5, .slice A0_6 l0_6.length c0_6, .slice A0_7 l0_7.length c0_7] 44 (0, 0)) (by (with_reducible repeat (first | refine blk_drewN ?_ _ | refine blk_drew ?_ | refine blk_alloc ?_ _)); exact BK625.out) hb); have n3_ := Aside0.mk (below_step (by repeat (first | (with_reducible first | exact HB.out | apply below_alloc | apply pw_below_drewN | apply below_drew1 | refine below_set ?_ GE621.out | refine below_set ?_ GE622.out | refine below_set ?_ GE625.out) | exact HB.out)) hb); have n4_ := Aside0.mk (hbox); have n5_ := Aside0.mk ((by rw [hg]; exact (below_size (by repeat (first | (with_reducible first | exact HB.out | apply below_alloc | apply pw_below_drewN | apply below_drew1 | refine below_set ?_ GE621.out | refine below_set ?_ GE622.out | refine below_set ?_ GE625.out) | exact HB.out))) : w.heap.size ≤ gb634)); have n6_ := Aside0.mk ((by rw [hg]; exact (below_size (by repeat (first | (with_reducible first | exact HB.out | apply below_alloc | apply pw_below_drewN | apply below_drew1 | refine below_set ?_ GE621.out | refine below_set ?_ GE622.out | refine below_set ?_ GE625.out) | exact HB.out))) : w.heap.size ≤ gb634)); have n7_ := Aside0.mk ((by rw [hg]; exact Nat.ne_of_lt (blk_lt (g := gb621) (o := .cells #[.int .i64 a0_0, .int .i64 a0_1, .int .i64 a0_2, .int .i64 a0_3, .int .i64 a0_4, .int .i64 a0_5, .slice A0_6 l0_6.length c0_6, .slice A0_7 l0_7.length c0_7] 44 (0, 0)) (by (with_reducible repeat (first | refine blk_drewN ?_ _ | refine blk_drew ?_ | refine blk_alloc ?_ _)); exact BK621.out)) : gb621 ≠ gb634)); have n8_ := Aside0.mk ((by rw [hg]; exact Nat.ne_of_gt (blk_lt (g := gb621) (o := .cells #[.int .i64 a0_0, .int .i64 a0_1, .int .i64 a0_2, .int .i64 a0_3, .int .i64 a0_4, .int .i64 a0_5, .slice A0_6 l0_6.length c0_6, .slice A0_7 l0_7.length c0_7] 44 (0, 0)) (by (with_reducible repeat (first | refine blk_drewN ?_ _ | refine blk_drew ?_ | refine blk_alloc ?_ _)); exact BK621.out)) : gb634 ≠ gb621)); have n9_ := Aside0.mk ((by rw [hg]; exact Nat.ne_of_lt (blk_lt (g := gb622) (o := .cells #[.int .i64 a1_0, .int .i64 a1_1, .int .i64 a1_2, .int .i64 a1_3] 65 (0, 0)) (by (with_reducible repeat (first | refine blk_drewN ?_ _ | refine blk_drew ?_ | refine blk_alloc ?_ _)); exact BK622.out)) : gb622 ≠ gb634)); have n10_ := Aside0.mk ((by rw [hg]; exact Nat.ne_of_gt (blk_lt (g := gb622) (o := .cells #[.int .i64 a1_0, .int .i64 a1_1, .int .i64 a1_2, .int .i64 a1_3] 65 (0, 0)) (by (with_reducible repeat (first | refine blk_drewN ?_ _ | refine blk_drew ?_ | refine blk_alloc ?_ _)); exact BK622.out)) : gb634 ≠ gb622)); have n11_ := Aside0.mk ((by rw [hg]; exact Nat.ne_of_lt (blk_lt (g := gb625) (o := .cells #[.int .i64 a0_0, .int .i64 a0_1, .int .i64 a0_2, .int .i64 t628, .int .i64 t629, .int .i64 a0_5, .slice A0_6 l0_6.length c0_6, .slice A0_7 l0_7.length c0_7] 44 (0, 0)) (by (with_reducible repeat (first | refine blk_drewN ?_ _ | refine blk_drew ?_ | refine blk_alloc ?_ _)); exact BK625.out)) : gb625 ≠ gb634)); have n12_ := Aside0.mk ((by rw [hg]; exact Nat.ne_of_gt (blk_lt (g := gb625) (o := .cells #[.int .i64 a0_0, .int .i64 a0_1, .int .i64 a0_2, .int .i64 t628, .int .i64 t629, .int .i64 a0_5, .slice A0_6 l0_6.length c0_6, .slice A0_7 l0_7.length c0_7] 44 (0, 0)) (by (with_reducible repeat (first | refine blk_drewN ?_ _ | refine blk_drew ?_ | refine blk_alloc ?_ _)); exact BK625.out)) : gb634 ≠ gb625)); clear BK621; clear BK622; clear BK625; clear HB; have BK621 := n0_; have BK622 := n1_; have BK625 := n2_; have HB := n3_; have BK634 := n4_; have GW634 := n5_; have GE634 := n6_; have NB621_634 := n7_; have NB634_621 := n8_; have NB622_634 := n9_; have NB634_622 := n10_; have NB625_634 := n11_; have NB634_625 := n12_; clear n0_ n1_ n2_ n3_ n4_ n5_ n6_ n7_ n8_ n9_ n10_ n11_ n12_; clear hb hbox hg; have hnb46 := NB634_621.out; have hnc46 := NB621_634.out; have hnb47 := NB634_622.out; have hnc47 := NB622_634.out; have hnb48 := NB634_625.out; have hnc48 := NB625_634.out; have hcz49_0 : w45.cell? ⟨gb634, 0, none⟩ = some (.int .i64 0) := (blk_cell BK634.out 0).trans rfl; have hcz49_1 : w45.cell? ⟨gb634, 1, none⟩ = some (.int .i64 0) := (blk_cell BK634.out 1).trans rfl; have hfz49_0 := blk_frozen BK634.out 0; have hfz49_1 := blk_frozen BK634.out 1; have hcz50_0 : w45.cell? ⟨gb625, 0, none⟩ = some (.int .i64 a0_0) := (blk_cell BK625.out 0).trans rfl; have hcz50_1 : w45.cell? ⟨gb625, 1, none⟩ = some (.int .i64 a0_1) := (blk_cell BK625.out 1).trans rfl; have hcz50_2 : w45.cell? ⟨gb625, 2, none⟩ = some (.int .i64 a0_2) := (blk_cell BK625.out 2).trans rfl; have hcz50_3 : w45.cell? ⟨gb625, 3, none⟩ = some (.int .i64 t628) := (blk_cell BK625.out 3).trans rfl; have hcz50_4 : w45.cell? ⟨gb625, 4, none⟩ = some (.int .i64 t629) := (blk_cell BK625.out 4).trans rfl; have hcz50_5 : w45.cell? ⟨gb625, 5, none⟩ = some (.int .i64 a0_5) := (blk_cell BK625.out 5).trans rfl; have hcz50_6 : w45.cell? ⟨gb625, 6, none⟩ = some (.slice A0_6 l0_6.length c0_6) := (blk_cell BK625.out 6).trans rfl; have hcz50_7 : w45.cell? ⟨gb625, 7, none⟩ = some (.slice A0_7 l0_7.length c0_7) := (blk_cell BK625.out 7).trans rfl; have hfz50_0 := blk_frozen BK625.out 0; have hfz50_1 := blk_frozen BK625.out 1; have hfz50_2 := blk_frozen BK625.out 2; have hfz50_3 := blk_frozen BK625.out 3; have hfz50_4 := blk_frozen BK625.out 4; have hfz50_5 := blk_frozen BK625.out 5; have hfz50_6 := blk_frozen BK625.out 6; have hfz50_7 := blk_frozen BK625.out 7) | ((with_reducible refine gate_callee (f := 27) rfl ?_); refine goesL_ (some 106) rfl rfl Tryd.func27 (by kernel_rfl) rfl #[.agg #[.int .i64 a0_0, .int .i64 a0_1, .int .i64 a0_2, .int .i64 t628, .int .i64 t629, .int .i64 a0_5, .slice A0_6 l0_6.length c0_6, .slice A0_7 l0_7.length c0_7], .int .i64 t630] rfl (by (try simp only [List.map_toArray, List.map_cons, List.map_nil]); first | done | rfl | (simp only [List.length_drop, List.length_take]; rfl)) ?_; (with_reducible refine (scale_Error.calls a0_0 a0_1 a0_2 t628 t629 a0_5 _ _ l0_6 _ _ l0_7 t630 t635 t636 t637 _ ?side1 ?side2 ?side3 ?side4 ?side5 A34.out).mono ?_); (case side1 => exact Kd.C_below HR0_6.out (by repeat (first | (with_reducible first | exact HB.out | apply below_alloc | apply pw_below_drewN | apply below_drew1 | refine below_set ?_ GE621.out | refine below_set ?_ GE622.out | refine below_set ?_ GE625.out | refine below_set ?_ GE634.out) | exact HB.out))); (case side2 => exact HC0_6.out); (case side3 => exact Kd.C_below HR0_7.out (by repeat (first | (with_reducible first | exact HB.out | apply below_alloc | apply pw_below_drewN | apply below_drew1 | refine below_set ?_ GE621.out | refine below_set ?_ GE622.out | refine below_set ?_ GE625.out | refine below_set ?_ GE634.out) | exact HB.out))); (case side4 => exact HC0_7.out); (case side5 => exact Go.Proofs.YtidnopmjhhmedaaDoor.Ways.below HWays.out (by repeat (first | (with_reducible first | exact HB.out | apply below_alloc | apply pw_below_drewN | apply below_drew1 | refine below_set ?_ GE621.out | refine below_set ?_ GE622.out | refine below_set ?_ GE625.out | refine below_set ?_ GE634.out) | exact HB.out))); rintro e w51 ⟨rfl, hb⟩; refine ⟨_, rfl, ?_⟩; have n0_ := Aside0.mk (blk_below (g := gb621) (o := .cells #[.int .i64 a0_0, .int .i64 a0_1, .int .i64 a0_2, .int .i64 a0_3, .int .i64 a0_4, .int .i64 a0_5, .slice A0_6 l0_6.length c0_6, .slice A0_7 l0_7.length c0_7] 44 (0, 0)) (by (with_reducible repeat (first | refine blk_drewN ?_ _ | refine blk_drew ?_ | refine blk_alloc ?_ _)); refine blk_far ?_ NB621_634.out _; (with_reducible repeat (first | refine blk_drewN ?_ _ | refine blk_drew ?_ | refine blk_alloc ?_ _)); refine blk_far ?_ NB621_634.out _; (with_reducible repeat (first | refine blk_drewN ?_ _ | refine blk_drew ?_ | refine blk_alloc ?_ _)); exact BK621.out) hb); have n1_ := Aside0.mk (blk_below (g := gb622) (o := .cells #[.int .i64 a1_0, .int .i64 a1_1, .int .i64 a1_2, .int .i64 a1_3] 65 (0, 0)) (by (with_reducible repeat (first | refine blk_drewN ?_ _ | refine blk_drew ?_ | refine blk_alloc ?_ _)); refine blk_far ?_ NB622_634.out _; (with_reducible repeat (first | refine blk_drewN ?_ _ | refine blk_drew ?_ | refine blk_alloc ?_ _)); refine blk_far ?_ NB622_634.out _; (with_reducible repeat (first | refine blk_drewN ?_ _ | refine blk_drew ?_ | refine blk_alloc ?_ _)); exact BK622.out) hb); have n2_ := Aside0.mk (blk_below (g := gb625) (o := .cells #[.int .i64 a0_0, .int .i64 a0_1, .int .i64 a0_2, .int .i64 t628, .int .i64 t629, .int .i64 a0_5, .slice A0_6 l0_6.length c0_6, .slice A0_7 l0_7.length c0_7] 44 (0, 0)) (by (with_reducible repeat (first | refine blk_drewN ?_ _ | refine blk_drew ?_ | refine blk_alloc ?_ _)); refine blk_far ?_ NB625_634.out _; (with_reducible repeat (first | refine blk_drewN ?_ _ | refine blk_drew ?_ | refine blk_alloc ?_ _)); refine blk_far ?_ NB625_634.out _; (with_reducible repeat (first | refine blk_drewN ?_ _ | refine blk_drew ?_ | refine blk_alloc ?_ _)); exact BK625.out) hb); have n3_ := Aside0.mk (blk_below (g := gb634) (o := .cells #[.int .i64 t631, .int .i64 t632] 23 (0, 0)) (by (with_reducible repeat (first | refine blk_drewN ?_ _ | refine blk_drew ?_ | refine blk_alloc ?_ _)); refine blk_put (cs := #[.int .i64 t631, .int .i64 0]) ?_ 1 _ rfl; (with_reducible repeat (first | refine blk_drewN ?_ _ | refine blk_drew ?_ | refine blk_alloc ?_ _)); refine blk_put (cs := #[.int .i64 0, .int .i64 0]) ?_ 0 _ rfl; (with_reducible repeat (first | refine blk_drewN ?_ _ | refine blk_drew ?_ | refine blk_alloc ?_ _)); exact BK634.out) hb); have n4_ := Aside0.mk (below_step (by repeat (first | (with_reducible first | exact HB.out | apply below_alloc | apply pw_below_drewN | apply below_drew1 | refine below_set ?_ GE621.out | refine below_set ?_ GE622.out | refine below_set ?_ GE625.out | refine below_set ?_ GE634.out) | exact HB.out)) hb); clear BK621; clear BK622; clear BK625; clear BK634; clear HB; have BK621 := n0_; have BK622 := n1_; have BK625 := n2_; have BK634 := n3_; have HB := n4_; clear n0_ n1_ n2_ n3_ n4_; (try clear hb); (try clear hb2); (try clear hk); (try clear hi)) | ((with_reducible refine gate_dst (N := 11) rfl ?_); (try (refine gate_guard (by rfl) ?_; dsimp only)); refine box_event ?hg (N := 11) ?hd (cs := #[.int .i64 0, .int .i64 0]) (t := 23) ?hr ?_; (case hd => rfl); (case hg => rfl); (case hr => first | (go_simp; done) | (go_simp; rfl)); intro gb638 hg w52 hbox hb; have n0_ := Aside0.mk (blk_below (g := gb621) (o := .cells #[.int .i64 a0_0, .int .i64 a0_1, .int .i64 a0_2, .int .i64 a0_3, .int .i64 a0_4, .int .i64 a0_5, .slice A0_6 l0_6.length c0_6, .slice A0_7 l0_7.length c0_7] 44 (0, 0)) (by (with_reducible repeat (first | refine blk_drewN ?_ _ | refine blk_drew ?_ | refine blk_alloc ?_ _)); exact BK621.out) hb); have n1_ := Aside0.mk (blk_below (g := gb622) (o := .cells #[.int .i64 a1_0, .int .i64 a1_1, .int .i64 a1_2, .int .i64 a1_3] 65 (0, 0)) (by (with_reducible repeat (first | refine blk_drewN ?_ _ | refine blk_drew ?_ | refine blk_alloc ?_ _)); exact BK622.out) hb); have n2_ := Aside0.mk (blk_below (g := gb625) (o := .cells #[.int .i64 a0_0, .int .i64 a0_1, .int .i64 a0_2, .int .i64 t628, .int .i64 t629, .int .i64 a0_5, .slice A0_6 l0_6.length c0_6, .slice A0_7 l0_7.length c0_7] 44 (0, 0)) (by (with_reducible repeat (first | refine blk_drewN ?_ _ | refine blk_drew ?_ | refine blk_alloc ?_ _)); exact BK625.out) hb); have n3_ := Aside0.mk (blk_below (g := gb634) (o := .cells #[.int .i64 t631, .int .i64 t632] 23 (0, 0)) (by (with_reducible repeat (first | refine blk_drewN ?_ _ | refine blk_drew ?_ | refine blk_alloc ?_ _)); exact BK634.out) hb); have n4_ := Aside0.mk (below_step (by repeat (first | (with_reducible first | exact HB.out | apply below_alloc | apply pw_below_drewN | apply below_drew1 | refine below_set ?_ GE621.out | refine below_set ?_ GE622.out | refine below_set ?_ GE625.out | refine below_set ?_ GE634.out) | exact HB.out)) hb); have n5_ := Aside0.mk (hbox); have n6_ := Aside0.mk ((by rw [hg]; exact (below_size (by repeat (first | (with_reducible first | exact HB.out | apply below_alloc | apply pw_below_drewN | apply below_drew1 | refine below_set ?_ GE621.out | refine below_set ?_ GE622.out | refine below_set ?_ GE625.out | refine below_set ?_ GE634.out) | exact HB.out))) : w.heap.size ≤ gb638)); have n7_ := Aside0.mk ((by rw [hg]; exact (below_size (by repeat (first | (with_reducible first | exact HB.out | apply below_alloc | apply pw_below_drewN | apply below_drew1 | refine below_set ?_ GE621.out | refine below_set ?_ GE622.out | refine below_set ?_ GE625.out | refine below_set ?_ GE634.out) | exact HB.out))) : w.heap.size ≤ gb638)); have n8_ := Aside0.mk ((by rw [hg]; exact Nat.ne_of_lt (blk_lt (g := gb621) (o := .cells #[.int .i64 a0_0, .int .i64 a0_1, .int .i64 a0_2, .int .i64 a0_3, .int .i64 a0_4, .int .i64 a0_5, .slice A0_6 l0_6.length c0_6, .slice A0_7 l0_7.length c0_7] 44 (0, 0)) (by (with_reducible repeat (first | refine blk_drewN ?_ _ | refine blk_drew ?_ | refine blk_alloc ?_ _)); exact BK621.out)) : gb621 ≠ gb638)); have n9_ := Aside0.mk ((by rw [hg]; exact Nat.ne_of_gt (blk_lt (g := gb621) (o := .cells #[.int .i64 a0_0, .int .i64 a0_1, .int .i64 a0_2, .int .i64 a0_3, .int .i64 a0_4, .int .i64 a0_5, .slice A0_6 l0_6.length c0_6, .slice A0_7 l0_7.length c0_7] 44 (0, 0)) (by (with_reducible repeat (first | refine blk_drewN ?_ _ | refine blk_drew ?_ | refine blk_alloc ?_ _)); exact BK621.out)) : gb638 ≠ gb621)); have n10_ := Aside0.mk ((by rw [hg]; exact Nat.ne_of_lt (blk_lt (g := gb622) (o := .cells #[.int .i64 a1_0, .int .i64 a1_1, .int .i64 a1_2, .int .i64 a1_3] 65 (0, 0)) (by (with_reducible repeat (first | refine blk_drewN ?_ _ | refine blk_drew ?_ | refine blk_alloc ?_ _)); exact BK622.out)) : gb622 ≠ gb638)); have n11_ := Aside0.mk ((by rw [hg]; exact Nat.ne_of_gt (blk_lt (g := gb622) (o := .cells #[.int .i64 a1_0, .int .i64 a1_1, .int .i64 a1_2, .int .i64 a1_3] 65 (0, 0)) (by (with_reducible repeat (first | refine blk_drewN ?_ _ | refine blk_drew ?_ | refine blk_alloc ?_ _)); exact BK622.out)) : gb638 ≠ gb622)); have n12_ := Aside0.mk ((by rw [hg]; exact Nat.ne_of_lt (blk_lt (g := gb625) (o := .cells #[.int .i64 a0_0, .int .i64 a0_1, .int .i64 a0_2, .int .i64 t628, .int .i64 t629, .int .i64 a0_5, .slice A0_6 l0_6.length c0_6, .slice A0_7 l0_7.length c0_7] 44 (0, 0)) (by (with_reducible repeat (first | refine blk_drewN ?_ _ | refine blk_drew ?_ | refine blk_alloc ?_ _)); exact BK625.out)) : gb625 ≠ gb638)); have n13_ := Aside0.mk ((by rw [hg]; exact Nat.ne_of_gt (blk_lt (g := gb625) (o := .cells #[.int .i64 a0_0, .int .i64 a0_1, .int .i64 a0_2, .int .i64 t628, .int .i64 t629, .int .i64 a0_5, .slice A0_6 l0_6.length c0_6, .slice A0_7 l0_7.length c0_7] 44 (0, 0)) (by (with_reducible repeat (first | refine blk_drewN ?_ _ | refine blk_drew ?_ | refine blk_alloc ?_ _)); exact BK625.out)) : gb638 ≠ gb625)); have n14_ := Aside0.mk ((by rw [hg]; exact Nat.ne_of_lt (blk_lt (g := gb634) (o := .cells #[.int .i64 t631, .int .i64 t632] 23 (0, 0)) (by (with_reducible repeat (first | refine blk_drewN ?_ _ | refine blk_drew ?_ | refine blk_alloc ?_ _)); exact BK634.out)) : gb634 ≠ gb638)); have n15_ := Aside0.mk ((by rw [hg]; exact Nat.ne_of_gt (blk_lt (g := gb634) (o := .cells #[.int .i64 t631, .int .i64 t632] 23 (0, 0)) (by (with_reducible repeat (first | refine blk_drewN ?_ _ | refine blk_drew ?_ | refine blk_alloc ?_ _)); exact BK634.out)) : gb638 ≠ gb634)); clear BK621; clear BK622; clear BK625; clear BK634; clear HB; have BK621 := n0_; have BK622 := n1_; have BK625 := n2_; have BK634 := n3_; have HB := n4_; have BK638 := n5_; have GW638 := n6_; have GE638 := n7_; have NB621_638 := n8_; have NB638_621 := n9_; have NB622_638 := n10_; have NB638_622 := n11_; have NB625_638 := n12_; have NB638_625 := n13_; have NB634_638 := n14_; have NB638_634 := n15_; clear n0_ n1_ n2_ n3_ n4_ n5_ n6_ n7_ n8_ n9_ n10_ n11_ n12_ n13_ n14_ n15_; clear hb hbox hg; have hnb53 := NB638_621.out; have hnc53 := NB621_638.out; have hnb54 := NB638_622.out; have hnc54 := NB622_638.out; have hnb55 := NB638_625.out; have hnc55 := NB625_638.out; have hnb56 := NB638_634.out; have hnc56 := NB634_638.out; have hcz57_0 : w52.cell? ⟨gb638, 0, none⟩ = some (.int .i64 0) := (blk_cell BK638.out 0).trans rfl; have hcz57_1 : w52.cell? ⟨gb638, 1, none⟩ = some (.int .i64 0) := (blk_cell BK638.out 1).trans rfl; have hfz57_0 := blk_frozen BK638.out 0; have hfz57_1 := blk_frozen BK638.out 1))
          (try simp only [Act.put, List.setIfInBounds_toArray, List.set_cons_zero, List.set_cons_succ])
          go_cut [110] (fun v110 wc => ∃ (kq : Nat) (x110_34 : Bool), v110 = .bool x110_34 ∧ Aside0 (remontoirlaw04_ScaleWider.j1 kq t633 t637 x110_34 t631 t632 t635 t636 = some r) ∧ Aside0 (kq ≤ kj5) ∧ Aside0 (wc.heap[gb621]? = some (.cells #[.int .i64 a0_0, .int .i64 a0_1, .int .i64 a0_2, .int .i64 a0_3, .int .i64 a0_4, .int .i64 a0_5, (.slice A0_6 l0_6.length c0_6), (.slice A0_7 l0_7.length c0_7)] 44 (0, 0))) ∧ Aside0 (wc.heap[gb622]? = some (.cells #[.int .i64 a1_0, .int .i64 a1_1, .int .i64 a1_2, .int .i64 a1_3] 65 (0, 0))) ∧ Aside0 (wc.heap[gb625]? = some (.cells #[.int .i64 a0_0, .int .i64 a0_1, .int .i64 a0_2, .int .i64 t628, .int .i64 t629, .int .i64 a0_5, (.slice A0_6 l0_6.length c0_6), (.slice A0_7 l0_7.length c0_7)] 44 (0, 0))) ∧ Aside0 (wc.heap[gb634]? = some (.cells #[.int .i64 t631, .int .i64 t632] 23 (0, 0))) ∧ Aside0 (wc.heap[gb638]? = some (.cells #[.int .i64 t635, .int .i64 t636] 23 (0, 0))) ∧ Aside0 (Below w.heap.size w wc))
          case first =>
            have H := HC35.out
            clear HC35
            have H' := Aside0.mk H
            clear H
            go_wp2
            go_meet
            case rel => exact ⟨_, ((t633 != 0)), (by first | rfl | (simp; done) | (simp [*]; done)), H', ⟨by have := HJ5.out; first | omega | exact Nat.le_refl _⟩, ⟨by (with_reducible repeat (first | refine blk_drewN ?_ _ | refine blk_drew ?_ | refine blk_alloc ?_ _)); refine blk_far ?_ NB621_638.out _; (with_reducible repeat (first | refine blk_drewN ?_ _ | refine blk_drew ?_ | refine blk_alloc ?_ _)); refine blk_far ?_ NB621_638.out _; (with_reducible repeat (first | refine blk_drewN ?_ _ | refine blk_drew ?_ | refine blk_alloc ?_ _)); exact BK621.out⟩, ⟨by (with_reducible repeat (first | refine blk_drewN ?_ _ | refine blk_drew ?_ | refine blk_alloc ?_ _)); refine blk_far ?_ NB622_638.out _; (with_reducible repeat (first | refine blk_drewN ?_ _ | refine blk_drew ?_ | refine blk_alloc ?_ _)); refine blk_far ?_ NB622_638.out _; (with_reducible repeat (first | refine blk_drewN ?_ _ | refine blk_drew ?_ | refine blk_alloc ?_ _)); exact BK622.out⟩, ⟨by (with_reducible repeat (first | refine blk_drewN ?_ _ | refine blk_drew ?_ | refine blk_alloc ?_ _)); refine blk_far ?_ NB625_638.out _; (with_reducible repeat (first | refine blk_drewN ?_ _ | refine blk_drew ?_ | refine blk_alloc ?_ _)); refine blk_far ?_ NB625_638.out _; (with_reducible repeat (first | refine blk_drewN ?_ _ | refine blk_drew ?_ | refine blk_alloc ?_ _)); exact BK625.out⟩, ⟨by (with_reducible repeat (first | refine blk_drewN ?_ _ | refine blk_drew ?_ | refine blk_alloc ?_ _)); refine blk_far ?_ NB634_638.out _; (with_reducible repeat (first | refine blk_drewN ?_ _ | refine blk_drew ?_ | refine blk_alloc ?_ _)); refine blk_far ?_ NB634_638.out _; (with_reducible repeat (first | refine blk_drewN ?_ _ | refine blk_drew ?_ | refine blk_alloc ?_ _)); exact BK634.out⟩, ⟨by (with_reducible repeat (first | refine blk_drewN ?_ _ | refine blk_drew ?_ | refine blk_alloc ?_ _)); refine blk_put (cs := #[.int .i64 t635, .int .i64 0]) ?_ 1 _ rfl; (with_reducible repeat (first | refine blk_drewN ?_ _ | refine blk_drew ?_ | refine blk_alloc ?_ _)); refine blk_put (cs := #[.int .i64 0, .int .i64 0]) ?_ 0 _ rfl; (with_reducible repeat (first | refine blk_drewN ?_ _ | refine blk_drew ?_ | refine blk_alloc ?_ _)); exact BK638.out⟩, ⟨by repeat (first | (with_reducible first | exact HB.out | apply below_alloc | apply pw_below_drewN | apply below_drew1 | refine below_set ?_ GE621.out | refine below_set ?_ GE622.out | refine below_set ?_ GE625.out | refine below_set ?_ GE634.out | refine below_set ?_ GE638.out) | exact HB.out)⟩⟩
          case rest =>
            as_aux_lemma =>
            clear HC35
            try clear c1
            try clear c2
            try clear p2
            try clear c3
            try clear c4
            try clear c5
            try clear p6
            try clear c9
            try clear c14
            try clear c15
            try clear c19
            try clear c19b0
            try clear c19b1
            try clear c20
            try clear c21
            try clear c23
            try clear c24
            try clear c26
            try clear c27
            try clear c28
            try clear c36
            try clear c37
            try clear c38
            try clear c40
            try clear c46
            try clear c47
            try clear c48
            try clear c49
            try clear c50
            try clear c53
            try clear c54
            try clear c55
            try clear c56
            try clear hcz10_0
            try clear hcz10_1
            try clear hcz10_2
            try clear hcz10_3
            try clear hcz10_4
            try clear hcz10_5
            try clear hcz10_6
            try clear hcz10_7
            try clear hcz12_0
            try clear hcz12_1
            try clear hcz12_2
            try clear hcz12_3
            try clear hcz12_4
            try clear hcz12_5
            try clear hcz12_6
            try clear hcz12_7
            try clear hcz16_0
            try clear hcz16_1
            try clear hcz16_2
            try clear hcz16_3
            try clear hcz16_4
            try clear hcz16_5
            try clear hcz16_6
            try clear hcz16_7
            try clear hcz17_0
            try clear hcz17_1
            try clear hcz17_2
            try clear hcz17_3
            try clear hcz22_0
            try clear hcz22_1
            try clear hcz22_2
            try clear hcz22_3
            try clear hcz25_0
            try clear hcz25_1
            try clear hcz25_2
            try clear hcz25_3
            try clear hcz27_0
            try clear hcz27_1
            try clear hcz27_2
            try clear hcz27_3
            try clear hcz27_4
            try clear hcz27_5
            try clear hcz27_6
            try clear hcz27_7
            try clear hcz38_0
            try clear hcz38_1
            try clear hcz38_2
            try clear hcz38_3
            try clear hcz38_4
            try clear hcz38_5
            try clear hcz38_6
            try clear hcz38_7
            try clear hcz41_0
            try clear hcz41_1
            try clear hcz41_2
            try clear hcz41_3
            try clear hcz41_4
            try clear hcz41_5
            try clear hcz41_6
            try clear hcz41_7
            try clear hcz42_0
            try clear hcz42_1
            try clear hcz42_2
            try clear hcz42_3
            try clear hcz43_0
            try clear hcz43_1
            try clear hcz43_2
            try clear hcz43_3
            try clear hcz43_4
            try clear hcz43_5
            try clear hcz43_6
            try clear hcz43_7
            try clear hcz49_0
            try clear hcz49_1
            try clear hcz50_0
            try clear hcz50_1
            try clear hcz50_2
            try clear hcz50_3
            try clear hcz50_4
            try clear hcz50_5
            try clear hcz50_6
            try clear hcz50_7
            try clear hcz57_0
            try clear hcz57_1
            try clear hfz10_0
            try clear hfz10_1
            try clear hfz10_2
            try clear hfz10_3
            try clear hfz10_4
            try clear hfz10_5
            try clear hfz10_6
            try clear hfz10_7
            try clear hfz12_0
            try clear hfz12_1
            try clear hfz12_2
            try clear hfz12_3
            try clear hfz12_4
            try clear hfz12_5
            try clear hfz12_6
            try clear hfz12_7
            try clear hfz16_0
            try clear hfz16_1
            try clear hfz16_2
            try clear hfz16_3
            try clear hfz16_4
            try clear hfz16_5
            try clear hfz16_6
            try clear hfz16_7
            try clear hfz17_0
            try clear hfz17_1
            try clear hfz17_2
            try clear hfz17_3
            try clear hfz22_0
            try clear hfz22_1
            try clear hfz22_2
            try clear hfz22_3
            try clear hfz25_0
            try clear hfz25_1
            try clear hfz25_2
            try clear hfz25_3
            try clear hfz27_0
            try clear hfz27_1
            try clear hfz27_2
            try clear hfz27_3
            try clear hfz27_4
            try clear hfz27_5
            try clear hfz27_6
            try clear hfz27_7
            try clear hfz38_0
            try clear hfz38_1
            try clear hfz38_2
            try clear hfz38_3
            try clear hfz38_4
            try clear hfz38_5
            try clear hfz38_6
            try clear hfz38_7
            try clear hfz41_0
            try clear hfz41_1
            try clear hfz41_2
            try clear hfz41_3
            try clear hfz41_4
            try clear hfz41_5
            try clear hfz41_6
            try clear hfz41_7
            try clear hfz42_0
            try clear hfz42_1
            try clear hfz42_2
            try clear hfz42_3
            try clear hfz43_0
            try clear hfz43_1
            try clear hfz43_2
            try clear hfz43_3
            try clear hfz43_4
            try clear hfz43_5
            try clear hfz43_6
            try clear hfz43_7
            try clear hfz49_0
            try clear hfz49_1
            try clear hfz50_0
            try clear hfz50_1
            try clear hfz50_2
            try clear hfz50_3
            try clear hfz50_4
            try clear hfz50_5
            try clear hfz50_6
            try clear hfz50_7
            try clear hfz57_0
            try clear hfz57_1
            try clear p2
            obtain ⟨kq, x110_34, rfl, HA, HJ34, BK621, BK622, BK625, BK634, BK638, HB⟩ := hcut
            cases kq with
            | zero => exact absurd HA.out (by simp [remontoirlaw04_ScaleWider.j1])
            | succ kj34 =>
              have H := HA.out
              clear HA
              simp only [remontoirlaw04_ScaleWider.j1] at H
              by_cases c58 : x110_34 = true
              · subst c58
                have H1 : (if t633 = 42 then (if t637 = 0 then ((remontoirlaw04_works.f).bind fun t639 => (some t639)) else (if t637 = t633 then ((remontoirlaw04_works.f).bind fun t640 => (some t640)) else (some false))) else (some false)) = some r := by rw [if_pos rfl] at H; exact H
                clear H
                have H := H1
                clear H1
                by_cases c59 : t633 = 42
                · rw [if_pos c59] at H
                  have c59b0 : (t633 == 42) = true := beq_iff_eq.mpr c59
                  have c59b1 : (t633 != 42) = false := bne_eq_false_iff_eq.mpr c59
                  clear c59
                  by_cases c60 : t637 = 0
                  · rw [if_pos c60] at H
                    have c60b0 : (t637 == 0) = true := beq_iff_eq.mpr c60
                    have c60b1 : (t637 != 0) = false := bne_eq_false_iff_eq.mpr c60
                    clear c60
                    replace H := Option.bind_eq_some_iff.mp H
                    obtain ⟨t639, A610, H⟩ := H
                    replace H : (some t639) = some r := H
                    have A61 := Aside0.mk A610
                    clear A610
                    obtain rfl := Option.some.inj H
                    go_wp2_with (first | (go_at_call 21; (with_reducible refine (remontoirlaw04_works.calls  t639 _ ?side1 A61.out).mono ?_); (case side1 => exact Go.Proofs.YtidnopmjhhmedaaDoor.Ways.below HWays.out (by repeat (first | (with_reducible first | exact HB.out | apply below_alloc | apply pw_below_drewN | apply below_drew1 | refine below_set ?_ GE621.out | refine below_set ?_ GE622.out | refine below_set ?_ GE625.out | refine below_set ?_ GE634.out | refine below_set ?_ GE638.out) | exact HB.out))); rintro e w62 ⟨rfl, hb⟩; have n0_ := Aside0.mk (blk_below (g := gb621) (o := .cells #[.int .i64 a0_0, .int .i64 a0_1, .int .i64 a0_2, .int .i64 a0_3, .int .i64 a0_4, .int .i64 a0_5, .slice A0_6 l0_6.length c0_6, .slice A0_7 l0_7.length c0_7] 44 (0, 0)) (by (with_reducible repeat (first | refine blk_drewN ?_ _ | refine blk_drew ?_ | refine blk_alloc ?_ _)); exact BK621.out) hb); have n1_ := Aside0.mk (blk_below (g := gb622) (o := .cells #[.int .i64 a1_0, .int .i64 a1_1, .int .i64 a1_2, .int .i64 a1_3] 65 (0, 0)) (by (with_reducible repeat (first | refine blk_drewN ?_ _ | refine blk_drew ?_ | refine blk_alloc ?_ _)); exact BK622.out) hb); have n2_ := Aside0.mk (blk_below (g := gb625) (o := .cells #[.int .i64 a0_0, .int .i64 a0_1, .int .i64 a0_2, .int .i64 t628, .int .i64 t629, .int .i64 a0_5, .slice A0_6 l0_6.length c0_6, .slice A0_7 l0_7.length c0_7] 44 (0, 0)) (by (with_reducible repeat (first | refine blk_drewN ?_ _ | refine blk_drew ?_ | refine blk_alloc ?_ _)); exact BK625.out) hb); have n3_ := Aside0.mk (blk_below (g := gb634) (o := .cells #[.int .i64 t631, .int .i64 t632] 23 (0, 0)) (by (with_reducible repeat (first | refine blk_drewN ?_ _ | refine blk_drew ?_ | refine blk_alloc ?_ _)); exact BK634.out) hb); have n4_ := Aside0.mk (blk_below (g := gb638) (o := .cells #[.int .i64 t635, .int .i64 t636] 23 (0, 0)) (by (with_reducible repeat (first | refine blk_drewN ?_ _ | refine blk_drew ?_ | refine blk_alloc ?_ _)); exact BK638.out) hb); have n5_ := Aside0.mk (below_step (by repeat (first | (with_reducible first | exact HB.out | apply below_alloc | apply pw_below_drewN | apply below_drew1 | refine below_set ?_ GE621.out | refine below_set ?_ GE622.out | refine below_set ?_ GE625.out | refine below_set ?_ GE634.out | refine below_set ?_ GE638.out) | exact HB.out)) hb); clear BK621; clear BK622; clear BK625; clear BK634; clear BK638; clear HB; have BK621 := n0_; have BK622 := n1_; have BK625 := n2_; have BK634 := n3_; have BK638 := n4_; have HB := n5_; clear n0_ n1_ n2_ n3_ n4_ n5_; (try clear hb); (try clear hb2); (try clear hk); (try clear hi)))
                    go_ret
                    exact ⟨by first | rfl | (simp [errW_none, errW_some] <;> rfl) | (simp only [← hji29, ← hji30]; first | rfl | (simp [errW_none, errW_some] <;> rfl)) | (simp [*, errW_none, errW_some] <;> rfl), by repeat (first | (with_reducible first | exact HB.out | apply below_alloc | apply pw_below_drewN | apply below_drew1 | refine below_set ?_ GE621.out | refine below_set ?_ GE622.out | refine below_set ?_ GE625.out | refine below_set ?_ GE634.out | refine below_set ?_ GE638.out) | exact HB.out)⟩
                  · rw [if_neg c60] at H
                    have c60b0 : (t637 == 0) = false := beq_eq_false_iff_ne.mpr c60
                    have c60b1 : (t637 != 0) = true := bne_iff_ne.mpr c60
                    by_cases c63 : t637 = t633
                    · rw [if_pos c63] at H
                      have c63b0 : (t637 == t633) = true := beq_iff_eq.mpr c63
                      have c63b1 : (t637 != t633) = false := bne_eq_false_iff_eq.mpr c63
                      clear c63
                      replace H := Option.bind_eq_some_iff.mp H
                      obtain ⟨t640, A640, H⟩ := H
                      replace H : (some t640) = some r := H
                      have A64 := Aside0.mk A640
                      clear A640
                      obtain rfl := Option.some.inj H
                      go_wp2_with (first | (go_at_call 21; (with_reducible refine (remontoirlaw04_works.calls  t640 _ ?side1 A64.out).mono ?_); (case side1 => exact Go.Proofs.YtidnopmjhhmedaaDoor.Ways.below HWays.out (by repeat (first | (with_reducible first | exact HB.out | apply below_alloc | apply pw_below_drewN | apply below_drew1 | refine below_set ?_ GE621.out | refine below_set ?_ GE622.out | refine below_set ?_ GE625.out | refine below_set ?_ GE634.out | refine below_set ?_ GE638.out) | exact HB.out))); rintro e w65 ⟨rfl, hb⟩; have n0_ := Aside0.mk (blk_below (g := gb621) (o := .cells #[.int .i64 a0_0, .int .i64 a0_1, .int .i64 a0_2, .int .i64 a0_3, .int .i64 a0_4, .int .i64 a0_5, .slice A0_6 l0_6.length c0_6, .slice A0_7 l0_7.length c0_7] 44 (0, 0)) (by (with_reducible repeat (first | refine blk_drewN ?_ _ | refine blk_drew ?_ | refine blk_alloc ?_ _)); exact BK621.out) hb); have n1_ := Aside0.mk (blk_below (g := gb622) (o := .cells #[.int .i64 a1_0, .int .i64 a1_1, .int .i64 a1_2, .int .i64 a1_3] 65 (0, 0)) (by (with_reducible repeat (first | refine blk_drewN ?_ _ | refine blk_drew ?_ | refine blk_alloc ?_ _)); exact BK622.out) hb); have n2_ := Aside0.mk (blk_below (g := gb625) (o := .cells #[.int .i64 a0_0, .int .i64 a0_1, .int .i64 a0_2, .int .i64 t628, .int .i64 t629, .int .i64 a0_5, .slice A0_6 l0_6.length c0_6, .slice A0_7 l0_7.length c0_7] 44 (0, 0)) (by (with_reducible repeat (first | refine blk_drewN ?_ _ | refine blk_drew ?_ | refine blk_alloc ?_ _)); exact BK625.out) hb); have n3_ := Aside0.mk (blk_below (g := gb634) (o := .cells #[.int .i64 t631, .int .i64 t632] 23 (0, 0)) (by (with_reducible repeat (first | refine blk_drewN ?_ _ | refine blk_drew ?_ | refine blk_alloc ?_ _)); exact BK634.out) hb); have n4_ := Aside0.mk (blk_below (g := gb638) (o := .cells #[.int .i64 t635, .int .i64 t636] 23 (0, 0)) (by (with_reducible repeat (first | refine blk_drewN ?_ _ | refine blk_drew ?_ | refine blk_alloc ?_ _)); exact BK638.out) hb); have n5_ := Aside0.mk (below_step (by repeat (first | (with_reducible first | exact HB.out | apply below_alloc | apply pw_below_drewN | apply below_drew1 | refine below_set ?_ GE621.out | refine below_set ?_ GE622.out | refine below_set ?_ GE625.out | refine below_set ?_ GE634.out | refine below_set ?_ GE638.out) | exact HB.out)) hb); clear BK621; clear BK622; clear BK625; clear BK634; clear BK638; clear HB; have BK621 := n0_; have BK622 := n1_; have BK625 := n2_; have BK634 := n3_; have BK638 := n4_; have HB := n5_; clear n0_ n1_ n2_ n3_ n4_ n5_; (try clear hb); (try clear hb2); (try clear hk); (try clear hi)))
                      go_ret
                      exact ⟨by first | rfl | (simp [errW_none, errW_some] <;> rfl) | (simp only [← hji29, ← hji30]; first | rfl | (simp [errW_none, errW_some] <;> rfl)) | (simp [*, errW_none, errW_some] <;> rfl), by repeat (first | (with_reducible first | exact HB.out | apply below_alloc | apply pw_below_drewN | apply below_drew1 | refine below_set ?_ GE621.out | refine below_set ?_ GE622.out | refine below_set ?_ GE625.out | refine below_set ?_ GE634.out | refine below_set ?_ GE638.out) | exact HB.out)⟩
                    · rw [if_neg c63] at H
                      have c63b0 : (t637 == t633) = false := beq_eq_false_iff_ne.mpr c63
                      have c63b1 : (t637 != t633) = true := bne_iff_ne.mpr c63
                      obtain rfl := Option.some.inj H
                      go_wp2
                      go_ret
                      exact ⟨by first | rfl | (simp [errW_none, errW_some] <;> rfl) | (simp only [← hji29, ← hji30]; first | rfl | (simp [errW_none, errW_some] <;> rfl)) | (simp [*, errW_none, errW_some] <;> rfl), by repeat (first | (with_reducible first | exact HB.out | apply below_alloc | apply pw_below_drewN | apply below_drew1 | refine below_set ?_ GE621.out | refine below_set ?_ GE622.out | refine below_set ?_ GE625.out | refine below_set ?_ GE634.out | refine below_set ?_ GE638.out) | exact HB.out)⟩
                · rw [if_neg c59] at H
                  have c59b0 : (t633 == 42) = false := beq_eq_false_iff_ne.mpr c59
                  have c59b1 : (t633 != 42) = true := bne_iff_ne.mpr c59
                  obtain rfl := Option.some.inj H
                  go_wp2
                  go_ret
                  exact ⟨by first | rfl | (simp [errW_none, errW_some] <;> rfl) | (simp only [← hji29, ← hji30]; first | rfl | (simp [errW_none, errW_some] <;> rfl)) | (simp [*, errW_none, errW_some] <;> rfl), by repeat (first | (with_reducible first | exact HB.out | apply below_alloc | apply pw_below_drewN | apply below_drew1 | refine below_set ?_ GE621.out | refine below_set ?_ GE622.out | refine below_set ?_ GE625.out | refine below_set ?_ GE634.out | refine below_set ?_ GE638.out) | exact HB.out)⟩
              · replace c58 := Bool.eq_false_iff.mpr c58
                subst c58
                have H1 : (if t637 = 0 then ((remontoirref00_Within.f t631 t632 t635 t636).bind fun t641 => (if t641 = true then ((remontoirlaw04_works.f).bind fun t642 => (some t642)) else (some false))) else (some false)) = some r := by rw [if_neg (show ¬ (false = true) by decide)] at H; exact H
                clear H
                have H := H1
                clear H1
                by_cases c66 : t637 = 0
                · rw [if_pos c66] at H
                  have c66b0 : (t637 == 0) = true := beq_iff_eq.mpr c66
                  have c66b1 : (t637 != 0) = false := bne_eq_false_iff_eq.mpr c66
                  clear c66
                  replace H := Option.bind_eq_some_iff.mp H
                  obtain ⟨t641, A670, H⟩ := H
                  replace H : (if t641 = true then ((remontoirlaw04_works.f).bind fun t642 => (some t642)) else (some false)) = some r := H
                  have A67 := Aside0.mk A670
                  clear A670
                  by_cases c68 : t641 = true
                  · subst c68
                    have H1 : ((remontoirlaw04_works.f).bind fun t642 => (some t642)) = some r := by rw [if_pos rfl] at H; exact H
                    clear H
                    have H := H1
                    clear H1
                    replace H := Option.bind_eq_some_iff.mp H
                    obtain ⟨t642, A690, H⟩ := H
                    replace H : (some t642) = some r := H
                    have A69 := Aside0.mk A690
                    clear A690
                    obtain rfl := Option.some.inj H
                    have hnb70 := NB634_621.out
                    have hnc70 := NB621_634.out
                    have hnb71 := NB634_622.out
                    have hnc71 := NB622_634.out
                    have hnb72 := NB634_625.out
                    have hnc72 := NB625_634.out
                    have hnb73 := NB634_638.out
                    have hnc73 := NB638_634.out
                    have hcz74_0 : wc.cell? ⟨gb634, 0, none⟩ = some (.int .i64 t631) := (blk_cell BK634.out 0).trans rfl
                    have hcz74_1 : wc.cell? ⟨gb634, 1, none⟩ = some (.int .i64 t632) := (blk_cell BK634.out 1).trans rfl
                    have hfz74_0 := blk_frozen BK634.out 0
                    have hfz74_1 := blk_frozen BK634.out 1
                    have hnb75 := NB638_621.out
                    have hnc75 := NB621_638.out
                    have hnb76 := NB638_622.out
                    have hnc76 := NB622_638.out
                    have hnb77 := NB638_625.out
                    have hnc77 := NB625_638.out
                    have hcz78_0 : wc.cell? ⟨gb638, 0, none⟩ = some (.int .i64 t635) := (blk_cell BK638.out 0).trans rfl
                    have hcz78_1 : wc.cell? ⟨gb638, 1, none⟩ = some (.int .i64 t636) := (blk_cell BK638.out 1).trans rfl
                    have hfz78_0 := blk_frozen BK638.out 0
                    have hfz78_1 := blk_frozen BK638.out 1
                    go_wp2_with (first | (go_at_call 45; (with_reducible refine (remontoirref00_Within.calls t631 t632 t635 t636 true _ A67.out).mono ?_); rintro e w79 ⟨rfl, hb⟩; have n0_ := Aside0.mk (blk_below (g := gb621) (o := .cells #[.int .i64 a0_0, .int .i64 a0_1, .int .i64 a0_2, .int .i64 a0_3, .int .i64 a0_4, .int .i64 a0_5, .slice A0_6 l0_6.length c0_6, .slice A0_7 l0_7.length c0_7] 44 (0, 0)) (by (with_reducible repeat (first | refine blk_drewN ?_ _ | refine blk_drew ?_ | refine blk_alloc ?_ _)); exact BK621.out) hb); have n1_ := Aside0.mk (blk_below (g := gb622) (o := .cells #[.int .i64 a1_0, .int .i64 a1_1, .int .i64 a1_2, .int .i64 a1_3] 65 (0, 0)) (by (with_reducible repeat (first | refine blk_drewN ?_ _ | refine blk_drew ?_ | refine blk_alloc ?_ _)); exact BK622.out) hb); have n2_ := Aside0.mk (blk_below (g := gb625) (o := .cells #[.int .i64 a0_0, .int .i64 a0_1, .int .i64 a0_2, .int .i64 t628, .int .i64 t629, .int .i64 a0_5, .slice A0_6 l0_6.length c0_6, .slice A0_7 l0_7.length c0_7] 44 (0, 0)) (by (with_reducible repeat (first | refine blk_drewN ?_ _ | refine blk_drew ?_ | refine blk_alloc ?_ _)); exact BK625.out) hb); have n3_ := Aside0.mk (blk_below (g := gb634) (o := .cells #[.int .i64 t631, .int .i64 t632] 23 (0, 0)) (by (with_reducible repeat (first | refine blk_drewN ?_ _ | refine blk_drew ?_ | refine blk_alloc ?_ _)); exact BK634.out) hb); have n4_ := Aside0.mk (blk_below (g := gb638) (o := .cells #[.int .i64 t635, .int .i64 t636] 23 (0, 0)) (by (with_reducible repeat (first | refine blk_drewN ?_ _ | refine blk_drew ?_ | refine blk_alloc ?_ _)); exact BK638.out) hb); have n5_ := Aside0.mk (below_step (by repeat (first | (with_reducible first | exact HB.out | apply below_alloc | apply pw_below_drewN | apply below_drew1 | refine below_set ?_ GE621.out | refine below_set ?_ GE622.out | refine below_set ?_ GE625.out | refine below_set ?_ GE634.out | refine below_set ?_ GE638.out) | exact HB.out)) hb); clear BK621; clear BK622; clear BK625; clear BK634; clear BK638; clear HB; have BK621 := n0_; have BK622 := n1_; have BK625 := n2_; have BK634 := n3_; have BK638 := n4_; have HB := n5_; clear n0_ n1_ n2_ n3_ n4_ n5_; (try clear hb); (try clear hb2); (try clear hk); (try clear hi)) | (go_at_call 21; (with_reducible refine (remontoirlaw04_works.calls  t642 _ ?side1 A69.out).mono ?_); (case side1 => exact Go.Proofs.YtidnopmjhhmedaaDoor.Ways.below HWays.out (by repeat (first | (with_reducible first | exact HB.out | apply below_alloc | apply pw_below_drewN | apply below_drew1 | refine below_set ?_ GE621.out | refine below_set ?_ GE622.out | refine below_set ?_ GE625.out | refine below_set ?_ GE634.out | refine below_set ?_ GE638.out) | exact HB.out))); rintro e w80 ⟨rfl, hb⟩; have n0_ := Aside0.mk (blk_below (g := gb621) (o := .cells #[.int .i64 a0_0, .int .i64 a0_1, .int .i64 a0_2, .int .i64 a0_3, .int .i64 a0_4, .int .i64 a0_5, .slice A0_6 l0_6.length c0_6, .slice A0_7 l0_7.length c0_7] 44 (0, 0)) (by (with_reducible repeat (first | refine blk_drewN ?_ _ | refine blk_drew ?_ | refine blk_alloc ?_ _)); exact BK621.out) hb); have n1_ := Aside0.mk (blk_below (g := gb622) (o := .cells #[.int .i64 a1_0, .int .i64 a1_1, .int .i64 a1_2, .int .i64 a1_3] 65 (0, 0)) (by (with_reducible repeat (first | refine blk_drewN ?_ _ | refine blk_drew ?_ | refine blk_alloc ?_ _)); exact BK622.out) hb); have n2_ := Aside0.mk (blk_below (g := gb625) (o := .cells #[.int .i64 a0_0, .int .i64 a0_1, .int .i64 a0_2, .int .i64 t628, .int .i64 t629, .int .i64 a0_5, .slice A0_6 l0_6.length c0_6, .slice A0_7 l0_7.length c0_7] 44 (0, 0)) (by (with_reducible repeat (first | refine blk_drewN ?_ _ | refine blk_drew ?_ | refine blk_alloc ?_ _)); exact BK625.out) hb); have n3_ := Aside0.mk (blk_below (g := gb634) (o := .cells #[.int .i64 t631, .int .i64 t632] 23 (0, 0)) (by (with_reducible repeat (first | refine blk_drewN ?_ _ | refine blk_drew ?_ | refine blk_alloc ?_ _)); exact BK634.out) hb); have n4_ := Aside0.mk (blk_below (g := gb638) (o := .cells #[.int .i64 t635, .int .i64 t636] 23 (0, 0)) (by (with_reducible repeat (first | refine blk_drewN ?_ _ | refine blk_drew ?_ | refine blk_alloc ?_ _)); exact BK638.out) hb); have n5_ := Aside0.mk (below_step (by repeat (first | (with_reducible first | exact HB.out | apply below_alloc | apply pw_below_drewN | apply below_drew1 | refine below_set ?_ GE621.out | refine below_set ?_ GE622.out | refine below_set ?_ GE625.out | refine below_set ?_ GE634.out | refine below_set ?_ GE638.out) | exact HB.out)) hb); clear BK621; clear BK622; clear BK625; clear BK634; clear BK638; clear HB; have BK621 := n0_; have BK622 := n1_; have BK625 := n2_; have BK634 := n3_; have BK638 := n4_; have HB := n5_; clear n0_ n1_ n2_ n3_ n4_ n5_; (try clear hb); (try clear hb2); (try clear hk); (try clear hi)))
                    go_ret
                    exact ⟨by first | rfl | (simp [errW_none, errW_some] <;> rfl) | (simp only [← hji29, ← hji30]; first | rfl | (simp [errW_none, errW_some] <;> rfl)) | (simp [*, errW_none, errW_some] <;> rfl), by repeat (first | (with_reducible first | exact HB.out | apply below_alloc | apply pw_below_drewN | apply below_drew1 | refine below_set ?_ GE621.out | refine below_set ?_ GE622.out | refine below_set ?_ GE625.out | refine below_set ?_ GE634.out | refine below_set ?_ GE638.out) | exact HB.out)⟩
                  · replace c68 := Bool.eq_false_iff.mpr c68
                    subst c68
                    have H1 : (some false) = some r := by rw [if_neg (show ¬ (false = true) by decide)] at H; exact H
                    clear H
                    have H := H1
                    clear H1
                    obtain rfl := Option.some.inj H
                    have hnb81 := NB634_621.out
                    have hnc81 := NB621_634.out
                    have hnb82 := NB634_622.out
                    have hnc82 := NB622_634.out
                    have hnb83 := NB634_625.out
                    have hnc83 := NB625_634.out
                    have hnb84 := NB634_638.out
                    have hnc84 := NB638_634.out
                    have hcz85_0 : wc.cell? ⟨gb634, 0, none⟩ = some (.int .i64 t631) := (blk_cell BK634.out 0).trans rfl
                    have hcz85_1 : wc.cell? ⟨gb634, 1, none⟩ = some (.int .i64 t632) := (blk_cell BK634.out 1).trans rfl
                    have hfz85_0 := blk_frozen BK634.out 0
                    have hfz85_1 := blk_frozen BK634.out 1
                    have hnb86 := NB638_621.out
                    have hnc86 := NB621_638.out
                    have hnb87 := NB638_622.out
                    have hnc87 := NB622_638.out
                    have hnb88 := NB638_625.out
                    have hnc88 := NB625_638.out
                    have hcz89_0 : wc.cell? ⟨gb638, 0, none⟩ = some (.int .i64 t635) := (blk_cell BK638.out 0).trans rfl
                    have hcz89_1 : wc.cell? ⟨gb638, 1, none⟩ = some (.int .i64 t636) := (blk_cell BK638.out 1).trans rfl
                    have hfz89_0 := blk_frozen BK638.out 0
                    have hfz89_1 := blk_frozen BK638.out 1
                    go_wp2_with (first | (go_at_call 45; (with_reducible refine (remontoirref00_Within.calls t631 t632 t635 t636 false _ A67.out).mono ?_); rintro e w90 ⟨rfl, hb⟩; have n0_ := Aside0.mk (blk_below (g := gb621) (o := .cells #[.int .i64 a0_0, .int .i64 a0_1, .int .i64 a0_2, .int .i64 a0_3, .int .i64 a0_4, .int .i64 a0_5, .slice A0_6 l0_6.length c0_6, .slice A0_7 l0_7.length c0_7] 44 (0, 0)) (by (with_reducible repeat (first | refine blk_drewN ?_ _ | refine blk_drew ?_ | refine blk_alloc ?_ _)); exact BK621.out) hb); have n1_ := Aside0.mk (blk_below (g := gb622) (o := .cells #[.int .i64 a1_0, .int .i64 a1_1, .int .i64 a1_2, .int .i64 a1_3] 65 (0, 0)) (by (with_reducible repeat (first | refine blk_drewN ?_ _ | refine blk_drew ?_ | refine blk_alloc ?_ _)); exact BK622.out) hb); have n2_ := Aside0.mk (blk_below (g := gb625) (o := .cells #[.int .i64 a0_0, .int .i64 a0_1, .int .i64 a0_2, .int .i64 t628, .int .i64 t629, .int .i64 a0_5, .slice A0_6 l0_6.length c0_6, .slice A0_7 l0_7.length c0_7] 44 (0, 0)) (by (with_reducible repeat (first | refine blk_drewN ?_ _ | refine blk_drew ?_ | refine blk_alloc ?_ _)); exact BK625.out) hb); have n3_ := Aside0.mk (blk_below (g := gb634) (o := .cells #[.int .i64 t631, .int .i64 t632] 23 (0, 0)) (by (with_reducible repeat (first | refine blk_drewN ?_ _ | refine blk_drew ?_ | refine blk_alloc ?_ _)); exact BK634.out) hb); have n4_ := Aside0.mk (blk_below (g := gb638) (o := .cells #[.int .i64 t635, .int .i64 t636] 23 (0, 0)) (by (with_reducible repeat (first | refine blk_drewN ?_ _ | refine blk_drew ?_ | refine blk_alloc ?_ _)); exact BK638.out) hb); have n5_ := Aside0.mk (below_step (by repeat (first | (with_reducible first | exact HB.out | apply below_alloc | apply pw_below_drewN | apply below_drew1 | refine below_set ?_ GE621.out | refine below_set ?_ GE622.out | refine below_set ?_ GE625.out | refine below_set ?_ GE634.out | refine below_set ?_ GE638.out) | exact HB.out)) hb); clear BK621; clear BK622; clear BK625; clear BK634; clear BK638; clear HB; have BK621 := n0_; have BK622 := n1_; have BK625 := n2_; have BK634 := n3_; have BK638 := n4_; have HB := n5_; clear n0_ n1_ n2_ n3_ n4_ n5_; (try clear hb); (try clear hb2); (try clear hk); (try clear hi)))
                    go_ret
                    exact ⟨by first | rfl | (simp [errW_none, errW_some] <;> rfl) | (simp only [← hji29, ← hji30]; first | rfl | (simp [errW_none, errW_some] <;> rfl)) | (simp [*, errW_none, errW_some] <;> rfl), by repeat (first | (with_reducible first | exact HB.out | apply below_alloc | apply pw_below_drewN | apply below_drew1 | refine below_set ?_ GE621.out | refine below_set ?_ GE622.out | refine below_set ?_ GE625.out | refine below_set ?_ GE634.out | refine below_set ?_ GE638.out) | exact HB.out)⟩
                · rw [if_neg c66] at H
                  have c66b0 : (t637 == 0) = false := beq_eq_false_iff_ne.mpr c66
                  have c66b1 : (t637 != 0) = true := bne_iff_ne.mpr c66
                  obtain rfl := Option.some.inj H
                  go_wp2
                  go_ret
                  exact ⟨by first | rfl | (simp [errW_none, errW_some] <;> rfl) | (simp only [← hji29, ← hji30]; first | rfl | (simp [errW_none, errW_some] <;> rfl)) | (simp [*, errW_none, errW_some] <;> rfl), by repeat (first | (with_reducible first | exact HB.out | apply below_alloc | apply pw_below_drewN | apply below_drew1 | refine below_set ?_ GE621.out | refine below_set ?_ GE622.out | refine below_set ?_ GE625.out | refine below_set ?_ GE634.out | refine below_set ?_ GE638.out) | exact HB.out)⟩
        · replace c28 := Bool.eq_false_iff.mpr c28
          subst c28
          have H1 : ((remontoirref00_Rest.f a1_2 (l0_7.length : Int)).bind fun t643 => ((some (([] : List (S71)) : List (S71))).bind fun y644 => (if y644.length + l0_7.length < 5864062014805 then ((some (y644 ++ l0_7 : List (S71))).bind fun y647 => (if 0 ≤ t643 then (if t643 < (l0_7.length : Int) then ((remontoirref00_To.f (mx (-20000) (wrap64 (((rd_T71 l0_7 t643).f1.f0) - t626))) (mn 20000 (wrap64 (((rd_T71 l0_7 t643).f1.f1) + t626)))).bind fun bt653 => (if t643 < (y647.length : Int) then ((remontoirref00_Rest.f a1_3 (wrap64 (a0_5 + 1))).bind fun t656 => ((scale_Error.f a0_0 a0_1 a0_2 a0_3 a0_4 a0_5 l0_6 l0_7 t656).bind fun bt657 => ((scale_Error.f a0_0 a0_1 a0_2 a0_3 a0_4 a0_5 l0_6 (y647.set (t643 : Int).toNat (⟨(rd_T71 l0_7 t643).f0, (⟨bt653.1, bt653.2⟩ : S23)⟩ : S71)) t656).bind fun bt661 => (remontoirlaw04_ScaleWider.j2 kj5 bt657.2.2 bt661.2.2 (bt657.2.2 != 0) bt657.1 bt657.2.1 bt661.1 bt661.2.1)))) else (none))) else (none)) else (none))) else (none)))) = some r := by rw [if_neg (show ¬ (false = true) by decide)] at H; exact H
          clear H
          have H := H1
          clear H1
          replace H := Option.bind_eq_some_iff.mp H
          obtain ⟨t643, A910, H⟩ := H
          replace H : ((some (([] : List (S71)) : List (S71))).bind fun y644 => (if y644.length + l0_7.length < 5864062014805 then ((some (y644 ++ l0_7 : List (S71))).bind fun y647 => (if 0 ≤ t643 then (if t643 < (l0_7.length : Int) then ((remontoirref00_To.f (mx (-20000) (wrap64 (((rd_T71 l0_7 t643).f1.f0) - t626))) (mn 20000 (wrap64 (((rd_T71 l0_7 t643).f1.f1) + t626)))).bind fun bt653 => (if t643 < (y647.length : Int) then ((remontoirref00_Rest.f a1_3 (wrap64 (a0_5 + 1))).bind fun t656 => ((scale_Error.f a0_0 a0_1 a0_2 a0_3 a0_4 a0_5 l0_6 l0_7 t656).bind fun bt657 => ((scale_Error.f a0_0 a0_1 a0_2 a0_3 a0_4 a0_5 l0_6 (y647.set (t643 : Int).toNat (⟨(rd_T71 l0_7 t643).f0, (⟨bt653.1, bt653.2⟩ : S23)⟩ : S71)) t656).bind fun bt661 => (remontoirlaw04_ScaleWider.j2 kj5 bt657.2.2 bt661.2.2 (bt657.2.2 != 0) bt657.1 bt657.2.1 bt661.1 bt661.2.1)))) else (none))) else (none)) else (none))) else (none))) = some r := H
          have A91 := Aside0.mk A910
          clear A910
          obtain ⟨y644, hy644⟩ : ∃ y_ : List (S71), y_ = (([] : List (S71))) := ⟨_, rfl⟩
          replace H : (if y644.length + l0_7.length < 5864062014805 then ((some (y644 ++ l0_7 : List (S71))).bind fun y647 => (if 0 ≤ t643 then (if t643 < (l0_7.length : Int) then ((remontoirref00_To.f (mx (-20000) (wrap64 (((rd_T71 l0_7 t643).f1.f0) - t626))) (mn 20000 (wrap64 (((rd_T71 l0_7 t643).f1.f1) + t626)))).bind fun bt653 => (if t643 < (y647.length : Int) then ((remontoirref00_Rest.f a1_3 (wrap64 (a0_5 + 1))).bind fun t656 => ((scale_Error.f a0_0 a0_1 a0_2 a0_3 a0_4 a0_5 l0_6 l0_7 t656).bind fun bt657 => ((scale_Error.f a0_0 a0_1 a0_2 a0_3 a0_4 a0_5 l0_6 (y647.set (t643 : Int).toNat (⟨(rd_T71 l0_7 t643).f0, (⟨bt653.1, bt653.2⟩ : S23)⟩ : S71)) t656).bind fun bt661 => (remontoirlaw04_ScaleWider.j2 kj5 bt657.2.2 bt661.2.2 (bt657.2.2 != 0) bt657.1 bt657.2.1 bt661.1 bt661.2.1)))) else (none))) else (none)) else (none))) else (none)) = some r := by first | (rw [hy644]; with_reducible exact H) | (have H2_ := (Option.bind_some _ _).symm.trans H; rw [hy644]; with_reducible exact H2_) | (have H2_ := (Option.bind_some _ _).symm.trans H; with_reducible exact H2_) | with_reducible exact H | (rw [hy644]; exact H) | exact H
          have Ny644 := Aside0.mk hy644
          clear hy644
          by_cases c92 : y644.length + l0_7.length < 5864062014805
          · rw [if_pos c92] at H
            have LMc92 := Aside0.mk c92
            clear c92
            obtain ⟨y647, hy647⟩ : ∃ y_ : List (S71), y_ = (y644 ++ l0_7) := ⟨_, rfl⟩
            replace H : (if 0 ≤ t643 then (if t643 < (l0_7.length : Int) then ((remontoirref00_To.f (mx (-20000) (wrap64 (((rd_T71 l0_7 t643).f1.f0) - t626))) (mn 20000 (wrap64 (((rd_T71 l0_7 t643).f1.f1) + t626)))).bind fun bt653 => (if t643 < (y647.length : Int) then ((remontoirref00_Rest.f a1_3 (wrap64 (a0_5 + 1))).bind fun t656 => ((scale_Error.f a0_0 a0_1 a0_2 a0_3 a0_4 a0_5 l0_6 l0_7 t656).bind fun bt657 => ((scale_Error.f a0_0 a0_1 a0_2 a0_3 a0_4 a0_5 l0_6 (y647.set (t643 : Int).toNat (⟨(rd_T71 l0_7 t643).f0, (⟨bt653.1, bt653.2⟩ : S23)⟩ : S71)) t656).bind fun bt661 => (remontoirlaw04_ScaleWider.j2 kj5 bt657.2.2 bt661.2.2 (bt657.2.2 != 0) bt657.1 bt657.2.1 bt661.1 bt661.2.1)))) else (none))) else (none)) else (none)) = some r := by first | (rw [hy647]; with_reducible exact H) | (have H2_ := (Option.bind_some _ _).symm.trans H; rw [hy647]; with_reducible exact H2_) | (have H2_ := (Option.bind_some _ _).symm.trans H; with_reducible exact H2_) | with_reducible exact H | (rw [hy647]; exact H) | exact H
            have Ny647 := Aside0.mk hy647
            clear hy647
            by_cases c93 : 0 ≤ t643
            · rw [if_pos c93] at H
              have c93b0 : decide (0 ≤ t643) = true := decide_eq_true c93
              clear c93
              by_cases c94 : t643 < (l0_7.length : Int)
              · rw [if_pos c94] at H
                have c94b0 : decide (t643 < (l0_7.length : Int)) = true := decide_eq_true c94
                clear c94
                obtain ⟨ji95, hji95⟩ : ∃ j_ : Int, (mx (-20000) (wrap64 (((rd_T71 l0_7 t643).f1.f0) - t626))) = j_ := ⟨_, rfl⟩
                replace H : ((remontoirref00_To.f (ji95) (mn 20000 (wrap64 (((rd_T71 l0_7 t643).f1.f1) + t626)))).bind fun bt653 => (if t643 < (y647.length : Int) then ((remontoirref00_Rest.f a1_3 (wrap64 (a0_5 + 1))).bind fun t656 => ((scale_Error.f a0_0 a0_1 a0_2 a0_3 a0_4 a0_5 l0_6 l0_7 t656).bind fun bt657 => ((scale_Error.f a0_0 a0_1 a0_2 a0_3 a0_4 a0_5 l0_6 (y647.set (t643 : Int).toNat (⟨(rd_T71 l0_7 t643).f0, (⟨bt653.1, bt653.2⟩ : S23)⟩ : S71)) t656).bind fun bt661 => (remontoirlaw04_ScaleWider.j2 kj5 bt657.2.2 bt661.2.2 (bt657.2.2 != 0) bt657.1 bt657.2.1 bt661.1 bt661.2.1)))) else (none))) = some r := by first | (rw [hji95] at H; exact H) | (simp only [hji95] at H ⊢; exact H)
                (try rw [hji95] at A91)
                have hji95_ : (if (-20000) < (wrap64 (((rd_T71 l0_7 t643).f1.f0) - t626)) then (wrap64 (((rd_T71 l0_7 t643).f1.f0) - t626)) else (-20000)) = ji95 := hji95
                obtain ⟨ji96, hji96⟩ : ∃ j_ : Int, (mn 20000 (wrap64 (((rd_T71 l0_7 t643).f1.f1) + t626))) = j_ := ⟨_, rfl⟩
                replace H : ((remontoirref00_To.f (ji95) (ji96)).bind fun bt653 => (if t643 < (y647.length : Int) then ((remontoirref00_Rest.f a1_3 (wrap64 (a0_5 + 1))).bind fun t656 => ((scale_Error.f a0_0 a0_1 a0_2 a0_3 a0_4 a0_5 l0_6 l0_7 t656).bind fun bt657 => ((scale_Error.f a0_0 a0_1 a0_2 a0_3 a0_4 a0_5 l0_6 (y647.set (t643 : Int).toNat (⟨(rd_T71 l0_7 t643).f0, (⟨bt653.1, bt653.2⟩ : S23)⟩ : S71)) t656).bind fun bt661 => (remontoirlaw04_ScaleWider.j2 kj5 bt657.2.2 bt661.2.2 (bt657.2.2 != 0) bt657.1 bt657.2.1 bt661.1 bt661.2.1)))) else (none))) = some r := by first | (rw [hji96] at H; exact H) | (simp only [hji96] at H ⊢; exact H)
                (try rw [hji96] at A91)
                have hji96_ : (if (wrap64 (((rd_T71 l0_7 t643).f1.f1) + t626)) < 20000 then (wrap64 (((rd_T71 l0_7 t643).f1.f1) + t626)) else 20000) = ji96 := hji96
                replace H := Option.bind_eq_some_iff.mp H
                obtain ⟨⟨t653, t654⟩, A970, H⟩ := H
                replace H : (if t643 < (y647.length : Int) then ((remontoirref00_Rest.f a1_3 (wrap64 (a0_5 + 1))).bind fun t656 => ((scale_Error.f a0_0 a0_1 a0_2 a0_3 a0_4 a0_5 l0_6 l0_7 t656).bind fun bt657 => ((scale_Error.f a0_0 a0_1 a0_2 a0_3 a0_4 a0_5 l0_6 (y647.set (t643 : Int).toNat (⟨(rd_T71 l0_7 t643).f0, (⟨t653, t654⟩ : S23)⟩ : S71)) t656).bind fun bt661 => (remontoirlaw04_ScaleWider.j2 kj5 bt657.2.2 bt661.2.2 (bt657.2.2 != 0) bt657.1 bt657.2.1 bt661.1 bt661.2.1)))) else (none)) = some r := H
                have A97 := Aside0.mk A970
                clear A970
                by_cases c98 : t643 < (y647.length : Int)
                · rw [if_pos c98] at H
                  have c98b0 : decide (t643 < (y647.length : Int)) = true := decide_eq_true c98
                  clear c98
                  obtain ⟨y655, hy655⟩ : ∃ y_ : List (S71), y_ = (y647.set (t643 : Int).toNat (⟨(rd_T71 l0_7 t643).f0, (⟨t653, t654⟩ : S23)⟩ : S71)) := ⟨_, rfl⟩
                  replace H : ((remontoirref00_Rest.f a1_3 (wrap64 (a0_5 + 1))).bind fun t656 => ((scale_Error.f a0_0 a0_1 a0_2 a0_3 a0_4 a0_5 l0_6 l0_7 t656).bind fun bt657 => ((scale_Error.f a0_0 a0_1 a0_2 a0_3 a0_4 a0_5 l0_6 y655 t656).bind fun bt661 => (remontoirlaw04_ScaleWider.j2 kj5 bt657.2.2 bt661.2.2 (bt657.2.2 != 0) bt657.1 bt657.2.1 bt661.1 bt661.2.1)))) = some r := by first | (rw [hy655]; with_reducible exact H) | (have H2_ := (Option.bind_some _ _).symm.trans H; rw [hy655]; with_reducible exact H2_) | (have H2_ := (Option.bind_some _ _).symm.trans H; with_reducible exact H2_) | with_reducible exact H | (rw [hy655]; exact H) | exact H
                  have Ny655 := Aside0.mk hy655
                  clear hy655
                  replace H := Option.bind_eq_some_iff.mp H
                  obtain ⟨t656, A1000, H⟩ := H
                  replace H : ((scale_Error.f a0_0 a0_1 a0_2 a0_3 a0_4 a0_5 l0_6 l0_7 t656).bind fun bt657 => ((scale_Error.f a0_0 a0_1 a0_2 a0_3 a0_4 a0_5 l0_6 y655 t656).bind fun bt661 => (remontoirlaw04_ScaleWider.j2 kj5 bt657.2.2 bt661.2.2 (bt657.2.2 != 0) bt657.1 bt657.2.1 bt661.1 bt661.2.1))) = some r := H
                  have A100 := Aside0.mk A1000
                  clear A1000
                  replace H := Option.bind_eq_some_iff.mp H
                  obtain ⟨⟨t657, t658, t659⟩, A1010, H⟩ := H
                  replace H : ((scale_Error.f a0_0 a0_1 a0_2 a0_3 a0_4 a0_5 l0_6 y655 t656).bind fun bt661 => (remontoirlaw04_ScaleWider.j2 kj5 t659 bt661.2.2 (t659 != 0) t657 t658 bt661.1 bt661.2.1)) = some r := H
                  have A101 := Aside0.mk A1010
                  clear A1010
                  replace H := Option.bind_eq_some_iff.mp H
                  obtain ⟨⟨t661, t662, t663⟩, A1020, H⟩ := H
                  replace H : (remontoirlaw04_ScaleWider.j2 kj5 t659 t663 (t659 != 0) t657 t658 t661 t662) = some r := H
                  have A102 := Aside0.mk A1020
                  clear A1020
                  have HC103 := Aside0.mk H
                  clear H
                  have hnb104 := NB622_621.out
                  have hnc104 := NB621_622.out
                  have hnb105 := NB622_625.out
                  have hnc105 := NB625_622.out
                  have hcz106_0 : wc.cell? ⟨gb622, 0, none⟩ = some (.int .i64 a1_0) := (blk_cell BK622.out 0).trans rfl
                  have hcz106_1 : wc.cell? ⟨gb622, 1, none⟩ = some (.int .i64 a1_1) := (blk_cell BK622.out 1).trans rfl
                  have hcz106_2 : wc.cell? ⟨gb622, 2, none⟩ = some (.int .i64 a1_2) := (blk_cell BK622.out 2).trans rfl
                  have hcz106_3 : wc.cell? ⟨gb622, 3, none⟩ = some (.int .i64 a1_3) := (blk_cell BK622.out 3).trans rfl
                  have hfz106_0 := blk_frozen BK622.out 0
                  have hfz106_1 := blk_frozen BK622.out 1
                  have hfz106_2 := blk_frozen BK622.out 2
                  have hfz106_3 := blk_frozen BK622.out 3
                  have hnb107 := NB621_625.out
                  have hnc107 := NB625_621.out
                  have hcz108_0 : wc.cell? ⟨gb621, 0, none⟩ = some (.int .i64 a0_0) := (blk_cell BK621.out 0).trans rfl
                  have hcz108_1 : wc.cell? ⟨gb621, 1, none⟩ = some (.int .i64 a0_1) := (blk_cell BK621.out 1).trans rfl
                  have hcz108_2 : wc.cell? ⟨gb621, 2, none⟩ = some (.int .i64 a0_2) := (blk_cell BK621.out 2).trans rfl
                  have hcz108_3 : wc.cell? ⟨gb621, 3, none⟩ = some (.int .i64 a0_3) := (blk_cell BK621.out 3).trans rfl
                  have hcz108_4 : wc.cell? ⟨gb621, 4, none⟩ = some (.int .i64 a0_4) := (blk_cell BK621.out 4).trans rfl
                  have hcz108_5 : wc.cell? ⟨gb621, 5, none⟩ = some (.int .i64 a0_5) := (blk_cell BK621.out 5).trans rfl
                  have hcz108_6 : wc.cell? ⟨gb621, 6, none⟩ = some (.slice A0_6 l0_6.length c0_6) := (blk_cell BK621.out 6).trans rfl
                  have hcz108_7 : wc.cell? ⟨gb621, 7, none⟩ = some (.slice A0_7 l0_7.length c0_7) := (blk_cell BK621.out 7).trans rfl
                  have hfz108_0 := blk_frozen BK621.out 0
                  have hfz108_1 := blk_frozen BK621.out 1
                  have hfz108_2 := blk_frozen BK621.out 2
                  have hfz108_3 := blk_frozen BK621.out 3
                  have hfz108_4 := blk_frozen BK621.out 4
                  have hfz108_5 := blk_frozen BK621.out 5
                  have hfz108_6 := blk_frozen BK621.out 6
                  have hfz108_7 := blk_frozen BK621.out 7
                  try go_wp2_with (first | ((with_reducible refine gate_callee (f := 38) rfl ?_); refine goesL_ (some 53) rfl rfl Tryd.func38 (by kernel_rfl) rfl #[.int .i64 a1_2, .int .i64 (l0_7.length : Int)] rfl (by (try simp only [List.map_toArray, List.map_cons, List.map_nil]); first | done | rfl | (simp only [List.length_drop, List.length_take]; rfl)) ?_; (with_reducible refine (remontoirref00_Rest.calls a1_2 (l0_7.length : Int) t643 _ A91.out).mono ?_); rintro e w' ⟨rfl, ⟨nd, rfl⟩⟩; refine ⟨_, rfl, ?_⟩) | ((with_reducible refine gate_dst (N := 54) rfl ?_); (try (refine gate_guard (by rfl) ?_; dsimp only)); refine Kd.R_lit k71 _ 71 ?hg (N := 54) ?hd (xs := ([] : List (S71))) (inner := []) (ok := fun _ => True) (okp := fun _ => True) ?hr ?hp (fun _ hk => hk) trivial (Below.refl _ _) (Nat.le_refl _) (by simp) ?_; (case hd => rfl); (case hg => rfl); (case hr => first | (go_simp; done) | (go_simp; rfl)); (case hp => exact (Reps.none _ _)); intro v645 w109 ho110 hb hg_ hnew_; clear hg_ hnew_; (first | rw [← Ny644.out] at ho110 | (simp only [Int.reduceToNat] at ho110; rw [← Ny644.out] at ho110)); have n0_ := Aside0.mk (Kd.R_lower ho110 (below_size (by repeat (first | (with_reducible first | exact HB.out | apply below_alloc | apply pw_below_drewN | apply below_drew1 | refine below_set ?_ GE621.out | refine below_set ?_ GE622.out | refine below_set ?_ GE625.out) | exact HB.out)))); have n1_ := Aside0.mk (blk_below (g := gb621) (o := .cells #[.int .i64 a0_0, .int .i64 a0_1, .int .i64 a0_2, .int .i64 a0_3, .int .i64 a0_4, .int .i64 a0_5, .slice A0_6 l0_6.length c0_6, .slice A0_7 l0_7.length c0_7] 44 (0, 0)) (by (with_reducible repeat (first | refine blk_drewN ?_ _ | refine blk_drew ?_ | refine blk_alloc ?_ _)); exact BK621.out) hb); have n2_ := Aside0.mk (blk_below (g := gb622) (o := .cells #[.int .i64 a1_0, .int .i64 a1_1, .int .i64 a1_2, .int .i64 a1_3] 65 (0, 0)) (by (with_reducible repeat (first | refine blk_drewN ?_ _ | refine blk_drew ?_ | refine blk_alloc ?_ _)); exact BK622.out) hb); have n3_ := Aside0.mk (blk_below (g := gb625) (o := .cells #[.int .i64 a0_0, .int .i64 a0_1, .int .i64 a0_2, .int .i64 a0_3, .int .i64 a0_4, .int .i64 a0_5, .slice A0_6 l0_6.length c0_6, .slice A0_7 l0_7.length c0_7] 44 (0, 0)) (by (with_reducible repeat (first | refine blk_drewN ?_ _ | refine blk_drew ?_ | refine blk_alloc ?_ _)); exact BK625.out) hb); have n4_ := Aside0.mk (below_step (by repeat (first | (with_reducible first | exact HB.out | apply below_alloc | apply pw_below_drewN | apply below_drew1 | refine below_set ?_ GE621.out | refine below_set ?_ GE622.out | refine below_set ?_ GE625.out) | exact HB.out)) hb); clear BK621; clear BK622; clear BK625; clear HB; have HO646 := n0_; have BK621 := n1_; have BK622 := n2_; have BK625 := n3_; have HB := n4_; clear n0_ n1_ n2_ n3_ n4_; clear hb ho110; have hcz111_0 : w109.cell? ⟨gb621, 0, none⟩ = some (.int .i64 a0_0) := (blk_cell BK621.out 0).trans rfl; have hcz111_1 : w109.cell? ⟨gb621, 1, none⟩ = some (.int .i64 a0_1) := (blk_cell BK621.out 1).trans rfl; have hcz111_2 : w109.cell? ⟨gb621, 2, none⟩ = some (.int .i64 a0_2) := (blk_cell BK621.out 2).trans rfl; have hcz111_3 : w109.cell? ⟨gb621, 3, none⟩ = some (.int .i64 a0_3) := (blk_cell BK621.out 3).trans rfl; have hcz111_4 : w109.cell? ⟨gb621, 4, none⟩ = some (.int .i64 a0_4) := (blk_cell BK621.out 4).trans rfl; have hcz111_5 : w109.cell? ⟨gb621, 5, none⟩ = some (.int .i64 a0_5) := (blk_cell BK621.out 5).trans rfl; have hcz111_6 : w109.cell? ⟨gb621, 6, none⟩ = some (.slice A0_6 l0_6.length c0_6) := (blk_cell BK621.out 6).trans rfl; have hcz111_7 : w109.cell? ⟨gb621, 7, none⟩ = some (.slice A0_7 l0_7.length c0_7) := (blk_cell BK621.out 7).trans rfl; have hfz111_0 := blk_frozen BK621.out 0; have hfz111_1 := blk_frozen BK621.out 1; have hfz111_2 := blk_frozen BK621.out 2; have hfz111_3 := blk_frozen BK621.out 3; have hfz111_4 := blk_frozen BK621.out 4; have hfz111_5 := blk_frozen BK621.out 5; have hfz111_6 := blk_frozen BK621.out 6; have hfz111_7 := blk_frozen BK621.out 7) | ((with_reducible refine gate_builtin (b := .append) (xs := #[.tmp 54, .tmp 56]) rfl ?_); (try (refine gate_guard (by rfl) ?_; dsimp only)); at_builtin; refine Kd.R_append_rows k71 (w0 := w) w.heap.size rfl (.tmp 54) (.tmp 56) 42 71 (.agg #[(.int .i64 0), (.int .i64 0), (.int .i64 0)]) 24 rfl Tryd.underlying42 info71 rfl (by decide) (by omega) v645 y644 l0_7 _ _ _ (fun _ => True) (fun _ => False) rfl rfl ?aO ?aR (fun _ _ h => h) (fun _ h => h.elim) ?aF ?aB ?aS ?aL ?_; (case aR => repeat (first | exact (Kd.C_below HR0_7.out HB.out) | (with_reducible refine Kd.C_alloc ?_ _) | (with_reducible refine Kd.C_drewN ?_ _) | (with_reducible refine Kd.C_drew ?_))); (case aB => exact (by repeat (first | (with_reducible first | exact HB.out | apply below_alloc | apply pw_below_drewN | apply below_drew1 | refine below_set ?_ GE621.out | refine below_set ?_ GE622.out | refine below_set ?_ GE625.out) | exact HB.out))); (case aF => exact (fun _ _ => trivial)); (case aO => exact (by (with_reducible repeat (first | apply Kd.R_alloc | apply Kd.R_drewN | apply Kd.R_drew)); exact HO646.out)); (case aS => exact (below_size (by repeat (first | (with_reducible first | exact HB.out | apply below_alloc | apply pw_below_drewN | apply below_drew1 | refine below_set ?_ GE621.out | refine below_set ?_ GE622.out | refine below_set ?_ GE625.out) | exact HB.out)))); (case aL => have := LMc92.out; omega); intro v648 w112 ho hb hg hat; rw [← Ny647.out] at ho; have n0_ := Aside0.mk (blk_grown (g := gb621) (o := .cells #[.int .i64 a0_0, .int .i64 a0_1, .int .i64 a0_2, .int .i64 a0_3, .int .i64 a0_4, .int .i64 a0_5, .slice A0_6 l0_6.length c0_6, .slice A0_7 l0_7.length c0_7] 44 (0, 0)) (by (with_reducible repeat (first | refine blk_drewN ?_ _ | refine blk_drew ?_ | refine blk_alloc ?_ _)); exact BK621.out) hg (Kd.R_ne HO646.out BK621.out (by decide))); have n1_ := Aside0.mk (blk_grown (g := gb622) (o := .cells #[.int .i64 a1_0, .int .i64 a1_1, .int .i64 a1_2, .int .i64 a1_3] 65 (0, 0)) (by (with_reducible repeat (first | refine blk_drewN ?_ _ | refine blk_drew ?_ | refine blk_alloc ?_ _)); exact BK622.out) hg (Kd.R_ne HO646.out BK622.out (by decide))); have n2_ := Aside0.mk (blk_grown (g := gb625) (o := .cells #[.int .i64 a0_0, .int .i64 a0_1, .int .i64 a0_2, .int .i64 a0_3, .int .i64 a0_4, .int .i64 a0_5, .slice A0_6 l0_6.length c0_6, .slice A0_7 l0_7.length c0_7] 44 (0, 0)) (by (with_reducible repeat (first | refine blk_drewN ?_ _ | refine blk_drew ?_ | refine blk_alloc ?_ _)); exact BK625.out) hg (Kd.R_ne HO646.out BK625.out (by decide))); have n3_ := Aside0.mk (hb); have n4_ := Aside0.mk (ho); clear BK621; clear BK622; clear BK625; clear HB; clear HO646; have BK621 := n0_; have BK622 := n1_; have BK625 := n2_; have HB := n3_; have HO649 := n4_; clear n0_ n1_ n2_ n3_ n4_; clear ho hb hg hat; obtain ⟨Ao113, co113, eo113⟩ := Kd.R_slice HO649.out; subst eo113; have hcz114_0 : w112.cell? ⟨gb625, 0, none⟩ = some (.int .i64 a0_0) := (blk_cell BK625.out 0).trans rfl; have hcz114_1 : w112.cell? ⟨gb625, 1, none⟩ = some (.int .i64 a0_1) := (blk_cell BK625.out 1).trans rfl; have hcz114_2 : w112.cell? ⟨gb625, 2, none⟩ = some (.int .i64 a0_2) := (blk_cell BK625.out 2).trans rfl; have hcz114_3 : w112.cell? ⟨gb625, 3, none⟩ = some (.int .i64 a0_3) := (blk_cell BK625.out 3).trans rfl; have hcz114_4 : w112.cell? ⟨gb625, 4, none⟩ = some (.int .i64 a0_4) := (blk_cell BK625.out 4).trans rfl; have hcz114_5 : w112.cell? ⟨gb625, 5, none⟩ = some (.int .i64 a0_5) := (blk_cell BK625.out 5).trans rfl; have hcz114_6 : w112.cell? ⟨gb625, 6, none⟩ = some (.slice A0_6 l0_6.length c0_6) := (blk_cell BK625.out 6).trans rfl; have hcz114_7 : w112.cell? ⟨gb625, 7, none⟩ = some (.slice A0_7 l0_7.length c0_7) := (blk_cell BK625.out 7).trans rfl; have hfz114_0 := blk_frozen BK625.out 0; have hfz114_1 := blk_frozen BK625.out 1; have hfz114_2 := blk_frozen BK625.out 2; have hfz114_3 := blk_frozen BK625.out 3; have hfz114_4 := blk_frozen BK625.out 4; have hfz114_5 := blk_frozen BK625.out 5; have hfz114_6 := blk_frozen BK625.out 6; have hfz114_7 := blk_frozen BK625.out 7))
                  have n0_ : Aside0 (Kd.R k71 71 (w112.setCell ⟨gb625, 7, none⟩ (.slice Ao113 y647.length co113)) w.heap.size (fun _ => True) (.slice Ao113 y647.length co113) y647) := ⟨by (with_reducible repeat (first | apply Kd.R_alloc | apply Kd.R_drewN | apply Kd.R_drew)); exact Kd.R_mono (Kd.R_far (p := ⟨gb625, 7, none⟩) (Kd.R_types HO649.out BK625.out (by decide)) (fun _ hk => hk.2) (.slice Ao113 y647.length co113)) (fun _ hk => trivial)⟩
                  have n1_ : Aside0 ((w112.setCell ⟨gb625, 7, none⟩ (.slice Ao113 y647.length co113)).heap[gb621]? = some (.cells #[.int .i64 a0_0, .int .i64 a0_1, .int .i64 a0_2, .int .i64 a0_3, .int .i64 a0_4, .int .i64 a0_5, .slice A0_6 l0_6.length c0_6, .slice A0_7 l0_7.length c0_7] 44 (0, 0))) := ⟨by (with_reducible repeat (first | refine blk_drewN ?_ _ | refine blk_drew ?_ | refine blk_alloc ?_ _)); refine blk_far ?_ NB621_625.out _; (with_reducible repeat (first | refine blk_drewN ?_ _ | refine blk_drew ?_ | refine blk_alloc ?_ _)); exact BK621.out⟩
                  have n2_ : Aside0 ((w112.setCell ⟨gb625, 7, none⟩ (.slice Ao113 y647.length co113)).heap[gb622]? = some (.cells #[.int .i64 a1_0, .int .i64 a1_1, .int .i64 a1_2, .int .i64 a1_3] 65 (0, 0))) := ⟨by (with_reducible repeat (first | refine blk_drewN ?_ _ | refine blk_drew ?_ | refine blk_alloc ?_ _)); refine blk_far ?_ NB622_625.out _; (with_reducible repeat (first | refine blk_drewN ?_ _ | refine blk_drew ?_ | refine blk_alloc ?_ _)); exact BK622.out⟩
                  have n3_ : Aside0 ((w112.setCell ⟨gb625, 7, none⟩ (.slice Ao113 y647.length co113)).heap[gb625]? = some (.cells #[.int .i64 a0_0, .int .i64 a0_1, .int .i64 a0_2, .int .i64 a0_3, .int .i64 a0_4, .int .i64 a0_5, .slice A0_6 l0_6.length c0_6, .slice Ao113 y647.length co113] 44 (0, 0))) := ⟨by (with_reducible repeat (first | refine blk_drewN ?_ _ | refine blk_drew ?_ | refine blk_alloc ?_ _)); refine blk_put (cs := #[.int .i64 a0_0, .int .i64 a0_1, .int .i64 a0_2, .int .i64 a0_3, .int .i64 a0_4, .int .i64 a0_5, .slice A0_6 l0_6.length c0_6, .slice A0_7 l0_7.length c0_7]) ?_ 7 _ rfl; (with_reducible repeat (first | refine blk_drewN ?_ _ | refine blk_drew ?_ | refine blk_alloc ?_ _)); exact BK625.out⟩
                  have n4_ : Aside0 (Below w.heap.size w (w112.setCell ⟨gb625, 7, none⟩ (.slice Ao113 y647.length co113))) := ⟨by repeat (first | (with_reducible first | exact HB.out | apply below_alloc | apply pw_below_drewN | apply below_drew1 | refine below_set ?_ GE621.out | refine below_set ?_ GE622.out | refine below_set ?_ GE625.out) | exact HB.out)⟩
                  (try clear HO649)
                  (try clear BK621)
                  (try clear BK622)
                  (try clear BK625)
                  (try clear HB)
                  generalize (w112.setCell ⟨gb625, 7, none⟩ (.slice Ao113 y647.length co113)) = w115 at n0_ n1_ n2_ n3_ n4_ ⊢
                  have HO649 := n0_
                  have BK621 := n1_
                  have BK622 := n2_
                  have BK625 := n3_
                  have HB := n4_
                  clear n0_ n1_ n2_ n3_ n4_
                  have n0_ := Aside0.mk (Kd.R_drew HO649.out)
                  have n1_ := Aside0.mk (blk_drew BK621.out)
                  have n2_ := Aside0.mk (blk_drew BK622.out)
                  have n3_ := Aside0.mk (blk_drew BK625.out)
                  have n4_ := Aside0.mk (below_drew1 HB.out)
                  clear HO649
                  clear BK621
                  clear BK622
                  clear BK625
                  clear HB
                  have HO649 := n0_
                  have BK621 := n1_
                  have BK622 := n2_
                  have BK625 := n3_
                  have HB := n4_
                  clear n0_ n1_ n2_ n3_ n4_
                  have p650 : 0 ≤ (t643 : Int) := of_decide_eq_true (by first | (with_reducible assumption) | assumption)
                  have q650 : t643 < (l0_7.length : Int) := of_decide_eq_true (by first | (with_reducible assumption) | assumption)
                  obtain ⟨ad650, e650, hx650_0, hx650_1, hx650_2⟩ := at_T71 HR0_7.out t643 p650 q650
                  have hw650_2 := hx650_2
                  have hw650_1 := hx650_1
                  have hw650_0 := hx650_0
                  cases e650
                  replace hx650_0 := (HB.out.cell (World.block_lt_of_cell? w _ hx650_0)).trans hx650_0
                  replace hx650_1 := (HB.out.cell (World.block_lt_of_cell? w _ hx650_1)).trans hx650_1
                  replace hx650_2 := (HB.out.cell (World.block_lt_of_cell? w _ hx650_2)).trans hx650_2
                  replace p650 := eq_true p650
                  replace q650 := eq_true q650
                  have p651 : 0 ≤ (t643 : Int) := of_decide_eq_true (by first | (with_reducible assumption) | assumption)
                  have q651 : t643 < (l0_7.length : Int) := of_decide_eq_true (by first | (with_reducible assumption) | assumption)
                  obtain ⟨ad651, e651, hx651_0, hx651_1, hx651_2⟩ := at_T71 HR0_7.out t643 p651 q651
                  have hw651_2 := hx651_2
                  have hw651_1 := hx651_1
                  have hw651_0 := hx651_0
                  obtain rfl : ad650 = ad651 := (by injection e651)
                  replace hx651_0 := (HB.out.cell (World.block_lt_of_cell? w _ hx651_0)).trans hx651_0
                  replace hx651_1 := (HB.out.cell (World.block_lt_of_cell? w _ hx651_1)).trans hx651_1
                  replace hx651_2 := (HB.out.cell (World.block_lt_of_cell? w _ hx651_2)).trans hx651_2
                  replace p651 := eq_true p651
                  replace q651 := eq_true q651
                  have p652 : 0 ≤ (t643 : Int) := of_decide_eq_true (by first | (with_reducible assumption) | assumption)
                  have q652 : t643 < (l0_7.length : Int) := of_decide_eq_true (by first | (with_reducible assumption) | assumption)
                  obtain ⟨ad652, e652, hx652_0, hx652_1, hx652_2⟩ := at_T71 HR0_7.out t643 p652 q652
                  have hw652_2 := hx652_2
                  have hw652_1 := hx652_1
                  have hw652_0 := hx652_0
                  obtain rfl : ad650 = ad652 := (by injection e652)
                  replace hx652_0 := (HB.out.cell (World.block_lt_of_cell? w _ hx652_0)).trans hx652_0
                  replace hx652_1 := (HB.out.cell (World.block_lt_of_cell? w _ hx652_1)).trans hx652_1
                  replace hx652_2 := (HB.out.cell (World.block_lt_of_cell? w _ hx652_2)).trans hx652_2
                  replace p652 := eq_true p652
                  replace q652 := eq_true q652
                  refine start_ (n := 33) (S := fun w' => w'.cell? ⟨gb625, 0, none⟩ = some (.int .i64 a0_0) ∧ w'.cell? ⟨gb625, 1, none⟩ = some (.int .i64 a0_1) ∧ w'.cell? ⟨gb625, 2, none⟩ = some (.int .i64 a0_2) ∧ w'.cell? ⟨gb625, 3, none⟩ = some (.int .i64 a0_3) ∧ w'.cell? ⟨gb625, 4, none⟩ = some (.int .i64 a0_4) ∧ w'.cell? ⟨gb625, 5, none⟩ = some (.int .i64 a0_5) ∧ w'.cell? ⟨gb625, 6, none⟩ = some (.slice A0_6 l0_6.length c0_6) ∧ w'.cell? ⟨gb625, 7, none⟩ = some (.slice Ao113 y647.length co113) ∧ w'.cell? ⟨gb621, 0, none⟩ = some (.int .i64 a0_0) ∧ w'.cell? ⟨gb621, 1, none⟩ = some (.int .i64 a0_1) ∧ w'.cell? ⟨gb621, 2, none⟩ = some (.int .i64 a0_2) ∧ w'.cell? ⟨gb621, 3, none⟩ = some (.int .i64 a0_3) ∧ w'.cell? ⟨gb621, 4, none⟩ = some (.int .i64 a0_4) ∧ w'.cell? ⟨gb621, 5, none⟩ = some (.int .i64 a0_5) ∧ w'.cell? ⟨gb621, 6, none⟩ = some (.slice A0_6 l0_6.length c0_6) ∧ w'.cell? ⟨gb621, 7, none⟩ = some (.slice (some ad650) l0_7.length c0_7) ∧ w'.cell? (ad650.add ((t643).toNat * 3)) = some (.int .i64 ((rd_T71 l0_7 t643).f0)) ∧ w'.cell? ⟨(ad650.add ((t643).toNat * 3)).block, (ad650.add ((t643).toNat * 3)).off + 1, none⟩ = some (.int .i64 ((rd_T71 l0_7 t643).f1.f0)) ∧ w'.cell? ⟨(ad650.add ((t643).toNat * 3)).block, (ad650.add ((t643).toNat * 3)).off + 2, none⟩ = some (.int .i64 ((rd_T71 l0_7 t643).f1.f1)) ∧ w'.cell? (ad650.add ((t643).toNat * 3)) = some (.int .i64 ((rd_T71 l0_7 t643).f0)) ∧ w'.cell? ⟨(ad650.add ((t643).toNat * 3)).block, (ad650.add ((t643).toNat * 3)).off + 1, none⟩ = some (.int .i64 ((rd_T71 l0_7 t643).f1.f0)) ∧ w'.cell? ⟨(ad650.add ((t643).toNat * 3)).block, (ad650.add ((t643).toNat * 3)).off + 2, none⟩ = some (.int .i64 ((rd_T71 l0_7 t643).f1.f1)) ∧ w'.cell? (ad650.add ((t643).toNat * 3)) = some (.int .i64 ((rd_T71 l0_7 t643).f0)) ∧ w'.cell? ⟨(ad650.add ((t643).toNat * 3)).block, (ad650.add ((t643).toNat * 3)).off + 1, none⟩ = some (.int .i64 ((rd_T71 l0_7 t643).f1.f0)) ∧ w'.cell? ⟨(ad650.add ((t643).toNat * 3)).block, (ad650.add ((t643).toNat * 3)).off + 2, none⟩ = some (.int .i64 ((rd_T71 l0_7 t643).f1.f1))) (ds := [32]) #[false, false, false, false, false, false, false, false, false, false, false, false, false, false, false, false, false, false, false, false, false, false, false, false, false, false, false, false, false, false, false, false, false] (by kernel_rfl) rfl rfl ⟨(blk_cell BK625.out 0).trans rfl, (blk_cell BK625.out 1).trans rfl, (blk_cell BK625.out 2).trans rfl, (blk_cell BK625.out 3).trans rfl, (blk_cell BK625.out 4).trans rfl, (blk_cell BK625.out 5).trans rfl, (blk_cell BK625.out 6).trans rfl, (blk_cell BK625.out 7).trans rfl, (blk_cell BK621.out 0).trans rfl, (blk_cell BK621.out 1).trans rfl, (blk_cell BK621.out 2).trans rfl, (blk_cell BK621.out 3).trans rfl, (blk_cell BK621.out 4).trans rfl, (blk_cell BK621.out 5).trans rfl, (blk_cell BK621.out 6).trans rfl, (blk_cell BK621.out 7).trans rfl, ((HB.out.cell (World.block_lt_of_cell? w _ hw650_0)).trans hw650_0), ((HB.out.cell (World.block_lt_of_cell? w _ hw650_1)).trans hw650_1), ((HB.out.cell (World.block_lt_of_cell? w _ hw650_2)).trans hw650_2), ((HB.out.cell (World.block_lt_of_cell? w _ hw651_0)).trans hw651_0), ((HB.out.cell (World.block_lt_of_cell? w _ hw651_1)).trans hw651_1), ((HB.out.cell (World.block_lt_of_cell? w _ hw651_2)).trans hw651_2), ((HB.out.cell (World.block_lt_of_cell? w _ hw652_0)).trans hw652_0), ((HB.out.cell (World.block_lt_of_cell? w _ hw652_1)).trans hw652_1), ((HB.out.cell (World.block_lt_of_cell? w _ hw652_2)).trans hw652_2)⟩ (fun hHeld => ?_); refine with_tabW remontoirlaw04_ScaleWider.tab9 remontoirlaw04_ScaleWider.bits9 (fun HT_ HW_ => ?_)
                  generalize w115.drew = w116 at HO649 BK621 BK622 BK625 HB hx650_0 hx650_1 hx650_2 hx651_0 hx651_1 hx651_2 hx652_0 hx652_1 hx652_2 hHeld ⊢
                  refine pure_ (i := 0) (N := some 59) (v := ?_) (a' := ?_) #[true, false, false, false, false, false, false, false, false, false, false, false, false, false, false, false, false, false, false, false, false, false, false, false, false, false, false, false, false, false, false, false, false] rfl rfl (any_of HT_.out (by kernel_rfl)) (fun _ _ _ h => h) (Or.inl ⟨by rfl, ?_⟩) ?_ ?_
                  rotate_left
                  · intro w'
                    go_simp
                    with_reducible rfl
                  rotate_left
                  · simp only [Act.put, List.setIfInBounds_toArray, List.set_cons_zero, List.set_cons_succ, i64_w, i32_w]
                    rfl
                  refine pure_ (i := 2) (N := some 61) (v := ?_) (a' := ?_) #[true, false, true, false, false, false, false, false, false, false, false, false, false, false, false, false, false, false, false, false, false, false, false, false, false, false, false, false, false, false, false, false, false] rfl rfl (any_of HT_.out (by kernel_rfl)) (fun _ _ _ h => h) (Or.inl ⟨by rfl, ?_⟩) ?_ ?_
                  rotate_left
                  · intro w'
                    go_simp
                    with_reducible rfl
                  rotate_left
                  · simp only [Act.put, List.setIfInBounds_toArray, List.set_cons_zero, List.set_cons_succ, i64_w, i32_w]
                    rfl
                  refine pure_ (i := 3) (N := some 62) (v := ?_) (a' := ?_) #[true, false, true, true, false, false, false, false, false, false, false, false, false, false, false, false, false, false, false, false, false, false, false, false, false, false, false, false, false, false, false, false, false] rfl rfl (any_of HT_.out (by kernel_rfl)) (fun _ _ _ h => h) (Or.inl ⟨by rfl, ?_⟩) ?_ ?_
                  rotate_left
                  · intro w'
                    go_simp
                    with_reducible rfl
                  rotate_left
                  · simp only [Act.put, List.setIfInBounds_toArray, List.set_cons_zero, List.set_cons_succ, i64_w, i32_w]
                    rfl
                  refine pure_ (i := 5) (N := some 64) (v := ?_) (a' := ?_) #[true, false, true, true, false, true, false, false, false, false, false, false, false, false, false, false, false, false, false, false, false, false, false, false, false, false, false, false, false, false, false, false, false] rfl rfl (any_of HT_.out (by kernel_rfl)) (fun _ _ _ h => h) (Or.inl ⟨by rfl, ?_⟩) ?_ ?_
                  rotate_left
                  · intro w'
                    go_simp
                    with_reducible rfl
                  rotate_left
                  · simp only [Act.put, List.setIfInBounds_toArray, List.set_cons_zero, List.set_cons_succ, i64_w, i32_w]
                    rfl
                  refine pure_ (i := 9) (N := some 68) (v := ?_) (a' := ?_) #[true, false, true, true, false, true, false, false, false, true, false, false, false, false, false, false, false, false, false, false, false, false, false, false, false, false, false, false, false, false, false, false, false] rfl rfl (any_of HT_.out (by kernel_rfl)) (fun _ _ _ h => h) (Or.inl ⟨by rfl, ?_⟩) ?_ ?_
                  rotate_left
                  · intro w'
                    go_simp
                    with_reducible rfl
                  rotate_left
                  · simp only [Act.put, List.setIfInBounds_toArray, List.set_cons_zero, List.set_cons_succ, i64_w, i32_w]
                    rfl
                  refine pure_ (i := 11) (N := some 70) (v := ?_) (a' := ?_) #[true, false, true, true, false, true, false, false, false, true, false, true, false, false, false, false, false, false, false, false, false, false, false, false, false, false, false, false, false, false, false, false, false] rfl rfl (any_of HT_.out (by kernel_rfl)) (fun _ _ _ h => h) (Or.inl ⟨by rfl, ?_⟩) ?_ ?_
                  rotate_left
                  · intro w'
                    go_simp
                    with_reducible rfl
                  rotate_left
                  · simp only [Act.put, List.setIfInBounds_toArray, List.set_cons_zero, List.set_cons_succ, i64_w, i32_w]
                    rfl
                  refine pure_ (i := 16) (N := some 75) (v := ?_) (a' := ?_) #[true, false, true, true, false, true, false, false, false, true, false, true, false, false, false, false, true, false, false, false, false, false, false, false, false, false, false, false, false, false, false, false, false] rfl rfl (any_of HT_.out (by kernel_rfl)) (fun _ _ _ h => h) (Or.inl ⟨by rfl, ?_⟩) ?_ ?_
                  rotate_left
                  · intro w'
                    go_simp
                    with_reducible rfl
                  rotate_left
                  · simp only [Act.put, List.setIfInBounds_toArray, List.set_cons_zero, List.set_cons_succ, i64_w, i32_w]
                    rfl
                  refine pure_ (i := 19) (N := some 78) (v := ?_) (a' := ?_) #[true, false, true, true, false, true, false, false, false, true, false, true, false, false, false, false, true, false, false, true, false, false, false, false, false, false, false, false, false, false, false, false, false] rfl rfl (any_of HT_.out (by kernel_rfl)) (fun _ _ _ h => h) (Or.inl ⟨by rfl, ?_⟩) ?_ ?_
                  rotate_left
                  · intro w'
                    go_simp
                    with_reducible rfl
                  rotate_left
                  · simp only [Act.put, List.setIfInBounds_toArray, List.set_cons_zero, List.set_cons_succ, i64_w, i32_w]
                    rfl
                  refine pure_ (i := 21) (N := some 80) (v := ?_) (a' := ?_) #[true, false, true, true, false, true, false, false, false, true, false, true, false, false, false, false, true, false, false, true, false, true, false, false, false, false, false, false, false, false, false, false, false] rfl rfl (any_of HT_.out (by kernel_rfl)) (fun _ _ _ h => h) (Or.inl ⟨by rfl, ?_⟩) ?_ ?_
                  rotate_left
                  · intro w'
                    go_simp
                    with_reducible rfl
                  rotate_left
                  · simp only [Act.put, List.setIfInBounds_toArray, List.set_cons_zero, List.set_cons_succ, i64_w, i32_w]
                    rfl
                  refine pure_ (i := 26) (N := some 85) (v := ?_) (a' := ?_) #[true, false, true, true, false, true, false, false, false, true, false, true, false, false, false, false, true, false, false, true, false, true, false, false, false, false, true, false, false, false, false, false, false] rfl rfl (any_of HT_.out (by kernel_rfl)) (fun _ _ _ h => h) (Or.inl ⟨by rfl, ?_⟩) ?_ ?_
                  rotate_left
                  · intro w'
                    go_simp
                    with_reducible rfl
                  rotate_left
                  · simp only [Act.put, List.setIfInBounds_toArray, List.set_cons_zero, List.set_cons_succ, i64_w, i32_w]
                    rfl
                  refine take_ (i := 1) (N := some 60) (v := ?_) (a' := ?_) #[true, true, true, true, false, true, false, false, false, true, false, true, false, false, false, false, true, false, false, true, false, true, false, false, false, false, true, false, false, false, false, false, false] rfl rfl (take_ofW HT_.out HW_.out (by kernel_rfl)) (fun _ _ _ h => h) (Or.inl ⟨by rfl, ?_⟩) hHeld ?_ ?_
                  rotate_left
                  · rintro w' ⟨s0, s1, s2, s3, s4, s5, s6, s7, s8, s9, s10, s11, s12, s13, s14, s15, s16, s17, s18, s19, s20, s21, s22, s23, s24⟩
                    go_simp
                    with_reducible rfl
                  rotate_left
                  · simp only [Act.put, List.setIfInBounds_toArray, List.set_cons_zero, List.set_cons_succ, i64_w, i32_w]
                    rfl
                  refine take_ (i := 4) (N := some 63) (v := ?_) (a' := ?_) #[true, true, true, true, true, true, false, false, false, true, false, true, false, false, false, false, true, false, false, true, false, true, false, false, false, false, true, false, false, false, false, false, false] rfl rfl (take_ofW HT_.out HW_.out (by kernel_rfl)) (fun _ _ _ h => h) (Or.inl ⟨by rfl, ?_⟩) hHeld ?_ ?_
                  rotate_left
                  · rintro w' ⟨s0, s1, s2, s3, s4, s5, s6, s7, s8, s9, s10, s11, s12, s13, s14, s15, s16, s17, s18, s19, s20, s21, s22, s23, s24⟩
                    go_simp
                    with_reducible rfl
                  rotate_left
                  · simp only [Act.put, List.setIfInBounds_toArray, List.set_cons_zero, List.set_cons_succ, i64_w, i32_w]
                    rfl
                  refine pure_ (i := 6) (N := some 65) (v := ?_) (a' := ?_) #[true, true, true, true, true, true, true, false, false, true, false, true, false, false, false, false, true, false, false, true, false, true, false, false, false, false, true, false, false, false, false, false, false] rfl rfl (any_of HT_.out (by kernel_rfl)) (fun _ _ _ h => h) (Or.inl ⟨by rfl, ?_⟩) ?_ ?_
                  rotate_left
                  · intro w'
                    go_simp
                    with_reducible rfl
                  rotate_left
                  · simp only [Act.put, List.setIfInBounds_toArray, List.set_cons_zero, List.set_cons_succ, i64_w, i32_w]
                    rfl
                  refine pure_ (i := 7) (N := some 66) (v := ?_) (a' := ?_) #[true, true, true, true, true, true, true, true, false, true, false, true, false, false, false, false, true, false, false, true, false, true, false, false, false, false, true, false, false, false, false, false, false] rfl rfl (any_of HT_.out (by kernel_rfl)) (fun _ _ _ h => h) (Or.inl ⟨by rfl, ?_⟩) ?_ ?_
                  rotate_left
                  · intro w'
                    go_simp
                    with_reducible rfl
                  rotate_left
                  · simp only [Act.put, List.setIfInBounds_toArray, List.set_cons_zero, List.set_cons_succ, i64_w, i32_w]
                    rfl
                  refine take_ (i := 8) (N := some 67) (v := ?_) (a' := ?_) #[true, true, true, true, true, true, true, true, true, true, false, true, false, false, false, false, true, false, false, true, false, true, false, false, false, false, true, false, false, false, false, false, false] rfl rfl (take_ofW HT_.out HW_.out (by kernel_rfl)) (fun _ _ _ h => h) (Or.inl ⟨by rfl, ?_⟩) hHeld ?_ ?_
                  rotate_left
                  · rintro w' ⟨s0, s1, s2, s3, s4, s5, s6, s7, s8, s9, s10, s11, s12, s13, s14, s15, s16, s17, s18, s19, s20, s21, s22, s23, s24⟩
                    go_simp
                    with_reducible rfl
                  rotate_left
                  · simp only [Act.put, List.setIfInBounds_toArray, List.set_cons_zero, List.set_cons_succ, i64_w, i32_w]
                    rfl
                  refine take_ (i := 10) (N := some 69) (v := ?_) (a' := ?_) #[true, true, true, true, true, true, true, true, true, true, true, true, false, false, false, false, true, false, false, true, false, true, false, false, false, false, true, false, false, false, false, false, false] rfl rfl (take_ofW HT_.out HW_.out (by kernel_rfl)) (fun _ _ _ h => h) (Or.inl ⟨by rfl, ?_⟩) hHeld ?_ ?_
                  rotate_left
                  · rintro w' ⟨s0, s1, s2, s3, s4, s5, s6, s7, s8, s9, s10, s11, s12, s13, s14, s15, s16, s17, s18, s19, s20, s21, s22, s23, s24⟩
                    go_simp
                    with_reducible rfl
                  rotate_left
                  · simp only [Act.put, List.setIfInBounds_toArray, List.set_cons_zero, List.set_cons_succ, i64_w, i32_w]
                    rfl
                  refine pure_ (i := 12) (N := some 71) (v := ?_) (a' := ?_) #[true, true, true, true, true, true, true, true, true, true, true, true, true, false, false, false, true, false, false, true, false, true, false, false, false, false, true, false, false, false, false, false, false] rfl rfl (any_of HT_.out (by kernel_rfl)) (fun _ _ _ h => h) (Or.inl ⟨by rfl, ?_⟩) ?_ ?_
                  rotate_left
                  · intro w'
                    go_simp
                    with_reducible rfl
                  rotate_left
                  · simp only [Act.put, List.setIfInBounds_toArray, List.set_cons_zero, List.set_cons_succ, i64_w, i32_w]
                    rfl
                  refine pure_ (i := 13) (N := some 72) (v := ?_) (a' := ?_) #[true, true, true, true, true, true, true, true, true, true, true, true, true, true, false, false, true, false, false, true, false, true, false, false, false, false, true, false, false, false, false, false, false] rfl rfl (any_of HT_.out (by kernel_rfl)) (fun _ _ _ h => h) (Or.inl ⟨by rfl, ?_⟩) ?_ ?_
                  rotate_left
                  · intro w'
                    go_simp
                    with_reducible rfl
                  rotate_left
                  · simp only [Act.put, List.setIfInBounds_toArray, List.set_cons_zero, List.set_cons_succ, i64_w, i32_w]
                    rfl
                  refine pure_ (i := 14) (N := some 73) (v := ?_) (a' := ?_) #[true, true, true, true, true, true, true, true, true, true, true, true, true, true, true, false, true, false, false, true, false, true, false, false, false, false, true, false, false, false, false, false, false] rfl rfl (any_of HT_.out (by kernel_rfl)) (fun _ _ _ h => h) (Or.inl ⟨by rfl, ?_⟩) ?_ ?_
                  rotate_left
                  · intro w'
                    go_simp
                    with_reducible rfl
                  rotate_left
                  · simp only [Act.put, List.setIfInBounds_toArray, List.set_cons_zero, List.set_cons_succ, i64_w, i32_w]
                    rfl
                  refine take_ (i := 15) (N := some 74) (v := ?_) (a' := ?_) #[true, true, true, true, true, true, true, true, true, true, true, true, true, true, true, true, true, false, false, true, false, true, false, false, false, false, true, false, false, false, false, false, false] rfl rfl (take_ofW HT_.out HW_.out (by kernel_rfl)) (fun _ _ _ h => h) (Or.inl ⟨by rfl, ?_⟩) hHeld ?_ ?_
                  rotate_left
                  · rintro w' ⟨s0, s1, s2, s3, s4, s5, s6, s7, s8, s9, s10, s11, s12, s13, s14, s15, s16, s17, s18, s19, s20, s21, s22, s23, s24⟩
                    go_simp
                    with_reducible rfl
                  rotate_left
                  · simp only [Act.put, List.setIfInBounds_toArray, List.set_cons_zero, List.set_cons_succ, i64_w, i32_w]
                    rfl
                  refine pure_ (i := 17) (N := some 76) (v := ?_) (a' := ?_) #[true, true, true, true, true, true, true, true, true, true, true, true, true, true, true, true, true, true, false, true, false, true, false, false, false, false, true, false, false, false, false, false, false] rfl rfl (any_of HT_.out (by kernel_rfl)) (fun _ _ _ h => h) (Or.inl ⟨by rfl, ?_⟩) ?_ ?_
                  rotate_left
                  · intro w'
                    go_simp
                    with_reducible rfl
                  rotate_left
                  · simp only [Act.put, List.setIfInBounds_toArray, List.set_cons_zero, List.set_cons_succ, i64_w, i32_w]
                    rfl
                  refine pure_ (i := 18) (N := some 77) (v := ?_) (a' := ?_) #[true, true, true, true, true, true, true, true, true, true, true, true, true, true, true, true, true, true, true, true, false, true, false, false, false, false, true, false, false, false, false, false, false] rfl rfl (any_of HT_.out (by kernel_rfl)) (fun _ _ _ h => h) (Or.inl ⟨by rfl, ?_⟩) ?_ ?_
                  rotate_left
                  · intro w'
                    go_simp
                    with_reducible rfl
                  rotate_left
                  · simp only [Act.put, List.setIfInBounds_toArray, List.set_cons_zero, List.set_cons_succ, i64_w, i32_w]
                    rfl
                  refine take_ (i := 20) (N := some 79) (v := ?_) (a' := ?_) #[true, true, true, true, true, true, true, true, true, true, true, true, true, true, true, true, true, true, true, true, true, true, false, false, false, false, true, false, false, false, false, false, false] rfl rfl (take_ofW HT_.out HW_.out (by kernel_rfl)) (fun _ _ _ h => h) (Or.inl ⟨by rfl, ?_⟩) hHeld ?_ ?_
                  rotate_left
                  · rintro w' ⟨s0, s1, s2, s3, s4, s5, s6, s7, s8, s9, s10, s11, s12, s13, s14, s15, s16, s17, s18, s19, s20, s21, s22, s23, s24⟩
                    go_simp
                    with_reducible rfl
                  rotate_left
                  · simp only [Act.put, List.setIfInBounds_toArray, List.set_cons_zero, List.set_cons_succ, i64_w, i32_w]
                    rfl
                  refine pure_ (i := 22) (N := some 81) (v := ?_) (a' := ?_) #[true, true, true, true, true, true, true, true, true, true, true, true, true, true, true, true, true, true, true, true, true, true, true, false, false, false, true, false, false, false, false, false, false] rfl rfl (any_of HT_.out (by kernel_rfl)) (fun _ _ _ h => h) (Or.inl ⟨by rfl, ?_⟩) ?_ ?_
                  rotate_left
                  · intro w'
                    go_simp
                    with_reducible rfl
                  rotate_left
                  · simp only [Act.put, List.setIfInBounds_toArray, List.set_cons_zero, List.set_cons_succ, i64_w, i32_w]
                    rfl
                  refine pure_ (i := 23) (N := some 82) (v := ?_) (a' := ?_) #[true, true, true, true, true, true, true, true, true, true, true, true, true, true, true, true, true, true, true, true, true, true, true, true, false, false, true, false, false, false, false, false, false] rfl rfl (any_of HT_.out (by kernel_rfl)) (fun _ _ _ h => h) (Or.inl ⟨by rfl, ?_⟩) ?_ ?_
                  rotate_left
                  · intro w'
                    go_simp
                    with_reducible rfl
                  rotate_left
                  · simp only [Act.put, List.setIfInBounds_toArray, List.set_cons_zero, List.set_cons_succ, i64_w, i32_w]
                    rfl
                  refine pure_ (i := 24) (N := some 83) (v := ?_) (a' := ?_) #[true, true, true, true, true, true, true, true, true, true, true, true, true, true, true, true, true, true, true, true, true, true, true, true, true, false, true, false, false, false, false, false, false] rfl rfl (any_of HT_.out (by kernel_rfl)) (fun _ _ _ h => h) (Or.inl ⟨by rfl, ?_⟩) ?_ ?_
                  rotate_left
                  · intro w'
                    go_simp
                    with_reducible rfl
                  rotate_left
                  · simp only [Act.put, List.setIfInBounds_toArray, List.set_cons_zero, List.set_cons_succ, i64_w, i32_w]
                    rfl
                  refine take_ (i := 25) (N := some 84) (v := ?_) (a' := ?_) #[true, true, true, true, true, true, true, true, true, true, true, true, true, true, true, true, true, true, true, true, true, true, true, true, true, true, true, false, false, false, false, false, false] rfl rfl (take_ofW HT_.out HW_.out (by kernel_rfl)) (fun _ _ _ h => h) (Or.inl ⟨by rfl, ?_⟩) hHeld ?_ ?_
                  rotate_left
                  · rintro w' ⟨s0, s1, s2, s3, s4, s5, s6, s7, s8, s9, s10, s11, s12, s13, s14, s15, s16, s17, s18, s19, s20, s21, s22, s23, s24⟩
                    go_simp
                    with_reducible rfl
                  rotate_left
                  · simp only [Act.put, List.setIfInBounds_toArray, List.set_cons_zero, List.set_cons_succ, i64_w, i32_w]
                    rfl
                  refine pure_ (i := 27) (N := some 86) (v := ?_) (a' := ?_) #[true, true, true, true, true, true, true, true, true, true, true, true, true, true, true, true, true, true, true, true, true, true, true, true, true, true, true, true, false, false, false, false, false] rfl rfl (any_of HT_.out (by kernel_rfl)) (fun _ _ _ h => h) (Or.inl ⟨by rfl, ?_⟩) ?_ ?_
                  rotate_left
                  · intro w'
                    go_simp
                    with_reducible rfl
                  rotate_left
                  · simp only [Act.put, List.setIfInBounds_toArray, List.set_cons_zero, List.set_cons_succ, i64_w, i32_w]
                    rfl
                  refine pure_ (i := 28) (N := some 87) (v := ?_) (a' := ?_) #[true, true, true, true, true, true, true, true, true, true, true, true, true, true, true, true, true, true, true, true, true, true, true, true, true, true, true, true, true, false, false, false, false] rfl rfl (any_of HT_.out (by kernel_rfl)) (fun _ _ _ h => h) (Or.inl ⟨by rfl, ?_⟩) ?_ ?_
                  rotate_left
                  · intro w'
                    go_simp
                    with_reducible rfl
                  rotate_left
                  · simp only [Act.put, List.setIfInBounds_toArray, List.set_cons_zero, List.set_cons_succ, i64_w, i32_w]
                    rfl
                  refine one_ (i := 29) (N := some 88) #[true, true, true, true, true, true, true, true, true, true, true, true, true, true, true, true, true, true, true, true, true, true, true, true, true, true, true, true, true, true, false, false, false] rfl rfl (one_of HT_.out (by kernel_rfl)) (by decide) (fun K hK => ?_)
                  refine goes_ Tryd.func49 (by kernel_rfl) rfl #[.int .i64 ji95, .int .i64 ji96] (by rfl) rfl rfl (by (try simp only [List.map_toArray, List.map_cons, List.map_nil]); first | done | (simp only [hji95, hji96]; rfl) | rfl | (simp only [List.length_drop, List.length_take]; rfl)) ?_
                  with_reducible refine (remontoirref00_To.calls ji95 ji96 t653 t654 _ A97.out).mono ?_
                  rintro e w117 ⟨rfl, hb⟩
                  refine ⟨_, rfl, ?_⟩
                  have n0_ := Aside0.mk (Kd.R_below (by (with_reducible repeat (first | apply Kd.R_alloc | apply Kd.R_drewN | apply Kd.R_drew)); exact HO649.out) hb)
                  have n1_ := Aside0.mk (blk_below (g := gb621) (o := .cells #[.int .i64 a0_0, .int .i64 a0_1, .int .i64 a0_2, .int .i64 a0_3, .int .i64 a0_4, .int .i64 a0_5, .slice A0_6 l0_6.length c0_6, .slice (some ad650) l0_7.length c0_7] 44 (0, 0)) (by (with_reducible repeat (first | refine blk_drewN ?_ _ | refine blk_drew ?_ | refine blk_alloc ?_ _)); exact BK621.out) hb)
                  have n2_ := Aside0.mk (blk_below (g := gb622) (o := .cells #[.int .i64 a1_0, .int .i64 a1_1, .int .i64 a1_2, .int .i64 a1_3] 65 (0, 0)) (by (with_reducible repeat (first | refine blk_drewN ?_ _ | refine blk_drew ?_ | refine blk_alloc ?_ _)); exact BK622.out) hb)
                  have n3_ := Aside0.mk (blk_below (g := gb625) (o := .cells #[.int .i64 a0_0, .int .i64 a0_1, .int .i64 a0_2, .int .i64 a0_3, .int .i64 a0_4, .int .i64 a0_5, .slice A0_6 l0_6.length c0_6, .slice Ao113 y647.length co113] 44 (0, 0)) (by (with_reducible repeat (first | refine blk_drewN ?_ _ | refine blk_drew ?_ | refine blk_alloc ?_ _)); exact BK625.out) hb)
                  have n4_ := Aside0.mk (below_step (by repeat (first | (with_reducible first | exact HB.out | apply below_alloc | apply pw_below_drewN | apply below_drew1 | refine below_set ?_ GE621.out | refine below_set ?_ GE622.out | refine below_set ?_ GE625.out) | exact HB.out)) hb)
                  clear HO649
                  clear BK621
                  clear BK622
                  clear BK625
                  clear HB
                  have HO649 := n0_
                  have BK621 := n1_
                  have BK622 := n2_
                  have BK625 := n3_
                  have HB := n4_
                  clear n0_ n1_ n2_ n3_ n4_
                  (try clear hb)
                  (try clear hb2)
                  (try clear hk)
                  (try clear hi)
                  have p99 : 0 ≤ (t643 : Int) := of_decide_eq_true (by first | (with_reducible assumption) | assumption)
                  have q99 : (t643 : Int) < ((y647.length : Int) : Int) := of_decide_eq_true (by first | (with_reducible assumption) | assumption)
                  obtain ⟨go99, co99, eo99, gb99, gl99, cl99, HG99⟩ := Kd.R_form HO649.out (by omega)
                  (first | cases eo99 | (injection eo99 with ea_ en_ ec_; (first | subst ea_ | (injection ea_ with ea_; subst ea_)); subst ec_; clear en_))
                  have GB99 := Aside0.mk gb99
                  have GG99 := Aside0.mk HG99
                  clear gb99 gl99 HG99
                  obtain ⟨ce99, hcl99, hM99, hcc99, hfr99⟩ := Kd.R_elem HO649.out z71 (t643 : Int) p99 q99
                  obtain rfl := k71_openM hM99
                  have hx99_0 : World.cell? _ ⟨go99, (t643 : Int).toNat * 3, none⟩ = some (.int .i64 ((rd_T71 y647 t643).f0)) := hcc99 0 _ rfl
                  have hx99_1 : World.cell? _ ⟨go99, (t643 : Int).toNat * 3 + 1, none⟩ = some (.int .i64 ((rd_T71 y647 t643).f1.f0)) := hcc99 1 _ rfl
                  have hx99_2 : World.cell? _ ⟨go99, (t643 : Int).toNat * 3 + 2, none⟩ = some (.int .i64 ((rd_T71 y647 t643).f1.f1)) := hcc99 2 _ rfl
                  have hf99_0 : World.frozen? _ ⟨go99, (t643 : Int).toNat * 3, none⟩ = false := hfr99 0
                  have hf99_1 : World.frozen? _ ⟨go99, (t643 : Int).toNat * 3 + 1, none⟩ = false := hfr99 1
                  have hf99_2 : World.frozen? _ ⟨go99, (t643 : Int).toNat * 3 + 2, none⟩ = false := hfr99 2
                  clear hcl99 hcc99 hfr99 hM99
                  replace p99 := eq_true p99
                  replace q99 := eq_true q99
                  obtain ⟨ce118, hcl118, hM118, hcc118, hfr118⟩ := Kd.R_elem HO649.out z71 (t643 : Int) (of_decide_eq_true (by first | (with_reducible assumption) | assumption)) (by have h_ : (t643 : Int) < ((y647.length : Int) : Int) := of_decide_eq_true (by first | (with_reducible assumption) | assumption); first | exact h_ | (have e_ := (Kd.R_reads' HO649.out).1; omega) | simpa using h_)
                  obtain rfl := k71_openM hM118
                  have HP118 := (Kd.R_seg HO649.out (t643 : Int) (of_decide_eq_true (by first | (with_reducible assumption) | assumption)) (by have h_ : (t643 : Int) < ((y647.length : Int) : Int) := of_decide_eq_true (by first | (with_reducible assumption) | assumption); first | exact h_ | (have e_ := (Kd.R_reads' HO649.out).1; omega) | simpa using h_) (seg := [.int .i64 ((rd_T71 l0_7 t643).f0), .int .i64 t653, .int .i64 t654]) (j := 0) hcl118 hcc118 (show 3 ≤ 3 from by decide) (x' := (⟨(rd_T71 l0_7 t643).f0, (⟨t653, t654⟩ : S23)⟩ : S71)) (k71_mkM _ _ _ (⟨(rd_T71 l0_7 t643).f0, (⟨t653, t654⟩ : S23)⟩ : S71) ) (fun _ hk => hk)).1
                  rw [← Ny655.out] at HP118
                  have HQ118 := Aside0.mk HP118
                  clear hcl118 hcc118 hfr118 hM118 HP118
                  refine hK.out _ _ ⟨(blk_cell BK625.out 0).trans rfl, (blk_cell BK625.out 1).trans rfl, (blk_cell BK625.out 2).trans rfl, (blk_cell BK625.out 3).trans rfl, (blk_cell BK625.out 4).trans rfl, (blk_cell BK625.out 5).trans rfl, (blk_cell BK625.out 6).trans rfl, (blk_cell BK625.out 7).trans rfl, (blk_cell BK621.out 0).trans rfl, (blk_cell BK621.out 1).trans rfl, (blk_cell BK621.out 2).trans rfl, (blk_cell BK621.out 3).trans rfl, (blk_cell BK621.out 4).trans rfl, (blk_cell BK621.out 5).trans rfl, (blk_cell BK621.out 6).trans rfl, (blk_cell BK621.out 7).trans rfl, ((HB.out.cell (World.block_lt_of_cell? w _ hw650_0)).trans hw650_0), ((HB.out.cell (World.block_lt_of_cell? w _ hw650_1)).trans hw650_1), ((HB.out.cell (World.block_lt_of_cell? w _ hw650_2)).trans hw650_2), ((HB.out.cell (World.block_lt_of_cell? w _ hw651_0)).trans hw651_0), ((HB.out.cell (World.block_lt_of_cell? w _ hw651_1)).trans hw651_1), ((HB.out.cell (World.block_lt_of_cell? w _ hw651_2)).trans hw651_2), ((HB.out.cell (World.block_lt_of_cell? w _ hw652_0)).trans hw652_0), ((HB.out.cell (World.block_lt_of_cell? w _ hw652_1)).trans hw652_1), ((HB.out.cell (World.block_lt_of_cell? w _ hw652_2)).trans hw652_2)⟩ (fun hHeld => ?_)
                  clear hK K
                  refine norm_ (a' := ?_) ?_ ?_
                  rotate_left
                  · show Act.put _ (some 88) _ = _
                    simp only [Act.put, List.setIfInBounds_toArray, List.set_cons_zero, List.set_cons_succ, i64_w, i32_w]
                    rfl
                  refine pure_ (i := 30) (N := some 89) (v := ?_) (a' := ?_) #[true, true, true, true, true, true, true, true, true, true, true, true, true, true, true, true, true, true, true, true, true, true, true, true, true, true, true, true, true, true, true, false, false] rfl rfl (any_of HT_.out (by kernel_rfl)) (fun _ _ _ h => h) (Or.inl ⟨by rfl, ?_⟩) ?_ ?_
                  rotate_left
                  · intro w'
                    go_simp
                    with_reducible rfl
                  rotate_left
                  · simp only [Act.put, List.setIfInBounds_toArray, List.set_cons_zero, List.set_cons_succ, i64_w, i32_w]
                    rfl
                  refine pure_ (i := 31) (N := some 90) (v := ?_) (a' := ?_) #[true, true, true, true, true, true, true, true, true, true, true, true, true, true, true, true, true, true, true, true, true, true, true, true, true, true, true, true, true, true, true, true, false] rfl rfl (any_of HT_.out (by kernel_rfl)) (fun _ _ _ h => h) (Or.inl ⟨by rfl, ?_⟩) ?_ ?_
                  rotate_left
                  · intro w'
                    go_simp
                    with_reducible rfl
                  rotate_left
                  · simp only [Act.put, List.setIfInBounds_toArray, List.set_cons_zero, List.set_cons_succ, i64_w, i32_w]
                    rfl
                  refine last_ (i := 32) (N := none) #[true, true, true, true, true, true, true, true, true, true, true, true, true, true, true, true, true, true, true, true, true, true, true, true, true, true, true, true, true, true, true, true, true] rfl rfl (one_of HT_.out (by kernel_rfl)) (by decide) (fun K hK => ?_)
                  refine skip_ (w1 := ?_) (by rfl) rfl ?_ ?_
                  rotate_left
                  · go_simp
                    rfl
                  refine hK.out _ _ ?_
                  clear hK K
                  refine done_ (done_of HT_.out (by kernel_rfl)) ?_
                  have n0_ : Aside0 (Kd.R k71 71 (((w117.setCell ⟨go99, (t643 : Int).toNat * 3, none⟩ (.int .i64 ((rd_T71 l0_7 t643).f0))).setCell ⟨go99, (t643 : Int).toNat * 3 + 1, none⟩ (.int .i64 t653)).setCell ⟨go99, (t643 : Int).toNat * 3 + 2, none⟩ (.int .i64 t654)) w.heap.size (fun _ => True) (.slice (some ⟨go99, 0, none⟩) y647.length co113) y655) := ⟨by (with_reducible repeat (first | apply Kd.R_alloc | apply Kd.R_drewN | apply Kd.R_drew)); exact HQ118.out⟩
                  have n1_ : Aside0 ((((w117.setCell ⟨go99, (t643 : Int).toNat * 3, none⟩ (.int .i64 ((rd_T71 l0_7 t643).f0))).setCell ⟨go99, (t643 : Int).toNat * 3 + 1, none⟩ (.int .i64 t653)).setCell ⟨go99, (t643 : Int).toNat * 3 + 2, none⟩ (.int .i64 t654)).heap[gb621]? = some (.cells #[.int .i64 a0_0, .int .i64 a0_1, .int .i64 a0_2, .int .i64 a0_3, .int .i64 a0_4, .int .i64 a0_5, .slice A0_6 l0_6.length c0_6, .slice (some ad650) l0_7.length c0_7] 44 (0, 0))) := ⟨by (with_reducible repeat (first | refine blk_drewN ?_ _ | refine blk_drew ?_ | refine blk_alloc ?_ _)); refine blk_far ?_ (by have h_ := Kd.R_ne HO649.out BK621.out (by decide); intro e_; exact h_ (by rw [e_]; rfl)) _; (with_reducible repeat (first | refine blk_drewN ?_ _ | refine blk_drew ?_ | refine blk_alloc ?_ _)); refine blk_far ?_ (by have h_ := Kd.R_ne HO649.out BK621.out (by decide); intro e_; exact h_ (by rw [e_]; rfl)) _; (with_reducible repeat (first | refine blk_drewN ?_ _ | refine blk_drew ?_ | refine blk_alloc ?_ _)); refine blk_far ?_ (by have h_ := Kd.R_ne HO649.out BK621.out (by decide); intro e_; exact h_ (by rw [e_]; rfl)) _; (with_reducible repeat (first | refine blk_drewN ?_ _ | refine blk_drew ?_ | refine blk_alloc ?_ _)); exact BK621.out⟩
                  have n2_ : Aside0 ((((w117.setCell ⟨go99, (t643 : Int).toNat * 3, none⟩ (.int .i64 ((rd_T71 l0_7 t643).f0))).setCell ⟨go99, (t643 : Int).toNat * 3 + 1, none⟩ (.int .i64 t653)).setCell ⟨go99, (t643 : Int).toNat * 3 + 2, none⟩ (.int .i64 t654)).heap[gb622]? = some (.cells #[.int .i64 a1_0, .int .i64 a1_1, .int .i64 a1_2, .int .i64 a1_3] 65 (0, 0))) := ⟨by (with_reducible repeat (first | refine blk_drewN ?_ _ | refine blk_drew ?_ | refine blk_alloc ?_ _)); refine blk_far ?_ (by have h_ := Kd.R_ne HO649.out BK622.out (by decide); intro e_; exact h_ (by rw [e_]; rfl)) _; (with_reducible repeat (first | refine blk_drewN ?_ _ | refine blk_drew ?_ | refine blk_alloc ?_ _)); refine blk_far ?_ (by have h_ := Kd.R_ne HO649.out BK622.out (by decide); intro e_; exact h_ (by rw [e_]; rfl)) _; (with_reducible repeat (first | refine blk_drewN ?_ _ | refine blk_drew ?_ | refine blk_alloc ?_ _)); refine blk_far ?_ (by have h_ := Kd.R_ne HO649.out BK622.out (by decide); intro e_; exact h_ (by rw [e_]; rfl)) _; (with_reducible repeat (first | refine blk_drewN ?_ _ | refine blk_drew ?_ | refine blk_alloc ?_ _)); exact BK622.out⟩
                  have n3_ : Aside0 ((((w117.setCell ⟨go99, (t643 : Int).toNat * 3, none⟩ (.int .i64 ((rd_T71 l0_7 t643).f0))).setCell ⟨go99, (t643 : Int).toNat * 3 + 1, none⟩ (.int .i64 t653)).setCell ⟨go99, (t643 : Int).toNat * 3 + 2, none⟩ (.int .i64 t654)).heap[gb625]? = some (.cells #[.int .i64 a0_0, .int .i64 a0_1, .int .i64 a0_2, .int .i64 a0_3, .int .i64 a0_4, .int .i64 a0_5, .slice A0_6 l0_6.length c0_6, .slice (some ⟨go99, 0, none⟩) y647.length co113] 44 (0, 0))) := ⟨by (with_reducible repeat (first | refine blk_drewN ?_ _ | refine blk_drew ?_ | refine blk_alloc ?_ _)); refine blk_far ?_ (by have h_ := Kd.R_ne HO649.out BK625.out (by decide); intro e_; exact h_ (by rw [e_]; rfl)) _; (with_reducible repeat (first | refine blk_drewN ?_ _ | refine blk_drew ?_ | refine blk_alloc ?_ _)); refine blk_far ?_ (by have h_ := Kd.R_ne HO649.out BK625.out (by decide); intro e_; exact h_ (by rw [e_]; rfl)) _; (with_reducible repeat (first | refine blk_drewN ?_ _ | refine blk_drew ?_ | refine blk_alloc ?_ _)); refine blk_far ?_ (by have h_ := Kd.R_ne HO649.out BK625.out (by decide); intro e_; exact h_ (by rw [e_]; rfl)) _; (with_reducible repeat (first | refine blk_drewN ?_ _ | refine blk_drew ?_ | refine blk_alloc ?_ _)); exact BK625.out⟩
                  have n4_ : Aside0 (Below w.heap.size w (((w117.setCell ⟨go99, (t643 : Int).toNat * 3, none⟩ (.int .i64 ((rd_T71 l0_7 t643).f0))).setCell ⟨go99, (t643 : Int).toNat * 3 + 1, none⟩ (.int .i64 t653)).setCell ⟨go99, (t643 : Int).toNat * 3 + 2, none⟩ (.int .i64 t654))) := ⟨by repeat (first | (with_reducible first | exact HB.out | apply below_alloc | apply pw_below_drewN | apply below_drew1 | refine below_set ?_ GB99.out | refine below_set ?_ GB99.out | refine below_set ?_ GB99.out | refine below_set ?_ GE621.out | refine below_set ?_ GE622.out | refine below_set ?_ GE625.out) | exact HB.out)⟩
                  (try clear HO649)
                  (try clear BK621)
                  (try clear BK622)
                  (try clear BK625)
                  (try clear HB)
                  generalize (((w117.setCell ⟨go99, (t643 : Int).toNat * 3, none⟩ (.int .i64 ((rd_T71 l0_7 t643).f0))).setCell ⟨go99, (t643 : Int).toNat * 3 + 1, none⟩ (.int .i64 t653)).setCell ⟨go99, (t643 : Int).toNat * 3 + 2, none⟩ (.int .i64 t654)) = w119 at n0_ n1_ n2_ n3_ n4_ ⊢
                  have HO649 := n0_
                  have BK621 := n1_
                  have BK622 := n2_
                  have BK625 := n3_
                  have HB := n4_
                  clear n0_ n1_ n2_ n3_ n4_
                  have hcz120_0 : w119.cell? ⟨gb622, 0, none⟩ = some (.int .i64 a1_0) := (blk_cell BK622.out 0).trans rfl
                  have hcz120_1 : w119.cell? ⟨gb622, 1, none⟩ = some (.int .i64 a1_1) := (blk_cell BK622.out 1).trans rfl
                  have hcz120_2 : w119.cell? ⟨gb622, 2, none⟩ = some (.int .i64 a1_2) := (blk_cell BK622.out 2).trans rfl
                  have hcz120_3 : w119.cell? ⟨gb622, 3, none⟩ = some (.int .i64 a1_3) := (blk_cell BK622.out 3).trans rfl
                  have hfz120_0 := blk_frozen BK622.out 0
                  have hfz120_1 := blk_frozen BK622.out 1
                  have hfz120_2 := blk_frozen BK622.out 2
                  have hfz120_3 := blk_frozen BK622.out 3
                  have hcz121_0 : w119.cell? ⟨gb621, 0, none⟩ = some (.int .i64 a0_0) := (blk_cell BK621.out 0).trans rfl
                  have hcz121_1 : w119.cell? ⟨gb621, 1, none⟩ = some (.int .i64 a0_1) := (blk_cell BK621.out 1).trans rfl
                  have hcz121_2 : w119.cell? ⟨gb621, 2, none⟩ = some (.int .i64 a0_2) := (blk_cell BK621.out 2).trans rfl
                  have hcz121_3 : w119.cell? ⟨gb621, 3, none⟩ = some (.int .i64 a0_3) := (blk_cell BK621.out 3).trans rfl
                  have hcz121_4 : w119.cell? ⟨gb621, 4, none⟩ = some (.int .i64 a0_4) := (blk_cell BK621.out 4).trans rfl
                  have hcz121_5 : w119.cell? ⟨gb621, 5, none⟩ = some (.int .i64 a0_5) := (blk_cell BK621.out 5).trans rfl
                  have hcz121_6 : w119.cell? ⟨gb621, 6, none⟩ = some (.slice A0_6 l0_6.length c0_6) := (blk_cell BK621.out 6).trans rfl
                  have hcz121_7 : w119.cell? ⟨gb621, 7, none⟩ = some (.slice (some ad650) l0_7.length c0_7) := (blk_cell BK621.out 7).trans rfl
                  have hfz121_0 := blk_frozen BK621.out 0
                  have hfz121_1 := blk_frozen BK621.out 1
                  have hfz121_2 := blk_frozen BK621.out 2
                  have hfz121_3 := blk_frozen BK621.out 3
                  have hfz121_4 := blk_frozen BK621.out 4
                  have hfz121_5 := blk_frozen BK621.out 5
                  have hfz121_6 := blk_frozen BK621.out 6
                  have hfz121_7 := blk_frozen BK621.out 7
                  go_upto_region 13 with (first | ((with_reducible refine gate_callee (f := 38) rfl ?_); refine goesL_ (some 96) rfl rfl Tryd.func38 (by kernel_rfl) rfl #[.int .i64 a1_3, .int .i64 (wrap64 (a0_5 + 1))] rfl (by (try simp only [List.map_toArray, List.map_cons, List.map_nil]); first | done | rfl | (simp only [List.length_drop, List.length_take]; rfl)) ?_; (with_reducible refine (remontoirref00_Rest.calls a1_3 (wrap64 (a0_5 + 1)) t656 _ A100.out).mono ?_); rintro e w' ⟨rfl, ⟨nd, rfl⟩⟩; refine ⟨_, rfl, ?_⟩) | ((with_reducible refine gate_callee (f := 27) rfl ?_); refine goesL_ (some 100) rfl rfl Tryd.func27 (by kernel_rfl) rfl #[.agg #[.int .i64 a0_0, .int .i64 a0_1, .int .i64 a0_2, .int .i64 a0_3, .int .i64 a0_4, .int .i64 a0_5, .slice A0_6 l0_6.length c0_6, .slice (some ad650) l0_7.length c0_7], .int .i64 t656] rfl (by (try simp only [List.map_toArray, List.map_cons, List.map_nil]); first | done | rfl | (simp only [List.length_drop, List.length_take]; rfl)) ?_; (with_reducible refine (scale_Error.calls a0_0 a0_1 a0_2 a0_3 a0_4 a0_5 _ _ l0_6 _ _ l0_7 t656 t657 t658 t659 _ ?side1 ?side2 ?side3 ?side4 ?side5 A101.out).mono ?_); (case side1 => repeat (first | exact (Kd.C_below HR0_6.out HB.out) | (with_reducible refine Kd.C_alloc ?_ _) | (with_reducible refine Kd.C_drewN ?_ _) | (with_reducible refine Kd.C_drew ?_))); (case side2 => exact HC0_6.out); (case side3 => repeat (first | exact (Kd.C_below HR0_7.out HB.out) | (with_reducible refine Kd.C_alloc ?_ _) | (with_reducible refine Kd.C_drewN ?_ _) | (with_reducible refine Kd.C_drew ?_))); (case side4 => exact HC0_7.out); (case side5 => exact Go.Proofs.YtidnopmjhhmedaaDoor.Ways.below HWays.out (by repeat (first | (with_reducible first | exact HB.out | apply below_alloc | apply pw_below_drewN | apply below_drew1 | refine below_set ?_ GE621.out | refine below_set ?_ GE622.out | refine below_set ?_ GE625.out) | exact HB.out))); rintro e w122 ⟨rfl, hb⟩; refine ⟨_, rfl, ?_⟩; have n0_ := Aside0.mk (Kd.R_below (by (with_reducible repeat (first | apply Kd.R_alloc | apply Kd.R_drewN | apply Kd.R_drew)); exact HO649.out) hb); have n1_ := Aside0.mk (blk_below (g := gb621) (o := .cells #[.int .i64 a0_0, .int .i64 a0_1, .int .i64 a0_2, .int .i64 a0_3, .int .i64 a0_4, .int .i64 a0_5, .slice A0_6 l0_6.length c0_6, .slice (some ad650) l0_7.length c0_7] 44 (0, 0)) (by (with_reducible repeat (first | refine blk_drewN ?_ _ | refine blk_drew ?_ | refine blk_alloc ?_ _)); exact BK621.out) hb); have n2_ := Aside0.mk (blk_below (g := gb622) (o := .cells #[.int .i64 a1_0, .int .i64 a1_1, .int .i64 a1_2, .int .i64 a1_3] 65 (0, 0)) (by (with_reducible repeat (first | refine blk_drewN ?_ _ | refine blk_drew ?_ | refine blk_alloc ?_ _)); exact BK622.out) hb); have n3_ := Aside0.mk (blk_below (g := gb625) (o := .cells #[.int .i64 a0_0, .int .i64 a0_1, .int .i64 a0_2, .int .i64 a0_3, .int .i64 a0_4, .int .i64 a0_5, .slice A0_6 l0_6.length c0_6, .slice (some ⟨go99, 0, none⟩) y647.length co113] 44 (0, 0)) (by (with_reducible repeat (first | refine blk_drewN ?_ _ | refine blk_drew ?_ | refine blk_alloc ?_ _)); exact BK625.out) hb); have n4_ := Aside0.mk (below_step (by repeat (first | (with_reducible first | exact HB.out | apply below_alloc | apply pw_below_drewN | apply below_drew1 | refine below_set ?_ GE621.out | refine below_set ?_ GE622.out | refine below_set ?_ GE625.out) | exact HB.out)) hb); clear HO649; clear BK621; clear BK622; clear BK625; clear HB; have HO649 := n0_; have BK621 := n1_; have BK622 := n2_; have BK625 := n3_; have HB := n4_; clear n0_ n1_ n2_ n3_ n4_; (try clear hb); (try clear hb2); (try clear hk); (try clear hi)) | ((with_reducible refine gate_dst (N := 9) rfl ?_); (try (refine gate_guard (by rfl) ?_; dsimp only)); refine box_event ?hg (N := 9) ?hd (cs := #[.int .i64 0, .int .i64 0]) (t := 23) ?hr ?_; (case hd => rfl); (case hg => rfl); (case hr => first | (go_simp; done) | (go_simp; rfl)); intro gb660 hg w123 hbox hb; have n0_ := Aside0.mk (Kd.R_below (by (with_reducible repeat (first | apply Kd.R_alloc | apply Kd.R_drewN | apply Kd.R_drew)); exact HO649.out) hb); have n1_ := Aside0.mk (blk_below (g := gb621) (o := .cells #[.int .i64 a0_0, .int .i64 a0_1, .int .i64 a0_2, .int .i64 a0_3, .int .i64 a0_4, .int .i64 a0_5, .slice A0_6 l0_6.length c0_6, .slice (some ad650) l0_7.length c0_7] 44 (0, 0)) (by (with_reducible repeat (first | refine blk_drewN ?_ _ | refine blk_drew ?_ | refine blk_alloc ?_ _)); exact BK621.out) hb); have n2_ := Aside0.mk (blk_below (g := gb622) (o := .cells #[.int .i64 a1_0, .int .i64 a1_1, .int .i64 a1_2, .int .i64 a1_3] 65 (0, 0)) (by (with_reducible repeat (first | refine blk_drewN ?_ _ | refine blk_drew ?_ | refine blk_alloc ?_ _)); exact BK622.out) hb); have n3_ := Aside0.mk (blk_below (g := gb625) (o := .cells #[.int .i64 a0_0, .int .i64 a0_1, .int .i64 a0_2, .int .i64 a0_3, .int .i64 a0_4, .int .i64 a0_5, .slice A0_6 l0_6.length c0_6, .slice (some ⟨go99, 0, none⟩) y647.length co113] 44 (0, 0)) (by (with_reducible repeat (first | refine blk_drewN ?_ _ | refine blk_drew ?_ | refine blk_alloc ?_ _)); exact BK625.out) hb); have n4_ := Aside0.mk (below_step (by repeat (first | (with_reducible first | exact HB.out | apply below_alloc | apply pw_below_drewN | apply below_drew1 | refine below_set ?_ GE621.out | refine below_set ?_ GE622.out | refine below_set ?_ GE625.out) | exact HB.out)) hb); have n5_ := Aside0.mk (hbox); have n6_ := Aside0.mk ((by rw [hg]; exact (below_size (by repeat (first | (with_reducible first | exact HB.out | apply below_alloc | apply pw_below_drewN | apply below_drew1 | refine below_set ?_ GE621.out | refine below_set ?_ GE622.out | refine below_set ?_ GE625.out) | exact HB.out))) : w.heap.size ≤ gb660)); have n7_ := Aside0.mk ((by rw [hg]; exact (below_size (by repeat (first | (with_reducible first | exact HB.out | apply below_alloc | apply pw_below_drewN | apply below_drew1 | refine below_set ?_ GE621.out | refine below_set ?_ GE622.out | refine below_set ?_ GE625.out) | exact HB.out))) : w.heap.size ≤ gb660)); have n8_ := Aside0.mk ((by rw [hg]; exact Nat.ne_of_lt (blk_lt (g := gb621) (o := .cells #[.int .i64 a0_0, .int .i64 a0_1, .int .i64 a0_2, .int .i64 a0_3, .int .i64 a0_4, .int .i64 a0_5, .slice A0_6 l0_6.length c0_6, .slice (some ad650) l0_7.length c0_7] 44 (0, 0)) (by (with_reducible repeat (first | refine blk_drewN ?_ _ | refine blk_drew ?_ | refine blk_alloc ?_ _)); exact BK621.out)) : gb621 ≠ gb660)); have n9_ := Aside0.mk ((by rw [hg]; exact Nat.ne_of_gt (blk_lt (g := gb621) (o := .cells #[.int .i64 a0_0, .int .i64 a0_1, .int .i64 a0_2, .int .i64 a0_3, .int .i64 a0_4, .int .i64 a0_5, .slice A0_6 l0_6.length c0_6, .slice (some ad650) l0_7.length c0_7] 44 (0, 0)) (by (with_reducible repeat (first | refine blk_drewN ?_ _ | refine blk_drew ?_ | refine blk_alloc ?_ _)); exact BK621.out)) : gb660 ≠ gb621)); have n10_ := Aside0.mk ((by rw [hg]; exact Nat.ne_of_lt (blk_lt (g := gb622) (o := .cells #[.int .i64 a1_0, .int .i64 a1_1, .int .i64 a1_2, .int .i64 a1_3] 65 (0, 0)) (by (with_reducible repeat (first | refine blk_drewN ?_ _ | refine blk_drew ?_ | refine blk_alloc ?_ _)); exact BK622.out)) : gb622 ≠ gb660)); have n11_ := Aside0.mk ((by rw [hg]; exact Nat.ne_of_gt (blk_lt (g := gb622) (o := .cells #[.int .i64 a1_0, .int .i64 a1_1, .int .i64 a1_2, .int .i64 a1_3] 65 (0, 0)) (by (with_reducible repeat (first | refine blk_drewN ?_ _ | refine blk_drew ?_ | refine blk_alloc ?_ _)); exact BK622.out)) : gb660 ≠ gb622)); have n12_ := Aside0.mk ((by rw [hg]; exact Nat.ne_of_lt (blk_lt (g := gb625) (o := .cells #[.int .i64 a0_0, .int .i64 a0_1, .int .i64 a0_2, .int .i64 a0_3, .int .i64 a0_4, .int .i64 a0_5, .slice A0_6 l0_6.length c0_6, .slice (some ⟨go99, 0, none⟩) y647.length co113] 44 (0, 0)) (by (with_reducible repeat (first | refine blk_drewN ?_ _ | refine blk_drew ?_ | refine blk_alloc ?_ _)); exact BK625.out)) : gb625 ≠ gb660)); have n13_ := Aside0.mk ((by rw [hg]; exact Nat.ne_of_gt (blk_lt (g := gb625) (o := .cells #[.int .i64 a0_0, .int .i64 a0_1, .int .i64 a0_2, .int .i64 a0_3, .int .i64 a0_4, .int .i64 a0_5, .slice A0_6 l0_6.length c0_6, .slice (some ⟨go99, 0, none⟩) y647.length co113] 44 (0, 0)) (by (with_reducible repeat (first | refine blk_drewN ?_ _ | refine blk_drew ?_ | refine blk_alloc ?_ _)); exact BK625.out)) : gb660 ≠ gb625)); clear HO649; clear BK621; clear BK622; clear BK625; clear HB; have HO649 := n0_; have BK621 := n1_; have BK622 := n2_; have BK625 := n3_; have HB := n4_; have BK660 := n5_; have GW660 := n6_; have GE660 := n7_; have NB621_660 := n8_; have NB660_621 := n9_; have NB622_660 := n10_; have NB660_622 := n11_; have NB625_660 := n12_; have NB660_625 := n13_; clear n0_ n1_ n2_ n3_ n4_ n5_ n6_ n7_ n8_ n9_ n10_ n11_ n12_ n13_; clear hb hbox hg; have hnb124 := NB660_621.out; have hnc124 := NB621_660.out; have hnb125 := NB660_622.out; have hnc125 := NB622_660.out; have hnb126 := NB660_625.out; have hnc126 := NB625_660.out; have hcz127_0 : w123.cell? ⟨gb660, 0, none⟩ = some (.int .i64 0) := (blk_cell BK660.out 0).trans rfl; have hcz127_1 : w123.cell? ⟨gb660, 1, none⟩ = some (.int .i64 0) := (blk_cell BK660.out 1).trans rfl; have hfz127_0 := blk_frozen BK660.out 0; have hfz127_1 := blk_frozen BK660.out 1; have hcz128_0 : w123.cell? ⟨gb625, 0, none⟩ = some (.int .i64 a0_0) := (blk_cell BK625.out 0).trans rfl; have hcz128_1 : w123.cell? ⟨gb625, 1, none⟩ = some (.int .i64 a0_1) := (blk_cell BK625.out 1).trans rfl; have hcz128_2 : w123.cell? ⟨gb625, 2, none⟩ = some (.int .i64 a0_2) := (blk_cell BK625.out 2).trans rfl; have hcz128_3 : w123.cell? ⟨gb625, 3, none⟩ = some (.int .i64 a0_3) := (blk_cell BK625.out 3).trans rfl; have hcz128_4 : w123.cell? ⟨gb625, 4, none⟩ = some (.int .i64 a0_4) := (blk_cell BK625.out 4).trans rfl; have hcz128_5 : w123.cell? ⟨gb625, 5, none⟩ = some (.int .i64 a0_5) := (blk_cell BK625.out 5).trans rfl; have hcz128_6 : w123.cell? ⟨gb625, 6, none⟩ = some (.slice A0_6 l0_6.length c0_6) := (blk_cell BK625.out 6).trans rfl; have hcz128_7 : w123.cell? ⟨gb625, 7, none⟩ = some (.slice (some ⟨go99, 0, none⟩) y647.length co113) := (blk_cell BK625.out 7).trans rfl; have hfz128_0 := blk_frozen BK625.out 0; have hfz128_1 := blk_frozen BK625.out 1; have hfz128_2 := blk_frozen BK625.out 2; have hfz128_3 := blk_frozen BK625.out 3; have hfz128_4 := blk_frozen BK625.out 4; have hfz128_5 := blk_frozen BK625.out 5; have hfz128_6 := blk_frozen BK625.out 6; have hfz128_7 := blk_frozen BK625.out 7) | ((with_reducible refine gate_callee (f := 27) rfl ?_); refine goesL_ (some 106) rfl rfl Tryd.func27 (by kernel_rfl) rfl #[.agg #[.int .i64 a0_0, .int .i64 a0_1, .int .i64 a0_2, .int .i64 a0_3, .int .i64 a0_4, .int .i64 a0_5, .slice A0_6 l0_6.length c0_6, .slice (some ⟨go99, 0, none⟩) y655.length co113], .int .i64 t656] rfl (by (try simp only [List.map_toArray, List.map_cons, List.map_nil]); first | done | (rw [show y655.length = y647.length from (Kd.R_reads' HO649.out).1.symm] <;> rfl) | rfl | (simp only [List.length_drop, List.length_take]; rfl)) ?_; (with_reducible refine (scale_Error.calls a0_0 a0_1 a0_2 a0_3 a0_4 a0_5 _ _ l0_6 _ _ y655 t656 t661 t662 t663 _ ?side1 ?side2 ?side3 ?side4 ?side5 A102.out).mono ?_); (case side1 => exact Kd.C_below HR0_6.out (by repeat (first | (with_reducible first | exact HB.out | apply below_alloc | apply pw_below_drewN | apply below_drew1 | refine below_set ?_ GE621.out | refine below_set ?_ GE622.out | refine below_set ?_ GE625.out | refine below_set ?_ GE660.out) | exact HB.out))); (case side2 => exact HC0_6.out); (case side3 => refine (Kd.R_reads' (e := 71) (base := w.heap.size) (ok := fun k_ => True) (n := y647.length) (c := co113) ?_).2.2; exact (by (with_reducible repeat (first | apply Kd.R_alloc | apply Kd.R_drewN | apply Kd.R_drew)); exact (Kd.R_mono (Kd.R_far (p := ⟨gb660, 1, none⟩) (Kd.R_far (p := ⟨gb660, 0, none⟩) (Kd.R_types HO649.out BK660.out (by decide)) (fun _ hk => hk.2) (.int .i64 t657)) (fun _ hk => hk.2) (.int .i64 t658)) (fun _ h_ => h_.1)))); (case side4 => rw [show y655.length = y647.length from (Kd.R_reads' HO649.out).1.symm]; exact (Kd.R_reads' HO649.out).2.1); (case side5 => exact Go.Proofs.YtidnopmjhhmedaaDoor.Ways.below HWays.out (by repeat (first | (with_reducible first | exact HB.out | apply below_alloc | apply pw_below_drewN | apply below_drew1 | refine below_set ?_ GE621.out | refine below_set ?_ GE622.out | refine below_set ?_ GE625.out | refine below_set ?_ GE660.out) | exact HB.out))); rintro e w129 ⟨rfl, hb⟩; refine ⟨_, rfl, ?_⟩; have n0_ := Aside0.mk (Kd.R_below (by (with_reducible repeat (first | apply Kd.R_alloc | apply Kd.R_drewN | apply Kd.R_drew)); exact (Kd.R_mono (Kd.R_far (p := ⟨gb660, 1, none⟩) (Kd.R_far (p := ⟨gb660, 0, none⟩) (Kd.R_types HO649.out BK660.out (by decide)) (fun _ hk => hk.2) (.int .i64 t657)) (fun _ hk => hk.2) (.int .i64 t658)) (fun _ h_ => h_.1))) hb); have n1_ := Aside0.mk (blk_below (g := gb621) (o := .cells #[.int .i64 a0_0, .int .i64 a0_1, .int .i64 a0_2, .int .i64 a0_3, .int .i64 a0_4, .int .i64 a0_5, .slice A0_6 l0_6.length c0_6, .slice (some ad650) l0_7.length c0_7] 44 (0, 0)) (by (with_reducible repeat (first | refine blk_drewN ?_ _ | refine blk_drew ?_ | refine blk_alloc ?_ _)); refine blk_far ?_ NB621_660.out _; (with_reducible repeat (first | refine blk_drewN ?_ _ | refine blk_drew ?_ | refine blk_alloc ?_ _)); refine blk_far ?_ NB621_660.out _; (with_reducible repeat (first | refine blk_drewN ?_ _ | refine blk_drew ?_ | refine blk_alloc ?_ _)); exact BK621.out) hb); have n2_ := Aside0.mk (blk_below (g := gb622) (o := .cells #[.int .i64 a1_0, .int .i64 a1_1, .int .i64 a1_2, .int .i64 a1_3] 65 (0, 0)) (by (with_reducible repeat (first | refine blk_drewN ?_ _ | refine blk_drew ?_ | refine blk_alloc ?_ _)); refine blk_far ?_ NB622_660.out _; (with_reducible repeat (first | refine blk_drewN ?_ _ | refine blk_drew ?_ | refine blk_alloc ?_ _)); refine blk_far ?_ NB622_660.out _; (with_reducible repeat (first | refine blk_drewN ?_ _ | refine blk_drew ?_ | refine blk_alloc ?_ _)); exact BK622.out) hb); have n3_ := Aside0.mk (blk_below (g := gb625) (o := .cells #[.int .i64 a0_0, .int .i64 a0_1, .int .i64 a0_2, .int .i64 a0_3, .int .i64 a0_4, .int .i64 a0_5, .slice A0_6 l0_6.length c0_6, .slice (some ⟨go99, 0, none⟩) y647.length co113] 44 (0, 0)) (by (with_reducible repeat (first | refine blk_drewN ?_ _ | refine blk_drew ?_ | refine blk_alloc ?_ _)); refine blk_far ?_ NB625_660.out _; (with_reducible repeat (first | refine blk_drewN ?_ _ | refine blk_drew ?_ | refine blk_alloc ?_ _)); refine blk_far ?_ NB625_660.out _; (with_reducible repeat (first | refine blk_drewN ?_ _ | refine blk_drew ?_ | refine blk_alloc ?_ _)); exact BK625.out) hb); have n4_ := Aside0.mk (blk_below (g := gb660) (o := .cells #[.int .i64 t657, .int .i64 t658] 23 (0, 0)) (by (with_reducible repeat (first | refine blk_drewN ?_ _ | refine blk_drew ?_ | refine blk_alloc ?_ _)); refine blk_put (cs := #[.int .i64 t657, .int .i64 0]) ?_ 1 _ rfl; (with_reducible repeat (first | refine blk_drewN ?_ _ | refine blk_drew ?_ | refine blk_alloc ?_ _)); refine blk_put (cs := #[.int .i64 0, .int .i64 0]) ?_ 0 _ rfl; (with_reducible repeat (first | refine blk_drewN ?_ _ | refine blk_drew ?_ | refine blk_alloc ?_ _)); exact BK660.out) hb); have n5_ := Aside0.mk (below_step (by repeat (first | (with_reducible first | exact HB.out | apply below_alloc | apply pw_below_drewN | apply below_drew1 | refine below_set ?_ GE621.out | refine below_set ?_ GE622.out | refine below_set ?_ GE625.out | refine below_set ?_ GE660.out) | exact HB.out)) hb); clear HO649; clear BK621; clear BK622; clear BK625; clear BK660; clear HB; have HO649 := n0_; have BK621 := n1_; have BK622 := n2_; have BK625 := n3_; have BK660 := n4_; have HB := n5_; clear n0_ n1_ n2_ n3_ n4_ n5_; (try clear hb); (try clear hb2); (try clear hk); (try clear hi)) | ((with_reducible refine gate_dst (N := 11) rfl ?_); (try (refine gate_guard (by rfl) ?_; dsimp only)); refine box_event ?hg (N := 11) ?hd (cs := #[.int .i64 0, .int .i64 0]) (t := 23) ?hr ?_; (case hd => rfl); (case hg => rfl); (case hr => first | (go_simp; done) | (go_simp; rfl)); intro gb664 hg w130 hbox hb; have n0_ := Aside0.mk (Kd.R_below (by (with_reducible repeat (first | apply Kd.R_alloc | apply Kd.R_drewN | apply Kd.R_drew)); exact HO649.out) hb); have n1_ := Aside0.mk (blk_below (g := gb621) (o := .cells #[.int .i64 a0_0, .int .i64 a0_1, .int .i64 a0_2, .int .i64 a0_3, .int .i64 a0_4, .int .i64 a0_5, .slice A0_6 l0_6.length c0_6, .slice (some ad650) l0_7.length c0_7] 44 (0, 0)) (by (with_reducible repeat (first | refine blk_drewN ?_ _ | refine blk_drew ?_ | refine blk_alloc ?_ _)); exact BK621.out) hb); have n2_ := Aside0.mk (blk_below (g := gb622) (o := .cells #[.int .i64 a1_0, .int .i64 a1_1, .int .i64 a1_2, .int .i64 a1_3] 65 (0, 0)) (by (with_reducible repeat (first | refine blk_drewN ?_ _ | refine blk_drew ?_ | refine blk_alloc ?_ _)); exact BK622.out) hb); have n3_ := Aside0.mk (blk_below (g := gb625) (o := .cells #[.int .i64 a0_0, .int .i64 a0_1, .int .i64 a0_2, .int .i64 a0_3, .int .i64 a0_4, .int .i64 a0_5, .slice A0_6 l0_6.length c0_6, .slice (some ⟨go99, 0, none⟩) y647.length co113] 44 (0, 0)) (by (with_reducible repeat (first | refine blk_drewN ?_ _ | refine blk_drew ?_ | refine blk_alloc ?_ _)); exact BK625.out) hb); have n4_ := Aside0.mk (blk_below (g := gb660) (o := .cells #[.int .i64 t657, .int .i64 t658] 23 (0, 0)) (by (with_reducible repeat (first | refine blk_drewN ?_ _ | refine blk_drew ?_ | refine blk_alloc ?_ _)); exact BK660.out) hb); have n5_ := Aside0.mk (below_step (by repeat (first | (with_reducible first | exact HB.out | apply below_alloc | apply pw_below_drewN | apply below_drew1 | refine below_set ?_ GE621.out | refine below_set ?_ GE622.out | refine below_set ?_ GE625.out | refine below_set ?_ GE660.out) | exact HB.out)) hb); have n6_ := Aside0.mk (hbox); have n7_ := Aside0.mk ((by rw [hg]; exact (below_size (by repeat (first | (with_reducible first | exact HB.out | apply below_alloc | apply pw_below_drewN | apply below_drew1 | refine below_set ?_ GE621.out | refine below_set ?_ GE622.out | refine below_set ?_ GE625.out | refine below_set ?_ GE660.out) | exact HB.out))) : w.heap.size ≤ gb664)); have n8_ := Aside0.mk ((by rw [hg]; exact (below_size (by repeat (first | (with_reducible first | exact HB.out | apply below_alloc | apply pw_below_drewN | apply below_drew1 | refine below_set ?_ GE621.out | refine below_set ?_ GE622.out | refine below_set ?_ GE625.out | refine below_set ?_ GE660.out) | exact HB.out))) : w.heap.size ≤ gb664)); have n9_ := Aside0.mk ((by rw [hg]; exact Nat.ne_of_lt (blk_lt (g := gb621) (o := .cells #[.int .i64 a0_0, .int .i64 a0_1, .int .i64 a0_2, .int .i64 a0_3, .int .i64 a0_4, .int .i64 a0_5, .slice A0_6 l0_6.length c0_6, .slice (some ad650) l0_7.length c0_7] 44 (0, 0)) (by (with_reducible repeat (first | refine blk_drewN ?_ _ | refine blk_drew ?_ | refine blk_alloc ?_ _)); exact BK621.out)) : gb621 ≠ gb664)); have n10_ := Aside0.mk ((by rw [hg]; exact Nat.ne_of_gt (blk_lt (g := gb621) (o := .cells #[.int .i64 a0_0, .int .i64 a0_1, .int .i64 a0_2, .int .i64 a0_3, .int .i64 a0_4, .int .i64 a0_5, .slice A0_6 l0_6.length c0_6, .slice (some ad650) l0_7.length c0_7] 44 (0, 0)) (by (with_reducible repeat (first | refine blk_drewN ?_ _ | refine blk_drew ?_ | refine blk_alloc ?_ _)); exact BK621.out)) : gb664 ≠ gb621)); have n11_ := Aside0.mk ((by rw [hg]; exact Nat.ne_of_lt (blk_lt (g := gb622) (o := .cells #[.int .i64 a1_0, .int .i64 a1_1, .int .i64 a1_2, .int .i64 a1_3] 65 (0, 0)) (by (with_reducible repeat (first | refine blk_drewN ?_ _ | refine blk_drew ?_ | refine blk_alloc ?_ _)); exact BK622.out)) : gb622 ≠ gb664)); have n12_ := Aside0.mk ((by rw [hg]; exact Nat.ne_of_gt (blk_lt (g := gb622) (o := .cells #[.int .i64 a1_0, .int .i64 a1_1, .int .i64 a1_2, .int .i64 a1_3] 65 (0, 0)) (by (with_reducible repeat (first | refine blk_drewN ?_ _ | refine blk_drew ?_ | refine blk_alloc ?_ _)); exact BK622.out)) : gb664 ≠ gb622)); have n13_ := Aside0.mk ((by rw [hg]; exact Nat.ne_of_lt (blk_lt (g := gb625) (o := .cells #[.int .i64 a0_0, .int .i64 a0_1, .int .i64 a0_2, .int .i64 a0_3, .int .i64 a0_4, .int .i64 a0_5, .slice A0_6 l0_6.length c0_6, .slice (some ⟨go99, 0, none⟩) y647.length co113] 44 (0, 0)) (by (with_reducible repeat (first | refine blk_drewN ?_ _ | refine blk_drew ?_ | refine blk_alloc ?_ _)); exact BK625.out)) : gb625 ≠ gb664)); have n14_ := Aside0.mk ((by rw [hg]; exact Nat.ne_of_gt (blk_lt (g := gb625) (o := .cells #[.int .i64 a0_0, .int .i64 a0_1, .int .i64 a0_2, .int .i64 a0_3, .int .i64 a0_4, .int .i64 a0_5, .slice A0_6 l0_6.length c0_6, .slice (some ⟨go99, 0, none⟩) y647.length co113] 44 (0, 0)) (by (with_reducible repeat (first | refine blk_drewN ?_ _ | refine blk_drew ?_ | refine blk_alloc ?_ _)); exact BK625.out)) : gb664 ≠ gb625)); have n15_ := Aside0.mk ((by rw [hg]; exact Nat.ne_of_lt (blk_lt (g := gb660) (o := .cells #[.int .i64 t657, .int .i64 t658] 23 (0, 0)) (by (with_reducible repeat (first | refine blk_drewN ?_ _ | refine blk_drew ?_ | refine blk_alloc ?_ _)); exact BK660.out)) : gb660 ≠ gb664)); have n16_ := Aside0.mk ((by rw [hg]; exact Nat.ne_of_gt (blk_lt (g := gb660) (o := .cells #[.int .i64 t657, .int .i64 t658] 23 (0, 0)) (by (with_reducible repeat (first | refine blk_drewN ?_ _ | refine blk_drew ?_ | refine blk_alloc ?_ _)); exact BK660.out)) : gb664 ≠ gb660)); clear HO649; clear BK621; clear BK622; clear BK625; clear BK660; clear HB; have HO649 := n0_; have BK621 := n1_; have BK622 := n2_; have BK625 := n3_; have BK660 := n4_; have HB := n5_; have BK664 := n6_; have GW664 := n7_; have GE664 := n8_; have NB621_664 := n9_; have NB664_621 := n10_; have NB622_664 := n11_; have NB664_622 := n12_; have NB625_664 := n13_; have NB664_625 := n14_; have NB660_664 := n15_; have NB664_660 := n16_; clear n0_ n1_ n2_ n3_ n4_ n5_ n6_ n7_ n8_ n9_ n10_ n11_ n12_ n13_ n14_ n15_ n16_; clear hb hbox hg; have hnb131 := NB664_621.out; have hnc131 := NB621_664.out; have hnb132 := NB664_622.out; have hnc132 := NB622_664.out; have hnb133 := NB664_625.out; have hnc133 := NB625_664.out; have hnb134 := NB664_660.out; have hnc134 := NB660_664.out; have hcz135_0 : w130.cell? ⟨gb664, 0, none⟩ = some (.int .i64 0) := (blk_cell BK664.out 0).trans rfl; have hcz135_1 : w130.cell? ⟨gb664, 1, none⟩ = some (.int .i64 0) := (blk_cell BK664.out 1).trans rfl; have hfz135_0 := blk_frozen BK664.out 0; have hfz135_1 := blk_frozen BK664.out 1))
                  (try simp only [Act.put, List.setIfInBounds_toArray, List.set_cons_zero, List.set_cons_succ])
                  go_cut [110] (fun v110 wc => ∃ (kq : Nat) (x110_102 : Bool), v110 = .bool x110_102 ∧ Aside0 (remontoirlaw04_ScaleWider.j2 kq t659 t663 x110_102 t657 t658 t661 t662 = some r) ∧ Aside0 (kq ≤ kj5) ∧ Aside0 (Kd.R k71 71 wc w.heap.size (fun _ => True) (.slice (some ⟨go99, 0, none⟩) y647.length co113) y655) ∧ Aside0 (wc.heap[gb621]? = some (.cells #[.int .i64 a0_0, .int .i64 a0_1, .int .i64 a0_2, .int .i64 a0_3, .int .i64 a0_4, .int .i64 a0_5, (.slice A0_6 l0_6.length c0_6), (.slice (some ad650) l0_7.length c0_7)] 44 (0, 0))) ∧ Aside0 (wc.heap[gb622]? = some (.cells #[.int .i64 a1_0, .int .i64 a1_1, .int .i64 a1_2, .int .i64 a1_3] 65 (0, 0))) ∧ Aside0 (wc.heap[gb625]? = some (.cells #[.int .i64 a0_0, .int .i64 a0_1, .int .i64 a0_2, .int .i64 a0_3, .int .i64 a0_4, .int .i64 a0_5, (.slice A0_6 l0_6.length c0_6), (.slice (some ⟨go99, 0, none⟩) y647.length co113)] 44 (0, 0))) ∧ Aside0 (wc.heap[gb660]? = some (.cells #[.int .i64 t657, .int .i64 t658] 23 (0, 0))) ∧ Aside0 (wc.heap[gb664]? = some (.cells #[.int .i64 t661, .int .i64 t662] 23 (0, 0))) ∧ Aside0 (Below w.heap.size w wc))
                  case first =>
                    have H := HC103.out
                    clear HC103
                    have H' := Aside0.mk H
                    clear H
                    go_wp2
                    go_meet
                    case rel => exact ⟨_, ((t659 != 0)), (by first | rfl | (simp; done) | (simp [*]; done)), H', ⟨by have := HJ5.out; first | omega | exact Nat.le_refl _⟩, ⟨by (with_reducible repeat (first | apply Kd.R_alloc | apply Kd.R_drewN | apply Kd.R_drew)); exact Kd.R_mono (Kd.R_far (p := ⟨gb664, 1, none⟩) (Kd.R_far (p := ⟨gb664, 0, none⟩) (Kd.R_types HO649.out BK664.out (by decide)) (fun _ hk => hk.2) (.int .i64 t661)) (fun _ hk => hk.2) (.int .i64 t662)) (fun _ hk => trivial)⟩, ⟨by (with_reducible repeat (first | refine blk_drewN ?_ _ | refine blk_drew ?_ | refine blk_alloc ?_ _)); refine blk_far ?_ NB621_664.out _; (with_reducible repeat (first | refine blk_drewN ?_ _ | refine blk_drew ?_ | refine blk_alloc ?_ _)); refine blk_far ?_ NB621_664.out _; (with_reducible repeat (first | refine blk_drewN ?_ _ | refine blk_drew ?_ | refine blk_alloc ?_ _)); exact BK621.out⟩, ⟨by (with_reducible repeat (first | refine blk_drewN ?_ _ | refine blk_drew ?_ | refine blk_alloc ?_ _)); refine blk_far ?_ NB622_664.out _; (with_reducible repeat (first | refine blk_drewN ?_ _ | refine blk_drew ?_ | refine blk_alloc ?_ _)); refine blk_far ?_ NB622_664.out _; (with_reducible repeat (first | refine blk_drewN ?_ _ | refine blk_drew ?_ | refine blk_alloc ?_ _)); exact BK622.out⟩, ⟨by (with_reducible repeat (first | refine blk_drewN ?_ _ | refine blk_drew ?_ | refine blk_alloc ?_ _)); refine blk_far ?_ NB625_664.out _; (with_reducible repeat (first | refine blk_drewN ?_ _ | refine blk_drew ?_ | refine blk_alloc ?_ _)); refine blk_far ?_ NB625_664.out _; (with_reducible repeat (first | refine blk_drewN ?_ _ | refine blk_drew ?_ | refine blk_alloc ?_ _)); exact BK625.out⟩, ⟨by (with_reducible repeat (first | refine blk_drewN ?_ _ | refine blk_drew ?_ | refine blk_alloc ?_ _)); refine blk_far ?_ NB660_664.out _; (with_reducible repeat (first | refine blk_drewN ?_ _ | refine blk_drew ?_ | refine blk_alloc ?_ _)); refine blk_far ?_ NB660_664.out _; (with_reducible repeat (first | refine blk_drewN ?_ _ | refine blk_drew ?_ | refine blk_alloc ?_ _)); exact BK660.out⟩, ⟨by (with_reducible repeat (first | refine blk_drewN ?_ _ | refine blk_drew ?_ | refine blk_alloc ?_ _)); refine blk_put (cs := #[.int .i64 t661, .int .i64 0]) ?_ 1 _ rfl; (with_reducible repeat (first | refine blk_drewN ?_ _ | refine blk_drew ?_ | refine blk_alloc ?_ _)); refine blk_put (cs := #[.int .i64 0, .int .i64 0]) ?_ 0 _ rfl; (with_reducible repeat (first | refine blk_drewN ?_ _ | refine blk_drew ?_ | refine blk_alloc ?_ _)); exact BK664.out⟩, ⟨by repeat (first | (with_reducible first | exact HB.out | apply below_alloc | apply pw_below_drewN | apply below_drew1 | refine below_set ?_ GE621.out | refine below_set ?_ GE622.out | refine below_set ?_ GE625.out | refine below_set ?_ GE660.out | refine below_set ?_ GE664.out) | exact HB.out)⟩⟩
                  case rest =>
                    as_aux_lemma =>
                    clear HC103
                    try clear c1
                    try clear c2
                    try clear p2
                    try clear c3
                    try clear c4
                    try clear c6
                    try clear p6
                    try clear q6
                    try clear hx6
                    try clear c7
                    try clear c8
                    try clear c9
                    try clear p9
                    try clear q9
                    try clear hx9
                    try clear hf9
                    try clear c10
                    try clear c11
                    try clear c12
                    try clear c13
                    try clear c27
                    try clear c28
                    try clear c38
                    try clear c49
                    try clear p64
                    try clear p65
                    try clear q65
                    try clear hx65
                    try clear c66
                    try clear c66b0
                    try clear c66b1
                    try clear c68
                    try clear c70
                    try clear c71
                    try clear c72
                    try clear c73
                    try clear c75
                    try clear c76
                    try clear c77
                    try clear c81
                    try clear c82
                    try clear c83
                    try clear c84
                    try clear c86
                    try clear c87
                    try clear c88
                    try clear c92
                    try clear c93
                    try clear c93b0
                    try clear c94
                    try clear c94b0
                    try clear c98
                    try clear c98b0
                    try clear c99
                    try clear p99
                    try clear q99
                    try clear hx99
                    try clear hf99
                    try clear c104
                    try clear c105
                    try clear c107
                    try clear c118
                    try clear c124
                    try clear c125
                    try clear c126
                    try clear c131
                    try clear c132
                    try clear c133
                    try clear c134
                    try clear hcz106_0
                    try clear hcz106_1
                    try clear hcz106_2
                    try clear hcz106_3
                    try clear hcz108_0
                    try clear hcz108_1
                    try clear hcz108_2
                    try clear hcz108_3
                    try clear hcz108_4
                    try clear hcz108_5
                    try clear hcz108_6
                    try clear hcz108_7
                    try clear hcz111_0
                    try clear hcz111_1
                    try clear hcz111_2
                    try clear hcz111_3
                    try clear hcz111_4
                    try clear hcz111_5
                    try clear hcz111_6
                    try clear hcz111_7
                    try clear hcz114_0
                    try clear hcz114_1
                    try clear hcz114_2
                    try clear hcz114_3
                    try clear hcz114_4
                    try clear hcz114_5
                    try clear hcz114_6
                    try clear hcz114_7
                    try clear hcz120_0
                    try clear hcz120_1
                    try clear hcz120_2
                    try clear hcz120_3
                    try clear hcz121_0
                    try clear hcz121_1
                    try clear hcz121_2
                    try clear hcz121_3
                    try clear hcz121_4
                    try clear hcz121_5
                    try clear hcz121_6
                    try clear hcz121_7
                    try clear hcz127_0
                    try clear hcz127_1
                    try clear hcz128_0
                    try clear hcz128_1
                    try clear hcz128_2
                    try clear hcz128_3
                    try clear hcz128_4
                    try clear hcz128_5
                    try clear hcz128_6
                    try clear hcz128_7
                    try clear hcz135_0
                    try clear hcz135_1
                    try clear hcz74_0
                    try clear hcz74_1
                    try clear hcz78_0
                    try clear hcz78_1
                    try clear hcz85_0
                    try clear hcz85_1
                    try clear hcz89_0
                    try clear hcz89_1
                    try clear hfz106_0
                    try clear hfz106_1
                    try clear hfz106_2
                    try clear hfz106_3
                    try clear hfz108_0
                    try clear hfz108_1
                    try clear hfz108_2
                    try clear hfz108_3
                    try clear hfz108_4
                    try clear hfz108_5
                    try clear hfz108_6
                    try clear hfz108_7
                    try clear hfz111_0
                    try clear hfz111_1
                    try clear hfz111_2
                    try clear hfz111_3
                    try clear hfz111_4
                    try clear hfz111_5
                    try clear hfz111_6
                    try clear hfz111_7
                    try clear hfz114_0
                    try clear hfz114_1
                    try clear hfz114_2
                    try clear hfz114_3
                    try clear hfz114_4
                    try clear hfz114_5
                    try clear hfz114_6
                    try clear hfz114_7
                    try clear hfz120_0
                    try clear hfz120_1
                    try clear hfz120_2
                    try clear hfz120_3
                    try clear hfz121_0
                    try clear hfz121_1
                    try clear hfz121_2
                    try clear hfz121_3
                    try clear hfz121_4
                    try clear hfz121_5
                    try clear hfz121_6
                    try clear hfz121_7
                    try clear hfz127_0
                    try clear hfz127_1
                    try clear hfz128_0
                    try clear hfz128_1
                    try clear hfz128_2
                    try clear hfz128_3
                    try clear hfz128_4
                    try clear hfz128_5
                    try clear hfz128_6
                    try clear hfz128_7
                    try clear hfz135_0
                    try clear hfz135_1
                    try clear hfz74_0
                    try clear hfz74_1
                    try clear hfz78_0
                    try clear hfz78_1
                    try clear hfz85_0
                    try clear hfz85_1
                    try clear hfz89_0
                    try clear hfz89_1
                    try clear hx650_0
                    try clear hx650_1
                    try clear hx650_2
                    try clear hx651_0
                    try clear hx651_1
                    try clear hx651_2
                    try clear hx652_0
                    try clear hx652_1
                    try clear hx652_2
                    try clear hx99_0
                    try clear hx99_1
                    try clear hx99_2
                    try clear p650
                    try clear p651
                    try clear p652
                    try clear p99
                    try clear q650
                    try clear q651
                    try clear q652
                    try clear q99
                    obtain ⟨kq, x110_102, rfl, HA, HJ102, HO_626007, BK621, BK622, BK625, BK660, BK664, HB⟩ := hcut
                    have hl626007_102 := (Kd.R_reads' HO_626007.out).1
                    rw [hl626007_102] at HO_626007
                    (try simp only [hl626007_102])
                    (try simp only [hl626007_102] at BK621)
                    (try simp only [hl626007_102] at BK622)
                    (try simp only [hl626007_102] at BK625)
                    (try simp only [hl626007_102] at BK660)
                    (try simp only [hl626007_102] at BK664)
                    cases kq with
                    | zero => exact absurd HA.out (by simp [remontoirlaw04_ScaleWider.j2])
                    | succ kj102 =>
                      have H := HA.out
                      clear HA
                      simp only [remontoirlaw04_ScaleWider.j2] at H
                      by_cases c136 : x110_102 = true
                      · subst c136
                        have H1 : (if t659 = 42 then (if t663 = 0 then ((remontoirlaw04_works.f).bind fun t665 => (some t665)) else (if t663 = t659 then ((remontoirlaw04_works.f).bind fun t666 => (some t666)) else (some false))) else (some false)) = some r := by rw [if_pos rfl] at H; exact H
                        clear H
                        have H := H1
                        clear H1
                        by_cases c137 : t659 = 42
                        · rw [if_pos c137] at H
                          have c137b0 : (t659 == 42) = true := beq_iff_eq.mpr c137
                          have c137b1 : (t659 != 42) = false := bne_eq_false_iff_eq.mpr c137
                          clear c137
                          by_cases c138 : t663 = 0
                          · rw [if_pos c138] at H
                            have c138b0 : (t663 == 0) = true := beq_iff_eq.mpr c138
                            have c138b1 : (t663 != 0) = false := bne_eq_false_iff_eq.mpr c138
                            clear c138
                            replace H := Option.bind_eq_some_iff.mp H
                            obtain ⟨t665, A1390, H⟩ := H
                            replace H : (some t665) = some r := H
                            have A139 := Aside0.mk A1390
                            clear A1390
                            obtain rfl := Option.some.inj H
                            go_wp2_with (first | (go_at_call 21; (with_reducible refine (remontoirlaw04_works.calls  t665 _ ?side1 A139.out).mono ?_); (case side1 => exact Go.Proofs.YtidnopmjhhmedaaDoor.Ways.below HWays.out (by repeat (first | (with_reducible first | exact HB.out | apply below_alloc | apply pw_below_drewN | apply below_drew1 | refine below_set ?_ GE621.out | refine below_set ?_ GE622.out | refine below_set ?_ GE625.out | refine below_set ?_ GE660.out | refine below_set ?_ GE664.out) | exact HB.out))); rintro e w140 ⟨rfl, hb⟩; have n0_ := Aside0.mk (Kd.R_below (by (with_reducible repeat (first | apply Kd.R_alloc | apply Kd.R_drewN | apply Kd.R_drew)); exact HO_626007.out) hb); have n1_ := Aside0.mk (blk_below (g := gb621) (o := .cells #[.int .i64 a0_0, .int .i64 a0_1, .int .i64 a0_2, .int .i64 a0_3, .int .i64 a0_4, .int .i64 a0_5, .slice A0_6 l0_6.length c0_6, .slice (some ad650) l0_7.length c0_7] 44 (0, 0)) (by (with_reducible repeat (first | refine blk_drewN ?_ _ | refine blk_drew ?_ | refine blk_alloc ?_ _)); exact BK621.out) hb); have n2_ := Aside0.mk (blk_below (g := gb622) (o := .cells #[.int .i64 a1_0, .int .i64 a1_1, .int .i64 a1_2, .int .i64 a1_3] 65 (0, 0)) (by (with_reducible repeat (first | refine blk_drewN ?_ _ | refine blk_drew ?_ | refine blk_alloc ?_ _)); exact BK622.out) hb); have n3_ := Aside0.mk (blk_below (g := gb625) (o := .cells #[.int .i64 a0_0, .int .i64 a0_1, .int .i64 a0_2, .int .i64 a0_3, .int .i64 a0_4, .int .i64 a0_5, .slice A0_6 l0_6.length c0_6, .slice (some ⟨go99, 0, none⟩) y655.length co113] 44 (0, 0)) (by (with_reducible repeat (first | refine blk_drewN ?_ _ | refine blk_drew ?_ | refine blk_alloc ?_ _)); exact BK625.out) hb); have n4_ := Aside0.mk (blk_below (g := gb660) (o := .cells #[.int .i64 t657, .int .i64 t658] 23 (0, 0)) (by (with_reducible repeat (first | refine blk_drewN ?_ _ | refine blk_drew ?_ | refine blk_alloc ?_ _)); exact BK660.out) hb); have n5_ := Aside0.mk (blk_below (g := gb664) (o := .cells #[.int .i64 t661, .int .i64 t662] 23 (0, 0)) (by (with_reducible repeat (first | refine blk_drewN ?_ _ | refine blk_drew ?_ | refine blk_alloc ?_ _)); exact BK664.out) hb); have n6_ := Aside0.mk (below_step (by repeat (first | (with_reducible first | exact HB.out | apply below_alloc | apply pw_below_drewN | apply below_drew1 | refine below_set ?_ GE621.out | refine below_set ?_ GE622.out | refine below_set ?_ GE625.out | refine below_set ?_ GE660.out | refine below_set ?_ GE664.out) | exact HB.out)) hb); clear HO_626007; clear BK621; clear BK622; clear BK625; clear BK660; clear BK664; clear HB; have HO_626007 := n0_; have BK621 := n1_; have BK622 := n2_; have BK625 := n3_; have BK660 := n4_; have BK664 := n5_; have HB := n6_; clear n0_ n1_ n2_ n3_ n4_ n5_ n6_; (try clear hb); (try clear hb2); (try clear hk); (try clear hi)))
                            go_ret
                            exact ⟨by first | rfl | (simp [errW_none, errW_some] <;> rfl) | (simp only [← hji95, ← hji96]; first | rfl | (simp [errW_none, errW_some] <;> rfl)) | (simp [*, errW_none, errW_some] <;> rfl), by repeat (first | (with_reducible first | exact HB.out | apply below_alloc | apply pw_below_drewN | apply below_drew1 | refine below_set ?_ GE621.out | refine below_set ?_ GE622.out | refine below_set ?_ GE625.out | refine below_set ?_ GE660.out | refine below_set ?_ GE664.out) | exact HB.out)⟩
                          · rw [if_neg c138] at H
                            have c138b0 : (t663 == 0) = false := beq_eq_false_iff_ne.mpr c138
                            have c138b1 : (t663 != 0) = true := bne_iff_ne.mpr c138
                            by_cases c141 : t663 = t659
                            · rw [if_pos c141] at H
                              have c141b0 : (t663 == t659) = true := beq_iff_eq.mpr c141
                              have c141b1 : (t663 != t659) = false := bne_eq_false_iff_eq.mpr c141
                              clear c141
                              replace H := Option.bind_eq_some_iff.mp H
                              obtain ⟨t666, A1420, H⟩ := H
                              replace H : (some t666) = some r := H
                              have A142 := Aside0.mk A1420
                              clear A1420
                              obtain rfl := Option.some.inj H
                              go_wp2_with (first | (go_at_call 21; (with_reducible refine (remontoirlaw04_works.calls  t666 _ ?side1 A142.out).mono ?_); (case side1 => exact Go.Proofs.YtidnopmjhhmedaaDoor.Ways.below HWays.out (by repeat (first | (with_reducible first | exact HB.out | apply below_alloc | apply pw_below_drewN | apply below_drew1 | refine below_set ?_ GE621.out | refine below_set ?_ GE622.out | refine below_set ?_ GE625.out | refine below_set ?_ GE660.out | refine below_set ?_ GE664.out) | exact HB.out))); rintro e w143 ⟨rfl, hb⟩; have n0_ := Aside0.mk (Kd.R_below (by (with_reducible repeat (first | apply Kd.R_alloc | apply Kd.R_drewN | apply Kd.R_drew)); exact HO_626007.out) hb); have n1_ := Aside0.mk (blk_below (g := gb621) (o := .cells #[.int .i64 a0_0, .int .i64 a0_1, .int .i64 a0_2, .int .i64 a0_3, .int .i64 a0_4, .int .i64 a0_5, .slice A0_6 l0_6.length c0_6, .slice (some ad650) l0_7.length c0_7] 44 (0, 0)) (by (with_reducible repeat (first | refine blk_drewN ?_ _ | refine blk_drew ?_ | refine blk_alloc ?_ _)); exact BK621.out) hb); have n2_ := Aside0.mk (blk_below (g := gb622) (o := .cells #[.int .i64 a1_0, .int .i64 a1_1, .int .i64 a1_2, .int .i64 a1_3] 65 (0, 0)) (by (with_reducible repeat (first | refine blk_drewN ?_ _ | refine blk_drew ?_ | refine blk_alloc ?_ _)); exact BK622.out) hb); have n3_ := Aside0.mk (blk_below (g := gb625) (o := .cells #[.int .i64 a0_0, .int .i64 a0_1, .int .i64 a0_2, .int .i64 a0_3, .int .i64 a0_4, .int .i64 a0_5, .slice A0_6 l0_6.length c0_6, .slice (some ⟨go99, 0, none⟩) y655.length co113] 44 (0, 0)) (by (with_reducible repeat (first | refine blk_drewN ?_ _ | refine blk_drew ?_ | refine blk_alloc ?_ _)); exact BK625.out) hb); have n4_ := Aside0.mk (blk_below (g := gb660) (o := .cells #[.int .i64 t657, .int .i64 t658] 23 (0, 0)) (by (with_reducible repeat (first | refine blk_drewN ?_ _ | refine blk_drew ?_ | refine blk_alloc ?_ _)); exact BK660.out) hb); have n5_ := Aside0.mk (blk_below (g := gb664) (o := .cells #[.int .i64 t661, .int .i64 t662] 23 (0, 0)) (by (with_reducible repeat (first | refine blk_drewN ?_ _ | refine blk_drew ?_ | refine blk_alloc ?_ _)); exact BK664.out) hb); have n6_ := Aside0.mk (below_step (by repeat (first | (with_reducible first | exact HB.out | apply below_alloc | apply pw_below_drewN | apply below_drew1 | refine below_set ?_ GE621.out | refine below_set ?_ GE622.out | refine below_set ?_ GE625.out | refine below_set ?_ GE660.out | refine below_set ?_ GE664.out) | exact HB.out)) hb); clear HO_626007; clear BK621; clear BK622; clear BK625; clear BK660; clear BK664; clear HB; have HO_626007 := n0_; have BK621 := n1_; have BK622 := n2_; have BK625 := n3_; have BK660 := n4_; have BK664 := n5_; have HB := n6_; clear n0_ n1_ n2_ n3_ n4_ n5_ n6_; (try clear hb); (try clear hb2); (try clear hk); (try clear hi)))
                              go_ret
                              exact ⟨by first | rfl | (simp [errW_none, errW_some] <;> rfl) | (simp only [← hji95, ← hji96]; first | rfl | (simp [errW_none, errW_some] <;> rfl)) | (simp [*, errW_none, errW_some] <;> rfl), by repeat (first | (with_reducible first | exact HB.out | apply below_alloc | apply pw_below_drewN | apply below_drew1 | refine below_set ?_ GE621.out | refine below_set ?_ GE622.out | refine below_set ?_ GE625.out | refine below_set ?_ GE660.out | refine below_set ?_ GE664.out) | exact HB.out)⟩
                            · rw [if_neg c141] at H
                              have c141b0 : (t663 == t659) = false := beq_eq_false_iff_ne.mpr c141
                              have c141b1 : (t663 != t659) = true := bne_iff_ne.mpr c141
                              obtain rfl := Option.some.inj H
                              go_wp2
                              go_ret
                              exact ⟨by first | rfl | (simp [errW_none, errW_some] <;> rfl) | (simp only [← hji95, ← hji96]; first | rfl | (simp [errW_none, errW_some] <;> rfl)) | (simp [*, errW_none, errW_some] <;> rfl), by repeat (first | (with_reducible first | exact HB.out | apply below_alloc | apply pw_below_drewN | apply below_drew1 | refine below_set ?_ GE621.out | refine below_set ?_ GE622.out | refine below_set ?_ GE625.out | refine below_set ?_ GE660.out | refine below_set ?_ GE664.out) | exact HB.out)⟩
                        · rw [if_neg c137] at H
                          have c137b0 : (t659 == 42) = false := beq_eq_false_iff_ne.mpr c137
                          have c137b1 : (t659 != 42) = true := bne_iff_ne.mpr c137
                          obtain rfl := Option.some.inj H
                          go_wp2
                          go_ret
                          exact ⟨by first | rfl | (simp [errW_none, errW_some] <;> rfl) | (simp only [← hji95, ← hji96]; first | rfl | (simp [errW_none, errW_some] <;> rfl)) | (simp [*, errW_none, errW_some] <;> rfl), by repeat (first | (with_reducible first | exact HB.out | apply below_alloc | apply pw_below_drewN | apply below_drew1 | refine below_set ?_ GE621.out | refine below_set ?_ GE622.out | refine below_set ?_ GE625.out | refine below_set ?_ GE660.out | refine below_set ?_ GE664.out) | exact HB.out)⟩
                      · replace c136 := Bool.eq_false_iff.mpr c136
                        subst c136
                        have H1 : (if t663 = 0 then ((remontoirref00_Within.f t657 t658 t661 t662).bind fun t667 => (if t667 = true then ((remontoirlaw04_works.f).bind fun t668 => (some t668)) else (some false))) else (some false)) = some r := by rw [if_neg (show ¬ (false = true) by decide)] at H; exact H
                        clear H
                        have H := H1
                        clear H1
                        by_cases c144 : t663 = 0
                        · rw [if_pos c144] at H
                          have c144b0 : (t663 == 0) = true := beq_iff_eq.mpr c144
                          have c144b1 : (t663 != 0) = false := bne_eq_false_iff_eq.mpr c144
                          clear c144
                          replace H := Option.bind_eq_some_iff.mp H
                          obtain ⟨t667, A1450, H⟩ := H
                          replace H : (if t667 = true then ((remontoirlaw04_works.f).bind fun t668 => (some t668)) else (some false)) = some r := H
                          have A145 := Aside0.mk A1450
                          clear A1450
                          by_cases c146 : t667 = true
                          · subst c146
                            have H1 : ((remontoirlaw04_works.f).bind fun t668 => (some t668)) = some r := by rw [if_pos rfl] at H; exact H
                            clear H
                            have H := H1
                            clear H1
                            replace H := Option.bind_eq_some_iff.mp H
                            obtain ⟨t668, A1470, H⟩ := H
                            replace H : (some t668) = some r := H
                            have A147 := Aside0.mk A1470
                            clear A1470
                            obtain rfl := Option.some.inj H
                            have hnb148 := NB660_621.out
                            have hnc148 := NB621_660.out
                            have hnb149 := NB660_622.out
                            have hnc149 := NB622_660.out
                            have hnb150 := NB660_625.out
                            have hnc150 := NB625_660.out
                            have hnb151 := NB660_664.out
                            have hnc151 := NB664_660.out
                            have hcz152_0 : wc.cell? ⟨gb660, 0, none⟩ = some (.int .i64 t657) := (blk_cell BK660.out 0).trans rfl
                            have hcz152_1 : wc.cell? ⟨gb660, 1, none⟩ = some (.int .i64 t658) := (blk_cell BK660.out 1).trans rfl
                            have hfz152_0 := blk_frozen BK660.out 0
                            have hfz152_1 := blk_frozen BK660.out 1
                            have hnb153 := NB664_621.out
                            have hnc153 := NB621_664.out
                            have hnb154 := NB664_622.out
                            have hnc154 := NB622_664.out
                            have hnb155 := NB664_625.out
                            have hnc155 := NB625_664.out
                            have hcz156_0 : wc.cell? ⟨gb664, 0, none⟩ = some (.int .i64 t661) := (blk_cell BK664.out 0).trans rfl
                            have hcz156_1 : wc.cell? ⟨gb664, 1, none⟩ = some (.int .i64 t662) := (blk_cell BK664.out 1).trans rfl
                            have hfz156_0 := blk_frozen BK664.out 0
                            have hfz156_1 := blk_frozen BK664.out 1
                            go_wp2_with (first | (go_at_call 45; (with_reducible refine (remontoirref00_Within.calls t657 t658 t661 t662 true _ A145.out).mono ?_); rintro e w157 ⟨rfl, hb⟩; have n0_ := Aside0.mk (Kd.R_below (by (with_reducible repeat (first | apply Kd.R_alloc | apply Kd.R_drewN | apply Kd.R_drew)); exact HO_626007.out) hb); have n1_ := Aside0.mk (blk_below (g := gb621) (o := .cells #[.int .i64 a0_0, .int .i64 a0_1, .int .i64 a0_2, .int .i64 a0_3, .int .i64 a0_4, .int .i64 a0_5, .slice A0_6 l0_6.length c0_6, .slice (some ad650) l0_7.length c0_7] 44 (0, 0)) (by (with_reducible repeat (first | refine blk_drewN ?_ _ | refine blk_drew ?_ | refine blk_alloc ?_ _)); exact BK621.out) hb); have n2_ := Aside0.mk (blk_below (g := gb622) (o := .cells #[.int .i64 a1_0, .int .i64 a1_1, .int .i64 a1_2, .int .i64 a1_3] 65 (0, 0)) (by (with_reducible repeat (first | refine blk_drewN ?_ _ | refine blk_drew ?_ | refine blk_alloc ?_ _)); exact BK622.out) hb); have n3_ := Aside0.mk (blk_below (g := gb625) (o := .cells #[.int .i64 a0_0, .int .i64 a0_1, .int .i64 a0_2, .int .i64 a0_3, .int .i64 a0_4, .int .i64 a0_5, .slice A0_6 l0_6.length c0_6, .slice (some ⟨go99, 0, none⟩) y655.length co113] 44 (0, 0)) (by (with_reducible repeat (first | refine blk_drewN ?_ _ | refine blk_drew ?_ | refine blk_alloc ?_ _)); exact BK625.out) hb); have n4_ := Aside0.mk (blk_below (g := gb660) (o := .cells #[.int .i64 t657, .int .i64 t658] 23 (0, 0)) (by (with_reducible repeat (first | refine blk_drewN ?_ _ | refine blk_drew ?_ | refine blk_alloc ?_ _)); exact BK660.out) hb); have n5_ := Aside0.mk (blk_below (g := gb664) (o := .cells #[.int .i64 t661, .int .i64 t662] 23 (0, 0)) (by (with_reducible repeat (first | refine blk_drewN ?_ _ | refine blk_drew ?_ | refine blk_alloc ?_ _)); exact BK664.out) hb); have n6_ := Aside0.mk (below_step (by repeat (first | (with_reducible first | exact HB.out | apply below_alloc | apply pw_below_drewN | apply below_drew1 | refine below_set ?_ GE621.out | refine below_set ?_ GE622.out | refine below_set ?_ GE625.out | refine below_set ?_ GE660.out | refine below_set ?_ GE664.out) | exact HB.out)) hb); clear HO_626007; clear BK621; clear BK622; clear BK625; clear BK660; clear BK664; clear HB; have HO_626007 := n0_; have BK621 := n1_; have BK622 := n2_; have BK625 := n3_; have BK660 := n4_; have BK664 := n5_; have HB := n6_; clear n0_ n1_ n2_ n3_ n4_ n5_ n6_; (try clear hb); (try clear hb2); (try clear hk); (try clear hi)) | (go_at_call 21; (with_reducible refine (remontoirlaw04_works.calls  t668 _ ?side1 A147.out).mono ?_); (case side1 => exact Go.Proofs.YtidnopmjhhmedaaDoor.Ways.below HWays.out (by repeat (first | (with_reducible first | exact HB.out | apply below_alloc | apply pw_below_drewN | apply below_drew1 | refine below_set ?_ GE621.out | refine below_set ?_ GE622.out | refine below_set ?_ GE625.out | refine below_set ?_ GE660.out | refine below_set ?_ GE664.out) | exact HB.out))); rintro e w158 ⟨rfl, hb⟩; have n0_ := Aside0.mk (Kd.R_below (by (with_reducible repeat (first | apply Kd.R_alloc | apply Kd.R_drewN | apply Kd.R_drew)); exact HO_626007.out) hb); have n1_ := Aside0.mk (blk_below (g := gb621) (o := .cells #[.int .i64 a0_0, .int .i64 a0_1, .int .i64 a0_2, .int .i64 a0_3, .int .i64 a0_4, .int .i64 a0_5, .slice A0_6 l0_6.length c0_6, .slice (some ad650) l0_7.length c0_7] 44 (0, 0)) (by (with_reducible repeat (first | refine blk_drewN ?_ _ | refine blk_drew ?_ | refine blk_alloc ?_ _)); exact BK621.out) hb); have n2_ := Aside0.mk (blk_below (g := gb622) (o := .cells #[.int .i64 a1_0, .int .i64 a1_1, .int .i64 a1_2, .int .i64 a1_3] 65 (0, 0)) (by (with_reducible repeat (first | refine blk_drewN ?_ _ | refine blk_drew ?_ | refine blk_alloc ?_ _)); exact BK622.out) hb); have n3_ := Aside0.mk (blk_below (g := gb625) (o := .cells #[.int .i64 a0_0, .int .i64 a0_1, .int .i64 a0_2, .int .i64 a0_3, .int .i64 a0_4, .int .i64 a0_5, .slice A0_6 l0_6.length c0_6, .slice (some ⟨go99, 0, none⟩) y655.length co113] 44 (0, 0)) (by (with_reducible repeat (first | refine blk_drewN ?_ _ | refine blk_drew ?_ | refine blk_alloc ?_ _)); exact BK625.out) hb); have n4_ := Aside0.mk (blk_below (g := gb660) (o := .cells #[.int .i64 t657, .int .i64 t658] 23 (0, 0)) (by (with_reducible repeat (first | refine blk_drewN ?_ _ | refine blk_drew ?_ | refine blk_alloc ?_ _)); exact BK660.out) hb); have n5_ := Aside0.mk (blk_below (g := gb664) (o := .cells #[.int .i64 t661, .int .i64 t662] 23 (0, 0)) (by (with_reducible repeat (first | refine blk_drewN ?_ _ | refine blk_drew ?_ | refine blk_alloc ?_ _)); exact BK664.out) hb); have n6_ := Aside0.mk (below_step (by repeat (first | (with_reducible first | exact HB.out | apply below_alloc | apply pw_below_drewN | apply below_drew1 | refine below_set ?_ GE621.out | refine below_set ?_ GE622.out | refine below_set ?_ GE625.out | refine below_set ?_ GE660.out | refine below_set ?_ GE664.out) | exact HB.out)) hb); clear HO_626007; clear BK621; clear BK622; clear BK625; clear BK660; clear BK664; clear HB; have HO_626007 := n0_; have BK621 := n1_; have BK622 := n2_; have BK625 := n3_; have BK660 := n4_; have BK664 := n5_; have HB := n6_; clear n0_ n1_ n2_ n3_ n4_ n5_ n6_; (try clear hb); (try clear hb2); (try clear hk); (try clear hi)))
                            go_ret
                            exact ⟨by first | rfl | (simp [errW_none, errW_some] <;> rfl) | (simp only [← hji95, ← hji96]; first | rfl | (simp [errW_none, errW_some] <;> rfl)) | (simp [*, errW_none, errW_some] <;> rfl), by repeat (first | (with_reducible first | exact HB.out | apply below_alloc | apply pw_below_drewN | apply below_drew1 | refine below_set ?_ GE621.out | refine below_set ?_ GE622.out | refine below_set ?_ GE625.out | refine below_set ?_ GE660.out | refine below_set ?_ GE664.out) | exact HB.out)⟩
                          · replace c146 := Bool.eq_false_iff.mpr c146
                            subst c146
                            have H1 : (some false) = some r := by rw [if_neg (show ¬ (false = true) by decide)] at H; exact H
                            clear H
                            have H := H1
                            clear H1
                            obtain rfl := Option.some.inj H
                            have hnb159 := NB660_621.out
                            have hnc159 := NB621_660.out
                            have hnb160 := NB660_622.out
                            have hnc160 := NB622_660.out
                            have hnb161 := NB660_625.out
                            have hnc161 := NB625_660.out
                            have hnb162 := NB660_664.out
                            have hnc162 := NB664_660.out
                            have hcz163_0 : wc.cell? ⟨gb660, 0, none⟩ = some (.int .i64 t657) := (blk_cell BK660.out 0).trans rfl
                            have hcz163_1 : wc.cell? ⟨gb660, 1, none⟩ = some (.int .i64 t658) := (blk_cell BK660.out 1).trans rfl
                            have hfz163_0 := blk_frozen BK660.out 0
                            have hfz163_1 := blk_frozen BK660.out 1
                            have hnb164 := NB664_621.out
                            have hnc164 := NB621_664.out
                            have hnb165 := NB664_622.out
                            have hnc165 := NB622_664.out
                            have hnb166 := NB664_625.out
                            have hnc166 := NB625_664.out
                            have hcz167_0 : wc.cell? ⟨gb664, 0, none⟩ = some (.int .i64 t661) := (blk_cell BK664.out 0).trans rfl
                            have hcz167_1 : wc.cell? ⟨gb664, 1, none⟩ = some (.int .i64 t662) := (blk_cell BK664.out 1).trans rfl
                            have hfz167_0 := blk_frozen BK664.out 0
                            have hfz167_1 := blk_frozen BK664.out 1
                            go_wp2_with (first | (go_at_call 45; (with_reducible refine (remontoirref00_Within.calls t657 t658 t661 t662 false _ A145.out).mono ?_); rintro e w168 ⟨rfl, hb⟩; have n0_ := Aside0.mk (Kd.R_below (by (with_reducible repeat (first | apply Kd.R_alloc | apply Kd.R_drewN | apply Kd.R_drew)); exact HO_626007.out) hb); have n1_ := Aside0.mk (blk_below (g := gb621) (o := .cells #[.int .i64 a0_0, .int .i64 a0_1, .int .i64 a0_2, .int .i64 a0_3, .int .i64 a0_4, .int .i64 a0_5, .slice A0_6 l0_6.length c0_6, .slice (some ad650) l0_7.length c0_7] 44 (0, 0)) (by (with_reducible repeat (first | refine blk_drewN ?_ _ | refine blk_drew ?_ | refine blk_alloc ?_ _)); exact BK621.out) hb); have n2_ := Aside0.mk (blk_below (g := gb622) (o := .cells #[.int .i64 a1_0, .int .i64 a1_1, .int .i64 a1_2, .int .i64 a1_3] 65 (0, 0)) (by (with_reducible repeat (first | refine blk_drewN ?_ _ | refine blk_drew ?_ | refine blk_alloc ?_ _)); exact BK622.out) hb); have n3_ := Aside0.mk (blk_below (g := gb625) (o := .cells #[.int .i64 a0_0, .int .i64 a0_1, .int .i64 a0_2, .int .i64 a0_3, .int .i64 a0_4, .int .i64 a0_5, .slice A0_6 l0_6.length c0_6, .slice (some ⟨go99, 0, none⟩) y655.length co113] 44 (0, 0)) (by (with_reducible repeat (first | refine blk_drewN ?_ _ | refine blk_drew ?_ | refine blk_alloc ?_ _)); exact BK625.out) hb); have n4_ := Aside0.mk (blk_below (g := gb660) (o := .cells #[.int .i64 t657, .int .i64 t658] 23 (0, 0)) (by (with_reducible repeat (first | refine blk_drewN ?_ _ | refine blk_drew ?_ | refine blk_alloc ?_ _)); exact BK660.out) hb); have n5_ := Aside0.mk (blk_below (g := gb664) (o := .cells #[.int .i64 t661, .int .i64 t662] 23 (0, 0)) (by (with_reducible repeat (first | refine blk_drewN ?_ _ | refine blk_drew ?_ | refine blk_alloc ?_ _)); exact BK664.out) hb); have n6_ := Aside0.mk (below_step (by repeat (first | (with_reducible first | exact HB.out | apply below_alloc | apply pw_below_drewN | apply below_drew1 | refine below_set ?_ GE621.out | refine below_set ?_ GE622.out | refine below_set ?_ GE625.out | refine below_set ?_ GE660.out | refine below_set ?_ GE664.out) | exact HB.out)) hb); clear HO_626007; clear BK621; clear BK622; clear BK625; clear BK660; clear BK664; clear HB; have HO_626007 := n0_; have BK621 := n1_; have BK622 := n2_; have BK625 := n3_; have BK660 := n4_; have BK664 := n5_; have HB := n6_; clear n0_ n1_ n2_ n3_ n4_ n5_ n6_; (try clear hb); (try clear hb2); (try clear hk); (try clear hi)))
                            go_ret
                            exact ⟨by first | rfl | (simp [errW_none, errW_some] <;> rfl) | (simp only [← hji95, ← hji96]; first | rfl | (simp [errW_none, errW_some] <;> rfl)) | (simp [*, errW_none, errW_some] <;> rfl), by repeat (first | (with_reducible first | exact HB.out | apply below_alloc | apply pw_below_drewN | apply below_drew1 | refine below_set ?_ GE621.out | refine below_set ?_ GE622.out | refine below_set ?_ GE625.out | refine below_set ?_ GE660.out | refine below_set ?_ GE664.out) | exact HB.out)⟩
                        · rw [if_neg c144] at H
                          have c144b0 : (t663 == 0) = false := beq_eq_false_iff_ne.mpr c144
                          have c144b1 : (t663 != 0) = true := bne_iff_ne.mpr c144
                          obtain rfl := Option.some.inj H
                          go_wp2
                          go_ret
                          exact ⟨by first | rfl | (simp [errW_none, errW_some] <;> rfl) | (simp only [← hji95, ← hji96]; first | rfl | (simp [errW_none, errW_some] <;> rfl)) | (simp [*, errW_none, errW_some] <;> rfl), by repeat (first | (with_reducible first | exact HB.out | apply below_alloc | apply pw_below_drewN | apply below_drew1 | refine below_set ?_ GE621.out | refine below_set ?_ GE622.out | refine below_set ?_ GE625.out | refine below_set ?_ GE660.out | refine below_set ?_ GE664.out) | exact HB.out)⟩
                · rw [if_neg c98] at H
                  exact absurd H (by simp)
              · rw [if_neg c94] at H
                exact absurd H (by simp)
            · rw [if_neg c93] at H
              exact absurd H (by simp)
          · rw [if_neg c92] at H
            exact absurd H (by simp)
  · replace c4 := Bool.eq_false_iff.mpr c4
    subst c4
    have H1 : ((remontoirlaw04_works.f).bind fun t624 => (some t624)) = some r := by rw [if_neg (show ¬ (false = true) by decide)] at H; exact H
    clear H
    have H := H1
    clear H1
    replace H := Option.bind_eq_some_iff.mp H
    obtain ⟨t624, A1690, H⟩ := H
    replace H : (some t624) = some r := H
    have A169 := Aside0.mk A1690
    clear A1690
    obtain rfl := Option.some.inj H
    go_enter Tryd.func14, Tryd.ntmps14
    go_wp2_with (first | ((with_reducible refine gate_dst (N := 2) rfl ?_); (try (refine gate_guard (by rfl) ?_; dsimp only)); refine box_event ?hg (N := 2) ?hd (cs := #[.int .i64 a0_0, .int .i64 a0_1, .int .i64 a0_2, .int .i64 a0_3, .int .i64 a0_4, .int .i64 a0_5, .slice A0_6 l0_6.length c0_6, .slice A0_7 l0_7.length c0_7]) (t := 44) ?hr ?_; (case hd => rfl); (case hg => rfl); (case hr => first | (go_simp; done) | (go_simp; rfl)); intro gb621 hg w170 hbox hb; have n0_ := Aside0.mk (below_step (by repeat (first | (with_reducible first | exact HB.out | apply below_alloc | apply pw_below_drewN | apply below_drew1) | exact HB.out)) hb); have n1_ := Aside0.mk (hbox); have n2_ := Aside0.mk ((by rw [hg]; exact (below_size (by repeat (first | (with_reducible first | exact HB.out | apply below_alloc | apply pw_below_drewN | apply below_drew1) | exact HB.out))) : w.heap.size ≤ gb621)); have n3_ := Aside0.mk ((by rw [hg]; exact (below_size (by repeat (first | (with_reducible first | exact HB.out | apply below_alloc | apply pw_below_drewN | apply below_drew1) | exact HB.out))) : w.heap.size ≤ gb621)); clear HB; have HB := n0_; have BK621 := n1_; have GW621 := n2_; have GE621 := n3_; clear n0_ n1_ n2_ n3_; clear hb hbox hg) | ((with_reducible refine gate_dst (N := 3) rfl ?_); (try (refine gate_guard (by rfl) ?_; dsimp only)); refine box_event ?hg (N := 3) ?hd (cs := #[.int .i64 a1_0, .int .i64 a1_1, .int .i64 a1_2, .int .i64 a1_3]) (t := 65) ?hr ?_; (case hd => rfl); (case hg => rfl); (case hr => first | (go_simp; done) | (go_simp; rfl)); intro gb622 hg w171 hbox hb; have n0_ := Aside0.mk (blk_below (g := gb621) (o := .cells #[.int .i64 a0_0, .int .i64 a0_1, .int .i64 a0_2, .int .i64 a0_3, .int .i64 a0_4, .int .i64 a0_5, .slice A0_6 l0_6.length c0_6, .slice A0_7 l0_7.length c0_7] 44 (0, 0)) (by (with_reducible repeat (first | refine blk_drewN ?_ _ | refine blk_drew ?_ | refine blk_alloc ?_ _)); exact BK621.out) hb); have n1_ := Aside0.mk (below_step (by repeat (first | (with_reducible first | exact HB.out | apply below_alloc | apply pw_below_drewN | apply below_drew1 | refine below_set ?_ GE621.out) | exact HB.out)) hb); have n2_ := Aside0.mk (hbox); have n3_ := Aside0.mk ((by rw [hg]; exact (below_size (by repeat (first | (with_reducible first | exact HB.out | apply below_alloc | apply pw_below_drewN | apply below_drew1 | refine below_set ?_ GE621.out) | exact HB.out))) : w.heap.size ≤ gb622)); have n4_ := Aside0.mk ((by rw [hg]; exact (below_size (by repeat (first | (with_reducible first | exact HB.out | apply below_alloc | apply pw_below_drewN | apply below_drew1 | refine below_set ?_ GE621.out) | exact HB.out))) : w.heap.size ≤ gb622)); have n5_ := Aside0.mk ((by rw [hg]; exact Nat.ne_of_lt (blk_lt (g := gb621) (o := .cells #[.int .i64 a0_0, .int .i64 a0_1, .int .i64 a0_2, .int .i64 a0_3, .int .i64 a0_4, .int .i64 a0_5, .slice A0_6 l0_6.length c0_6, .slice A0_7 l0_7.length c0_7] 44 (0, 0)) (by (with_reducible repeat (first | refine blk_drewN ?_ _ | refine blk_drew ?_ | refine blk_alloc ?_ _)); exact BK621.out)) : gb621 ≠ gb622)); have n6_ := Aside0.mk ((by rw [hg]; exact Nat.ne_of_gt (blk_lt (g := gb621) (o := .cells #[.int .i64 a0_0, .int .i64 a0_1, .int .i64 a0_2, .int .i64 a0_3, .int .i64 a0_4, .int .i64 a0_5, .slice A0_6 l0_6.length c0_6, .slice A0_7 l0_7.length c0_7] 44 (0, 0)) (by (with_reducible repeat (first | refine blk_drewN ?_ _ | refine blk_drew ?_ | refine blk_alloc ?_ _)); exact BK621.out)) : gb622 ≠ gb621)); clear BK621; clear HB; have BK621 := n0_; have HB := n1_; have BK622 := n2_; have GW622 := n3_; have GE622 := n4_; have NB621_622 := n5_; have NB622_621 := n6_; clear n0_ n1_ n2_ n3_ n4_ n5_ n6_; clear hb hbox hg; have hnb172 := NB621_622.out; have hnc172 := NB622_621.out; have hcz173_0 : w171.cell? ⟨gb621, 0, none⟩ = some (.int .i64 a0_0) := (blk_cell BK621.out 0).trans rfl; have hcz173_1 : w171.cell? ⟨gb621, 1, none⟩ = some (.int .i64 a0_1) := (blk_cell BK621.out 1).trans rfl; have hcz173_2 : w171.cell? ⟨gb621, 2, none⟩ = some (.int .i64 a0_2) := (blk_cell BK621.out 2).trans rfl; have hcz173_3 : w171.cell? ⟨gb621, 3, none⟩ = some (.int .i64 a0_3) := (blk_cell BK621.out 3).trans rfl; have hcz173_4 : w171.cell? ⟨gb621, 4, none⟩ = some (.int .i64 a0_4) := (blk_cell BK621.out 4).trans rfl; have hcz173_5 : w171.cell? ⟨gb621, 5, none⟩ = some (.int .i64 a0_5) := (blk_cell BK621.out 5).trans rfl; have hcz173_6 : w171.cell? ⟨gb621, 6, none⟩ = some (.slice A0_6 l0_6.length c0_6) := (blk_cell BK621.out 6).trans rfl; have hcz173_7 : w171.cell? ⟨gb621, 7, none⟩ = some (.slice A0_7 l0_7.length c0_7) := (blk_cell BK621.out 7).trans rfl; have hfz173_0 := blk_frozen BK621.out 0; have hfz173_1 := blk_frozen BK621.out 1; have hfz173_2 := blk_frozen BK621.out 2; have hfz173_3 := blk_frozen BK621.out 3; have hfz173_4 := blk_frozen BK621.out 4; have hfz173_5 := blk_frozen BK621.out 5; have hfz173_6 := blk_frozen BK621.out 6; have hfz173_7 := blk_frozen BK621.out 7) | ((with_reducible refine gate_callee (f := 50) rfl ?_); refine goesL_ (some 14) rfl rfl Tryd.func50 (by kernel_rfl) rfl #[.agg #[.int .i64 a0_0, .int .i64 a0_1, .int .i64 a0_2, .int .i64 a0_3, .int .i64 a0_4, .int .i64 a0_5, .slice A0_6 l0_6.length c0_6, .slice A0_7 l0_7.length c0_7]] rfl (by (try simp only [List.map_toArray, List.map_cons, List.map_nil]); first | done | rfl | (simp only [List.length_drop, List.length_take]; rfl)) ?_; (with_reducible refine (remontoirlaw04_sound.calls k a0_0 a0_1 a0_2 a0_3 a0_4 a0_5 _ _ l0_6 _ _ l0_7 false _ ?side1 ?side2 ?side3 ?side4 ?side5 A3.out).mono ?_); (case side1 => repeat (first | exact (Kd.C_below HR0_6.out HB.out) | (with_reducible refine Kd.C_alloc ?_ _) | (with_reducible refine Kd.C_drewN ?_ _) | (with_reducible refine Kd.C_drew ?_))); (case side2 => exact HC0_6.out); (case side3 => repeat (first | exact (Kd.C_below HR0_7.out HB.out) | (with_reducible refine Kd.C_alloc ?_ _) | (with_reducible refine Kd.C_drewN ?_ _) | (with_reducible refine Kd.C_drew ?_))); (case side4 => exact HC0_7.out); (case side5 => exact Go.Proofs.YtidnopmjhhmedaaDoor.Ways.below HWays.out (by repeat (first | (with_reducible first | exact HB.out | apply below_alloc | apply pw_below_drewN | apply below_drew1 | refine below_set ?_ GE621.out | refine below_set ?_ GE622.out) | exact HB.out))); rintro e w174 ⟨rfl, hb⟩; refine ⟨_, rfl, ?_⟩; have n0_ := Aside0.mk (blk_below (g := gb621) (o := .cells #[.int .i64 a0_0, .int .i64 a0_1, .int .i64 a0_2, .int .i64 a0_3, .int .i64 a0_4, .int .i64 a0_5, .slice A0_6 l0_6.length c0_6, .slice A0_7 l0_7.length c0_7] 44 (0, 0)) (by (with_reducible repeat (first | refine blk_drewN ?_ _ | refine blk_drew ?_ | refine blk_alloc ?_ _)); exact BK621.out) hb); have n1_ := Aside0.mk (blk_below (g := gb622) (o := .cells #[.int .i64 a1_0, .int .i64 a1_1, .int .i64 a1_2, .int .i64 a1_3] 65 (0, 0)) (by (with_reducible repeat (first | refine blk_drewN ?_ _ | refine blk_drew ?_ | refine blk_alloc ?_ _)); exact BK622.out) hb); have n2_ := Aside0.mk (below_step (by repeat (first | (with_reducible first | exact HB.out | apply below_alloc | apply pw_below_drewN | apply below_drew1 | refine below_set ?_ GE621.out | refine below_set ?_ GE622.out) | exact HB.out)) hb); clear BK621; clear BK622; clear HB; have BK621 := n0_; have BK622 := n1_; have HB := n2_; clear n0_ n1_ n2_; (try clear hb); (try clear hb2); (try clear hk); (try clear hi)) | ((with_reducible refine gate_callee (f := 21) rfl ?_); refine goesL_ (some 16) rfl rfl Tryd.func21 (by kernel_rfl) rfl #[] rfl (by (try simp only [List.map_toArray, List.map_cons, List.map_nil]); first | done | rfl | (simp only [List.length_drop, List.length_take]; rfl)) ?_; (with_reducible refine (remontoirlaw04_works.calls  t624 _ ?side1 A169.out).mono ?_); (case side1 => exact Go.Proofs.YtidnopmjhhmedaaDoor.Ways.below HWays.out (by repeat (first | (with_reducible first | exact HB.out | apply below_alloc | apply pw_below_drewN | apply below_drew1 | refine below_set ?_ GE621.out | refine below_set ?_ GE622.out) | exact HB.out))); rintro e w175 ⟨rfl, hb⟩; refine ⟨_, rfl, ?_⟩; have n0_ := Aside0.mk (blk_below (g := gb621) (o := .cells #[.int .i64 a0_0, .int .i64 a0_1, .int .i64 a0_2, .int .i64 a0_3, .int .i64 a0_4, .int .i64 a0_5, .slice A0_6 l0_6.length c0_6, .slice A0_7 l0_7.length c0_7] 44 (0, 0)) (by (with_reducible repeat (first | refine blk_drewN ?_ _ | refine blk_drew ?_ | refine blk_alloc ?_ _)); exact BK621.out) hb); have n1_ := Aside0.mk (blk_below (g := gb622) (o := .cells #[.int .i64 a1_0, .int .i64 a1_1, .int .i64 a1_2, .int .i64 a1_3] 65 (0, 0)) (by (with_reducible repeat (first | refine blk_drewN ?_ _ | refine blk_drew ?_ | refine blk_alloc ?_ _)); exact BK622.out) hb); have n2_ := Aside0.mk (below_step (by repeat (first | (with_reducible first | exact HB.out | apply below_alloc | apply pw_below_drewN | apply below_drew1 | refine below_set ?_ GE621.out | refine below_set ?_ GE622.out) | exact HB.out)) hb); clear BK621; clear BK622; clear HB; have BK621 := n0_; have BK622 := n1_; have HB := n2_; clear n0_ n1_ n2_; (try clear hb); (try clear hb2); (try clear hk); (try clear hi)))
    go_ret
    exact ⟨by first | rfl | (simp [errW_none, errW_some] <;> rfl) | (simp [*, errW_none, errW_some] <;> rfl), by repeat (first | (with_reducible first | exact HB.out | apply below_alloc | apply pw_below_drewN | apply below_drew1 | refine below_set ?_ GE621.out | refine below_set ?_ GE622.out) | exact HB.out)⟩

end Go.Proofs.TrydX.X
end

section
/- Plain: a plan that is filled up to a level is a plan. -/
set_option linter.unusedSimpArgs false
set_option linter.unusedVariables false
namespace Go.Proofs.YtidnopmjhhmedaaDoor
open Go.RowKit

/-- Neighbours differ by at most so much; the first one from d. -/
def Steps (J : Int) : Int → List Int → Prop
  | _, [] => True
  | d, x :: l => -J ≤ x - d ∧ x - d ≤ J ∧ Steps J x l
theorem of_keeps {F S J : Int} (l : List Int) : ∀ d, keepsB F S J d l = true → (∀ x ∈ l, -S ≤ x ∧ x ≤ F) ∧ Steps J d l := by
  induction l with
  | nil => intro d _; exact ⟨fun x hx => (List.not_mem_nil hx).elim, trivial⟩
  | cons x l ih =>
    intro d h
    simp only [keepsB, Bool.and_eq_true, lies_iff] at h
    obtain ⟨h1, h2⟩ := ih x h.2
    refine ⟨fun y hy => ?_, h.1.2.1, h.1.2.2, h2⟩
    rcases List.mem_cons.1 hy with e | hy
    · subst e; exact h.1.1
    · exact h1 y hy
end Go.Proofs.YtidnopmjhhmedaaDoor
end

section
-- Written by wip/tools/pr.py (a program of this repo over the kit's print.py).
namespace Go.Proofs.TrydX.X
open Go.RowKit Go.Proofs.YtidnopmjhhmedaaDoorW.PrintWords Go.Proofs.YtidnopmjhhmedaaDoorW.PrintLast Go.Proofs.YtidnopmjhhmedaaDoorW.PrintMore
attribute [local go_sem] max2_int min2_int max_two min_two max_three min_three max_four min_four   -- for this text's walks alone
set_option linter.unusedVariables false
set_option linter.unusedSimpArgs false

end Go.Proofs.TrydX.X
end

section
-- Written by wip/tools/pr.py (a program of this repo over the kit's print.py).
namespace Go.Proofs.TrydX.X
open Go.RowKit Go.Proofs.YtidnopmjhhmedaaDoorW.PrintWords Go.Proofs.YtidnopmjhhmedaaDoorW.PrintLast Go.Proofs.YtidnopmjhhmedaaDoorW.PrintMore
attribute [local go_sem] max2_int min2_int max_two min_two max_three min_three max_four min_four   -- for this text's walks alone
set_option linter.unusedVariables false
set_option linter.unusedSimpArgs false

end Go.Proofs.TrydX.X
end

section
-- Written by wip/tools/pr.py (a program of this repo over the kit's print.py).
namespace Go.Proofs.TrydX.X
open Go.RowKit Go.Proofs.YtidnopmjhhmedaaDoorW.PrintWords Go.Proofs.YtidnopmjhhmedaaDoorW.PrintLast Go.Proofs.YtidnopmjhhmedaaDoorW.PrintMore
attribute [local go_sem] max2_int min2_int max_two min_two max_three min_three max_four min_four   -- for this text's walks alone
set_option linter.unusedVariables false
set_option linter.unusedSimpArgs false

end Go.Proofs.TrydX.X
end

section
-- Written by wip/tools/pr.py (a program of this repo over the kit's print.py).
namespace Go.Proofs.TrydX.X
open Go.RowKit Go.Proofs.YtidnopmjhhmedaaDoorW.PrintWords Go.Proofs.YtidnopmjhhmedaaDoorW.PrintLast Go.Proofs.YtidnopmjhhmedaaDoorW.PrintMore
attribute [local go_sem] max2_int min2_int max_two min_two max_three min_three max_four min_four   -- for this text's walks alone
set_option linter.unusedVariables false
set_option linter.unusedSimpArgs false

end Go.Proofs.TrydX.X
end

section
-- Written by wip/tools/pr.py (a program of this repo over the kit's print.py).
namespace Go.Proofs.TrydX.X
open Go.RowKit Go.Proofs.YtidnopmjhhmedaaDoorW.PrintWords Go.Proofs.YtidnopmjhhmedaaDoorW.PrintLast Go.Proofs.YtidnopmjhhmedaaDoorW.PrintMore
attribute [local go_sem] max2_int min2_int max_two min_two max_three min_three max_four min_four   -- for this text's walks alone
set_option linter.unusedVariables false
set_option linter.unusedSimpArgs false

end Go.Proofs.TrydX.X
end

section
-- Written by wip/tools/pr.py (a program of this repo over the kit's print.py).
namespace Go.Proofs.TrydX.X
open Go.RowKit Go.Proofs.YtidnopmjhhmedaaDoorW.PrintWords Go.Proofs.YtidnopmjhhmedaaDoorW.PrintLast Go.Proofs.YtidnopmjhhmedaaDoorW.PrintMore
attribute [local go_sem] max2_int min2_int max_two min_two max_three min_three max_four min_four   -- for this text's walks alone
set_option linter.unusedVariables false
set_option linter.unusedSimpArgs false

end Go.Proofs.TrydX.X
end

section
-- Written by wip/tools/pr.py (a program of this repo over the kit's print.py).
namespace Go.Proofs.TrydX.X
open Go.RowKit Go.Proofs.YtidnopmjhhmedaaDoorW.PrintWords Go.Proofs.YtidnopmjhhmedaaDoorW.PrintLast Go.Proofs.YtidnopmjhhmedaaDoorW.PrintMore
attribute [local go_sem] max2_int min2_int max_two min_two max_three min_three max_four min_four   -- for this text's walks alone
set_option linter.unusedVariables false
set_option linter.unusedSimpArgs false

end Go.Proofs.TrydX.X
end

section
-- Written by wip/tools/pr.py (a program of this repo over the kit's print.py).
namespace Go.Proofs.TrydX.X
open Go.RowKit Go.Proofs.YtidnopmjhhmedaaDoorW.PrintWords Go.Proofs.YtidnopmjhhmedaaDoorW.PrintLast Go.Proofs.YtidnopmjhhmedaaDoorW.PrintMore
attribute [local go_sem] max2_int min2_int max_two min_two max_three min_three max_four min_four   -- for this text's walks alone
set_option linter.unusedVariables false
set_option linter.unusedSimpArgs false

end Go.Proofs.TrydX.X
end

section
-- Written by wip/tools/pr.py (a program of this repo over the kit's print.py).
namespace Go.Proofs.TrydX.X
open Go.RowKit Go.Proofs.YtidnopmjhhmedaaDoorW.PrintWords Go.Proofs.YtidnopmjhhmedaaDoorW.PrintLast Go.Proofs.YtidnopmjhhmedaaDoorW.PrintMore
attribute [local go_sem] max2_int min2_int max_two min_two max_three min_three max_four min_four   -- for this text's walks alone
set_option linter.unusedVariables false
set_option linter.unusedSimpArgs false

end Go.Proofs.TrydX.X
end

section
-- Written by wip/tools/pr.py (a program of this repo over the kit's print.py).
namespace Go.Proofs.TrydX.X
open Go.RowKit Go.Proofs.YtidnopmjhhmedaaDoorW.PrintWords Go.Proofs.YtidnopmjhhmedaaDoorW.PrintLast Go.Proofs.YtidnopmjhhmedaaDoorW.PrintMore
attribute [local go_sem] max2_int min2_int max_two min_two max_three min_three max_four min_four   -- for this text's walks alone
set_option linter.unusedVariables false
set_option linter.unusedSimpArgs false

end Go.Proofs.TrydX.X
end

section
-- Written by wip/tools/pr.py (a program of this repo over the kit's print.py).
namespace Go.Proofs.TrydX.X
open Go.RowKit Go.Proofs.YtidnopmjhhmedaaDoorW.PrintWords Go.Proofs.YtidnopmjhhmedaaDoorW.PrintLast Go.Proofs.YtidnopmjhhmedaaDoorW.PrintMore
attribute [local go_sem] max2_int min2_int max_two min_two max_three min_three max_four min_four   -- for this text's walks alone
set_option linter.unusedVariables false
set_option linter.unusedSimpArgs false

end Go.Proofs.TrydX.X
end

section
-- Written by wip/tools/pr.py (a program of this repo over the kit's print.py).
namespace Go.Proofs.TrydX.X
open Go.RowKit Go.Proofs.YtidnopmjhhmedaaDoorW.PrintWords Go.Proofs.YtidnopmjhhmedaaDoorW.PrintLast Go.Proofs.YtidnopmjhhmedaaDoorW.PrintMore
attribute [local go_sem] max2_int min2_int max_two min_two max_three min_three max_four min_four   -- for this text's walks alone
set_option linter.unusedVariables false
set_option linter.unusedSimpArgs false

end Go.Proofs.TrydX.X
end

section
-- Written by wip/tools/pr.py (a program of this repo over the kit's print.py).
namespace Go.Proofs.TrydX.X
open Go.RowKit Go.Proofs.YtidnopmjhhmedaaDoorW.PrintWords Go.Proofs.YtidnopmjhhmedaaDoorW.PrintLast Go.Proofs.YtidnopmjhhmedaaDoorW.PrintMore
attribute [local go_sem] max2_int min2_int max_two min_two max_three min_three max_four min_four   -- for this text's walks alone
set_option linter.unusedVariables false
set_option linter.unusedSimpArgs false

end Go.Proofs.TrydX.X
end

section
/- Plain: what the reference's functions of chapter 04 tell, in the hand's own words. -/
set_option linter.unusedSimpArgs false
set_option linter.unusedVariables false
namespace Go.Proofs.TrydX.X
open Go.RowKit Go.Proofs.YtidnopmjhhmedaaDoorW.PrintWords Go.Proofs.YtidnopmjhhmedaaDoorW.PrintLast
open Go.Proofs.YtidnopmjhhmedaaDoor

theorem wr {x : Int} (h : -9223372036854775808 ≤ x ∧ x ≤ 9223372036854775807) : wrap64 x = x := IntWalk.wrap64_in x h
theorem lies_f (n a b : Int) : remontoirref00_Lies.f n a b = some (lies n a b) := by
  unfold remontoirref00_Lies.f lies
  by_cases h : a ≤ n <;> simp [h]
theorem valid_f (a b l h : Int) : remontoirref00_Valid.f a b l h = some (decide (a ≤ b) && decide (l ≤ a) && decide (b ≤ h)) := by
  unfold remontoirref00_Valid.f
  by_cases h1 : a ≤ b <;> by_cases h2 : l ≤ a <;> simp [h1, h2]
theorem mn_eq (a b : Int) : mn a b = min a b := by unfold mn; omega
theorem mx_eq (a b : Int) : mx a b = max a b := by unfold mx; omega
end Go.Proofs.TrydX.X
end

section
-- Written by wip/tools/pr.py (a program of this repo over the kit's print.py).
namespace Go.Proofs.TrydX.X
open Go.RowKit Go.Proofs.YtidnopmjhhmedaaDoorW.PrintWords Go.Proofs.YtidnopmjhhmedaaDoorW.PrintLast Go.Proofs.YtidnopmjhhmedaaDoorW.PrintMore
attribute [local go_sem] max2_int min2_int max_two min_two max_three min_three max_four min_four   -- for this text's walks alone
set_option linter.unusedVariables false
set_option linter.unusedSimpArgs false

end Go.Proofs.TrydX.X
end

section
-- Written by wip/tools/pr.py (a program of this repo over the kit's print.py).
namespace Go.Proofs.TrydX.X
open Go.RowKit Go.Proofs.YtidnopmjhhmedaaDoorW.PrintWords Go.Proofs.YtidnopmjhhmedaaDoorW.PrintLast Go.Proofs.YtidnopmjhhmedaaDoorW.PrintMore
attribute [local go_sem] max2_int min2_int max_two min_two max_three min_three max_four min_four   -- for this text's walks alone
set_option linter.unusedVariables false
set_option linter.unusedSimpArgs false

end Go.Proofs.TrydX.X
end

section
-- Written by wip/tools/pr.py (a program of this repo over the kit's print.py).
namespace Go.Proofs.TrydX.X
open Go.RowKit Go.Proofs.YtidnopmjhhmedaaDoorW.PrintWords Go.Proofs.YtidnopmjhhmedaaDoorW.PrintLast Go.Proofs.YtidnopmjhhmedaaDoorW.PrintMore
attribute [local go_sem] max2_int min2_int max_two min_two max_three min_three max_four min_four   -- for this text's walks alone
set_option linter.unusedVariables false
set_option linter.unusedSimpArgs false

end Go.Proofs.TrydX.X
end

section
-- Written by wip/tools/pr.py (a program of this repo over the kit's print.py).
namespace Go.Proofs.TrydX.X
open Go.RowKit Go.Proofs.YtidnopmjhhmedaaDoorW.PrintWords Go.Proofs.YtidnopmjhhmedaaDoorW.PrintLast Go.Proofs.YtidnopmjhhmedaaDoorW.PrintMore
attribute [local go_sem] max2_int min2_int max_two min_two max_three min_three max_four min_four   -- for this text's walks alone
set_option linter.unusedVariables false
set_option linter.unusedSimpArgs false

end Go.Proofs.TrydX.X
end

section
-- Written by wip/tools/pr.py (a program of this repo over the kit's print.py).
namespace Go.Proofs.TrydX.X
open Go.RowKit Go.Proofs.YtidnopmjhhmedaaDoorW.PrintWords Go.Proofs.YtidnopmjhhmedaaDoorW.PrintLast Go.Proofs.YtidnopmjhhmedaaDoorW.PrintMore
attribute [local go_sem] max2_int min2_int max_two min_two max_three min_three max_four min_four   -- for this text's walks alone
set_option linter.unusedVariables false
set_option linter.unusedSimpArgs false

end Go.Proofs.TrydX.X
end

section
-- Written by wip/tools/pr.py (a program of this repo over the kit's print.py).
namespace Go.Proofs.TrydX.X
open Go.RowKit Go.Proofs.YtidnopmjhhmedaaDoorW.PrintWords Go.Proofs.YtidnopmjhhmedaaDoorW.PrintLast Go.Proofs.YtidnopmjhhmedaaDoorW.PrintMore
attribute [local go_sem] max2_int min2_int max_two min_two max_three min_three max_four min_four   -- for this text's walks alone
set_option linter.unusedVariables false
set_option linter.unusedSimpArgs false

end Go.Proofs.TrydX.X
end

section
/- Plain: what the reference's Check, errors, Error and Stated tell, in the hand's own words. -/
set_option linter.unusedSimpArgs false
set_option linter.unusedVariables false
namespace Go.Proofs.TrydX.X
open Go.RowKit Go.Proofs.YtidnopmjhhmedaaDoorW.PrintWords Go.Proofs.YtidnopmjhhmedaaDoorW.PrintLast
open Go.Proofs.YtidnopmjhhmedaaDoor

theorem drop_T71 (l : List S71) (i : Nat) (h : i < l.length) : l.drop i = rd_T71 l i :: l.drop (i + 1) := by
  rw [List.drop_eq_getElem_cons h]; simp [rd_T71, h]
section
variable {F S J L H T : Int} {st : List Int} {l7 : List S71}
end

theorem okF_iff (t : Nat) (f : Nat → Sp) : okF t f = true ↔ ∀ k, k ≤ t → (f k).lo ≤ (f k).hi := by
  unfold okF
  simp only [List.all_eq_true, List.mem_range, decide_eq_true_eq]
  exact ⟨fun h k hk => h k (by omega), fun h k hk => h k (by omega)⟩
section
variable {F S J L H : Int} {st : List Int} {l7 : List S71}
variable (hL : -100 ≤ L ∧ L ≤ H ∧ H ≤ 100) (hst : ∀ k, -500 ≤ stAt st k ∧ stAt st k ≤ 500)
include hL hst
end
theorem check_parts {F S J L H T : Int} {st : List Int} {lk : List Lk} (h : checkB F S J L H T st lk = true) : isRuleB F S J L H = true ∧ 1 ≤ T ∧ T ≤ 60 ∧ lk.length ≤ 10 ∧ lk.all (lookB T) = true := by
  unfold checkB at h
  simp only [Bool.and_eq_true, decide_eq_true_eq, lies_iff] at h
  exact ⟨h.1.1.1.1.1, h.1.1.1.1.2.1, h.1.1.1.1.2.2, h.1.2, h.2⟩
end Go.Proofs.TrydX.X
end

section
-- Written by wip/tools/pr.py (a program of this repo over the kit's print.py).
namespace Go.Proofs.TrydX.X
open Go.RowKit Go.Proofs.YtidnopmjhhmedaaDoorW.PrintWords Go.Proofs.YtidnopmjhhmedaaDoorW.PrintLast Go.Proofs.YtidnopmjhhmedaaDoorW.PrintMore
attribute [local go_sem] max2_int min2_int max_two min_two max_three min_three max_four min_four   -- for this text's walks alone
set_option linter.unusedVariables false
set_option linter.unusedSimpArgs false

end Go.Proofs.TrydX.X
end

section
-- Written by wip/tools/pr.py (a program of this repo over the kit's print.py).
namespace Go.Proofs.TrydX.X
open Go.RowKit Go.Proofs.YtidnopmjhhmedaaDoorW.PrintWords Go.Proofs.YtidnopmjhhmedaaDoorW.PrintLast Go.Proofs.YtidnopmjhhmedaaDoorW.PrintMore
attribute [local go_sem] max2_int min2_int max_two min_two max_three min_three max_four min_four   -- for this text's walks alone
set_option linter.unusedVariables false
set_option linter.unusedSimpArgs false

end Go.Proofs.TrydX.X
end

section
-- Written by wip/tools/pr.py (a program of this repo over the kit's print.py).
namespace Go.Proofs.TrydX.X
open Go.RowKit Go.Proofs.YtidnopmjhhmedaaDoorW.PrintWords Go.Proofs.YtidnopmjhhmedaaDoorW.PrintLast Go.Proofs.YtidnopmjhhmedaaDoorW.PrintMore
attribute [local go_sem] max2_int min2_int max_two min_two max_three min_three max_four min_four   -- for this text's walks alone
set_option linter.unusedVariables false
set_option linter.unusedSimpArgs false

end Go.Proofs.TrydX.X
end

section
/- Plain: draws that are steered within a rule. -/
set_option linter.unusedSimpArgs false
set_option linter.unusedVariables false
namespace Go.Proofs.TrydX.X
open Go.RowKit Go.Proofs.YtidnopmjhhmedaaDoorW.PrintWords Go.Proofs.YtidnopmjhhmedaaDoorW.PrintLast
open Go.Proofs.YtidnopmjhhmedaaDoor

theorem isRule_f (F S J L H : Int) : remontoirlaw04_isRule.f F S J L H = some (isRuleB F S J L H) := by
  unfold remontoirlaw04_isRule.f scale_Reach.f
  cases hr : isRuleB F S J L H
  · simp
  · obtain ⟨hF, hS, hJ, hL⟩ := isRuleB_spec hr
    have h0 : lies 0 0 200 = true := by decide
    simp only [if_true, h0, Option.bind_some, lies_f, valid_f, lies_iff.2 hF, lies_iff.2 hS, lies_iff.2 hJ]
    simp; omega
theorem Rest_f (x m : Int) (hm : 0 < m) (hm2 : m ≤ 4611686018427387904) : ∃ r, remontoirref00_Rest.f x m = some r ∧ 0 ≤ r ∧ r < m := by
  unfold remontoirref00_Rest.f
  rw [if_neg (by omega)]
  have h1 := Int.tmod_lt_of_pos x hm
  have h2 := Int.lt_tmod_of_pos x hm
  split
  · rename_i h
    rw [wr (by omega)]
    exact ⟨_, rfl, by omega, by omega⟩
  · exact ⟨_, rfl, by omega, h1⟩
end Go.Proofs.TrydX.X
end

section
/- Plain: sound; and wider spans: what follows from less follows from more. -/
set_option linter.unusedSimpArgs false
set_option linter.unusedVariables false
namespace Go.Proofs.TrydX.X
open Go.RowKit Go.Proofs.YtidnopmjhhmedaaDoorW.PrintWords Go.Proofs.YtidnopmjhhmedaaDoorW.PrintLast
open Go.Proofs.YtidnopmjhhmedaaDoor

section
variable {F S J L H T : Int} {st : List Int} {l7 : List S71}
theorem sound_l1 (hl : l7.length ≤ 10) (d : Nat) : ∀ (k i : Nat), i + d = l7.length → 2 * d + 1 < k → ((l7.drop i).map toLk).all (lookB T) = true →
    remontoirlaw04_sound.l1 k true i F S J L H T st l7 = some true := by
  induction d with
  | zero =>
    intro k i hi hk _
    obtain ⟨k, rfl⟩ : ∃ m, k = m + 2 := ⟨k - 2, by omega⟩
    have : decide ((i : Int) < (l7.length : Int)) = false := decide_eq_false (by omega)
    simp only [remontoirlaw04_sound.l1, remontoirlaw04_sound.j4, if_true, this, Bool.false_eq_true, if_false]
  | succ d ih =>
    intro k i hi hk ha
    obtain ⟨k, rfl⟩ : ∃ m, k = m + 2 := ⟨k - 2, by omega⟩
    have hd : decide ((i : Int) < (l7.length : Int)) = true := decide_eq_true (by omega)
    simp only [remontoirlaw04_sound.l1, remontoirlaw04_sound.j4, if_true, hd]
    rw [drop_T71 l7 i (by omega), List.map_cons, List.all_cons, Bool.and_eq_true] at ha
    obtain ⟨h1, h2⟩ := ha
    simp only [lookB, toLk, Bool.and_eq_true, decide_eq_true_eq] at h1
    rw [if_pos (by omega), if_pos (by omega), lies_f, h1.1.1.1, wr (x := (i : Int) + 1) (by omega), show (i : Int) + 1 = ((i + 1 : Nat) : Int) by omega, valid_f]
    simp only [Option.bind_some, if_true]
    have e : (decide ((rd_T71 l7 i).f1.f0 ≤ (rd_T71 l7 i).f1.f1) && decide (-20000 ≤ (rd_T71 l7 i).f1.f0) && decide ((rd_T71 l7 i).f1.f1 ≤ 20000)) = true := by
      simp only [Bool.and_eq_true, decide_eq_true_eq]
      exact ⟨⟨of_decide_eq_true h1.1.2, of_decide_eq_true h1.1.1.2⟩, of_decide_eq_true h1.2⟩
    rw [e]
    exact ih k (i + 1) (by omega) (by omega) h2
theorem sound_l0 (hS : 0 ≤ S ∧ S ≤ 500) (hl : l7.length ≤ 10) (hs : st.length ≤ 60) (hb : ∀ x ∈ st, -S ≤ x ∧ x ≤ F) (ha : (l7.map toLk).all (lookB T) = true) (d : Nat) : ∀ (k i : Nat), i + d = st.length → d + 50 < k →
    remontoirlaw04_sound.l0 k true i F S J L H T st l7 = some true := by
  induction d with
  | zero =>
    intro k i hi hk
    obtain ⟨k, rfl⟩ : ∃ m, k = m + 2 := ⟨k - 2, by omega⟩
    simp only [remontoirlaw04_sound.l0, remontoirlaw04_sound.j2, if_true]
    rw [if_neg (by omega)]
    have := sound_l1 (F := F) (S := S) (J := J) (L := L) (H := H) (T := T) (st := st) hl l7.length k 0 (by omega) (by omega) (by simpa using ha)
    rw [show ((0 : Nat) : Int) = 0 from rfl] at this
    exact this
  | succ d ih =>
    intro k i hi hk
    obtain ⟨k, rfl⟩ : ∃ m, k = m + 1 := ⟨k - 1, by omega⟩
    have hil : i < st.length := by omega
    have hx := hb st[i] (List.getElem_mem hil)
    have hrd : rd st i = st[i] := by simp [rd, List.getD_eq_getElem?_getD, hil]
    simp only [remontoirlaw04_sound.l0, if_true]
    rw [if_pos (by omega), if_pos (by omega), hrd, wr (x := -S) (by omega), lies_f, lies_iff.2 hx, wr (x := (i : Int) + 1) (by omega), show (i : Int) + 1 = ((i + 1 : Nat) : Int) by omega]
    exact ih k (i + 1) (by omega) (by omega)
theorem sound_no (k : Nat) : remontoirlaw04_sound.j0 (k + 5) false F S J L H T st l7 = some false := by
  simp only [remontoirlaw04_sound.j0, remontoirlaw04_sound.l0, remontoirlaw04_sound.j2, remontoirlaw04_sound.l1, remontoirlaw04_sound.j4, Bool.false_eq_true, if_false]
theorem sound_f (h6 : st.length ≤ 17592186044416) (h7 : l7.length ≤ 17592186044416) (k : Nat) (hk : 200 < k) : remontoirlaw04_sound.f k F S J L H T st l7 = some (checkB F S J L H T st (l7.map toLk)) := by
  obtain ⟨k, rfl⟩ : ∃ m, k = m + 5 := ⟨k - 5, by omega⟩
  unfold remontoirlaw04_sound.f scale_Check.f
  rw [if_pos (show st.length ≤ 17592186044416 ∧ l7.length ≤ 17592186044416 from ⟨h6, h7⟩), isRule_f, lies_f]
  simp only [Option.bind_some, sound_no]
  cases hc : checkB F S J L H T st (l7.map toLk)
  · simp
  · obtain ⟨hr, hT1, hT2, hl, hlk⟩ := check_parts hc
    obtain ⟨hF, hS, hJ, _⟩ := isRuleB_spec hr
    have hc2 := hc
    unfold checkB at hc2
    simp only [Bool.and_eq_true, decide_eq_true_eq] at hc2
    have hs : (st.length : Int) ≤ T := hc2.1.1.1.2
    have hkp := hc2.1.1.2
    have hl' : l7.length ≤ 10 := by simpa using hl
    have hdl : decide ((l7.length : Int) ≤ 10) = true := decide_eq_true (by omega)
    rw [hr, lies_iff.2 ⟨hT1, hT2⟩, hdl]
    simp only [if_true, hs]
    rw [show k + 5 = (k + 4) + 1 from rfl]
    simp only [remontoirlaw04_sound.j0]
    have := sound_l0 (F := F) (S := S) (J := J) (L := L) (H := H) (T := T) (st := st) (l7 := l7) hS hl' (by omega) (of_keeps st 0 hkp).1 hlk st.length (k + 4) 0 (by omega) (by omega)
    rw [show ((0 : Nat) : Int) = 0 from rfl] at this
    exact this
end

/-! ### Wider. -/
def Sub (f g : Nat → Sp) : Prop := ∀ k, (g k).lo ≤ (f k).lo ∧ (f k).hi ≤ (g k).hi
theorem Sub.put {f g : Nat → Sp} (h : Sub f g) (k : Nat) (s t : Sp) (hs : t.lo ≤ s.lo ∧ s.hi ≤ t.hi) : Sub (putS f k s) (putS g k t) := by
  intro j
  unfold putS
  split
  · exact hs
  · exact h j
section
variable (st : List Int) {L H L' H' : Int} (hL : L' ≤ L) (hH : H ≤ H')
include hL hH
theorem fwdTo_sub {f g : Nat → Sp} (h : Sub f g) : ∀ j, Sub (fwdTo st L H f j) (fwdTo st L' H' g j)
  | 0 => h
  | j + 1 => by
    have ih := fwdTo_sub h j
    rw [fwdTo, fwdTo, fwdS, fwdS]
    refine ih.put _ _ _ ?_
    have h1 := ih j
    have h2 := ih (j + 1)
    simp only [bothS]
    omega
theorem bwdTo_sub {f g : Nat → Sp} (t : Nat) (h : Sub f g) : ∀ j, Sub (bwdTo st L H t f j) (bwdTo st L' H' t g j)
  | 0 => h
  | j + 1 => by
    have ih := bwdTo_sub t h j
    rw [bwdTo, bwdTo, bwdS, bwdS]
    refine ih.put _ _ _ ?_
    have h1 := ih (t - (j + 1))
    have h2 := ih (t - (j + 1) + 1)
    simp only [bothS]
    omega
theorem roundF_sub {f g : Nat → Sp} (t : Nat) (h : Sub f g) : Sub (roundF st L H t f) (roundF st L' H' t g) :=
  bwdTo_sub st hL hH t (fwdTo_sub st hL hH h t) t
end
theorem Sub.refl (f : Nat → Sp) : Sub f f := fun k => ⟨Int.le_refl _, Int.le_refl _⟩
/-- One look is wider. -/
theorem looks_sub : ∀ (l m : List Lk), l.length = m.length → (∀ (k : Nat) x y, l[k]? = some x → m[k]? = some y → x.t = y.t ∧ y.lo ≤ x.lo ∧ x.hi ≤ y.hi) → ∀ f g, Sub f g → Sub (l.foldl lookS f) (m.foldl lookS g)
  | [], [], _, _, _, _, h => h
  | x :: l, y :: m, hl, hp, f, g, h => by
    obtain ⟨h1, h2, h3⟩ := hp 0 x y rfl rfl
    refine looks_sub l m (by simpa using hl) (fun k a b ha hb => hp (k + 1) a b (by simpa using ha) (by simpa using hb)) _ _ ?_
    unfold lookS
    rw [h1]
    refine h.put _ _ _ ?_
    have := h y.t.toNat
    simp only [bothS]
    omega
  | [], _ :: _, h, _, _, _, _ => by simp at h
  | _ :: _, [], h, _, _, _, _ => by simp at h
end Go.Proofs.TrydX.X
end

section
/- The plain law of ScaleWider. -/
set_option linter.unusedSimpArgs false
set_option linter.unusedVariables false
namespace Go.Proofs.YtidnopmjhhmedaaDoor
open Go.RowKit Go.Proofs.YtidnopmjhhmedaaDoorW.PrintWords Go.Proofs.YtidnopmjhhmedaaDoorW.PrintLast TrydX.X
theorem wider_j1 (k : Nat) (e f a b c d : Int) (h : (e = 42 ∧ (f = 0 ∨ f = 42)) ∨ (e = 0 ∧ f = 0 ∧ c ≤ a ∧ b ≤ d)) : remontoirlaw04_ScaleWider.j1 (k + 1) e f (e != 0) a b c d = some true := by
  simp only [remontoirlaw04_ScaleWider.j1, remontoirref00_Within.f, remontoirlaw04_works.f]
  rcases h with ⟨rfl, rfl | rfl⟩ | ⟨rfl, rfl, h1, h2⟩
  · rfl
  · rfl
  · simp [h1, h2]
theorem wider_j2 (k : Nat) (e f a b c d : Int) (h : (e = 42 ∧ (f = 0 ∨ f = 42)) ∨ (e = 0 ∧ f = 0 ∧ c ≤ a ∧ b ≤ d)) : remontoirlaw04_ScaleWider.j2 (k + 1) e f (e != 0) a b c d = some true := by
  simp only [remontoirlaw04_ScaleWider.j2, remontoirref00_Within.f, remontoirlaw04_works.f]
  rcases h with ⟨rfl, rfl | rfl⟩ | ⟨rfl, rfl, h1, h2⟩
  · rfl
  · rfl
  · simp [h1, h2]
theorem err_wider {F S J L H L' H' T : Int} {st : List Int} {lk lk' : List S71} (h6 : st.length ≤ 17592186044416) (h7 : lk.length ≤ 17592186044416) (h7' : lk'.length ≤ 17592186044416)
    (hc : checkB F S J L H T st (lk.map toLk) = true) (hc' : checkB F S J L' H' T st (lk'.map toLk) = true) (hs : Sub (solF F S J L H T st (lk.map toLk)) (solF F S J L' H' T st (lk'.map toLk))) (t : Int) (ht : lies t 0 T = true) :
    ∃ a b e c d f, scale_Error.f F S J L H T st lk t = some (a, b, e) ∧ scale_Error.f F S J L' H' T st lk' t = some (c, d, f) ∧ ((e = 42 ∧ (f = 0 ∨ f = 42)) ∨ (e = 0 ∧ f = 0 ∧ c ≤ a ∧ b ≤ d)) := by
  have hk := hs t.toNat
  have ho : okF T.toNat (solF F S J L H T st (lk.map toLk)) = true → okF T.toNat (solF F S J L' H' T st (lk'.map toLk)) = true := by
    rw [okF_iff, okF_iff]
    intro h k hk
    have h1 := h k hk
    have h2 := hs k
    omega
  unfold scale_Error.f
  rw [if_pos (show st.length ≤ 17592186044416 ∧ lk.length ≤ 17592186044416 from ⟨h6, h7⟩), if_pos (show st.length ≤ 17592186044416 ∧ lk'.length ≤ 17592186044416 from ⟨h6, h7'⟩)]
  unfold askE
  rw [hc, hc', ht]
  generalize solF F S J L H T st (lk.map toLk) = g at *
  generalize solF F S J L' H' T st (lk'.map toLk) = g' at *
  simp only [if_true]
  cases hg : okF T.toNat g
  · cases hg' : okF T.toNat g'
    · exact ⟨_, _, _, _, _, _, rfl, rfl, .inl ⟨rfl, .inr rfl⟩⟩
    · exact ⟨_, _, _, _, _, _, rfl, rfl, .inl ⟨rfl, .inl rfl⟩⟩
  · rw [ho hg]
    exact ⟨_, _, _, _, _, _, rfl, rfl, .inr ⟨rfl, rfl, hk.1, hk.2⟩⟩
theorem checkB_iff {F S J L H T : Int} {st : List Int} {lk : List Lk} : checkB F S J L H T st lk = true ↔ isRuleB F S J L H = true ∧ lies T 1 60 = true ∧ (st.length : Int) ≤ T ∧ keepsB F S J 0 st = true ∧ lk.length ≤ 10 ∧ lk.all (lookB T) = true := by
  unfold checkB
  simp only [Bool.and_eq_true, decide_eq_true_eq, and_assoc]
theorem wider_true {F S J L H T by_ : Int} {st : List Int} {lk : List S71} (n0 n1 n2 n3 : Int) (h6 : st.length ≤ 17592186044416) (h7 : lk.length ≤ 5864062014805) (hc : checkB F S J L H T st (lk.map toLk) = true) (hb : 0 ≤ by_ ∧ by_ < 30) (K : Nat) :
    remontoirlaw04_ScaleWider.j0 (K + 1 + 1) by_ true F S J L H T st lk n0 n1 n2 n3 F S J L H T st lk = some true := by
  obtain ⟨c1, c2, c3, c4, c5, c6⟩ := checkB_iff.1 hc
  obtain ⟨hF, hS, hJ, hL⟩ := isRuleB_spec c1
  have hT := lies_iff.1 c2
  simp only [remontoirlaw04_ScaleWider.j0]
  rw [if_pos trivial, wr (x := L - by_) (by omega), wr (x := H + by_) (by omega), wr (x := T + 1) (by omega), mx_eq, mn_eq]
  obtain ⟨t, e1, g1, g2⟩ := Rest_f n3 (T + 1) (by omega) (by omega)
  simp only [remontoirref00_To.f, Option.bind_some, e1]
  have hr' : isRuleB F S J (max (-100) (L - by_)) (min 100 (H + by_)) = true := by
    unfold isRuleB
    simp only [Bool.and_eq_true, decide_eq_true_eq]
    exact ⟨⟨⟨⟨⟨lies_iff.2 hF, lies_iff.2 hS⟩, lies_iff.2 hJ⟩, by omega⟩, by omega⟩, by omega⟩
  have hc' : checkB F S J (max (-100) (L - by_)) (min 100 (H + by_)) T st (lk.map toLk) = true := checkB_iff.2 ⟨hr', c2, c3, c4, c5, c6⟩
  obtain ⟨a, b, e, c, d, f, q1, q2, q3⟩ := err_wider h6 (by omega) (by omega) hc hc' (by
    unfold solF
    exact roundF_sub st (by omega) (by omega) _ (Sub.refl _)) t (lies_iff.2 (by omega))
  rw [q1, q2]
  simp only [Option.bind_some]
  exact wider_j1 K e f a b c d q3
theorem wider_false {F S J L H T by_ : Int} {st : List Int} {lk : List S71} (n0 n1 n2 n3 : Int) (h6 : st.length ≤ 17592186044416) (h7 : lk.length ≤ 5864062014805) (hc : checkB F S J L H T st (lk.map toLk) = true) (hb : 0 ≤ by_ ∧ by_ < 30) (h0 : 0 < lk.length) (K : Nat) :
    remontoirlaw04_ScaleWider.j0 (K + 1 + 1) by_ false F S J L H T st lk n0 n1 n2 n3 F S J L H T st lk = some true := by
  obtain ⟨c1, c2, c3, c4, c5, c6⟩ := checkB_iff.1 hc
  obtain ⟨hF, hS, hJ, hL⟩ := isRuleB_spec c1
  have hT := lies_iff.1 c2
  have hl10 : lk.length ≤ 10 := by simpa using c5
  simp only [remontoirlaw04_ScaleWider.j0]
  obtain ⟨m0, e0, f1, f2⟩ := Rest_f n2 lk.length (by omega) (by omega)
  obtain ⟨m, rfl⟩ : ∃ m : Nat, m0 = m := ⟨m0.toNat, by omega⟩
  obtain ⟨t, e1, g1, g2⟩ := Rest_f n3 (T + 1) (by omega) (by omega)
  have hm : m < lk.length := by omega
  have hrd : lk[m]? = some (rd_T71 lk m) := by simp [rd_T71, List.getD_eq_getElem?_getD, hm]
  have hlook : lookB T (toLk (rd_T71 lk m)) = true := List.all_eq_true.1 c6 _ (List.mem_map.2 ⟨_, List.mem_of_getElem? hrd, rfl⟩)
  have hlook2 := hlook
  simp only [lookB, toLk, Bool.and_eq_true, decide_eq_true_eq] at hlook2
  have hlo : -20000 ≤ (rd_T71 lk m).f1.f0 := by first | exact hlook2.1.1.2 | exact of_decide_eq_true hlook2.1.1.2
  have hlh : (rd_T71 lk m).f1.f0 ≤ (rd_T71 lk m).f1.f1 := by first | exact hlook2.1.2 | exact of_decide_eq_true hlook2.1.2
  have hhi : (rd_T71 lk m).f1.f1 ≤ 20000 := by first | exact hlook2.2 | exact of_decide_eq_true hlook2.2
  have htk : lies (rd_T71 lk m).f0 0 T = true := hlook2.1.1.1
  rw [if_neg (by decide), e0]
  simp only [Option.bind_some, List.nil_append, List.length_nil]
  generalize rd_T71 lk m = x at *
  rw [if_pos (by omega), if_pos (by omega), if_pos (by omega), wr (x := x.f1.f0 - by_) (by omega), wr (x := x.f1.f1 + by_) (by omega), wr (x := T + 1) (by omega), mx_eq, mn_eq]
  simp only [remontoirref00_To.f, Option.bind_some, e1, Int.toNat_natCast]
  have hc' : checkB F S J L H T st ((lk.set m ⟨x.f0, ⟨max (-20000) (x.f1.f0 - by_), min 20000 (x.f1.f1 + by_)⟩⟩).map toLk) = true := by
    refine checkB_iff.2 ⟨c1, c2, c3, c4, by simpa using c5, ?_⟩
    rw [List.all_eq_true] at c6 ⊢
    intro y hy
    rw [List.map_set] at hy
    rcases List.mem_or_eq_of_mem_set hy with h | h
    · exact c6 y h
    · rw [h]
      simp only [lookB, toLk, Bool.and_eq_true, decide_eq_true_eq]
      exact ⟨⟨⟨htk, by first | omega | exact decide_eq_true (by omega)⟩, by first | omega | exact decide_eq_true (by omega)⟩, by first | omega | exact decide_eq_true (by omega)⟩
  obtain ⟨a, b, e, c, d, f, q1, q2, q3⟩ := err_wider h6 (by omega) (by rw [List.length_set]; omega) hc hc' (by
    unfold solF
    refine roundF_sub st (Int.le_refl _) (Int.le_refl _) _ ?_
    unfold looksF
    refine looks_sub _ _ (by simp) ?_ _ _ (Sub.refl _)
    intro k u v hu hv
    rw [List.map_set, List.getElem?_set] at hv
    by_cases hk : m = k
    · subst hk
      rw [if_pos rfl, if_pos (by simpa using hm)] at hv
      rw [List.getElem?_map, hrd] at hu
      simp only [Option.map_some, Option.some.injEq] at hu hv
      rw [← hu, ← hv]
      simp only [toLk]
      exact ⟨trivial, by omega, by omega⟩
    · rw [if_neg hk, hu] at hv
      cases hv
      exact ⟨rfl, Int.le_refl _, Int.le_refl _⟩) t (lies_iff.2 (by omega))
  rw [if_pos (by omega), q1, q2]
  simp only [Option.bind_some]
  exact wider_j2 K e f a b c d q3
theorem scaleWider_pure (F S J L H T : Int) (st : List Int) (lk : List S71) (n0 n1 n2 n3 : Int) (wf : W64 F ∧ W64 S ∧ W64 J ∧ W64 L ∧ W64 H ∧ W64 T) (w6 : ∀ z ∈ st, W64 z) (w7 : ∀ z ∈ lk, W64 z.f0 ∧ W64 z.f1.f0 ∧ W64 z.f1.f1) (h6 : st.length ≤ 17592186044416) (h7 : lk.length ≤ 5864062014805) (wn : W64 n0 ∧ W64 n1 ∧ W64 n2 ∧ W64 n3) :
    ∃ k, remontoirlaw04_ScaleWider.f k F S J L H T st lk n0 n1 n2 n3 = some true := by
  obtain ⟨K, hK⟩ : ∃ K : Nat, K = 500 := ⟨_, rfl⟩
  refine ⟨K + 1 + 1, ?_⟩
  unfold remontoirlaw04_ScaleWider.f
  rw [sound_f h6 (by omega) _ (by omega)]
  simp only [Option.bind_some]
  cases hc : checkB F S J L H T st (lk.map toLk)
  · rfl
  · obtain ⟨b, e1, g1, g2⟩ := Rest_f n1 30 (by omega) (by omega)
    obtain ⟨r, e2, _, _⟩ := Rest_f n0 2 (by omega) (by omega)
    rw [if_pos rfl, e1]
    simp only [Option.bind_some, e2]
    by_cases hr : r = 0
    · rw [if_pos hr]
      exact wider_true n0 n1 n2 n3 h6 h7 hc ⟨g1, g2⟩ K
    · rw [if_neg hr]
      rcases Nat.eq_zero_or_pos lk.length with h0 | h0
      · rw [show ((lk.length : Int) == 0) = true from beq_iff_eq.2 (by omega)]
        exact wider_true n0 n1 n2 n3 h6 h7 hc ⟨g1, g2⟩ K
      · rw [show ((lk.length : Int) == 0) = false from beq_eq_false_iff_ne.2 (by omega)]
        exact wider_false n0 n1 n2 n3 h6 h7 hc ⟨g1, g2⟩ h0 K
end Go.Proofs.YtidnopmjhhmedaaDoor
end

section
/- The row and the card of ScaleWider. Written by wip/tools/mkRow.py. -/
set_option linter.unusedVariables false
set_option linter.unusedSimpArgs false
namespace Go.Proofs.YtidnopmjhhmedaaDoor
open Go.ChangeShapes Go.WideShapes Go.ChangeAt Go.RowKit TrydX.X

set_option maxRecDepth 100000 in
theorem scaleWider_lifted (os : Os) (started : os.Started) (H : Type) (enc : TypeId × Value → H) :
    ReturnsInHanded {} Tryd.checked os 14 .any (fun w args => (Rows.scaleWiderSpec.pre enc Tryd.prog Tryd.f14 [] false w args ∧ laidMetH Tryd.prog laid1 w) ∧ sizedMet enc Tryd.prog Tryd.f14 (OpenSpec.ofChange Rows.scaleWiderSpec) false w args)
      (Rows.scaleWiderSpec.post enc Tryd.prog Tryd.f14 false true false false) := by
  refine returnsInHanded_of_change_and (C := Tryd.checked) (X := fun w _ => laidMetH Tryd.prog laid1 w) (fun _ _ _ hh h => h.of_heap hh) own started (by kernel_rfl) Tryd.func14
    (ChangeSpec.witness_shaped (enc := enc) (C := Tryd.checked) (os := os) (X := fun w _ => laidMetH Tryd.prog laid1 w) false (World.doorLaid Tryd.prog 400 os) #[.agg #[.int .i64 0, .int .i64 0, .int .i64 0, .int .i64 0, .int .i64 0, .int .i64 0, .slice none 0 0, .slice none 0 0], .agg #[.int .i64 0, .int .i64 0, .int .i64 0, .int .i64 0]] 8 rfl (World.shaped_of_RefB (by kernel_rfl) (by kernel_rfl)) (by kernel_rfl) (by kernel_rfl) (by kernel_rfl) (door_met os _)) ?_
  intro W base args ds gs before hval0 hW hcnd hsz0 hL _
  have hsz : (DataW.weightsEach Tryd.prog (Tryd.f14.params.toList ++ Rows.scaleWiderSpec.plain.varTypes Tryd.prog) (ds ++ gs)).all (· ≤ reachBytes) = true := hsz0
  have hval : ∀ (j : Nat) t v, Tryd.f14.params[j]? = some t → args[j]? = some v → Value.okWide Tryd.prog W .any base t v := hval0
  have hW' := hW
  obtain ⟨p, q, hA0, hV, rfl, hfz, hnd⟩ := hW
  have hA : DataW.TrodAll enc Tryd.prog W 0 (fun _ => true) true Tryd.f14.params.toList args.toList ds p := hA0
  rw [Tryd.params14] at hA hval hsz
  obtain ⟨v0, vs0, d0, ds0, p0, q0, hargs, rfl, rfl, h0, r0⟩ := trodAll_cons hA
  obtain ⟨v1, vs1, d1, ds1, p1, q1, rfl, rfl, rfl, h1, r1⟩ := trodAll_cons r0
  obtain ⟨rfl, rfl, rfl⟩ := trodAll_nil r1
  obtain rfl : args = #[v0, v1] := by cases args; simp_all
  obtain ⟨rfl, rfl⟩ := trodVars_none hV
  have lt0 : ∀ x ∈ p0, x.block < W.heap.size := by obtain ⟨m, hm⟩ := h0; exact DataW.trod_lt m _ _ _ hm
  have k0 := h0
  obtain ⟨cs0, rfl, hcs0⟩ := agg_of Tryd.underlying44 (hval 0 44 v0 rfl rfl)
  obtain ⟨m0, hm0⟩ := h0
  rw [hcs0] at hm0
  obtain ⟨a_0, b_0, c_0, d_0, e_0, t_0, A6_0, c6_0, l6_0, A7_0, c7_0, l7_0, hB0, hs0⟩ := op44 hm0
  obtain ⟨z6_0, z7_0⟩ := hs0 (weights_at hsz (j := 0) (t := 44) (d := d0) rfl rfl)
  obtain rfl := hB0.cs
  have lt1 : ∀ x ∈ p1, x.block < W.heap.size := by obtain ⟨m, hm⟩ := h1; exact DataW.trod_lt m _ _ _ hm
  have k1 := h1
  obtain ⟨cs1, rfl, hcs1⟩ := agg_arr Tryd.underlying65 (hval 1 65 v1 rfl rfl)
  obtain ⟨m1, hm1⟩ := h1
  rw [hcs1] at hm1
  obtain ⟨a_1, b_1, c_1, d_1, rfl, wf1⟩ := op65 hm1
  obtain ⟨k, hk⟩ := scaleWider_pure a_0 b_0 c_0 d_0 e_0 t_0 l6_0 l7_0 a_1 b_1 c_1 d_1 hB0.wf hB0.w6 hB0.w7 z6_0 z7_0 wf1
  clear hA0 hval0 hsz0 hsz
  refine (remontoirlaw04_ScaleWider.calls k a_0 b_0 c_0 d_0 e_0 t_0 A6_0 c6_0 l6_0 A7_0 c7_0 l7_0 a_1 b_1 c_1 d_1 true W hB0.r6 hB0.h6 hB0.r7 hB0.h7 (ways_of_laid hL) hk).mono fun e W' ⟨he, bel⟩ => ?_
  subst he
  exact ⟨_, rfl, _, _, _, [], _, [], hW', trodAll_mk1 (shut_bool Tryd.underlying4 _), (trodAll_cons_mk (Below.trod laidOut (by kernel_rfl) (of_decide_eq_true (by kernel_rfl)) k0 bel lt0) (trodAll_cons_mk (Below.trod laidOut (by kernel_rfl) (of_decide_eq_true (by kernel_rfl)) k1 bel lt1) trodAll_mk0)), rfl, bel.frame _, fun h => by cases h⟩

theorem scaleWider_row : Rows.ScaleWiderSaid :=
  OpenClaim.holds_of_wide 14 Tryd.f14 rfl rfl rfl rfl rfl rfl rfl ⟨rfl, rfl, rfl, rfl, rfl⟩ rfl rfl rfl rfl rfl (by kernel_rfl) Tryd.func14 (by kernel_rfl)
    (of_decide_eq_true (by kernel_rfl)) (by unfold Func.isWrapper; first | (rw [if_pos (by decide +kernel)]; kernel_rfl) | (rw [if_neg (by decide +kernel)]; exact ⟨rfl, rfl⟩))
    (fun os started H enc _ => scaleWider_lifted os started H enc)

/-- THE CARD. -/
theorem scaleWider_holds : Rows.ScaleWiderCardSaid :=
  Claim7.holds_tied_plain_at .later [] [.funcs] true (true, "42c157d2a2e9e6c40d73358f232322a0bd5e742c3af8e9a8c48de9150ba4d318") false
    scaleWider_row (fun _ h => by cases h) (by kernel_rfl) (fun _ h => by cases h) scaleWider_row_tie rfl ⟨rfl, rfl⟩ (by kernel_rfl) rfl
    (fun f fn hf hfn => by
      obtain rfl : f = 14 := Option.some.inj ((show Tryd.prog.funcNamed "remontoir/remontoirlaw04.ScaleWider" = some 14 by kernel_rfl).symm.trans hf) |>.symm
      obtain rfl : fn = Tryd.f14 := (Option.some.inj (Tryd.func14.symm.trans hfn)).symm
      exact ⟨by kernel_rfl, fun j t ht => by
        rw [Tryd.params14] at ht
        have h3 : t ∈ [(44 : TypeId), (65 : TypeId)] := by
          obtain ⟨hj, e⟩ := Array.getElem?_eq_some_iff.1 ht
          rw [← e]
          exact Array.getElem_mem_toList hj
        simp only [List.mem_cons, List.not_mem_nil, or_false] at h3
        rcases h3 with rfl | rfl
        · exact (show Tryd.prog.wantsStandIn 44 = false by kernel_rfl)
        · exact (show Tryd.prog.wantsStandIn 65 = false by kernel_rfl)⟩)
    (by kernel_rfl)
#print axioms scaleWider_holds
end Go.Proofs.YtidnopmjhhmedaaDoor
end
