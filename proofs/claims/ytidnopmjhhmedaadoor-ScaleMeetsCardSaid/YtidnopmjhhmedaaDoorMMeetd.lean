/- PROVED: ScaleMeetsCardSaid, for every input, where the listed variable reads as the program's text lays it. Part 4 of 6: of this session; merged by wip/tools/mkClaim.py. -/
import Derived.Test.YtidnopmjhhmedaaDoorMMeetb
import Derived.Test.YtidnopmjhhmedaaDoorMMeetc
import Derived.WalkKit
import Derived.Below
import Derived.RangeFuncOwn
import Derived.Laws.StructEq
import Derived.RangeFuncBox
import Derived.Maps.AppendAt
import Derived.Deep.QuietTactic
import Derived.BigQuiet
section
-- Written by wip/tools/pr.py (a program of this repo over the kit's print.py).
namespace Go.Proofs.TrydX.X
open Go.RowKit Go.Proofs.YtidnopmjhhmedaaDoorW.PrintWords Go.Proofs.YtidnopmjhhmedaaDoorW.PrintLast Go.Proofs.YtidnopmjhhmedaaDoorW.PrintMore
attribute [local go_sem] max2_int min2_int max_two min_two max_three min_three max_four min_four   -- for this text's walks alone
set_option linter.unusedVariables false
set_option linter.unusedSimpArgs false

/-! ### remontoirref04_reach: function 69 -/
def remontoirref04_reach.f (k : Nat) (a0_0 : Int) (a0_1 : Int) (a0_2 : Int) (a0_3 : Int) (a0_4 : Int) (a1 : Int) : Option (Int × Int) := (remontoirref04_most.f k a1 a0_1 a0_2).bind fun t132 => ((remontoirref04_most.f k a1 a0_0 a0_2).bind fun t133 => ((remontoirref00_To.f (wrap64 (-t132)) t133).bind fun bt134 => (some (bt134.1, bt134.2))))
def remontoirref04_reach.T1 : Bool × List (List Nat × List Nat) := (true, [([], []), ([], []), ([1], [1]), ([], []), ([3], [3]), ([0, 2, 4], [0, 2, 4]), ([5], [5]), ([], []), ([], []), ([8], [8]), ([], []), ([10], [10]), ([7, 9, 11, 5], [7, 9, 11]), ([6, 12, 12], [6, 12]), ([13, 13, 0, 1, 2, 3, 4, 5, 6, 7, 8, 9, 10, 11, 12, 13], [13])])
def remontoirref04_reach.B1 : List Nat := [0, 0, 2, 0, 8, 31, 63, 0, 0, 256, 0, 1024, 4031, 8191, 16383]
theorem remontoirref04_reach.tab1 : rtab .any (opsOf Tryd.f69 1) = remontoirref04_reach.T1 := by kernel_rfl
theorem remontoirref04_reach.bits1 : waitsOk remontoirref04_reach.T1.2 remontoirref04_reach.B1 = true := by kernel_rfl
set_option maxHeartbeats 8000000 in
set_option maxRecDepth 100000 in
theorem remontoirref04_reach.calls (k : Nat) (a0_0 : Int) (a0_1 : Int) (a0_2 : Int) (a0_3 : Int) (a0_4 : Int) (a1 : Int) (r1 : Int) (r2 : Int) (w : World) (h : remontoirref04_reach.f k a0_0 a0_1 a0_2 a0_3 a0_4 a1 = some (r1, r2)) :
    Calls Tryd.prog 69 #[.agg #[.int .i64 a0_0, .int .i64 a0_1, .int .i64 a0_2, .int .i64 a0_3, .int .i64 a0_4], .int .i64 a1] w fun e w' => e = .returned (.agg #[.int .i64 r1, .int .i64 r2]) ∧ Below w.heap.size w w' := by
  have hu25 := Tryd.underlying25
  have hu23 := Tryd.underlying23
  have HB := Aside0.mk (Below.refl w.heap.size w)
  have H : ((remontoirref04_most.f k a1 a0_1 a0_2).bind fun t132 => ((remontoirref04_most.f k a1 a0_0 a0_2).bind fun t133 => ((remontoirref00_To.f (wrap64 (-t132)) t133).bind fun bt134 => (some (bt134.1, bt134.2))))) = some (r1, r2) := h
  clear h
  replace H := Option.bind_eq_some_iff.mp H
  obtain ⟨t132, A30, H⟩ := H
  replace H : ((remontoirref04_most.f k a1 a0_0 a0_2).bind fun t133 => ((remontoirref00_To.f (wrap64 (-t132)) t133).bind fun bt134 => (some (bt134.1, bt134.2)))) = some (r1, r2) := H
  have A3 := Aside0.mk A30
  clear A30
  replace H := Option.bind_eq_some_iff.mp H
  obtain ⟨t133, A40, H⟩ := H
  replace H : ((remontoirref00_To.f (wrap64 (-t132)) t133).bind fun bt134 => (some (bt134.1, bt134.2))) = some (r1, r2) := H
  have A4 := Aside0.mk A40
  clear A40
  replace H := Option.bind_eq_some_iff.mp H
  obtain ⟨⟨t134, t135⟩, A50, H⟩ := H
  replace H : (some (t134, t135)) = some (r1, r2) := H
  have A5 := Aside0.mk A50
  clear A50
  simp only [Option.some.injEq, Prod.mk.injEq] at H
  obtain ⟨rfl, rfl⟩ := H
  go_enter Tryd.func69, Tryd.ntmps69
  try go_wp2_with (first | ((with_reducible refine gate_dst (N := 2) rfl ?_); refine box_event ?hg (N := 2) ?hd (cs := #[.int .i64 a0_0, .int .i64 a0_1, .int .i64 a0_2, .int .i64 a0_3, .int .i64 a0_4]) (t := 25) ?hr ?_; (case hd => rfl); (case hg => rfl); (case hr => first | (go_simp; done) | (go_simp; rfl)); intro gb130 hg w6 hbox hb; have n0_ := Aside0.mk (below_step (by repeat (first | (with_reducible first | exact HB.out | apply below_alloc | apply pw_below_drewN | apply below_drew1) | exact HB.out)) hb); have n1_ := Aside0.mk (hbox); have n2_ := Aside0.mk ((by rw [hg]; exact (below_size (by repeat (first | (with_reducible first | exact HB.out | apply below_alloc | apply pw_below_drewN | apply below_drew1) | exact HB.out))) : w.heap.size ≤ gb130)); have n3_ := Aside0.mk ((by rw [hg]; exact (below_size (by repeat (first | (with_reducible first | exact HB.out | apply below_alloc | apply pw_below_drewN | apply below_drew1) | exact HB.out))) : w.heap.size ≤ gb130)); clear HB; have HB := n0_; have BK130 := n1_; have GW130 := n2_; have GE130 := n3_; clear n0_ n1_ n2_ n3_; clear hb hbox hg) | ((with_reducible refine gate_dst (N := 4) rfl ?_); refine box_event ?hg (N := 4) ?hd (cs := #[.int .i64 0, .int .i64 0]) (t := 23) ?hr ?_; (case hd => rfl); (case hg => rfl); (case hr => first | (go_simp; done) | (go_simp; rfl)); intro gb131 hg w7 hbox hb; have n0_ := Aside0.mk (blk_below (g := gb130) (o := .cells #[.int .i64 a0_0, .int .i64 a0_1, .int .i64 a0_2, .int .i64 a0_3, .int .i64 a0_4] 25 (0, 0)) (by (with_reducible repeat (first | refine blk_drewN ?_ _ | refine blk_drew ?_ | refine blk_alloc ?_ _)); exact BK130.out) hb); have n1_ := Aside0.mk (below_step (by repeat (first | (with_reducible first | exact HB.out | apply below_alloc | apply pw_below_drewN | apply below_drew1 | refine below_set ?_ GE130.out) | exact HB.out)) hb); have n2_ := Aside0.mk (hbox); have n3_ := Aside0.mk ((by rw [hg]; exact (below_size (by repeat (first | (with_reducible first | exact HB.out | apply below_alloc | apply pw_below_drewN | apply below_drew1 | refine below_set ?_ GE130.out) | exact HB.out))) : w.heap.size ≤ gb131)); have n4_ := Aside0.mk ((by rw [hg]; exact (below_size (by repeat (first | (with_reducible first | exact HB.out | apply below_alloc | apply pw_below_drewN | apply below_drew1 | refine below_set ?_ GE130.out) | exact HB.out))) : w.heap.size ≤ gb131)); have n5_ := Aside0.mk ((by rw [hg]; exact Nat.ne_of_lt (blk_lt (g := gb130) (o := .cells #[.int .i64 a0_0, .int .i64 a0_1, .int .i64 a0_2, .int .i64 a0_3, .int .i64 a0_4] 25 (0, 0)) (by (with_reducible repeat (first | refine blk_drewN ?_ _ | refine blk_drew ?_ | refine blk_alloc ?_ _)); exact BK130.out)) : gb130 ≠ gb131)); have n6_ := Aside0.mk ((by rw [hg]; exact Nat.ne_of_gt (blk_lt (g := gb130) (o := .cells #[.int .i64 a0_0, .int .i64 a0_1, .int .i64 a0_2, .int .i64 a0_3, .int .i64 a0_4] 25 (0, 0)) (by (with_reducible repeat (first | refine blk_drewN ?_ _ | refine blk_drew ?_ | refine blk_alloc ?_ _)); exact BK130.out)) : gb131 ≠ gb130)); clear BK130; clear HB; have BK130 := n0_; have HB := n1_; have BK131 := n2_; have GW131 := n3_; have GE131 := n4_; have NB130_131 := n5_; have NB131_130 := n6_; clear n0_ n1_ n2_ n3_ n4_ n5_ n6_; clear hb hbox hg))
  have n0_ := Aside0.mk (blk_drew BK130.out)
  have n1_ := Aside0.mk (blk_drew BK131.out)
  have n2_ := Aside0.mk (below_drew1 HB.out)
  clear BK130
  clear BK131
  clear HB
  have BK130 := n0_
  have BK131 := n1_
  have HB := n2_
  clear n0_ n1_ n2_
  refine start_ (n := 15) (S := fun w' => w'.cell? ⟨gb130, 0, none⟩ = some (.int .i64 a0_0) ∧ w'.cell? ⟨gb130, 1, none⟩ = some (.int .i64 a0_1) ∧ w'.cell? ⟨gb130, 2, none⟩ = some (.int .i64 a0_2) ∧ w'.cell? ⟨gb130, 3, none⟩ = some (.int .i64 a0_3) ∧ w'.cell? ⟨gb130, 4, none⟩ = some (.int .i64 a0_4)) (ds := []) #[false, false, false, false, false, false, false, false, false, false, false, false, false, false, false] (by kernel_rfl) rfl rfl ⟨(blk_cell BK130.out 0).trans rfl, (blk_cell BK130.out 1).trans rfl, (blk_cell BK130.out 2).trans rfl, (blk_cell BK130.out 3).trans rfl, (blk_cell BK130.out 4).trans rfl⟩ (fun hHeld => ?_); refine with_tabW remontoirref04_reach.tab1 remontoirref04_reach.bits1 (fun HT_ HW_ => ?_)
  generalize w7.drew = w8 at BK130 BK131 HB hHeld ⊢
  refine pure_ (i := 0) (N := some 5) (v := ?_) (a' := ?_) #[true, false, false, false, false, false, false, false, false, false, false, false, false, false, false] rfl rfl (any_of HT_.out (by kernel_rfl)) (fun _ _ _ h => h) (Or.inl ⟨by rfl, ?_⟩) ?_ ?_
  rotate_left
  · intro w'
    go_simp
    with_reducible rfl
  rotate_left
  · simp only [Act.put, List.setIfInBounds_toArray, List.set_cons_zero, List.set_cons_succ, i64_w, i32_w]
    rfl
  refine pure_ (i := 1) (N := some 6) (v := ?_) (a' := ?_) #[true, true, false, false, false, false, false, false, false, false, false, false, false, false, false] rfl rfl (any_of HT_.out (by kernel_rfl)) (fun _ _ _ h => h) (Or.inl ⟨by rfl, ?_⟩) ?_ ?_
  rotate_left
  · intro w'
    go_simp
    with_reducible rfl
  rotate_left
  · simp only [Act.put, List.setIfInBounds_toArray, List.set_cons_zero, List.set_cons_succ, i64_w, i32_w]
    rfl
  refine pure_ (i := 3) (N := some 8) (v := ?_) (a' := ?_) #[true, true, false, true, false, false, false, false, false, false, false, false, false, false, false] rfl rfl (any_of HT_.out (by kernel_rfl)) (fun _ _ _ h => h) (Or.inl ⟨by rfl, ?_⟩) ?_ ?_
  rotate_left
  · intro w'
    go_simp
    with_reducible rfl
  rotate_left
  · simp only [Act.put, List.setIfInBounds_toArray, List.set_cons_zero, List.set_cons_succ, i64_w, i32_w]
    rfl
  refine pure_ (i := 7) (N := some 12) (v := ?_) (a' := ?_) #[true, true, false, true, false, false, false, true, false, false, false, false, false, false, false] rfl rfl (any_of HT_.out (by kernel_rfl)) (fun _ _ _ h => h) (Or.inl ⟨by rfl, ?_⟩) ?_ ?_
  rotate_left
  · intro w'
    go_simp
    with_reducible rfl
  rotate_left
  · simp only [Act.put, List.setIfInBounds_toArray, List.set_cons_zero, List.set_cons_succ, i64_w, i32_w]
    rfl
  refine pure_ (i := 8) (N := some 13) (v := ?_) (a' := ?_) #[true, true, false, true, false, false, false, true, true, false, false, false, false, false, false] rfl rfl (any_of HT_.out (by kernel_rfl)) (fun _ _ _ h => h) (Or.inl ⟨by rfl, ?_⟩) ?_ ?_
  rotate_left
  · intro w'
    go_simp
    with_reducible rfl
  rotate_left
  · simp only [Act.put, List.setIfInBounds_toArray, List.set_cons_zero, List.set_cons_succ, i64_w, i32_w]
    rfl
  refine pure_ (i := 10) (N := some 15) (v := ?_) (a' := ?_) #[true, true, false, true, false, false, false, true, true, false, true, false, false, false, false] rfl rfl (any_of HT_.out (by kernel_rfl)) (fun _ _ _ h => h) (Or.inl ⟨by rfl, ?_⟩) ?_ ?_
  rotate_left
  · intro w'
    go_simp
    with_reducible rfl
  rotate_left
  · simp only [Act.put, List.setIfInBounds_toArray, List.set_cons_zero, List.set_cons_succ, i64_w, i32_w]
    rfl
  refine take_ (i := 2) (N := some 7) (v := ?_) (a' := ?_) #[true, true, true, true, false, false, false, true, true, false, true, false, false, false, false] rfl rfl (take_ofW HT_.out HW_.out (by kernel_rfl)) (fun _ _ _ h => h) (Or.inl ⟨by rfl, ?_⟩) hHeld ?_ ?_
  rotate_left
  · rintro w' ⟨s0, s1, s2, s3, s4⟩
    go_simp
    with_reducible rfl
  rotate_left
  · simp only [Act.put, List.setIfInBounds_toArray, List.set_cons_zero, List.set_cons_succ, i64_w, i32_w]
    rfl
  refine take_ (i := 4) (N := some 9) (v := ?_) (a' := ?_) #[true, true, true, true, true, false, false, true, true, false, true, false, false, false, false] rfl rfl (take_ofW HT_.out HW_.out (by kernel_rfl)) (fun _ _ _ h => h) (Or.inl ⟨by rfl, ?_⟩) hHeld ?_ ?_
  rotate_left
  · rintro w' ⟨s0, s1, s2, s3, s4⟩
    go_simp
    with_reducible rfl
  rotate_left
  · simp only [Act.put, List.setIfInBounds_toArray, List.set_cons_zero, List.set_cons_succ, i64_w, i32_w]
    rfl
  refine take_ (i := 9) (N := some 14) (v := ?_) (a' := ?_) #[true, true, true, true, true, false, false, true, true, true, true, false, false, false, false] rfl rfl (take_ofW HT_.out HW_.out (by kernel_rfl)) (fun _ _ _ h => h) (Or.inl ⟨by rfl, ?_⟩) hHeld ?_ ?_
  rotate_left
  · rintro w' ⟨s0, s1, s2, s3, s4⟩
    go_simp
    with_reducible rfl
  rotate_left
  · simp only [Act.put, List.setIfInBounds_toArray, List.set_cons_zero, List.set_cons_succ, i64_w, i32_w]
    rfl
  refine take_ (i := 11) (N := some 16) (v := ?_) (a' := ?_) #[true, true, true, true, true, false, false, true, true, true, true, true, false, false, false] rfl rfl (take_ofW HT_.out HW_.out (by kernel_rfl)) (fun _ _ _ h => h) (Or.inl ⟨by rfl, ?_⟩) hHeld ?_ ?_
  rotate_left
  · rintro w' ⟨s0, s1, s2, s3, s4⟩
    go_simp
    with_reducible rfl
  rotate_left
  · simp only [Act.put, List.setIfInBounds_toArray, List.set_cons_zero, List.set_cons_succ, i64_w, i32_w]
    rfl
  refine one_ (i := 5) (N := some 10) #[true, true, true, true, true, true, false, true, true, true, true, true, false, false, false] rfl rfl (one_of HT_.out (by kernel_rfl)) (by decide) (fun K hK => ?_)
  refine goes_ Tryd.func82 (by kernel_rfl) rfl #[.int .i64 a1, .int .i64 a0_1, .int .i64 a0_2] (by rfl) rfl rfl (by (try simp only [List.map_toArray, List.map_cons, List.map_nil]); first | done | rfl | (simp only [List.length_drop, List.length_take]; rfl)) ?_
  with_reducible refine (remontoirref04_most.calls k a1 a0_1 a0_2 t132 _ A3.out).mono ?_
  rintro e w9 ⟨rfl, hb⟩
  refine ⟨_, rfl, ?_⟩
  have n0_ := Aside0.mk (blk_below (g := gb130) (o := .cells #[.int .i64 a0_0, .int .i64 a0_1, .int .i64 a0_2, .int .i64 a0_3, .int .i64 a0_4] 25 (0, 0)) (by (with_reducible repeat (first | refine blk_drewN ?_ _ | refine blk_drew ?_ | refine blk_alloc ?_ _)); exact BK130.out) hb)
  have n1_ := Aside0.mk (blk_below (g := gb131) (o := .cells #[.int .i64 0, .int .i64 0] 23 (0, 0)) (by (with_reducible repeat (first | refine blk_drewN ?_ _ | refine blk_drew ?_ | refine blk_alloc ?_ _)); exact BK131.out) hb)
  have n2_ := Aside0.mk (below_step (by repeat (first | (with_reducible first | exact HB.out | apply below_alloc | apply pw_below_drewN | apply below_drew1 | refine below_set ?_ GE130.out | refine below_set ?_ GE131.out) | exact HB.out)) hb)
  clear BK130
  clear BK131
  clear HB
  have BK130 := n0_
  have BK131 := n1_
  have HB := n2_
  clear n0_ n1_ n2_
  (try clear hb)
  (try clear hb2)
  (try clear hk)
  (try clear hi)
  refine hK.out _ _ ⟨(blk_cell BK130.out 0).trans rfl, (blk_cell BK130.out 1).trans rfl, (blk_cell BK130.out 2).trans rfl, (blk_cell BK130.out 3).trans rfl, (blk_cell BK130.out 4).trans rfl⟩ (fun hHeld => ?_)
  clear hK K
  refine norm_ (a' := ?_) ?_ ?_
  rotate_left
  · show Act.put _ (some 10) _ = _
    simp only [Act.put, List.setIfInBounds_toArray, List.set_cons_zero, List.set_cons_succ, i64_w, i32_w]
    rfl
  refine pure_ (i := 6) (N := some 11) (v := ?_) (a' := ?_) #[true, true, true, true, true, true, true, true, true, true, true, true, false, false, false] rfl rfl (any_of HT_.out (by kernel_rfl)) (fun _ _ _ h => h) (Or.inl ⟨by rfl, ?_⟩) ?_ ?_
  rotate_left
  · intro w'
    go_simp
    with_reducible rfl
  rotate_left
  · simp only [Act.put, List.setIfInBounds_toArray, List.set_cons_zero, List.set_cons_succ, i64_w, i32_w]
    rfl
  refine one_ (i := 12) (N := some 17) #[true, true, true, true, true, true, true, true, true, true, true, true, true, false, false] rfl rfl (one_of HT_.out (by kernel_rfl)) (by decide) (fun K hK => ?_)
  refine goes_ Tryd.func82 (by kernel_rfl) rfl #[.int .i64 a1, .int .i64 a0_0, .int .i64 a0_2] (by rfl) rfl rfl (by (try simp only [List.map_toArray, List.map_cons, List.map_nil]); first | done | rfl | (simp only [List.length_drop, List.length_take]; rfl)) ?_
  with_reducible refine (remontoirref04_most.calls k a1 a0_0 a0_2 t133 _ A4.out).mono ?_
  rintro e w10 ⟨rfl, hb⟩
  refine ⟨_, rfl, ?_⟩
  have n0_ := Aside0.mk (blk_below (g := gb130) (o := .cells #[.int .i64 a0_0, .int .i64 a0_1, .int .i64 a0_2, .int .i64 a0_3, .int .i64 a0_4] 25 (0, 0)) (by (with_reducible repeat (first | refine blk_drewN ?_ _ | refine blk_drew ?_ | refine blk_alloc ?_ _)); exact BK130.out) hb)
  have n1_ := Aside0.mk (blk_below (g := gb131) (o := .cells #[.int .i64 0, .int .i64 0] 23 (0, 0)) (by (with_reducible repeat (first | refine blk_drewN ?_ _ | refine blk_drew ?_ | refine blk_alloc ?_ _)); exact BK131.out) hb)
  have n2_ := Aside0.mk (below_step (by repeat (first | (with_reducible first | exact HB.out | apply below_alloc | apply pw_below_drewN | apply below_drew1 | refine below_set ?_ GE130.out | refine below_set ?_ GE131.out) | exact HB.out)) hb)
  clear BK130
  clear BK131
  clear HB
  have BK130 := n0_
  have BK131 := n1_
  have HB := n2_
  clear n0_ n1_ n2_
  (try clear hb)
  (try clear hb2)
  (try clear hk)
  (try clear hi)
  refine hK.out _ _ ⟨(blk_cell BK130.out 0).trans rfl, (blk_cell BK130.out 1).trans rfl, (blk_cell BK130.out 2).trans rfl, (blk_cell BK130.out 3).trans rfl, (blk_cell BK130.out 4).trans rfl⟩ (fun hHeld => ?_)
  clear hK K
  refine norm_ (a' := ?_) ?_ ?_
  rotate_left
  · show Act.put _ (some 17) _ = _
    simp only [Act.put, List.setIfInBounds_toArray, List.set_cons_zero, List.set_cons_succ, i64_w, i32_w]
    rfl
  refine one_ (i := 13) (N := some 18) #[true, true, true, true, true, true, true, true, true, true, true, true, true, true, false] rfl rfl (one_of HT_.out (by kernel_rfl)) (by decide) (fun K hK => ?_)
  refine goes_ Tryd.func49 (by kernel_rfl) rfl #[.int .i64 (wrap64 (-t132)), .int .i64 t133] (by rfl) rfl rfl (by (try simp only [List.map_toArray, List.map_cons, List.map_nil]); first | done | rfl | (simp only [List.length_drop, List.length_take]; rfl)) ?_
  with_reducible refine (remontoirref00_To.calls (wrap64 (-t132)) t133 t134 t135 _ A5.out).mono ?_
  rintro e w11 ⟨rfl, hb⟩
  refine ⟨_, rfl, ?_⟩
  have n0_ := Aside0.mk (blk_below (g := gb130) (o := .cells #[.int .i64 a0_0, .int .i64 a0_1, .int .i64 a0_2, .int .i64 a0_3, .int .i64 a0_4] 25 (0, 0)) (by (with_reducible repeat (first | refine blk_drewN ?_ _ | refine blk_drew ?_ | refine blk_alloc ?_ _)); exact BK130.out) hb)
  have n1_ := Aside0.mk (blk_below (g := gb131) (o := .cells #[.int .i64 0, .int .i64 0] 23 (0, 0)) (by (with_reducible repeat (first | refine blk_drewN ?_ _ | refine blk_drew ?_ | refine blk_alloc ?_ _)); exact BK131.out) hb)
  have n2_ := Aside0.mk (below_step (by repeat (first | (with_reducible first | exact HB.out | apply below_alloc | apply pw_below_drewN | apply below_drew1 | refine below_set ?_ GE130.out | refine below_set ?_ GE131.out) | exact HB.out)) hb)
  clear BK130
  clear BK131
  clear HB
  have BK130 := n0_
  have BK131 := n1_
  have HB := n2_
  clear n0_ n1_ n2_
  (try clear hb)
  (try clear hb2)
  (try clear hk)
  (try clear hi)
  refine hK.out _ _ ⟨(blk_cell BK130.out 0).trans rfl, (blk_cell BK130.out 1).trans rfl, (blk_cell BK130.out 2).trans rfl, (blk_cell BK130.out 3).trans rfl, (blk_cell BK130.out 4).trans rfl⟩ (fun hHeld => ?_)
  clear hK K
  refine norm_ (a' := ?_) ?_ ?_
  rotate_left
  · show Act.put _ (some 18) _ = _
    simp only [Act.put, List.setIfInBounds_toArray, List.set_cons_zero, List.set_cons_succ, i64_w, i32_w]
    rfl
  refine one_ (i := 14) (N := none) #[true, true, true, true, true, true, true, true, true, true, true, true, true, true, true] rfl rfl (one_of HT_.out (by kernel_rfl)) (by decide) (fun K hK => ?_)
  have hs12 : w11.cell? ⟨gb131, 0, none⟩ = some (.int .i64 0) := (blk_cell BK131.out 0).trans rfl
  have hfs12 := blk_frozen BK131.out 0
  have hns12_0 := NB130_131.out
  have hms12_0 := NB131_130.out
  have hs13 : w11.cell? ⟨gb131, 1, none⟩ = some (.int .i64 0) := (blk_cell BK131.out 1).trans rfl
  have hfs13 := blk_frozen BK131.out 1
  have hns13_0 := NB130_131.out
  have hms13_0 := NB131_130.out
  refine skip_ (w1 := ?_) (by rfl) rfl ?_ ?_
  rotate_left
  · go_simp
    rfl
  refine hK.out _ _ ⟨((cell_far (p := ⟨gb131, _, none⟩) NB130_131.out _).trans (((cell_far (p := ⟨gb131, _, none⟩) NB130_131.out _).trans (hHeld.1)))), ((cell_far (p := ⟨gb131, _, none⟩) NB130_131.out _).trans (((cell_far (p := ⟨gb131, _, none⟩) NB130_131.out _).trans (hHeld.2.1)))), ((cell_far (p := ⟨gb131, _, none⟩) NB130_131.out _).trans (((cell_far (p := ⟨gb131, _, none⟩) NB130_131.out _).trans (hHeld.2.2.1)))), ((cell_far (p := ⟨gb131, _, none⟩) NB130_131.out _).trans (((cell_far (p := ⟨gb131, _, none⟩) NB130_131.out _).trans (hHeld.2.2.2.1)))), ((cell_far (p := ⟨gb131, _, none⟩) NB130_131.out _).trans (((cell_far (p := ⟨gb131, _, none⟩) NB130_131.out _).trans (hHeld.2.2.2.2))))⟩ (fun hHeld => ?_)
  clear hK K
  refine done_ (done_of HT_.out (by kernel_rfl)) ?_
  try go_wp2
  refine bodyPost_ret (results_cell_row rfl _ _ gb131 23 #[.int .i64 t134, .int .i64 t135] (0, 0) _ rfl (by (with_reducible repeat (first | refine blk_drewN ?_ _ | refine blk_drew ?_ | refine blk_alloc ?_ _)); refine blk_put (cs := #[.int .i64 t134, .int .i64 0]) ?_ 1 _ rfl; (with_reducible repeat (first | refine blk_drewN ?_ _ | refine blk_drew ?_ | refine blk_alloc ?_ _)); refine blk_put (cs := #[.int .i64 0, .int .i64 0]) ?_ 0 _ rfl; (with_reducible repeat (first | refine blk_drewN ?_ _ | refine blk_drew ?_ | refine blk_alloc ?_ _)); exact BK131.out) Tryd.underlying23 rfl (by kernel_rfl)) rfl ?_
  exact ⟨by first | rfl | (simp [errW_none, errW_some] <;> rfl) | (simp [*, errW_none, errW_some] <;> rfl), by repeat (first | (with_reducible first | exact HB.out | apply below_alloc | apply pw_below_drewN | apply below_drew1 | refine below_set ?_ GE130.out | refine below_set ?_ GE131.out) | exact HB.out)⟩

end Go.Proofs.TrydX.X
end

section
-- Written by wip/tools/pr.py (a program of this repo over the kit's print.py).
namespace Go.Proofs.TrydX.X
open Go.RowKit Go.Proofs.YtidnopmjhhmedaaDoorW.PrintWords Go.Proofs.YtidnopmjhhmedaaDoorW.PrintLast Go.Proofs.YtidnopmjhhmedaaDoorW.PrintMore
attribute [local go_sem] max2_int min2_int max_two min_two max_three min_three max_four min_four   -- for this text's walks alone
set_option linter.unusedVariables false
set_option linter.unusedSimpArgs false

/-! ### remontoirref04_reaches: function 64 -/
def remontoirref04_reaches.l0 : Nat → List (S23) → Int → Int → Int → Int → Int → Int → Option ((List (S23)))
  | 0, _, _, _, _, _, _, _ => none
  | k + 1, x3, x4, x137000, x137001, x137002, x137003, x137004 => if x4 ≤ 200 then ((remontoirref04_reach.f k x137000 x137001 x137002 x137003 x137004 x4).bind fun bt137 => (if x3.length < 8796093022208 then (remontoirref04_reaches.l0 k (x3 ++ [(⟨bt137.1, bt137.2⟩ : S23)]) (wrap64 (x4 + 1)) x137000 x137001 x137002 x137003 x137004) else (none))) else (some x3)
def remontoirref04_reaches.f (k : Nat) (a0_0 : Int) (a0_1 : Int) (a0_2 : Int) (a0_3 : Int) (a0_4 : Int) : Option ((List (S23))) := remontoirref04_reaches.l0 k ([] : List (S23)) 0 a0_0 a0_1 a0_2 a0_3 a0_4
set_option maxHeartbeats 8000000 in
set_option maxRecDepth 100000 in
theorem remontoirref04_reaches.calls (k : Nat) (a0_0 : Int) (a0_1 : Int) (a0_2 : Int) (a0_3 : Int) (a0_4 : Int) (r : List (S23)) (w : World) (h : remontoirref04_reaches.f k a0_0 a0_1 a0_2 a0_3 a0_4 = some r) :
    Calls Tryd.prog 64 #[.agg #[.int .i64 a0_0, .int .i64 a0_1, .int .i64 a0_2, .int .i64 a0_3, .int .i64 a0_4]] w fun e w' => ∃ v0_ : Value, e = .returned (v0_) ∧ Kd.R k23 23 w' w.heap.size (fun _ => True) v0_ r ∧ Below w.heap.size w w' := by
  have hu25 := Tryd.underlying25
  have HB := Aside0.mk (Below.refl w.heap.size w)
  have H : (remontoirref04_reaches.l0 k ([] : List (S23)) 0 a0_0 a0_1 a0_2 a0_3 a0_4) = some r := h
  clear h
  have H' := Aside0.mk H
  clear H
  go_enter Tryd.func64, Tryd.ntmps64
  go_wp2_with (first | ((with_reducible refine gate_dst (N := 1) rfl ?_); refine box_event ?hg (N := 1) ?hd (cs := #[.int .i64 a0_0, .int .i64 a0_1, .int .i64 a0_2, .int .i64 a0_3, .int .i64 a0_4]) (t := 25) ?hr ?_; (case hd => rfl); (case hg => rfl); (case hr => first | (go_simp; done) | (go_simp; rfl)); intro gb136 hg w2 hbox hb; have n0_ := Aside0.mk (below_step (by repeat (first | (with_reducible first | exact HB.out | apply below_alloc | apply pw_below_drewN | apply below_drew1) | exact HB.out)) hb); have n1_ := Aside0.mk (hbox); have n2_ := Aside0.mk ((by rw [hg]; exact (below_size (by repeat (first | (with_reducible first | exact HB.out | apply below_alloc | apply pw_below_drewN | apply below_drew1) | exact HB.out))) : w.heap.size ≤ gb136)); have n3_ := Aside0.mk ((by rw [hg]; exact (below_size (by repeat (first | (with_reducible first | exact HB.out | apply below_alloc | apply pw_below_drewN | apply below_drew1) | exact HB.out))) : w.heap.size ≤ gb136)); clear HB; have HB := n0_; have BK136 := n1_; have GW136 := n2_; have GE136 := n3_; clear n0_ n1_ n2_ n3_; clear hb hbox hg))
  go_loopg [3, 4] k (fun kq v3 v4 w' => ∃ (x3_1 : List (S23)) (x4_1 : Int), v4 = .int .i64 x4_1 ∧ Aside0 (remontoirref04_reaches.l0 kq x3_1 x4_1 a0_0 a0_1 a0_2 a0_3 a0_4 = some r) ∧ Aside0 (kq ≤ k) ∧ Aside0 (Kd.R k23 23 w' w.heap.size (fun _ => True) v3 x3_1) ∧ Aside0 (w'.heap[gb136]? = some (.cells #[.int .i64 a0_0, .int .i64 a0_1, .int .i64 a0_2, .int .i64 a0_3, .int .i64 a0_4] 25 (0, 0))) ∧ Aside0 (Below w.heap.size w w'))
  case atStart => exact ⟨(([] : List (S23))), (0), (by first | rfl | (simp; done) | (simp [*]; done)), H', ⟨Nat.le_refl _⟩, ⟨by first | exact Kd.R_nil _ _ _ _ _ | exact Kd.N_nil _ _ _ _ _ | exact Kd.V_nil _ _ _ _ _ | exact Kd.Q_nil _ _ _ _ _ | exact Kd.S_nil _ _ _ _ _⟩, ⟨by (with_reducible repeat (first | refine blk_drewN ?_ _ | refine blk_drew ?_ | refine blk_alloc ?_ _)); exact BK136.out⟩, ⟨by repeat (first | (with_reducible first | exact HB.out | apply below_alloc | apply pw_below_drewN | apply below_drew1 | refine below_set ?_ GE136.out) | exact HB.out)⟩⟩
  case round =>
    clear H'
    try clear p2
    obtain ⟨x3_1, x4_1, rfl, HA, HK1, HO_3, BK136, HB⟩ := hrel
    cases gk with
    | zero => exact absurd HA.out (by simp [remontoirref04_reaches.l0])
    | succ k1 =>
      have H := HA.out
      clear HA
      simp only [remontoirref04_reaches.l0] at H
      by_cases c3 : x4_1 ≤ 200
      · rw [if_pos c3] at H
        have c3b0 : decide (x4_1 ≤ 200) = true := decide_eq_true c3
        clear c3
        replace H := Option.bind_eq_some_iff.mp H
        obtain ⟨⟨t137, t138⟩, A40, H⟩ := H
        replace H : (if x3_1.length < 8796093022208 then (remontoirref04_reaches.l0 k1 (x3_1 ++ [(⟨t137, t138⟩ : S23)]) (wrap64 (x4_1 + 1)) a0_0 a0_1 a0_2 a0_3 a0_4) else (none)) = some r := H
        have A4 := Aside0.mk A40
        clear A40
        by_cases c5 : x3_1.length < 8796093022208
        · rw [if_pos c5] at H
          have LMc5 := Aside0.mk c5
          clear c5
          obtain ⟨y139, hy139⟩ : ∃ y_ : List (S23), y_ = (x3_1 ++ [(⟨t137, t138⟩ : S23)]) := ⟨_, rfl⟩
          replace H : (remontoirref04_reaches.l0 k1 y139 (wrap64 (x4_1 + 1)) a0_0 a0_1 a0_2 a0_3 a0_4) = some r := by first | (rw [hy139]; with_reducible exact H) | (have H2_ := (Option.bind_some _ _).symm.trans H; rw [hy139]; with_reducible exact H2_) | (have H2_ := (Option.bind_some _ _).symm.trans H; with_reducible exact H2_) | with_reducible exact H | (rw [hy139]; exact H) | exact H
          have Ny139 := Aside0.mk hy139
          clear hy139
          have H' := Aside0.mk H
          clear H
          have hcz6_0 : wr.cell? ⟨gb136, 0, none⟩ = some (.int .i64 a0_0) := (blk_cell BK136.out 0).trans rfl
          have hcz6_1 : wr.cell? ⟨gb136, 1, none⟩ = some (.int .i64 a0_1) := (blk_cell BK136.out 1).trans rfl
          have hcz6_2 : wr.cell? ⟨gb136, 2, none⟩ = some (.int .i64 a0_2) := (blk_cell BK136.out 2).trans rfl
          have hcz6_3 : wr.cell? ⟨gb136, 3, none⟩ = some (.int .i64 a0_3) := (blk_cell BK136.out 3).trans rfl
          have hcz6_4 : wr.cell? ⟨gb136, 4, none⟩ = some (.int .i64 a0_4) := (blk_cell BK136.out 4).trans rfl
          have hfz6_0 := blk_frozen BK136.out 0
          have hfz6_1 := blk_frozen BK136.out 1
          have hfz6_2 := blk_frozen BK136.out 2
          have hfz6_3 := blk_frozen BK136.out 3
          have hfz6_4 := blk_frozen BK136.out 4
          go_wp2_with (first | ((with_reducible refine gate_callee (f := 69) rfl ?_); refine goesL_ (some 12) rfl rfl Tryd.func69 (by kernel_rfl) rfl #[.agg #[.int .i64 a0_0, .int .i64 a0_1, .int .i64 a0_2, .int .i64 a0_3, .int .i64 a0_4], .int .i64 x4_1] rfl (by (try simp only [List.map_toArray, List.map_cons, List.map_nil]); first | done | rfl | (simp only [List.length_drop, List.length_take]; rfl)) ?_; (with_reducible refine (remontoirref04_reach.calls k1 a0_0 a0_1 a0_2 a0_3 a0_4 x4_1 t137 t138 _ A4.out).mono ?_); rintro e w7 ⟨rfl, hb⟩; refine ⟨_, rfl, ?_⟩; have n0_ := Aside0.mk (Kd.R_below (by (with_reducible repeat (first | apply Kd.R_alloc | apply Kd.R_drewN | apply Kd.R_drew)); exact HO_3.out) hb); have n1_ := Aside0.mk (blk_below (g := gb136) (o := .cells #[.int .i64 a0_0, .int .i64 a0_1, .int .i64 a0_2, .int .i64 a0_3, .int .i64 a0_4] 25 (0, 0)) (by (with_reducible repeat (first | refine blk_drewN ?_ _ | refine blk_drew ?_ | refine blk_alloc ?_ _)); exact BK136.out) hb); have n2_ := Aside0.mk (below_step (by repeat (first | (with_reducible first | exact HB.out | apply below_alloc | apply pw_below_drewN | apply below_drew1 | refine below_set ?_ GE136.out) | exact HB.out)) hb); clear HO_3; clear BK136; clear HB; have HO_3 := n0_; have BK136 := n1_; have HB := n2_; clear n0_ n1_ n2_; (try clear hb); (try clear hb2); (try clear hk); (try clear hi)) | ((with_reducible refine gate_builtin (b := .append) (xs := #[.tmp 9, .tmp 13]) rfl ?_); at_builtin; refine Kd.R_append k23 (w0 := w) w.heap.size rfl (.tmp 9) (.tmp 13) 88 23 (.agg #[(.int .i64 0), (.int .i64 0)]) 16 rfl Tryd.underlying88 info23 rfl (by decide) (by omega) u3 x3_1 (⟨t137, t138⟩ : S23) [.int .i64 t137, .int .i64 t138] (fun _ => True) (fun _ => False) rfl rfl ?aP (fun _ hk => hk.elim) ?aF ?aO ?aB ?aS ?aL ?_; (case aP => exact k23_mkM _ _ _ (⟨t137, t138⟩ : S23)); (case aB => exact (by repeat (first | (with_reducible first | exact HB.out | apply below_alloc | apply pw_below_drewN | apply below_drew1 | refine below_set ?_ GE136.out) | exact HB.out))); (case aF => exact (fun _ _ => trivial)); (case aO => exact (by (with_reducible repeat (first | apply Kd.R_alloc | apply Kd.R_drewN | apply Kd.R_drew)); exact HO_3.out)); (case aS => exact (below_size (by repeat (first | (with_reducible first | exact HB.out | apply below_alloc | apply pw_below_drewN | apply below_drew1 | refine below_set ?_ GE136.out) | exact HB.out)))); (case aL => have := LMc5.out; omega); intro v140 w8 ho hb hg hat; rw [← Ny139.out] at ho; have n0_ := Aside0.mk (blk_grown (g := gb136) (o := .cells #[.int .i64 a0_0, .int .i64 a0_1, .int .i64 a0_2, .int .i64 a0_3, .int .i64 a0_4] 25 (0, 0)) (by (with_reducible repeat (first | refine blk_drewN ?_ _ | refine blk_drew ?_ | refine blk_alloc ?_ _)); exact BK136.out) hg (Kd.R_ne HO_3.out BK136.out (by decide))); have n1_ := Aside0.mk (hb); have n2_ := Aside0.mk (ho); clear BK136; clear HB; clear HO_3; have BK136 := n0_; have HB := n1_; have HO141 := n2_; clear n0_ n1_ n2_; clear ho hb hg hat))
          go_roundg k1
          case measure => have := HK1.out; omega
          case rel => exact ⟨(y139), (wrap64 (x4_1 + 1)), (by first | rfl | (simp; done) | (simp [*]; done)), H', ⟨by have := HK1.out; omega⟩, ⟨by (with_reducible repeat (first | apply Kd.R_alloc | apply Kd.R_drewN | apply Kd.R_drew)); exact HO141.out⟩, ⟨by (with_reducible repeat (first | refine blk_drewN ?_ _ | refine blk_drew ?_ | refine blk_alloc ?_ _)); exact BK136.out⟩, ⟨by repeat (first | (with_reducible first | exact HB.out | apply below_alloc | apply pw_below_drewN | apply below_drew1 | refine below_set ?_ GE136.out) | exact HB.out)⟩⟩
        · rw [if_neg c5] at H
          exact absurd H (by simp)
      · rw [if_neg c3] at H
        have c3b0 : decide (x4_1 ≤ 200) = false := decide_eq_false c3
        clear c3
        obtain rfl := Option.some.inj H
        go_wp2
        go_ret
        exact ⟨_, by first | rfl | (simp [errW_none, errW_some] <;> rfl) | (simp [*, errW_none, errW_some] <;> rfl), by (with_reducible repeat (first | apply Kd.R_alloc | apply Kd.R_drewN | apply Kd.R_drew)); exact HO_3.out, by repeat (first | (with_reducible first | exact HB.out | apply below_alloc | apply pw_below_drewN | apply below_drew1 | refine below_set ?_ GE136.out) | exact HB.out)⟩

end Go.Proofs.TrydX.X
end

section
-- Written by wip/tools/pr.py (a program of this repo over the kit's print.py).
namespace Go.Proofs.TrydX.X
open Go.RowKit Go.Proofs.YtidnopmjhhmedaaDoorW.PrintWords Go.Proofs.YtidnopmjhhmedaaDoorW.PrintLast Go.Proofs.YtidnopmjhhmedaaDoorW.PrintMore
attribute [local go_sem] max2_int min2_int max_two min_two max_three min_three max_four min_four   -- for this text's walks alone
set_option linter.unusedVariables false
set_option linter.unusedSimpArgs false

/-! ### remontoirref04_Meets: function 36 -/
def remontoirref04_Meets.l0 : Nat → List (S23) → Int → Int → Int → Int → Int → Option (Int × Int × Int)
  | 0, _, _, _, _, _, _ => none
  | k + 1, x8, x9, x10, x11, x298000, x298001 => if x11 ≤ x298001 then ((remontoirref04_fewest.f k x8 x11).bind fun t301 => (if t301 < 0 then (some (0, 0, 4)) else (remontoirref04_Meets.l0 k x8 (mx x9 t301) (mn x10 t301) (wrap64 (x11 + 1)) x298000 x298001))) else (some (x9, x10, 0))
def remontoirref04_Meets.f (k : Nat) (a0_0 : Int) (a0_1 : Int) (a0_2 : Int) (a0_3 : Int) (a0_4 : Int) (a0_5 : Int) (l0_6 : List Int) (l0_7 : List (S71)) : Option (Int × Int × Int) := (remontoirref04_Check.f k a0_0 a0_1 a0_2 a0_3 a0_4 a0_5 l0_6 l0_7).bind fun t293 => (if t293 = 0 then ((remontoirref04_Error.f k a0_0 a0_1 a0_2 a0_3 a0_4 a0_5 l0_6 l0_7 a0_5).bind fun bt294 => (if bt294.2.2 = 0 then ((remontoirref04_reaches.f k a0_0 a0_1 a0_2 a0_3 a0_4).bind fun t298 => (remontoirref04_Meets.l0 k t298 0 1000 bt294.1 bt294.1 bt294.2.1)) else (some (0, 0, bt294.2.2)))) else (some (0, 0, t293)))
set_option maxHeartbeats 8000000 in
set_option maxRecDepth 100000 in
theorem remontoirref04_Meets.calls (k : Nat) (a0_0 : Int) (a0_1 : Int) (a0_2 : Int) (a0_3 : Int) (a0_4 : Int) (a0_5 : Int) (A0_6 : Option Addr) (c0_6 : Nat) (l0_6 : List Int) (A0_7 : Option Addr) (c0_7 : Nat) (l0_7 : List (S71)) (r1 : Int) (r2 : Int) (r3 : Int) (w : World) (hr0_6 : Kd.C (Kd.int .i64) w A0_6 l0_6.length l0_6) (hc0_6 : l0_6.length ≤ c0_6) (hr0_7 : Kd.C k71 w A0_7 l0_7.length l0_7) (hc0_7 : l0_7.length ≤ c0_7) (h : remontoirref04_Meets.f k a0_0 a0_1 a0_2 a0_3 a0_4 a0_5 l0_6 l0_7 = some (r1, r2, r3)) :
    Calls Tryd.prog 36 #[.agg #[.int .i64 a0_0, .int .i64 a0_1, .int .i64 a0_2, .int .i64 a0_3, .int .i64 a0_4, .int .i64 a0_5, .slice A0_6 l0_6.length c0_6, .slice A0_7 l0_7.length c0_7]] w fun e w' => e = .returned (.tuple #[.int .i64 r1, .int .i64 r2, .int .i64 r3]) ∧ Below w.heap.size w w' := by
  have hu44 := Tryd.underlying44
  have hu23 := Tryd.underlying23
  have hu25 := Tryd.underlying25
  have HR0_6 := Aside0.mk hr0_6
  have HC0_6 := Aside0.mk hc0_6
  clear hr0_6 hc0_6
  have HR0_7 := Aside0.mk hr0_7
  have HC0_7 := Aside0.mk hc0_7
  clear hr0_7 hc0_7
  have HB := Aside0.mk (Below.refl w.heap.size w)
  have H : ((remontoirref04_Check.f k a0_0 a0_1 a0_2 a0_3 a0_4 a0_5 l0_6 l0_7).bind fun t293 => (if t293 = 0 then ((remontoirref04_Error.f k a0_0 a0_1 a0_2 a0_3 a0_4 a0_5 l0_6 l0_7 a0_5).bind fun bt294 => (if bt294.2.2 = 0 then ((remontoirref04_reaches.f k a0_0 a0_1 a0_2 a0_3 a0_4).bind fun t298 => (remontoirref04_Meets.l0 k t298 0 1000 bt294.1 bt294.1 bt294.2.1)) else (some (0, 0, bt294.2.2)))) else (some (0, 0, t293)))) = some (r1, r2, r3) := h
  clear h
  replace H := Option.bind_eq_some_iff.mp H
  obtain ⟨t293, A20, H⟩ := H
  replace H : (if t293 = 0 then ((remontoirref04_Error.f k a0_0 a0_1 a0_2 a0_3 a0_4 a0_5 l0_6 l0_7 a0_5).bind fun bt294 => (if bt294.2.2 = 0 then ((remontoirref04_reaches.f k a0_0 a0_1 a0_2 a0_3 a0_4).bind fun t298 => (remontoirref04_Meets.l0 k t298 0 1000 bt294.1 bt294.1 bt294.2.1)) else (some (0, 0, bt294.2.2)))) else (some (0, 0, t293))) = some (r1, r2, r3) := H
  have A2 := Aside0.mk A20
  clear A20
  by_cases c3 : t293 = 0
  · rw [if_pos c3] at H
    have c3b0 : (t293 == 0) = true := beq_iff_eq.mpr c3
    have c3b1 : (t293 != 0) = false := bne_eq_false_iff_eq.mpr c3
    clear c3
    replace H := Option.bind_eq_some_iff.mp H
    obtain ⟨⟨t294, t295, t296⟩, A40, H⟩ := H
    replace H : (if t296 = 0 then ((remontoirref04_reaches.f k a0_0 a0_1 a0_2 a0_3 a0_4).bind fun t298 => (remontoirref04_Meets.l0 k t298 0 1000 t294 t294 t295)) else (some (0, 0, t296))) = some (r1, r2, r3) := H
    have A4 := Aside0.mk A40
    clear A40
    by_cases c5 : t296 = 0
    · rw [if_pos c5] at H
      have c5b0 : (t296 == 0) = true := beq_iff_eq.mpr c5
      have c5b1 : (t296 != 0) = false := bne_eq_false_iff_eq.mpr c5
      clear c5
      replace H := Option.bind_eq_some_iff.mp H
      obtain ⟨t298, A60, H⟩ := H
      replace H : (remontoirref04_Meets.l0 k t298 0 1000 t294 t294 t295) = some (r1, r2, r3) := H
      have A6 := Aside0.mk A60
      clear A60
      have H' := Aside0.mk H
      clear H
      go_enter Tryd.func36, Tryd.ntmps36
      go_wp2_with (first | ((with_reducible refine gate_dst (N := 1) rfl ?_); refine box_event ?hg (N := 1) ?hd (cs := #[.int .i64 a0_0, .int .i64 a0_1, .int .i64 a0_2, .int .i64 a0_3, .int .i64 a0_4, .int .i64 a0_5, .slice A0_6 l0_6.length c0_6, .slice A0_7 l0_7.length c0_7]) (t := 44) ?hr ?_; (case hd => rfl); (case hg => rfl); (case hr => first | (go_simp; done) | (go_simp; rfl)); intro gb292 hg w7 hbox hb; have n0_ := Aside0.mk (below_step (by repeat (first | (with_reducible first | exact HB.out | apply below_alloc | apply pw_below_drewN | apply below_drew1) | exact HB.out)) hb); have n1_ := Aside0.mk (hbox); have n2_ := Aside0.mk ((by rw [hg]; exact (below_size (by repeat (first | (with_reducible first | exact HB.out | apply below_alloc | apply pw_below_drewN | apply below_drew1) | exact HB.out))) : w.heap.size ≤ gb292)); have n3_ := Aside0.mk ((by rw [hg]; exact (below_size (by repeat (first | (with_reducible first | exact HB.out | apply below_alloc | apply pw_below_drewN | apply below_drew1) | exact HB.out))) : w.heap.size ≤ gb292)); clear HB; have HB := n0_; have BK292 := n1_; have GW292 := n2_; have GE292 := n3_; clear n0_ n1_ n2_ n3_; clear hb hbox hg; have hcz8_0 : w7.cell? ⟨gb292, 0, none⟩ = some (.int .i64 a0_0) := (blk_cell BK292.out 0).trans rfl; have hcz8_1 : w7.cell? ⟨gb292, 1, none⟩ = some (.int .i64 a0_1) := (blk_cell BK292.out 1).trans rfl; have hcz8_2 : w7.cell? ⟨gb292, 2, none⟩ = some (.int .i64 a0_2) := (blk_cell BK292.out 2).trans rfl; have hcz8_3 : w7.cell? ⟨gb292, 3, none⟩ = some (.int .i64 a0_3) := (blk_cell BK292.out 3).trans rfl; have hcz8_4 : w7.cell? ⟨gb292, 4, none⟩ = some (.int .i64 a0_4) := (blk_cell BK292.out 4).trans rfl; have hcz8_5 : w7.cell? ⟨gb292, 5, none⟩ = some (.int .i64 a0_5) := (blk_cell BK292.out 5).trans rfl; have hcz8_6 : w7.cell? ⟨gb292, 6, none⟩ = some (.slice A0_6 l0_6.length c0_6) := (blk_cell BK292.out 6).trans rfl; have hcz8_7 : w7.cell? ⟨gb292, 7, none⟩ = some (.slice A0_7 l0_7.length c0_7) := (blk_cell BK292.out 7).trans rfl; have hfz8_0 := blk_frozen BK292.out 0; have hfz8_1 := blk_frozen BK292.out 1; have hfz8_2 := blk_frozen BK292.out 2; have hfz8_3 := blk_frozen BK292.out 3; have hfz8_4 := blk_frozen BK292.out 4; have hfz8_5 := blk_frozen BK292.out 5; have hfz8_6 := blk_frozen BK292.out 6; have hfz8_7 := blk_frozen BK292.out 7) | ((with_reducible refine gate_callee (f := 30) rfl ?_); refine goesL_ (some 14) rfl rfl Tryd.func30 (by kernel_rfl) rfl #[.agg #[.int .i64 a0_0, .int .i64 a0_1, .int .i64 a0_2, .int .i64 a0_3, .int .i64 a0_4, .int .i64 a0_5, .slice A0_6 l0_6.length c0_6, .slice A0_7 l0_7.length c0_7]] rfl (by (try simp only [List.map_toArray, List.map_cons, List.map_nil]); first | done | rfl | (simp only [List.length_drop, List.length_take]; rfl)) ?_; (with_reducible refine (remontoirref04_Check.calls k a0_0 a0_1 a0_2 a0_3 a0_4 a0_5 _ _ l0_6 _ _ l0_7 t293 _ ?side1 ?side2 ?side3 ?side4 A2.out).mono ?_); (case side1 => repeat (first | exact (Kd.C_below HR0_6.out HB.out) | (with_reducible refine Kd.C_alloc ?_ _) | (with_reducible refine Kd.C_drewN ?_ _) | (with_reducible refine Kd.C_drew ?_))); (case side2 => exact HC0_6.out); (case side3 => repeat (first | exact (Kd.C_below HR0_7.out HB.out) | (with_reducible refine Kd.C_alloc ?_ _) | (with_reducible refine Kd.C_drewN ?_ _) | (with_reducible refine Kd.C_drew ?_))); (case side4 => exact HC0_7.out); rintro e w9 ⟨rfl, hb⟩; refine ⟨_, rfl, ?_⟩; have n0_ := Aside0.mk (blk_below (g := gb292) (o := .cells #[.int .i64 a0_0, .int .i64 a0_1, .int .i64 a0_2, .int .i64 a0_3, .int .i64 a0_4, .int .i64 a0_5, .slice A0_6 l0_6.length c0_6, .slice A0_7 l0_7.length c0_7] 44 (0, 0)) (by (with_reducible repeat (first | refine blk_drewN ?_ _ | refine blk_drew ?_ | refine blk_alloc ?_ _)); exact BK292.out) hb); have n1_ := Aside0.mk (below_step (by repeat (first | (with_reducible first | exact HB.out | apply below_alloc | apply pw_below_drewN | apply below_drew1 | refine below_set ?_ GE292.out) | exact HB.out)) hb); clear BK292; clear HB; have BK292 := n0_; have HB := n1_; clear n0_ n1_; (try clear hb); (try clear hb2); (try clear hk); (try clear hi); have hcz10_0 : w9.cell? ⟨gb292, 0, none⟩ = some (.int .i64 a0_0) := (blk_cell BK292.out 0).trans rfl; have hcz10_1 : w9.cell? ⟨gb292, 1, none⟩ = some (.int .i64 a0_1) := (blk_cell BK292.out 1).trans rfl; have hcz10_2 : w9.cell? ⟨gb292, 2, none⟩ = some (.int .i64 a0_2) := (blk_cell BK292.out 2).trans rfl; have hcz10_3 : w9.cell? ⟨gb292, 3, none⟩ = some (.int .i64 a0_3) := (blk_cell BK292.out 3).trans rfl; have hcz10_4 : w9.cell? ⟨gb292, 4, none⟩ = some (.int .i64 a0_4) := (blk_cell BK292.out 4).trans rfl; have hcz10_5 : w9.cell? ⟨gb292, 5, none⟩ = some (.int .i64 a0_5) := (blk_cell BK292.out 5).trans rfl; have hcz10_6 : w9.cell? ⟨gb292, 6, none⟩ = some (.slice A0_6 l0_6.length c0_6) := (blk_cell BK292.out 6).trans rfl; have hcz10_7 : w9.cell? ⟨gb292, 7, none⟩ = some (.slice A0_7 l0_7.length c0_7) := (blk_cell BK292.out 7).trans rfl; have hfz10_0 := blk_frozen BK292.out 0; have hfz10_1 := blk_frozen BK292.out 1; have hfz10_2 := blk_frozen BK292.out 2; have hfz10_3 := blk_frozen BK292.out 3; have hfz10_4 := blk_frozen BK292.out 4; have hfz10_5 := blk_frozen BK292.out 5; have hfz10_6 := blk_frozen BK292.out 6; have hfz10_7 := blk_frozen BK292.out 7) | ((with_reducible refine gate_callee (f := 28) rfl ?_); refine goesL_ (some 22) rfl rfl Tryd.func28 (by kernel_rfl) rfl #[.agg #[.int .i64 a0_0, .int .i64 a0_1, .int .i64 a0_2, .int .i64 a0_3, .int .i64 a0_4, .int .i64 a0_5, .slice A0_6 l0_6.length c0_6, .slice A0_7 l0_7.length c0_7], .int .i64 a0_5] rfl (by (try simp only [List.map_toArray, List.map_cons, List.map_nil]); first | done | rfl | (simp only [List.length_drop, List.length_take]; rfl)) ?_; (with_reducible refine (remontoirref04_Error.calls k a0_0 a0_1 a0_2 a0_3 a0_4 a0_5 _ _ l0_6 _ _ l0_7 a0_5 t294 t295 t296 _ ?side1 ?side2 ?side3 ?side4 A4.out).mono ?_); (case side1 => repeat (first | exact (Kd.C_below HR0_6.out HB.out) | (with_reducible refine Kd.C_alloc ?_ _) | (with_reducible refine Kd.C_drewN ?_ _) | (with_reducible refine Kd.C_drew ?_))); (case side2 => exact HC0_6.out); (case side3 => repeat (first | exact (Kd.C_below HR0_7.out HB.out) | (with_reducible refine Kd.C_alloc ?_ _) | (with_reducible refine Kd.C_drewN ?_ _) | (with_reducible refine Kd.C_drew ?_))); (case side4 => exact HC0_7.out); rintro e w11 ⟨rfl, hb⟩; refine ⟨_, rfl, ?_⟩; have n0_ := Aside0.mk (blk_below (g := gb292) (o := .cells #[.int .i64 a0_0, .int .i64 a0_1, .int .i64 a0_2, .int .i64 a0_3, .int .i64 a0_4, .int .i64 a0_5, .slice A0_6 l0_6.length c0_6, .slice A0_7 l0_7.length c0_7] 44 (0, 0)) (by (with_reducible repeat (first | refine blk_drewN ?_ _ | refine blk_drew ?_ | refine blk_alloc ?_ _)); exact BK292.out) hb); have n1_ := Aside0.mk (below_step (by repeat (first | (with_reducible first | exact HB.out | apply below_alloc | apply pw_below_drewN | apply below_drew1 | refine below_set ?_ GE292.out) | exact HB.out)) hb); clear BK292; clear HB; have BK292 := n0_; have HB := n1_; clear n0_ n1_; (try clear hb); (try clear hb2); (try clear hk); (try clear hi)) | ((with_reducible refine gate_dst (N := 6) rfl ?_); refine box_event ?hg (N := 6) ?hd (cs := #[.int .i64 0, .int .i64 0]) (t := 23) ?hr ?_; (case hd => rfl); (case hg => rfl); (case hr => first | (go_simp; done) | (go_simp; rfl)); intro gb297 hg w12 hbox hb; have n0_ := Aside0.mk (blk_below (g := gb292) (o := .cells #[.int .i64 a0_0, .int .i64 a0_1, .int .i64 a0_2, .int .i64 a0_3, .int .i64 a0_4, .int .i64 a0_5, .slice A0_6 l0_6.length c0_6, .slice A0_7 l0_7.length c0_7] 44 (0, 0)) (by (with_reducible repeat (first | refine blk_drewN ?_ _ | refine blk_drew ?_ | refine blk_alloc ?_ _)); exact BK292.out) hb); have n1_ := Aside0.mk (below_step (by repeat (first | (with_reducible first | exact HB.out | apply below_alloc | apply pw_below_drewN | apply below_drew1 | refine below_set ?_ GE292.out) | exact HB.out)) hb); have n2_ := Aside0.mk (hbox); have n3_ := Aside0.mk ((by rw [hg]; exact (below_size (by repeat (first | (with_reducible first | exact HB.out | apply below_alloc | apply pw_below_drewN | apply below_drew1 | refine below_set ?_ GE292.out) | exact HB.out))) : w.heap.size ≤ gb297)); have n4_ := Aside0.mk ((by rw [hg]; exact (below_size (by repeat (first | (with_reducible first | exact HB.out | apply below_alloc | apply pw_below_drewN | apply below_drew1 | refine below_set ?_ GE292.out) | exact HB.out))) : w.heap.size ≤ gb297)); have n5_ := Aside0.mk ((by rw [hg]; exact Nat.ne_of_lt (blk_lt (g := gb292) (o := .cells #[.int .i64 a0_0, .int .i64 a0_1, .int .i64 a0_2, .int .i64 a0_3, .int .i64 a0_4, .int .i64 a0_5, .slice A0_6 l0_6.length c0_6, .slice A0_7 l0_7.length c0_7] 44 (0, 0)) (by (with_reducible repeat (first | refine blk_drewN ?_ _ | refine blk_drew ?_ | refine blk_alloc ?_ _)); exact BK292.out)) : gb292 ≠ gb297)); have n6_ := Aside0.mk ((by rw [hg]; exact Nat.ne_of_gt (blk_lt (g := gb292) (o := .cells #[.int .i64 a0_0, .int .i64 a0_1, .int .i64 a0_2, .int .i64 a0_3, .int .i64 a0_4, .int .i64 a0_5, .slice A0_6 l0_6.length c0_6, .slice A0_7 l0_7.length c0_7] 44 (0, 0)) (by (with_reducible repeat (first | refine blk_drewN ?_ _ | refine blk_drew ?_ | refine blk_alloc ?_ _)); exact BK292.out)) : gb297 ≠ gb292)); clear BK292; clear HB; have BK292 := n0_; have HB := n1_; have BK297 := n2_; have GW297 := n3_; have GE297 := n4_; have NB292_297 := n5_; have NB297_292 := n6_; clear n0_ n1_ n2_ n3_ n4_ n5_ n6_; clear hb hbox hg; have hnb13 := NB297_292.out; have hnc13 := NB292_297.out; have hcz14_0 : w12.cell? ⟨gb297, 0, none⟩ = some (.int .i64 0) := (blk_cell BK297.out 0).trans rfl; have hcz14_1 : w12.cell? ⟨gb297, 1, none⟩ = some (.int .i64 0) := (blk_cell BK297.out 1).trans rfl; have hfz14_0 := blk_frozen BK297.out 0; have hfz14_1 := blk_frozen BK297.out 1; have hcz15_0 : w12.cell? ⟨gb292, 0, none⟩ = some (.int .i64 a0_0) := (blk_cell BK292.out 0).trans rfl; have hcz15_1 : w12.cell? ⟨gb292, 1, none⟩ = some (.int .i64 a0_1) := (blk_cell BK292.out 1).trans rfl; have hcz15_2 : w12.cell? ⟨gb292, 2, none⟩ = some (.int .i64 a0_2) := (blk_cell BK292.out 2).trans rfl; have hcz15_3 : w12.cell? ⟨gb292, 3, none⟩ = some (.int .i64 a0_3) := (blk_cell BK292.out 3).trans rfl; have hcz15_4 : w12.cell? ⟨gb292, 4, none⟩ = some (.int .i64 a0_4) := (blk_cell BK292.out 4).trans rfl; have hcz15_5 : w12.cell? ⟨gb292, 5, none⟩ = some (.int .i64 a0_5) := (blk_cell BK292.out 5).trans rfl; have hcz15_6 : w12.cell? ⟨gb292, 6, none⟩ = some (.slice A0_6 l0_6.length c0_6) := (blk_cell BK292.out 6).trans rfl; have hcz15_7 : w12.cell? ⟨gb292, 7, none⟩ = some (.slice A0_7 l0_7.length c0_7) := (blk_cell BK292.out 7).trans rfl; have hfz15_0 := blk_frozen BK292.out 0; have hfz15_1 := blk_frozen BK292.out 1; have hfz15_2 := blk_frozen BK292.out 2; have hfz15_3 := blk_frozen BK292.out 3; have hfz15_4 := blk_frozen BK292.out 4; have hfz15_5 := blk_frozen BK292.out 5; have hfz15_6 := blk_frozen BK292.out 6; have hfz15_7 := blk_frozen BK292.out 7) | ((with_reducible refine gate_callee (f := 64) rfl ?_); refine goesL_ (some 30) rfl rfl Tryd.func64 (by kernel_rfl) rfl #[.agg #[.int .i64 a0_0, .int .i64 a0_1, .int .i64 a0_2, .int .i64 a0_3, .int .i64 a0_4]] rfl (by (try simp only [List.map_toArray, List.map_cons, List.map_nil]); first | done | rfl | (simp only [List.length_drop, List.length_take]; rfl)) ?_; (with_reducible refine (remontoirref04_reaches.calls k a0_0 a0_1 a0_2 a0_3 a0_4 t298 _ A6.out).mono ?_); rintro e w16 ⟨v299, rfl, ho0, hb⟩; refine ⟨_, rfl, ?_⟩; have n0_ := Aside0.mk (Kd.R_lower (Kd.R_newB ho0 (g := gb297) (o := .cells #[.int .i64 t294, .int .i64 t295] 23 (0, 0)) (by (with_reducible repeat (first | refine blk_drewN ?_ _ | refine blk_drew ?_ | refine blk_alloc ?_ _)); refine blk_put (cs := #[.int .i64 t294, .int .i64 0]) ?_ 1 _ rfl; (with_reducible repeat (first | refine blk_drewN ?_ _ | refine blk_drew ?_ | refine blk_alloc ?_ _)); refine blk_put (cs := #[.int .i64 0, .int .i64 0]) ?_ 0 _ rfl; (with_reducible repeat (first | refine blk_drewN ?_ _ | refine blk_drew ?_ | refine blk_alloc ?_ _)); exact BK297.out)) (below_size (by repeat (first | (with_reducible first | exact HB.out | apply below_alloc | apply pw_below_drewN | apply below_drew1 | refine below_set ?_ GE292.out | refine below_set ?_ GE297.out) | exact HB.out)))); have n1_ := Aside0.mk (blk_below (g := gb292) (o := .cells #[.int .i64 a0_0, .int .i64 a0_1, .int .i64 a0_2, .int .i64 a0_3, .int .i64 a0_4, .int .i64 a0_5, .slice A0_6 l0_6.length c0_6, .slice A0_7 l0_7.length c0_7] 44 (0, 0)) (by (with_reducible repeat (first | refine blk_drewN ?_ _ | refine blk_drew ?_ | refine blk_alloc ?_ _)); refine blk_far ?_ NB292_297.out _; (with_reducible repeat (first | refine blk_drewN ?_ _ | refine blk_drew ?_ | refine blk_alloc ?_ _)); refine blk_far ?_ NB292_297.out _; (with_reducible repeat (first | refine blk_drewN ?_ _ | refine blk_drew ?_ | refine blk_alloc ?_ _)); exact BK292.out) hb); have n2_ := Aside0.mk (blk_below (g := gb297) (o := .cells #[.int .i64 t294, .int .i64 t295] 23 (0, 0)) (by (with_reducible repeat (first | refine blk_drewN ?_ _ | refine blk_drew ?_ | refine blk_alloc ?_ _)); refine blk_put (cs := #[.int .i64 t294, .int .i64 0]) ?_ 1 _ rfl; (with_reducible repeat (first | refine blk_drewN ?_ _ | refine blk_drew ?_ | refine blk_alloc ?_ _)); refine blk_put (cs := #[.int .i64 0, .int .i64 0]) ?_ 0 _ rfl; (with_reducible repeat (first | refine blk_drewN ?_ _ | refine blk_drew ?_ | refine blk_alloc ?_ _)); exact BK297.out) hb); have n3_ := Aside0.mk (below_step (by repeat (first | (with_reducible first | exact HB.out | apply below_alloc | apply pw_below_drewN | apply below_drew1 | refine below_set ?_ GE292.out | refine below_set ?_ GE297.out) | exact HB.out)) hb); clear BK292; clear BK297; clear HB; have HO300 := n0_; have BK292 := n1_; have BK297 := n2_; have HB := n3_; clear n0_ n1_ n2_ n3_; (try clear hb); (try clear hb2); (try clear hk); (try clear hi); (try clear ho0); have hcz17_0 : w16.cell? ⟨gb297, 0, none⟩ = some (.int .i64 t294) := (blk_cell BK297.out 0).trans rfl; have hcz17_1 : w16.cell? ⟨gb297, 1, none⟩ = some (.int .i64 t295) := (blk_cell BK297.out 1).trans rfl; have hfz17_0 := blk_frozen BK297.out 0; have hfz17_1 := blk_frozen BK297.out 1))
      go_loopg [9, 10, 11] k (fun kq v9 v10 v11 w' => ∃ (x9_1 : Int) (x10_1 : Int) (x11_1 : Int), v9 = .int .i64 x9_1 ∧ v10 = .int .i64 x10_1 ∧ v11 = .int .i64 x11_1 ∧ Aside0 (remontoirref04_Meets.l0 kq t298 x9_1 x10_1 x11_1 t294 t295 = some (r1, r2, r3)) ∧ Aside0 (kq ≤ k) ∧ Aside0 (Kd.R k23 23 w' w.heap.size (fun k_ => k_ ≠ gb297) v299 t298) ∧ Aside0 (w'.heap[gb292]? = some (.cells #[.int .i64 a0_0, .int .i64 a0_1, .int .i64 a0_2, .int .i64 a0_3, .int .i64 a0_4, .int .i64 a0_5, (.slice A0_6 l0_6.length c0_6), (.slice A0_7 l0_7.length c0_7)] 44 (0, 0))) ∧ Aside0 (w'.heap[gb297]? = some (.cells #[.int .i64 t294, .int .i64 t295] 23 (0, 0))) ∧ Aside0 (Below w.heap.size w w'))
      case atStart => exact ⟨(0), (1000), (t294), (by first | rfl | (simp; done) | (simp [*]; done)), (by first | rfl | (simp; done) | (simp [*]; done)), (by first | rfl | (simp; done) | (simp [*]; done)), H', ⟨Nat.le_refl _⟩, ⟨by (with_reducible repeat (first | apply Kd.R_alloc | apply Kd.R_drewN | apply Kd.R_drew)); exact Kd.R_mono HO300.out (fun _ hk => hk.2)⟩, ⟨by (with_reducible repeat (first | refine blk_drewN ?_ _ | refine blk_drew ?_ | refine blk_alloc ?_ _)); exact BK292.out⟩, ⟨by (with_reducible repeat (first | refine blk_drewN ?_ _ | refine blk_drew ?_ | refine blk_alloc ?_ _)); exact BK297.out⟩, ⟨by repeat (first | (with_reducible first | exact HB.out | apply below_alloc | apply pw_below_drewN | apply below_drew1 | refine below_set ?_ GE292.out | refine below_set ?_ GE297.out) | exact HB.out)⟩⟩
      case round =>
        clear H'
        try clear c1
        try clear c2
        try clear p2
        try clear c3
        try clear c3b0
        try clear c3b1
        try clear c5
        try clear c5b0
        try clear c5b1
        try clear c6
        try clear c13
        try clear hcz10_0
        try clear hcz10_1
        try clear hcz10_2
        try clear hcz10_3
        try clear hcz10_4
        try clear hcz10_5
        try clear hcz10_6
        try clear hcz10_7
        try clear hcz14_0
        try clear hcz14_1
        try clear hcz15_0
        try clear hcz15_1
        try clear hcz15_2
        try clear hcz15_3
        try clear hcz15_4
        try clear hcz15_5
        try clear hcz15_6
        try clear hcz15_7
        try clear hcz17_0
        try clear hcz17_1
        try clear hcz8_0
        try clear hcz8_1
        try clear hcz8_2
        try clear hcz8_3
        try clear hcz8_4
        try clear hcz8_5
        try clear hcz8_6
        try clear hcz8_7
        try clear hfz10_0
        try clear hfz10_1
        try clear hfz10_2
        try clear hfz10_3
        try clear hfz10_4
        try clear hfz10_5
        try clear hfz10_6
        try clear hfz10_7
        try clear hfz14_0
        try clear hfz14_1
        try clear hfz15_0
        try clear hfz15_1
        try clear hfz15_2
        try clear hfz15_3
        try clear hfz15_4
        try clear hfz15_5
        try clear hfz15_6
        try clear hfz15_7
        try clear hfz17_0
        try clear hfz17_1
        try clear hfz8_0
        try clear hfz8_1
        try clear hfz8_2
        try clear hfz8_3
        try clear hfz8_4
        try clear hfz8_5
        try clear hfz8_6
        try clear hfz8_7
        obtain ⟨x9_1, x10_1, x11_1, rfl, rfl, rfl, HA, HK1, HO_8, BK292, BK297, HB⟩ := hrel
        cases gk with
        | zero => exact absurd HA.out (by simp [remontoirref04_Meets.l0])
        | succ k1 =>
          have H := HA.out
          clear HA
          simp only [remontoirref04_Meets.l0] at H
          by_cases c18 : x11_1 ≤ t295
          · rw [if_pos c18] at H
            have c18b0 : decide (x11_1 ≤ t295) = true := decide_eq_true c18
            clear c18
            replace H := Option.bind_eq_some_iff.mp H
            obtain ⟨t301, A190, H⟩ := H
            replace H : (if t301 < 0 then (some (0, 0, 4)) else (remontoirref04_Meets.l0 k1 t298 (mx x9_1 t301) (mn x10_1 t301) (wrap64 (x11_1 + 1)) t294 t295)) = some (r1, r2, r3) := H
            have A19 := Aside0.mk A190
            clear A190
            by_cases c20 : t301 < 0
            · rw [if_pos c20] at H
              have c20b0 : decide (t301 < 0) = true := decide_eq_true c20
              clear c20
              simp only [Option.some.injEq, Prod.mk.injEq] at H
              obtain ⟨rfl, rfl, rfl⟩ := H
              have hnb21 := NB297_292.out
              have hnc21 := NB292_297.out
              have hcz22_0 : wr.cell? ⟨gb297, 0, none⟩ = some (.int .i64 t294) := (blk_cell BK297.out 0).trans rfl
              have hcz22_1 : wr.cell? ⟨gb297, 1, none⟩ = some (.int .i64 t295) := (blk_cell BK297.out 1).trans rfl
              have hfz22_0 := blk_frozen BK297.out 0
              have hfz22_1 := blk_frozen BK297.out 1
              obtain ⟨Ao23, co23, eo23⟩ := Kd.R_slice HO_8.out
              subst eo23
              go_wp2_with (first | ((with_reducible refine gate_callee (f := 63) rfl ?_); refine goesL_ (some 41) rfl rfl Tryd.func63 (by kernel_rfl) rfl #[.slice Ao23 t298.length co23, .int .i64 x11_1] rfl (by (try simp only [List.map_toArray, List.map_cons, List.map_nil]); first | done | rfl | (simp only [List.length_drop, List.length_take]; rfl)) ?_; (with_reducible refine (remontoirref04_fewest.calls k1 _ _ t298 x11_1 t301 _ ?side1 ?side2 A19.out).mono ?_); (case side1 => repeat (first | exact (Kd.R_reads' HO_8.out).2.2 | (with_reducible refine Kd.C_alloc ?_ _) | (with_reducible refine Kd.C_drewN ?_ _) | (with_reducible refine Kd.C_drew ?_))); (case side2 => exact (Kd.R_reads' HO_8.out).2.1); rintro e w24 ⟨rfl, hb⟩; refine ⟨_, rfl, ?_⟩; have n0_ := Aside0.mk (Kd.R_below (by (with_reducible repeat (first | apply Kd.R_alloc | apply Kd.R_drewN | apply Kd.R_drew)); exact HO_8.out) hb); have n1_ := Aside0.mk (blk_below (g := gb292) (o := .cells #[.int .i64 a0_0, .int .i64 a0_1, .int .i64 a0_2, .int .i64 a0_3, .int .i64 a0_4, .int .i64 a0_5, .slice A0_6 l0_6.length c0_6, .slice A0_7 l0_7.length c0_7] 44 (0, 0)) (by (with_reducible repeat (first | refine blk_drewN ?_ _ | refine blk_drew ?_ | refine blk_alloc ?_ _)); exact BK292.out) hb); have n2_ := Aside0.mk (blk_below (g := gb297) (o := .cells #[.int .i64 t294, .int .i64 t295] 23 (0, 0)) (by (with_reducible repeat (first | refine blk_drewN ?_ _ | refine blk_drew ?_ | refine blk_alloc ?_ _)); exact BK297.out) hb); have n3_ := Aside0.mk (below_step (by repeat (first | (with_reducible first | exact HB.out | apply below_alloc | apply pw_below_drewN | apply below_drew1 | refine below_set ?_ GE292.out | refine below_set ?_ GE297.out) | exact HB.out)) hb); clear HO_8; clear BK292; clear BK297; clear HB; have HO_8 := n0_; have BK292 := n1_; have BK297 := n2_; have HB := n3_; clear n0_ n1_ n2_ n3_; (try clear hb); (try clear hb2); (try clear hk); (try clear hi)))
              go_ret3
              exact ⟨by first | rfl | (simp [errW_none, errW_some] <;> rfl) | (simp [*, errW_none, errW_some] <;> rfl), by repeat (first | (with_reducible first | exact HB.out | apply below_alloc | apply pw_below_drewN | apply below_drew1 | refine below_set ?_ GE292.out | refine below_set ?_ GE297.out) | exact HB.out)⟩
            · rw [if_neg c20] at H
              have c20b0 : decide (t301 < 0) = false := decide_eq_false c20
              clear c20
              obtain ⟨ji25, hji25⟩ : ∃ j_ : Int, (mx x9_1 t301) = j_ := ⟨_, rfl⟩
              replace H : (remontoirref04_Meets.l0 k1 t298 ji25 (mn x10_1 t301) (wrap64 (x11_1 + 1)) t294 t295) = some (r1, r2, r3) := by first | (rw [hji25] at H; exact H) | (simp only [hji25] at H ⊢; exact H)
              (try rw [hji25] at A19)
              have hji25_ : (if x9_1 < t301 then t301 else x9_1) = ji25 := hji25
              obtain ⟨ji26, hji26⟩ : ∃ j_ : Int, (mn x10_1 t301) = j_ := ⟨_, rfl⟩
              replace H : (remontoirref04_Meets.l0 k1 t298 ji25 ji26 (wrap64 (x11_1 + 1)) t294 t295) = some (r1, r2, r3) := by first | (rw [hji26] at H; exact H) | (simp only [hji26] at H ⊢; exact H)
              (try rw [hji26] at A19)
              have hji26_ : (if t301 < x10_1 then t301 else x10_1) = ji26 := hji26
              have H' := Aside0.mk H
              clear H
              have hnb27 := NB297_292.out
              have hnc27 := NB292_297.out
              have hcz28_0 : wr.cell? ⟨gb297, 0, none⟩ = some (.int .i64 t294) := (blk_cell BK297.out 0).trans rfl
              have hcz28_1 : wr.cell? ⟨gb297, 1, none⟩ = some (.int .i64 t295) := (blk_cell BK297.out 1).trans rfl
              have hfz28_0 := blk_frozen BK297.out 0
              have hfz28_1 := blk_frozen BK297.out 1
              obtain ⟨Ao29, co29, eo29⟩ := Kd.R_slice HO_8.out
              subst eo29
              go_wp2_with (first | ((with_reducible refine gate_callee (f := 63) rfl ?_); refine goesL_ (some 41) rfl rfl Tryd.func63 (by kernel_rfl) rfl #[.slice Ao29 t298.length co29, .int .i64 x11_1] rfl (by (try simp only [List.map_toArray, List.map_cons, List.map_nil]); first | done | rfl | (simp only [List.length_drop, List.length_take]; rfl)) ?_; (with_reducible refine (remontoirref04_fewest.calls k1 _ _ t298 x11_1 t301 _ ?side1 ?side2 A19.out).mono ?_); (case side1 => repeat (first | exact (Kd.R_reads' HO_8.out).2.2 | (with_reducible refine Kd.C_alloc ?_ _) | (with_reducible refine Kd.C_drewN ?_ _) | (with_reducible refine Kd.C_drew ?_))); (case side2 => exact (Kd.R_reads' HO_8.out).2.1); rintro e w30 ⟨rfl, hb⟩; refine ⟨_, rfl, ?_⟩; have n0_ := Aside0.mk (Kd.R_below (by (with_reducible repeat (first | apply Kd.R_alloc | apply Kd.R_drewN | apply Kd.R_drew)); exact HO_8.out) hb); have n1_ := Aside0.mk (blk_below (g := gb292) (o := .cells #[.int .i64 a0_0, .int .i64 a0_1, .int .i64 a0_2, .int .i64 a0_3, .int .i64 a0_4, .int .i64 a0_5, .slice A0_6 l0_6.length c0_6, .slice A0_7 l0_7.length c0_7] 44 (0, 0)) (by (with_reducible repeat (first | refine blk_drewN ?_ _ | refine blk_drew ?_ | refine blk_alloc ?_ _)); exact BK292.out) hb); have n2_ := Aside0.mk (blk_below (g := gb297) (o := .cells #[.int .i64 t294, .int .i64 t295] 23 (0, 0)) (by (with_reducible repeat (first | refine blk_drewN ?_ _ | refine blk_drew ?_ | refine blk_alloc ?_ _)); exact BK297.out) hb); have n3_ := Aside0.mk (below_step (by repeat (first | (with_reducible first | exact HB.out | apply below_alloc | apply pw_below_drewN | apply below_drew1 | refine below_set ?_ GE292.out | refine below_set ?_ GE297.out) | exact HB.out)) hb); clear HO_8; clear BK292; clear BK297; clear HB; have HO_8 := n0_; have BK292 := n1_; have BK297 := n2_; have HB := n3_; clear n0_ n1_ n2_ n3_; (try clear hb); (try clear hb2); (try clear hk); (try clear hi)))
              go_roundg k1
              case measure => have := HK1.out; omega
              case rel => exact ⟨(ji25), (ji26), (wrap64 (x11_1 + 1)), (by first | rfl | (simp; done) | (simp only [← hji25] <;> (first | rfl | simp)) | (simp [*]; done)), (by first | rfl | (simp; done) | (simp only [← hji26] <;> (first | rfl | simp)) | (simp [*]; done)), (by first | rfl | (simp; done) | (simp [*]; done)), H', ⟨by have := HK1.out; omega⟩, ⟨by (with_reducible repeat (first | apply Kd.R_alloc | apply Kd.R_drewN | apply Kd.R_drew)); exact HO_8.out⟩, ⟨by (with_reducible repeat (first | refine blk_drewN ?_ _ | refine blk_drew ?_ | refine blk_alloc ?_ _)); exact BK292.out⟩, ⟨by (with_reducible repeat (first | refine blk_drewN ?_ _ | refine blk_drew ?_ | refine blk_alloc ?_ _)); exact BK297.out⟩, ⟨by repeat (first | (with_reducible first | exact HB.out | apply below_alloc | apply pw_below_drewN | apply below_drew1 | refine below_set ?_ GE292.out | refine below_set ?_ GE297.out) | exact HB.out)⟩⟩
          · rw [if_neg c18] at H
            have c18b0 : decide (x11_1 ≤ t295) = false := decide_eq_false c18
            clear c18
            simp only [Option.some.injEq, Prod.mk.injEq] at H
            obtain ⟨rfl, rfl, rfl⟩ := H
            have hnb31 := NB297_292.out
            have hnc31 := NB292_297.out
            have hcz32_0 : wr.cell? ⟨gb297, 0, none⟩ = some (.int .i64 t294) := (blk_cell BK297.out 0).trans rfl
            have hcz32_1 : wr.cell? ⟨gb297, 1, none⟩ = some (.int .i64 t295) := (blk_cell BK297.out 1).trans rfl
            have hfz32_0 := blk_frozen BK297.out 0
            have hfz32_1 := blk_frozen BK297.out 1
            go_wp2
            go_ret3
            exact ⟨by first | rfl | (simp [errW_none, errW_some] <;> rfl) | (simp [*, errW_none, errW_some] <;> rfl), by repeat (first | (with_reducible first | exact HB.out | apply below_alloc | apply pw_below_drewN | apply below_drew1 | refine below_set ?_ GE292.out | refine below_set ?_ GE297.out) | exact HB.out)⟩
    · rw [if_neg c5] at H
      have c5b0 : (t296 == 0) = false := beq_eq_false_iff_ne.mpr c5
      have c5b1 : (t296 != 0) = true := bne_iff_ne.mpr c5
      simp only [Option.some.injEq, Prod.mk.injEq] at H
      obtain ⟨rfl, rfl, rfl⟩ := H
      go_enter Tryd.func36, Tryd.ntmps36
      go_wp2_with (first | ((with_reducible refine gate_dst (N := 1) rfl ?_); refine box_event ?hg (N := 1) ?hd (cs := #[.int .i64 a0_0, .int .i64 a0_1, .int .i64 a0_2, .int .i64 a0_3, .int .i64 a0_4, .int .i64 a0_5, .slice A0_6 l0_6.length c0_6, .slice A0_7 l0_7.length c0_7]) (t := 44) ?hr ?_; (case hd => rfl); (case hg => rfl); (case hr => first | (go_simp; done) | (go_simp; rfl)); intro gb292 hg w33 hbox hb; have n0_ := Aside0.mk (below_step (by repeat (first | (with_reducible first | exact HB.out | apply below_alloc | apply pw_below_drewN | apply below_drew1) | exact HB.out)) hb); have n1_ := Aside0.mk (hbox); have n2_ := Aside0.mk ((by rw [hg]; exact (below_size (by repeat (first | (with_reducible first | exact HB.out | apply below_alloc | apply pw_below_drewN | apply below_drew1) | exact HB.out))) : w.heap.size ≤ gb292)); have n3_ := Aside0.mk ((by rw [hg]; exact (below_size (by repeat (first | (with_reducible first | exact HB.out | apply below_alloc | apply pw_below_drewN | apply below_drew1) | exact HB.out))) : w.heap.size ≤ gb292)); clear HB; have HB := n0_; have BK292 := n1_; have GW292 := n2_; have GE292 := n3_; clear n0_ n1_ n2_ n3_; clear hb hbox hg; have hcz34_0 : w33.cell? ⟨gb292, 0, none⟩ = some (.int .i64 a0_0) := (blk_cell BK292.out 0).trans rfl; have hcz34_1 : w33.cell? ⟨gb292, 1, none⟩ = some (.int .i64 a0_1) := (blk_cell BK292.out 1).trans rfl; have hcz34_2 : w33.cell? ⟨gb292, 2, none⟩ = some (.int .i64 a0_2) := (blk_cell BK292.out 2).trans rfl; have hcz34_3 : w33.cell? ⟨gb292, 3, none⟩ = some (.int .i64 a0_3) := (blk_cell BK292.out 3).trans rfl; have hcz34_4 : w33.cell? ⟨gb292, 4, none⟩ = some (.int .i64 a0_4) := (blk_cell BK292.out 4).trans rfl; have hcz34_5 : w33.cell? ⟨gb292, 5, none⟩ = some (.int .i64 a0_5) := (blk_cell BK292.out 5).trans rfl; have hcz34_6 : w33.cell? ⟨gb292, 6, none⟩ = some (.slice A0_6 l0_6.length c0_6) := (blk_cell BK292.out 6).trans rfl; have hcz34_7 : w33.cell? ⟨gb292, 7, none⟩ = some (.slice A0_7 l0_7.length c0_7) := (blk_cell BK292.out 7).trans rfl; have hfz34_0 := blk_frozen BK292.out 0; have hfz34_1 := blk_frozen BK292.out 1; have hfz34_2 := blk_frozen BK292.out 2; have hfz34_3 := blk_frozen BK292.out 3; have hfz34_4 := blk_frozen BK292.out 4; have hfz34_5 := blk_frozen BK292.out 5; have hfz34_6 := blk_frozen BK292.out 6; have hfz34_7 := blk_frozen BK292.out 7) | ((with_reducible refine gate_callee (f := 30) rfl ?_); refine goesL_ (some 14) rfl rfl Tryd.func30 (by kernel_rfl) rfl #[.agg #[.int .i64 a0_0, .int .i64 a0_1, .int .i64 a0_2, .int .i64 a0_3, .int .i64 a0_4, .int .i64 a0_5, .slice A0_6 l0_6.length c0_6, .slice A0_7 l0_7.length c0_7]] rfl (by (try simp only [List.map_toArray, List.map_cons, List.map_nil]); first | done | rfl | (simp only [List.length_drop, List.length_take]; rfl)) ?_; (with_reducible refine (remontoirref04_Check.calls k a0_0 a0_1 a0_2 a0_3 a0_4 a0_5 _ _ l0_6 _ _ l0_7 t293 _ ?side1 ?side2 ?side3 ?side4 A2.out).mono ?_); (case side1 => repeat (first | exact (Kd.C_below HR0_6.out HB.out) | (with_reducible refine Kd.C_alloc ?_ _) | (with_reducible refine Kd.C_drewN ?_ _) | (with_reducible refine Kd.C_drew ?_))); (case side2 => exact HC0_6.out); (case side3 => repeat (first | exact (Kd.C_below HR0_7.out HB.out) | (with_reducible refine Kd.C_alloc ?_ _) | (with_reducible refine Kd.C_drewN ?_ _) | (with_reducible refine Kd.C_drew ?_))); (case side4 => exact HC0_7.out); rintro e w35 ⟨rfl, hb⟩; refine ⟨_, rfl, ?_⟩; have n0_ := Aside0.mk (blk_below (g := gb292) (o := .cells #[.int .i64 a0_0, .int .i64 a0_1, .int .i64 a0_2, .int .i64 a0_3, .int .i64 a0_4, .int .i64 a0_5, .slice A0_6 l0_6.length c0_6, .slice A0_7 l0_7.length c0_7] 44 (0, 0)) (by (with_reducible repeat (first | refine blk_drewN ?_ _ | refine blk_drew ?_ | refine blk_alloc ?_ _)); exact BK292.out) hb); have n1_ := Aside0.mk (below_step (by repeat (first | (with_reducible first | exact HB.out | apply below_alloc | apply pw_below_drewN | apply below_drew1 | refine below_set ?_ GE292.out) | exact HB.out)) hb); clear BK292; clear HB; have BK292 := n0_; have HB := n1_; clear n0_ n1_; (try clear hb); (try clear hb2); (try clear hk); (try clear hi); have hcz36_0 : w35.cell? ⟨gb292, 0, none⟩ = some (.int .i64 a0_0) := (blk_cell BK292.out 0).trans rfl; have hcz36_1 : w35.cell? ⟨gb292, 1, none⟩ = some (.int .i64 a0_1) := (blk_cell BK292.out 1).trans rfl; have hcz36_2 : w35.cell? ⟨gb292, 2, none⟩ = some (.int .i64 a0_2) := (blk_cell BK292.out 2).trans rfl; have hcz36_3 : w35.cell? ⟨gb292, 3, none⟩ = some (.int .i64 a0_3) := (blk_cell BK292.out 3).trans rfl; have hcz36_4 : w35.cell? ⟨gb292, 4, none⟩ = some (.int .i64 a0_4) := (blk_cell BK292.out 4).trans rfl; have hcz36_5 : w35.cell? ⟨gb292, 5, none⟩ = some (.int .i64 a0_5) := (blk_cell BK292.out 5).trans rfl; have hcz36_6 : w35.cell? ⟨gb292, 6, none⟩ = some (.slice A0_6 l0_6.length c0_6) := (blk_cell BK292.out 6).trans rfl; have hcz36_7 : w35.cell? ⟨gb292, 7, none⟩ = some (.slice A0_7 l0_7.length c0_7) := (blk_cell BK292.out 7).trans rfl; have hfz36_0 := blk_frozen BK292.out 0; have hfz36_1 := blk_frozen BK292.out 1; have hfz36_2 := blk_frozen BK292.out 2; have hfz36_3 := blk_frozen BK292.out 3; have hfz36_4 := blk_frozen BK292.out 4; have hfz36_5 := blk_frozen BK292.out 5; have hfz36_6 := blk_frozen BK292.out 6; have hfz36_7 := blk_frozen BK292.out 7) | ((with_reducible refine gate_callee (f := 28) rfl ?_); refine goesL_ (some 22) rfl rfl Tryd.func28 (by kernel_rfl) rfl #[.agg #[.int .i64 a0_0, .int .i64 a0_1, .int .i64 a0_2, .int .i64 a0_3, .int .i64 a0_4, .int .i64 a0_5, .slice A0_6 l0_6.length c0_6, .slice A0_7 l0_7.length c0_7], .int .i64 a0_5] rfl (by (try simp only [List.map_toArray, List.map_cons, List.map_nil]); first | done | rfl | (simp only [List.length_drop, List.length_take]; rfl)) ?_; (with_reducible refine (remontoirref04_Error.calls k a0_0 a0_1 a0_2 a0_3 a0_4 a0_5 _ _ l0_6 _ _ l0_7 a0_5 t294 t295 t296 _ ?side1 ?side2 ?side3 ?side4 A4.out).mono ?_); (case side1 => repeat (first | exact (Kd.C_below HR0_6.out HB.out) | (with_reducible refine Kd.C_alloc ?_ _) | (with_reducible refine Kd.C_drewN ?_ _) | (with_reducible refine Kd.C_drew ?_))); (case side2 => exact HC0_6.out); (case side3 => repeat (first | exact (Kd.C_below HR0_7.out HB.out) | (with_reducible refine Kd.C_alloc ?_ _) | (with_reducible refine Kd.C_drewN ?_ _) | (with_reducible refine Kd.C_drew ?_))); (case side4 => exact HC0_7.out); rintro e w37 ⟨rfl, hb⟩; refine ⟨_, rfl, ?_⟩; have n0_ := Aside0.mk (blk_below (g := gb292) (o := .cells #[.int .i64 a0_0, .int .i64 a0_1, .int .i64 a0_2, .int .i64 a0_3, .int .i64 a0_4, .int .i64 a0_5, .slice A0_6 l0_6.length c0_6, .slice A0_7 l0_7.length c0_7] 44 (0, 0)) (by (with_reducible repeat (first | refine blk_drewN ?_ _ | refine blk_drew ?_ | refine blk_alloc ?_ _)); exact BK292.out) hb); have n1_ := Aside0.mk (below_step (by repeat (first | (with_reducible first | exact HB.out | apply below_alloc | apply pw_below_drewN | apply below_drew1 | refine below_set ?_ GE292.out) | exact HB.out)) hb); clear BK292; clear HB; have BK292 := n0_; have HB := n1_; clear n0_ n1_; (try clear hb); (try clear hb2); (try clear hk); (try clear hi)) | ((with_reducible refine gate_dst (N := 6) rfl ?_); refine box_event ?hg (N := 6) ?hd (cs := #[.int .i64 0, .int .i64 0]) (t := 23) ?hr ?_; (case hd => rfl); (case hg => rfl); (case hr => first | (go_simp; done) | (go_simp; rfl)); intro gb297 hg w38 hbox hb; have n0_ := Aside0.mk (blk_below (g := gb292) (o := .cells #[.int .i64 a0_0, .int .i64 a0_1, .int .i64 a0_2, .int .i64 a0_3, .int .i64 a0_4, .int .i64 a0_5, .slice A0_6 l0_6.length c0_6, .slice A0_7 l0_7.length c0_7] 44 (0, 0)) (by (with_reducible repeat (first | refine blk_drewN ?_ _ | refine blk_drew ?_ | refine blk_alloc ?_ _)); exact BK292.out) hb); have n1_ := Aside0.mk (below_step (by repeat (first | (with_reducible first | exact HB.out | apply below_alloc | apply pw_below_drewN | apply below_drew1 | refine below_set ?_ GE292.out) | exact HB.out)) hb); have n2_ := Aside0.mk (hbox); have n3_ := Aside0.mk ((by rw [hg]; exact (below_size (by repeat (first | (with_reducible first | exact HB.out | apply below_alloc | apply pw_below_drewN | apply below_drew1 | refine below_set ?_ GE292.out) | exact HB.out))) : w.heap.size ≤ gb297)); have n4_ := Aside0.mk ((by rw [hg]; exact (below_size (by repeat (first | (with_reducible first | exact HB.out | apply below_alloc | apply pw_below_drewN | apply below_drew1 | refine below_set ?_ GE292.out) | exact HB.out))) : w.heap.size ≤ gb297)); have n5_ := Aside0.mk ((by rw [hg]; exact Nat.ne_of_lt (blk_lt (g := gb292) (o := .cells #[.int .i64 a0_0, .int .i64 a0_1, .int .i64 a0_2, .int .i64 a0_3, .int .i64 a0_4, .int .i64 a0_5, .slice A0_6 l0_6.length c0_6, .slice A0_7 l0_7.length c0_7] 44 (0, 0)) (by (with_reducible repeat (first | refine blk_drewN ?_ _ | refine blk_drew ?_ | refine blk_alloc ?_ _)); exact BK292.out)) : gb292 ≠ gb297)); have n6_ := Aside0.mk ((by rw [hg]; exact Nat.ne_of_gt (blk_lt (g := gb292) (o := .cells #[.int .i64 a0_0, .int .i64 a0_1, .int .i64 a0_2, .int .i64 a0_3, .int .i64 a0_4, .int .i64 a0_5, .slice A0_6 l0_6.length c0_6, .slice A0_7 l0_7.length c0_7] 44 (0, 0)) (by (with_reducible repeat (first | refine blk_drewN ?_ _ | refine blk_drew ?_ | refine blk_alloc ?_ _)); exact BK292.out)) : gb297 ≠ gb292)); clear BK292; clear HB; have BK292 := n0_; have HB := n1_; have BK297 := n2_; have GW297 := n3_; have GE297 := n4_; have NB292_297 := n5_; have NB297_292 := n6_; clear n0_ n1_ n2_ n3_ n4_ n5_ n6_; clear hb hbox hg; have hnb39 := NB297_292.out; have hnc39 := NB292_297.out; have hcz40_0 : w38.cell? ⟨gb297, 0, none⟩ = some (.int .i64 0) := (blk_cell BK297.out 0).trans rfl; have hcz40_1 : w38.cell? ⟨gb297, 1, none⟩ = some (.int .i64 0) := (blk_cell BK297.out 1).trans rfl; have hfz40_0 := blk_frozen BK297.out 0; have hfz40_1 := blk_frozen BK297.out 1))
      go_ret3
      exact ⟨by first | rfl | (simp [errW_none, errW_some] <;> rfl) | (simp [*, errW_none, errW_some] <;> rfl), by repeat (first | (with_reducible first | exact HB.out | apply below_alloc | apply pw_below_drewN | apply below_drew1 | refine below_set ?_ GE292.out | refine below_set ?_ GE297.out) | exact HB.out)⟩
  · rw [if_neg c3] at H
    have c3b0 : (t293 == 0) = false := beq_eq_false_iff_ne.mpr c3
    have c3b1 : (t293 != 0) = true := bne_iff_ne.mpr c3
    simp only [Option.some.injEq, Prod.mk.injEq] at H
    obtain ⟨rfl, rfl, rfl⟩ := H
    go_enter Tryd.func36, Tryd.ntmps36
    go_wp2_with (first | ((with_reducible refine gate_dst (N := 1) rfl ?_); refine box_event ?hg (N := 1) ?hd (cs := #[.int .i64 a0_0, .int .i64 a0_1, .int .i64 a0_2, .int .i64 a0_3, .int .i64 a0_4, .int .i64 a0_5, .slice A0_6 l0_6.length c0_6, .slice A0_7 l0_7.length c0_7]) (t := 44) ?hr ?_; (case hd => rfl); (case hg => rfl); (case hr => first | (go_simp; done) | (go_simp; rfl)); intro gb292 hg w41 hbox hb; have n0_ := Aside0.mk (below_step (by repeat (first | (with_reducible first | exact HB.out | apply below_alloc | apply pw_below_drewN | apply below_drew1) | exact HB.out)) hb); have n1_ := Aside0.mk (hbox); have n2_ := Aside0.mk ((by rw [hg]; exact (below_size (by repeat (first | (with_reducible first | exact HB.out | apply below_alloc | apply pw_below_drewN | apply below_drew1) | exact HB.out))) : w.heap.size ≤ gb292)); have n3_ := Aside0.mk ((by rw [hg]; exact (below_size (by repeat (first | (with_reducible first | exact HB.out | apply below_alloc | apply pw_below_drewN | apply below_drew1) | exact HB.out))) : w.heap.size ≤ gb292)); clear HB; have HB := n0_; have BK292 := n1_; have GW292 := n2_; have GE292 := n3_; clear n0_ n1_ n2_ n3_; clear hb hbox hg; have hcz42_0 : w41.cell? ⟨gb292, 0, none⟩ = some (.int .i64 a0_0) := (blk_cell BK292.out 0).trans rfl; have hcz42_1 : w41.cell? ⟨gb292, 1, none⟩ = some (.int .i64 a0_1) := (blk_cell BK292.out 1).trans rfl; have hcz42_2 : w41.cell? ⟨gb292, 2, none⟩ = some (.int .i64 a0_2) := (blk_cell BK292.out 2).trans rfl; have hcz42_3 : w41.cell? ⟨gb292, 3, none⟩ = some (.int .i64 a0_3) := (blk_cell BK292.out 3).trans rfl; have hcz42_4 : w41.cell? ⟨gb292, 4, none⟩ = some (.int .i64 a0_4) := (blk_cell BK292.out 4).trans rfl; have hcz42_5 : w41.cell? ⟨gb292, 5, none⟩ = some (.int .i64 a0_5) := (blk_cell BK292.out 5).trans rfl; have hcz42_6 : w41.cell? ⟨gb292, 6, none⟩ = some (.slice A0_6 l0_6.length c0_6) := (blk_cell BK292.out 6).trans rfl; have hcz42_7 : w41.cell? ⟨gb292, 7, none⟩ = some (.slice A0_7 l0_7.length c0_7) := (blk_cell BK292.out 7).trans rfl; have hfz42_0 := blk_frozen BK292.out 0; have hfz42_1 := blk_frozen BK292.out 1; have hfz42_2 := blk_frozen BK292.out 2; have hfz42_3 := blk_frozen BK292.out 3; have hfz42_4 := blk_frozen BK292.out 4; have hfz42_5 := blk_frozen BK292.out 5; have hfz42_6 := blk_frozen BK292.out 6; have hfz42_7 := blk_frozen BK292.out 7) | ((with_reducible refine gate_callee (f := 30) rfl ?_); refine goesL_ (some 14) rfl rfl Tryd.func30 (by kernel_rfl) rfl #[.agg #[.int .i64 a0_0, .int .i64 a0_1, .int .i64 a0_2, .int .i64 a0_3, .int .i64 a0_4, .int .i64 a0_5, .slice A0_6 l0_6.length c0_6, .slice A0_7 l0_7.length c0_7]] rfl (by (try simp only [List.map_toArray, List.map_cons, List.map_nil]); first | done | rfl | (simp only [List.length_drop, List.length_take]; rfl)) ?_; (with_reducible refine (remontoirref04_Check.calls k a0_0 a0_1 a0_2 a0_3 a0_4 a0_5 _ _ l0_6 _ _ l0_7 t293 _ ?side1 ?side2 ?side3 ?side4 A2.out).mono ?_); (case side1 => repeat (first | exact (Kd.C_below HR0_6.out HB.out) | (with_reducible refine Kd.C_alloc ?_ _) | (with_reducible refine Kd.C_drewN ?_ _) | (with_reducible refine Kd.C_drew ?_))); (case side2 => exact HC0_6.out); (case side3 => repeat (first | exact (Kd.C_below HR0_7.out HB.out) | (with_reducible refine Kd.C_alloc ?_ _) | (with_reducible refine Kd.C_drewN ?_ _) | (with_reducible refine Kd.C_drew ?_))); (case side4 => exact HC0_7.out); rintro e w43 ⟨rfl, hb⟩; refine ⟨_, rfl, ?_⟩; have n0_ := Aside0.mk (blk_below (g := gb292) (o := .cells #[.int .i64 a0_0, .int .i64 a0_1, .int .i64 a0_2, .int .i64 a0_3, .int .i64 a0_4, .int .i64 a0_5, .slice A0_6 l0_6.length c0_6, .slice A0_7 l0_7.length c0_7] 44 (0, 0)) (by (with_reducible repeat (first | refine blk_drewN ?_ _ | refine blk_drew ?_ | refine blk_alloc ?_ _)); exact BK292.out) hb); have n1_ := Aside0.mk (below_step (by repeat (first | (with_reducible first | exact HB.out | apply below_alloc | apply pw_below_drewN | apply below_drew1 | refine below_set ?_ GE292.out) | exact HB.out)) hb); clear BK292; clear HB; have BK292 := n0_; have HB := n1_; clear n0_ n1_; (try clear hb); (try clear hb2); (try clear hk); (try clear hi)))
    go_ret3
    exact ⟨by first | rfl | (simp [errW_none, errW_some] <;> rfl) | (simp [*, errW_none, errW_some] <;> rfl), by repeat (first | (with_reducible first | exact HB.out | apply below_alloc | apply pw_below_drewN | apply below_drew1 | refine below_set ?_ GE292.out) | exact HB.out)⟩

end Go.Proofs.TrydX.X
end

section
/- Maps whose keys are structs of two numbers, and whose elements are numbers: what a look-up and a store do, over whatever program. -/
set_option linter.unusedSimpArgs false
namespace Go.Proofs.YtidnopmjhhmedaaDoor
open Go Go.RowKit

abbrev pairV (s d : Int) : Value := .agg #[.int .i64 s, .int .i64 d]

/-- A map's key of two numbers. -/
structure PairKey (P : Program) (T K : TypeId) : Prop where
  und : ∃ E, P.underlying T = some (.map K E) ∧ ∀ w, (zeroValue E).run P w = .ok (.int .i64 0) w
  str : ∃ fs, P.underlying K = some (.struct fs)
  check : ∀ (w : World) em s d, (Instr.checkKey em 10000 K (pairV s d)).run P w = .ok () w
  eq : ∀ (w : World) s d s' d', (Op.equal K (pairV s d) (pairV s' d')).run P w = .ok (s == s' && d == d') w

def pmLook : List ((Int × Int) × Int) → Int → Int → Option Int
  | [], _, _ => none
  | x :: es, s, d => if s = x.1.1 ∧ d = x.1.2 then some x.2 else pmLook es s d
def pmPut : List ((Int × Int) × Int) → Int → Int → Int → List ((Int × Int) × Int)
  | [], s, d, v => [((s, d), v)]
  | x :: es, s, d, v => if s = x.1.1 ∧ d = x.1.2 then ((s, d), v) :: es else x :: pmPut es s d v
theorem pmLook_put (es : List ((Int × Int) × Int)) (s d v s' d' : Int) : pmLook (pmPut es s d v) s' d' = if s' = s ∧ d' = d then some v else pmLook es s' d' := by
  induction es with
  | nil => simp [pmPut, pmLook]
  | cons x es ih =>
    simp only [pmPut]
    by_cases h : s = x.1.1 ∧ d = x.1.2
    · rw [if_pos h]
      simp only [pmLook]
      obtain ⟨h1, h2⟩ := h
      subst h1; subst h2
      split <;> simp_all
    · rw [if_neg h]
      simp only [pmLook]
      by_cases h' : s' = x.1.1 ∧ d' = x.1.2
      · rw [if_pos h', if_pos h', if_neg]
        rintro ⟨h1, h2⟩
        exact h ⟨h1 ▸ h'.1, h2 ▸ h'.2⟩
      · rw [if_neg h', if_neg h', ih]

/-- The entries of a map read so. -/
def PEnc (arr : Array MapEntry) (es : List ((Int × Int) × Int)) : Prop := arr.toList.map (fun e => (e.key, e.val)) = es.map fun x => (pairV x.1.1 x.1.2, Value.int .i64 x.2)
def PMap (w : World) (b : Nat) (es : List ((Int × Int) × Int)) : Prop := ∃ arr clk, w.heap[b]? = some (.map arr clk) ∧ PEnc arr es
theorem PMap.new {w : World} {b : Nat} (h : w.heap[b]? = some (.map #[] 0)) : PMap w b [] := ⟨_, _, h, rfl⟩
theorem PMap.below {w w' : World} {b : Nat} {es : List ((Int × Int) × Int)} (h : PMap w b es) (hb : Below w.heap.size w w') : PMap w' b es := by
  obtain ⟨arr, clk, h1, h2⟩ := h
  exact ⟨arr, clk, (hb.block b (Array.getElem?_eq_some_iff.1 h1).1).trans h1, h2⟩
theorem PMap.lt {w : World} {b : Nat} {es : List ((Int × Int) × Int)} (h : PMap w b es) : b < w.heap.size := by
  obtain ⟨arr, clk, h1, h2⟩ := h
  exact (Array.getElem?_eq_some_iff.1 h1).1

section
variable {P : Program} {T K : TypeId}

theorem run_findAsking (hK : PairKey P T K) (s d : Int) : ∀ (l : List MapEntry) (es : List ((Int × Int) × Int)) (i : Nat), (l.map fun e => (e.key, e.val)) = (es.map fun x => (pairV x.1.1 x.1.2, Value.int .i64 x.2)) →
    ∃ r : Option (Nat × Value), (∀ w : World, (Instr.findAsking K (pairV s d) l i).run P w = .ok r w) ∧
      ((pmLook es s d = none ∧ r = none ∧ pmPut es s d = fun v => es ++ [((s, d), v)]) ∨
       (∃ j v, pmLook es s d = some v ∧ r = some (i + j, .int .i64 v) ∧ j < l.length ∧ es[j]?.map Prod.fst = some (s, d) ∧ ∀ u, pmPut es s d u = es.set j ((s, d), u))) := by
  intro l
  induction l with
  | nil =>
    intro es i h
    have : es = [] := by simpa using h.symm
    subst this
    exact ⟨none, by intro w; simp [Instr.findAsking], .inl ⟨rfl, rfl, by funext v; rfl⟩⟩
  | cons e l ih =>
    intro es i h
    cases es with
    | nil => simp at h
    | cons x es =>
      simp only [List.map_cons, List.cons.injEq, Prod.mk.injEq] at h
      obtain ⟨⟨hk, hv⟩, ht⟩ := h
      by_cases hx : s = x.1.1 ∧ d = x.1.2
      · refine ⟨some (i + 0, .int .i64 x.2), ?_, .inr ⟨0, x.2, by simp [pmLook, hx], rfl, by simp, by simp [hx], fun u => by simp [pmPut, hx]⟩⟩
        intro w
        simp [Instr.findAsking, hk, hv, hK.eq, hx]
      · obtain ⟨r, hr, hcase⟩ := ih es (i + 1) ht
        refine ⟨r, ?_, ?_⟩
        · have hne : (s == x.1.1 && d == x.1.2) = false := by
            rw [Bool.eq_false_iff]; simp only [ne_eq, Bool.and_eq_true, beq_iff_eq]; exact hx
          intro w
          simp [Instr.findAsking, hk, hK.eq, hne]
          exact hr w
        · rcases hcase with ⟨h1, h2, h3⟩ | ⟨j, v, h1, h2, h3, h4, h5⟩
          · refine .inl ⟨by simp [pmLook, hx, h1], h2, ?_⟩
            funext v
            simp only [pmPut, if_neg hx, h3, List.cons_append]
          · refine .inr ⟨j + 1, v, by simp [pmLook, hx, h1], by rw [h2]; congr 2; omega, by simpa using h3, by simpa using h4, ?_⟩
            intro u
            simp only [pmPut, if_neg hx, h5, List.set_cons_succ]

theorem run_findKey (hK : PairKey P T K) (s d : Int) (l : List MapEntry) (es : List ((Int × Int) × Int)) (h : (l.map fun e => (e.key, e.val)) = (es.map fun x => (pairV x.1.1 x.1.2, Value.int .i64 x.2))) :
    ∃ r : Option (Nat × Value), (∀ w : World, (Instr.findKey K (pairV s d) l).run P w = .ok r w) ∧
      ((pmLook es s d = none ∧ r = none ∧ pmPut es s d = fun v => es ++ [((s, d), v)]) ∨
       (∃ j v, pmLook es s d = some v ∧ r = some (j, .int .i64 v) ∧ j < l.length ∧ es[j]?.map Prod.fst = some (s, d) ∧ ∀ u, pmPut es s d u = es.set j ((s, d), u))) := by
  obtain ⟨fs, hfs⟩ := hK.str
  cases l with
  | nil =>
    have : es = [] := by simpa using h.symm
    subst this
    refine ⟨none, ?_, .inl ⟨rfl, rfl, by funext v; rfl⟩⟩
    intro w
    simp [Instr.findKey, Instr.findNow, run_underlying hfs]
  | cons e l =>
    obtain ⟨r, hr, hc⟩ := run_findAsking hK s d (e :: l) es 0 h
    refine ⟨r, ?_, ?_⟩
    · have hn : Instr.findNow (.struct fs) (pairV s d) (e :: l) 0 = none := by simp [Instr.findNow, Instr.sameNow]
      intro w
      simp only [Instr.findKey, Sem.run_bind, run_underlying hfs, Result.andThen_ok, hn]
      exact hr w
    · rcases hc with hc | ⟨j, v, h1, h2, h3⟩
      · exact .inl hc
      · exact .inr ⟨j, v, h1, by rw [h2]; simp, h3⟩

theorem run_getObj_map {w : World} {b : Nat} {arr : Array MapEntry} {clk : Nat} (h : w.heap[b]? = some (.map arr clk)) : (getObj b).run P w = .ok (.map arr clk) w := by
  simp [getObj, Sem.run, h]

theorem run_lookup_pair (hK : PairKey P T K) {w : World} {b : Nat} {arr : Array MapEntry} {clk : Nat} {es : List ((Int × Int) × Int)} (h : w.heap[b]? = some (.map arr clk)) (he : PEnc arr es) (s d : Int) :
    (Instr.lookup T (.map (some b)) (pairV s d) true).run P w = .ok (.tuple #[.int .i64 ((pmLook es s d).getD 0), .bool (pmLook es s d).isSome]) w := by
  obtain ⟨E, hE, hz⟩ := hK.und
  obtain ⟨r, hr, hc⟩ := run_findKey hK s d arr.toList es he
  simp only [Instr.lookup, Sem.run_bind, run_underlying hE, Result.andThen_ok, run_getObj_map h, Sem.run_pure, hK.check, hr]
  rcases hc with ⟨h1, rfl, _⟩ | ⟨j, v, h1, rfl, _⟩
  · simp [hz, h1]
  · simp [h1]

theorem run_lookup_pair1 (hK : PairKey P T K) {w : World} {b : Nat} {arr : Array MapEntry} {clk : Nat} {es : List ((Int × Int) × Int)} (h : w.heap[b]? = some (.map arr clk)) (he : PEnc arr es) (s d : Int) :
    (Instr.lookup T (.map (some b)) (pairV s d) false).run P w = .ok (.int .i64 ((pmLook es s d).getD 0)) w := by
  obtain ⟨E, hE, hz⟩ := hK.und
  obtain ⟨r, hr, hc⟩ := run_findKey hK s d arr.toList es he
  simp only [Instr.lookup, Sem.run_bind, run_underlying hE, Result.andThen_ok, run_getObj_map h, Sem.run_pure, hK.check, hr]
  rcases hc with ⟨h1, rfl, _⟩ | ⟨j, v, h1, rfl, _⟩
  · simp [hz, h1]
  · simp [h1]

theorem run_mapUpdate_pair (hK : PairKey P T K) {arr : Array MapEntry} {es : List ((Int × Int) × Int)} (clk : Nat) (he : PEnc arr es) (s d u : Int) :
    ∃ arr' clk', PEnc arr' (pmPut es s d u) ∧ ∀ (w : World) (b : Nat), w.heap[b]? = some (.map arr clk) → (Instr.mapUpdate T (.map (some b)) (pairV s d) (.int .i64 u)).run P w = .ok () (w.putObj b (.map arr' clk')) := by
  obtain ⟨E, hE, hz⟩ := hK.und
  obtain ⟨r, hr, hc⟩ := run_findKey hK s d arr.toList es he
  have hset : ∀ (w : World) (b : Nat), w.heap[b]? = some (.map arr clk) → ∀ o : Obj, (setObj b o).run P w = .ok () (w.putObj b o) := by
    intro w b h o; simp [setObj, Sem.run, h, World.putObj]
  rcases hc with ⟨h1, rfl, hput⟩ | ⟨j, v, h1, rfl, hj, hkey, hput⟩
  · refine ⟨arr.push { key := pairV s d, val := .int .i64 u, born := clk }, clk + 1, ?_, ?_⟩
    · unfold PEnc at he ⊢
      rw [hput]
      simp [he]
    · intro w b h
      simp only [Instr.mapUpdate, Sem.run_bind, run_underlying hE, Result.andThen_ok, run_getObj_map h, hK.check, hr, hset _ _ h]
  · have hjl : j < es.length := by
      rcases Nat.lt_or_ge j es.length with h2 | h2
      · exact h2
      · rw [List.getElem?_eq_none h2] at hkey; cases hkey
    have hold : ((arr[j]?).map (·.key)).getD (pairV s d) = pairV s d := by
      have h2 := congrArg (fun l => l[j]?) he
      simp only [List.getElem?_map] at h2
      have h3 : es[j]? = some es[j] := List.getElem?_eq_getElem hjl
      rw [h3] at h2 hkey
      simp only [Option.map_some, Option.some.injEq] at hkey
      rw [Array.getElem?_toList] at h2
      cases ha : arr[j]? with
      | none => rfl
      | some e =>
        rw [ha] at h2
        simp only [Option.map_some, Option.some.injEq, Prod.mk.injEq] at h2
        simp [h2.1, hkey]
    refine ⟨arr.modify j fun e => { e with key := pairV s d, val := .int .i64 u }, clk, ?_, ?_⟩
    · unfold PEnc at he ⊢
      rw [hput u, Array.toList_modify]
      rw [List.map_set, ← he]
      apply List.ext_getElem?
      intro i
      simp only [List.getElem?_map, List.getElem?_set, List.getElem?_modify, List.length_map]
      by_cases hij : j = i
      · subst hij
        have hlt : j < arr.toList.length := hj
        rw [if_pos rfl, if_pos hlt, List.getElem?_eq_getElem hlt]
        simp
      · rw [if_neg hij]
        cases arr.toList[i]? <;> simp [hij]
    · intro w b h
      have hsb : Instr.sameBits 10000 (pairV s d) (pairV s d) = true := by simp [Instr.sameBits]
      simp only [Instr.mapUpdate, Sem.run_bind, run_underlying hE, Result.andThen_ok, run_getObj_map h, hK.check, hr, hold, Instr.keyThatStays, hsb, if_true, Sem.run_pure, hset _ _ h]

theorem putObj_heap_same {w : World} {b : Nat} (h : b < w.heap.size) (o : Obj) : (w.putObj b o).heap[b]? = some o := World.putObj_heap_same h
end

end Go.Proofs.YtidnopmjhhmedaaDoor
end

section
/- How much some ticks can add at most: reach, with what is known of ticks in a map. -/
set_option linter.unusedSimpArgs false
set_option linter.unusedVariables false
namespace Go.Proofs.YtidnopmjhhmedaaDoor
open Go.RowKit
attribute [local go_sem] Oper.semAt_some

theorem pairKey : PairKey Tryd.prog 78 108 where
  und := ⟨3, by kernel_rfl, fun w => by simp [go_sem]⟩
  str := ⟨Tryd.prog.fieldsOf 108, by kernel_rfl⟩
  check := fun w em s d => by kernel_rfl
  eq := fun w s d s' d' => by
    rw [Op.equal, Op.maxDepth]
    simp [go_sem]
    by_cases h : s = s' <;> by_cases h' : d = d' <;> simp [h, h']

/-- What is known of ticks is so. -/
def sumL (l : List Int) : Int := l.foldr (fun a b => a + b) 0
def capSum (each J : Int) (t : Nat) : Int := sumL (caps each J t)
def KnownOk (F S J : Int) (es : List ((Int × Int) × Int)) : Prop := ∀ (t : Nat) (v : Int), (pmLook es t 0 = some v → v = capSum F J t) ∧ (pmLook es t 1 = some v → v = capSum S J t)
def Memo (F S J : Int) (w : World) (b : Nat) : Prop := ∃ es, PMap w b es ∧ KnownOk F S J es

theorem keptK_b {St : Nat → Prop} {w : World} (hS : ∀ k, St k → k < w.heap.size) (W : World) (l : Nat) (o o' : Obj) (hl : w.heap.size ≤ l) (h : W.heap[l]? = some o) (_ : o.isCells = false) (_ : o.isWalk = false) : Kept St W (W.putObj l o') :=
  ⟨(grownBy_putObj' W l o').size, fun k hk => (World.putObj_heap_other (fun e => by have := hS k hk; omega))⟩

theorem most_stops (n B : Nat) (St : Nat → Prop) (F S J L H : Int) (m : Option Nat) (ticks : Nat) (way : Nat) (each : Int) (hway : way = 0 ∧ each = F ∨ way = 1 ∧ each = S) (ht : ticks ≤ 200) (hr : isRuleB F S J L H = true)
    (w : World) (hw : Ways w) (hS : St 0 ∧ St B ∧ St (B + 1) ∧ St (B + 2)) (hSl : ∀ k, St k → k < w.heap.size) (hg : w.cell? ⟨B, 0, none⟩ = some (.int .i64 F) ∧ w.cell? ⟨B, 1, none⟩ = some (.int .i64 S) ∧ w.cell? ⟨B, 2, none⟩ = some (.int .i64 J) ∧ w.cell? ⟨B, 3, none⟩ = some (.int .i64 L) ∧ w.cell? ⟨B, 4, none⟩ = some (.int .i64 H) ∧ w.cell? ⟨B, 5, none⟩ = some (.map m))
    (h1 : w.cell? ⟨B + 1, 0, none⟩ = some (.int .i64 ticks)) (h2 : w.cell? ⟨B + 2, 0, none⟩ = some (.int .i64 way)) :
    SeqStopsK Fence.wide n Tryd.prog 81 #[.pointer (some ⟨B + 1, 0, none⟩), .pointer (some ⟨B + 2, 0, none⟩), .pointer (some ⟨B, 0, none⟩)] (fun x : Int => #[Value.int .i64 x]) (Kept St) (fun ys => ys = caps each J ticks) (fun pre => pre <+: caps each J ticks) ticks w := by
  intro l I Ix W hW hI hIx hY h0
  refine most1_in n l B St F S J L H m ticks way each hway ht hr I Ix (fun xs A A' h hb => hI xs A A' none h ⟨hb.os, hb.tape, hb.output, hb.size, fun k hk _ => hb.block k hk⟩ (fun r e => by cases e)) hY W (hw.below hW) hS (fun k hk => Nat.lt_of_lt_of_le (hSl k hk) hW.size) ?_ (cell_below hW h1) (cell_below hW h2) h0
  exact ⟨cell_below hW hg.1, cell_below hW hg.2.1, cell_below hW hg.2.2.1, cell_below hW hg.2.2.2.1, cell_below hW hg.2.2.2.2.1, cell_below hW hg.2.2.2.2.2⟩


theorem total_from (xs : List Int) : ∀ a : Int, 0 ≤ a → (∀ x ∈ xs, 0 ≤ x ∧ x ≤ 500) → a + 500 * xs.length ≤ 1000000 → xs.foldl (fun a b => wrap64 (a + b)) a = a + sumL xs := by
  induction xs with
  | nil => intro a h0 h1 h2; simp [sumL]
  | cons x xs ih =>
    intro a h0 h1 h2
    have hx := h1 x (by simp)
    simp only [List.length_cons] at h2
    have hw : wrap64 (a + x) = a + x := IntWalk.wrap64_in _ (by constructor <;> omega)
    simp only [List.foldl_cons, hw]
    rw [ih (a + x) (by omega) (fun y hy => h1 y (by simp [hy])) (by omega)]
    simp [sumL]; omega
theorem total_small (xs : List Int) (h1 : ∀ x ∈ xs, 0 ≤ x ∧ x ≤ 500) (h2 : xs.length ≤ 200) : total xs = sumL xs := by
  unfold total
  rw [total_from xs 0 (by omega) h1 (by omega)]; omega
theorem capAt_bd {each J : Int} {ticks k : Nat} (h0 : 0 ≤ each) (h1 : each ≤ 500) (hJ : 1 ≤ J) (hk : k < ticks) : 0 ≤ capAt each J ticks k ∧ capAt each J ticks k ≤ 500 := by
  unfold capAt
  have a1 : 0 ≤ J * ((k : Int) + 1) := Int.mul_nonneg (by omega) (by omega)
  have a2 : 0 ≤ J * ((ticks : Int) - k) := Int.mul_nonneg (by omega) (by omega)
  omega
theorem caps_bd {each J : Int} {ticks : Nat} (h0 : 0 ≤ each) (h1 : each ≤ 500) (hJ : 1 ≤ J) : ∀ x ∈ caps each J ticks, 0 ≤ x ∧ x ≤ 500 := by
  intro x hx
  simp only [caps, List.mem_map, List.mem_range] at hx
  obtain ⟨k, hk, rfl⟩ := hx
  exact capAt_bd h0 h1 hJ hk
theorem total_caps {each J : Int} {ticks : Nat} (h0 : 0 ≤ each) (h1 : each ≤ 500) (hJ : 1 ≤ J) (ht : ticks ≤ 200) : total (caps each J ticks) = capSum each J ticks :=
  total_small _ (caps_bd h0 h1 hJ) (by simp [caps]; exact ht)

theorem isRuleB_spec {F S J L H : Int} (h : isRuleB F S J L H = true) : (0 ≤ F ∧ F ≤ 500) ∧ (0 ≤ S ∧ S ≤ 500) ∧ (1 ≤ J ∧ J ≤ 500) ∧ -100 ≤ L ∧ L ≤ H ∧ H ≤ 100 := by
  simp only [isRuleB, Bool.and_eq_true, lies_iff, decide_eq_true_eq] at h
  obtain ⟨⟨⟨⟨⟨h1, h2⟩, h3⟩, h4⟩, h5⟩, h6⟩ := h
  exact ⟨h1, h2, h3, h4, h5, h6⟩

theorem Tryd.info3 : (Tryd.prog.info? 3).map (fun i => (i.zero, i.size, i.bytes)) = some (some (.int .i64 0), 1, 8) := by kernel_rfl

theorem known_put {F S J : Int} {es : List ((Int × Int) × Int)} (h : KnownOk F S J es) (ticks way : Nat) (each : Int) (hway : way = 0 ∧ each = F ∨ way = 1 ∧ each = S) : KnownOk F S J (pmPut es ticks way (capSum each J ticks)) := by
  intro t v
  rw [pmLook_put, pmLook_put]
  refine ⟨fun hv => ?_, fun hv => ?_⟩
  · split at hv
    · rename_i hc
      have : t = ticks := by omega
      subst this
      rcases hway with ⟨rfl, rfl⟩ | ⟨rfl, rfl⟩
      · exact (Option.some.inj hv).symm
      · exact absurd hc.2 (by decide)
    · exact (h t v).1 hv
  · split at hv
    · rename_i hc
      have : t = ticks := by omega
      subst this
      rcases hway with ⟨rfl, rfl⟩ | ⟨rfl, rfl⟩
      · exact absurd hc.2 (by decide)
      · exact (Option.some.inj hv).symm
    · exact (h t v).2 hv

/-- The world in which the loop begins. -/
def reachW (F S J L H : Int) (b ticks way : Nat) (w : World) : World :=
  (((((w.alloc (.cells #[.int .i64 F, .int .i64 S, .int .i64 J, .int .i64 L, .int .i64 H, .map (some b)] 80)).alloc (.cells #[.int .i64 ticks, .int .i64 way] 108)).alloc (.cells #[.slice none 0 0] 26)).alloc
    (.cells #[.int .i64 F, .int .i64 S, .int .i64 J, .int .i64 L, .int .i64 H, .map (some b)] 80)).alloc (.cells #[.int .i64 ticks] 3)).alloc (.cells #[.int .i64 way] 3)
structure ReachW (F S J L H : Int) (b ticks way : Nat) (w W : World) : Prop where
  bel : Below w.heap.size w W
  size : W.heap.size = w.heap.size + 6
  box : Boxed W (w.heap.size + 1 + 1) 26 (.slice none 0 0)
  rule : W.cell? ⟨w.heap.size + 3, 0, none⟩ = some (.int .i64 F) ∧ W.cell? ⟨w.heap.size + 3, 1, none⟩ = some (.int .i64 S) ∧ W.cell? ⟨w.heap.size + 3, 2, none⟩ = some (.int .i64 J) ∧ W.cell? ⟨w.heap.size + 3, 3, none⟩ = some (.int .i64 L) ∧ W.cell? ⟨w.heap.size + 3, 4, none⟩ = some (.int .i64 H) ∧ W.cell? ⟨w.heap.size + 3, 5, none⟩ = some (.map (some b))
  tk : W.cell? ⟨w.heap.size + 3 + 1, 0, none⟩ = some (.int .i64 ticks)
  wy : W.cell? ⟨w.heap.size + 3 + 2, 0, none⟩ = some (.int .i64 way)
  own : W.cell? ⟨w.heap.size, 5, none⟩ = some (.map (some b))
  key : W.cell? ⟨w.heap.size + 1, 0, none⟩ = some (.int .i64 ticks) ∧ W.cell? ⟨w.heap.size + 1, 1, none⟩ = some (.int .i64 way)
theorem reachW_is (F S J L H : Int) (b ticks way : Nat) (w : World) : ReachW F S J L H b ticks way w (reachW F S J L H b ticks way w) := by
  unfold reachW
  refine ⟨?_, by simp, ?_, ?_, ?_, ?_, ?_, ?_⟩
  · repeat with_reducible (first | exact Below.refl _ _ | refine Below.alloc ?_ (by simp <;> omega) _)
  · have h := Boxed.new ((w.alloc (.cells #[.int .i64 F, .int .i64 S, .int .i64 J, .int .i64 L, .int .i64 H, .map (some b)] 80)).alloc (.cells #[.int .i64 ticks, .int .i64 way] 108)) 26 (.slice none 0 0)
    rw [World.size_alloc, World.size_alloc] at h
    exact ((h.alloc _).alloc _).alloc _
  all_goals simp [go_sem]

/-- The world behind a call that may have written what is known, and nothing else. -/
def MemoPost (F S J : Int) (b : Nat) (w w' : World) : Prop := w.grownBy w' (some b) ∧ Memo F S J w' b

theorem nums_of_row {w : World} {base : Nat} {v : Value} {xs : List Int} (h : w.ownsRow base 3 1 v xs.length (xs.map (Value.int .i64))) (hl : xs.length ≤ 17592186044416) : ∃ a cap, v = .slice a xs.length cap ∧ Nums w a xs.length xs := by
  have h2 := h.2
  rcases h2 with ⟨rfl, h0⟩ | ⟨g, cap, cur, rfl, _, _⟩
  · exact ⟨none, 0, by rw [h0], rfl, hl, fun hn => by omega⟩
  · refine ⟨_, cap, rfl, rfl, hl, fun hn => ⟨g, 0, rfl, fun j hj => ?_⟩⟩
    rw [Nat.zero_add, h.cellAt j (by omega), List.getElem?_map, List.getElem?_eq_getElem hj]
    simp [List.getD_eq_getElem?_getD, hj]

/-- 'out = append(out, x)' in a round: the box, the row, and what is kept. -/
theorem appended_kept {W w1 : World} {n₀ n₁ B : Nat} {t e : TypeId} {size : Nat} {v v' : Value} {k m : Nat} {xs ys : List Value} {tmp : Obj} {St : Nat → Prop}
    (hv : Boxed W B t v) (hte : t ≠ e) (hrow : W.ownsRow n₀ e size v k xs) (hn₀ : n₀ ≤ W.heap.size) (hSB : ¬ St B) (hSn : ∀ k, St k → k < n₀) (h1 : n₁ ≤ n₀) (h1B : n₁ ≤ B)
    (hown' : w1.ownsRow n₀ e size v' m ys) (hgrow : (W.alloc tmp).grownBy w1 v.ownBlock) :
    Boxed w1 B t v ∧ Boxed (w1.setCell ⟨B, 0, none⟩ v') B t v' ∧ (w1.setCell ⟨B, 0, none⟩ v').ownsRow n₀ e size v' m ys ∧ KeepsOthers W (w1.setCell ⟨B, 0, none⟩ v') ∧ Kept St W (w1.setCell ⟨B, 0, none⟩ v') ∧ Below n₁ W (w1.setCell ⟨B, 0, none⟩ v') := by
  have hv1 : Boxed w1 B t v := (hv.alloc tmp).kept hgrow (hv.not_row hte hrow)
  have hrn : ∀ j, v.ownBlock = some j → n₀ ≤ j := by
    intro j ej
    rcases hrow.2 with ⟨rfl, _⟩ | ⟨g, cap, cur, rfl, hb, _, _⟩
    · simp [Value.ownBlock] at ej
    · obtain rfl : g = j := by simpa [Value.ownBlock] using ej
      exact hb
  have hbel : Below n₀ W w1 := ((Below.refl n₀ W).alloc hn₀ tmp).grown hgrow (by simp; omega) hrn
  refine ⟨hv1, hv1.set v', hown'.kept (grownBy_setCell' w1 B v') (.inr (hv1.not_row hte hown').symm), ?_, ?_, ?_⟩
  · refine ((KeepsOthers.alloc W tmp).trans (KeepsOthers.of_grownBy hgrow fun j o ej hj => ?_)).trans (KeepsOthers.setCell _ _ _)
    rcases (hrow.alloc tmp).2 with ⟨rfl, _⟩ | ⟨g, cap, cur, rfl, _, hgb, _⟩
    · simp [Value.ownBlock] at ej
    · obtain rfl : g = j := by simpa [Value.ownBlock] using ej
      rw [hgb] at hj; cases hj; rfl
  · refine ⟨Nat.le_trans hbel.size (grownBy_setCell' w1 B v').size, fun k hk => ?_⟩
    rw [Below.heap_setCell _ _ _ _ (fun e => hSB (by rw [← show k = B from e]; exact hk))]
    exact hbel.block k (hSn k hk)
  · exact (hbel.mono h1).setCell (p := ⟨B, 0, none⟩) h1B v'

set_option maxRecDepth 100000 in
set_option maxHeartbeats 2000000 in
theorem reach_any (F S J L H : Int) (b : Nat) (ticks way : Nat) (each : Int) (hway : way = 0 ∧ each = F ∨ way = 1 ∧ each = S) (ht : ticks ≤ 200) (hr : isRuleB F S J L H = true) (w : World) (hw : Ways w) (hM : Memo F S J w b) :
    Calls Tryd.prog 67 #[.agg #[.int .i64 F, .int .i64 S, .int .i64 J, .int .i64 L, .int .i64 H, .map (some b)], .int .i64 ticks, .int .i64 way] w fun e w' => e = .returned (.int .i64 (capSum each J ticks)) ∧ MemoPost F S J b w w' := by
  obtain ⟨es, ⟨arr, clk, hb, hE⟩, hK⟩ := hM
  have hbl : b < w.heap.size := (Array.getElem?_eq_some_iff.1 hb).1
  have hlook := run_lookup_pair pairKey (w := (w.alloc (.cells #[.int .i64 F, .int .i64 S, .int .i64 J, .int .i64 L, .int .i64 H, .map (some b)] 80)).alloc (.cells #[.int .i64 ticks, .int .i64 way] 108))
    ((Below.heap_alloc _ _ _ (by simp; omega)).trans ((Below.heap_alloc _ _ _ hbl).trans hb)) hE ticks way
  cases hl : pmLook es ticks way with
  | some v =>
    have hv : v = capSum each J ticks := by
      rcases hway with ⟨rfl, rfl⟩ | ⟨rfl, rfl⟩
      · exact (hK ticks v).1 hl
      · exact (hK ticks v).2 hl
    rw [hl] at hlook
    simp only [Option.getD_some, Option.isSome_some] at hlook
    clear hl
    go_enter Tryd.func67, Tryd.ntmps67
    go_wp2
    go_ret
    refine ⟨by rw [← hv]; rfl, ?_, es, ⟨arr, clk, (Below.heap_alloc _ _ _ (by simp; omega)).trans ((Below.heap_alloc _ _ _ hbl).trans hb), hE⟩, hK⟩
    have hbb := ((Below.refl w.heap.size w).alloc (Nat.le_refl _) (.cells #[.int .i64 F, .int .i64 S, .int .i64 J, .int .i64 L, .int .i64 H, .map (some b)] 80)).alloc (by simp) (.cells #[.int .i64 ticks, .int .i64 way] 108)
    exact ⟨hbb.os, hbb.tape, hbb.output, hbb.size, fun k hk _ => hbb.block k hk⟩
  | none =>
    rw [hl] at hlook
    simp only [Option.getD_none, Option.isSome_none] at hlook
    refine (callsIn_wide (n := 5)).1 ?_
    refine callsIn_of_wp_marks Tryd.func67 rfl trivial ?_ rfl
    simp only [Tryd.ntmps67, List.size_toArray, List.length_cons, List.length_nil, Nat.reduceAdd, Nat.reduceSub, Array.replicate_succ, Array.replicate_zero, List.push_toArray, List.append_toArray, List.nil_append, List.cons_append]
    refine wpIn_wide.2 ?_
    go_wp2_with (go_at_call 65; refine (most_any _ _ _ _ rfl).mono ?_; rintro e w' ⟨rfl, rfl⟩)
    change Code.wp Tryd.prog _ _ _ (reachW F S J L H b ticks way w)
    have hf := reachW_is F S J L H b ticks way w
    have hw0 := hw.below hf.bel
    generalize reachW F S J L H b ticks way w = W0 at hf hw0 ⊢
    obtain ⟨i0, hi, hz0, hz1, hz2⟩ := info_parts Tryd.info3
    have hsz := hf.size
    refine (wpIn_wide (n := 5)).1 ?_
    refine wpIn_rangeFunc_ownG rfl (by decide) (gf := 81) (lb := #[.pointer (some ⟨w.heap.size + 3 + 1, 0, none⟩), .pointer (some ⟨w.heap.size + 3 + 2, 0, none⟩), .pointer (some ⟨w.heap.size + 3, 0, none⟩)]) rfl trivial (enters_of Tryd.func81 (by kernel_rfl) rfl)
      (most_stops _ (w.heap.size + 3) (fun k => k < w.heap.size ∨ (w.heap.size + 3 ≤ k ∧ k < w.heap.size + 6)) F S J L H (some b) ticks way each hway ht hr W0 hw0 ⟨.inl (by omega), .inr (by omega), .inr (by omega), .inr (by omega)⟩ (fun k hk => by omega) hf.rule hf.tk hf.wy)
      Kept.trans (keptK_b (fun k hk => by omega)) (Below.refl _ _) (fun _ => rfl)
      (fun pre W => (∃ v, Boxed W (w.heap.size + 1 + 1) 26 v ∧ W.ownsRow (w.heap.size + 6) 3 1 v pre.length (pre.map (Value.int .i64)) ∧ True) ∧ Below (w.heap.size + 1 + 1) W0 W)
      (fun _ _ _ => False) ?hI (fun _ _ _ _ _ hs _ _ => hs) ?h0 (fun x => { tmps := #[.agg #[.int .i64 F, .int .i64 S, .int .i64 J, .int .i64 L, .int .i64 H, .map (some b)], .int .i64 ticks, .int .i64 way, .pointer (some ⟨w.heap.size, 0, none⟩), undef, undef, .int .i64 0, .pointer (some ⟨w.heap.size + 1, 0, none⟩), .int .i64 0, .bool false, .pointer (some ⟨w.heap.size + 1 + 1, 0, none⟩), .int .i64 x, .int .i64 ticks, .int .i64 way, .agg #[.int .i64 ticks, .int .i64 way], .tuple #[.int .i64 0, .bool false], .pointer (some ⟨w.heap.size, 5, none⟩), .map (some b), .agg #[.int .i64 ticks, .int .i64 way], .tuple #[.int .i64 0, .bool false], .int .i64 0, .bool false, .bool false, undef, .agg #[.int .i64 F, .int .i64 S, .int .i64 J, .int .i64 L, .int .i64 H, .map (some b)], .int .i64 ticks, .int .i64 way, .func (.func 81) #[] #[.pointer (some ⟨w.heap.size + 1 + 1 + 1 + 1, 0, none⟩), .pointer (some ⟨w.heap.size + 1 + 1 + 1 + 2, 0, none⟩), .pointer (some ⟨w.heap.size + 1 + 1 + 1, 0, none⟩)], .int .i64 x, undef, undef, undef, undef, undef, undef, undef, undef, undef, undef, undef, undef, undef], defers := [] }) ?assign ?body ?done ?stop
    case hI => exact OwnFrom.and (Own.from (holdsRow_own (w.heap.size + 6) (w.heap.size + 1 + 1) 26 3 1 (fun pre : List Int => pre.length) (fun pre => pre.map (Value.int .i64)) (fun _ _ => True)) _) (ownFrom_below (by omega) (by omega))
    case h0 => exact ⟨⟨_, hf.box, World.ownsRow_nil _ _ _ _, trivial⟩, Below.refl _ _⟩
    case assign =>
      intro l x W K hK
      gi_wp2
      exact hK
    case body =>
      rintro l pre x W ⟨⟨v, hv, hrow, _⟩, hB⟩ hlt
      have hc := hv.cell
      have hBW := hB.size
      gi_wp2_with (gi_at_builtin; refine wpListIn_append_own _ rfl _ _ 26 rfl (w.heap.size + 6) 3 i0 (.int .i64 0) 1 8 Tryd.underlying26 hi hz0 hz1 hz2 rfl (by decide) _ _ _ rfl (hrow.alloc _) ⟨W.heap.size, 0, none⟩ 1 1 [.int .i64 x] rfl rfl (cell_one_new _ _ _) (by simp [Value.oneCell']) (by unfold maxLen; omega) (by omega) (by simp; omega) ?_; intro v' w1 hown' hgrow _; obtain ⟨g', cap', rfl⟩ := ownsRow_succ hown'; obtain ⟨hv1, hv2, hr2, hk2, hs2, hb2⟩ := appended_kept (St := fun k => k < w.heap.size ∨ w.heap.size + 3 ≤ k ∧ k < w.heap.size + 6) (n₁ := w.heap.size + 1 + 1) hv (by decide) hrow (by omega) (by omega) (fun k hk => by omega) (by omega) (by omega) hown' hgrow; have hc1 := hv1.cell; have hf1 := hv1.frozen)
      exact ⟨hk2.from _, hs2, ⟨_, hv2, by simpa using hr2, trivial⟩, hB.trans hb2⟩
    case stop =>
      rintro D c pre W _ _ h _
      exact h.elim
    case done =>
      rintro D ys W hD rfl ⟨⟨v, hv, hrow, _⟩, hB⟩ hK1
      obtain ⟨a, cap, rfl, hN⟩ := nums_of_row hrow (by simp [caps]; omega)
      obtain ⟨n, hn⟩ : ∃ n, n = (caps each J ticks).length := ⟨_, rfl⟩
      rw [← hn] at hN hv
      have hc26 := hv.cell
      have cM : W.heap[b]? = some (.map arr clk) := (hB.block b (by omega)).trans ((hf.bel.block b hbl).trans hb)
      have cO : W.cell? ⟨w.heap.size, 5, none⟩ = some (.map (some b)) := (hB.cell (p := ⟨w.heap.size, 5, none⟩) (by show w.heap.size < _; omega)).trans hf.own
      have cK0 : W.cell? ⟨w.heap.size + 1, 0, none⟩ = some (.int .i64 ticks) := (hB.cell (p := ⟨w.heap.size + 1, 0, none⟩) (by show w.heap.size + 1 < _; omega)).trans hf.key.1
      have cK1 : W.cell? ⟨w.heap.size + 1, 1, none⟩ = some (.int .i64 way) := (hB.cell (p := ⟨w.heap.size + 1, 1, none⟩) (by show w.heap.size + 1 < _; omega)).trans hf.key.2
      obtain ⟨arr', clk', hE', hupd⟩ := run_mapUpdate_pair pairKey clk hE ticks way (capSum each J ticks)
      have hTC : total (caps each J ticks) = capSum each J ticks := by
        obtain ⟨hF, hS, hJ, _⟩ := isRuleB_spec hr
        rcases hway with ⟨rfl, rfl⟩ | ⟨rfl, rfl⟩
        · exact total_caps hF.1 hF.2 hJ.1 ht
        · exact total_caps hS.1 hS.2 hJ.1 ht
      have hsum := fun W1 (h : Nums W1 a n (caps each J ticks)) => sum_any a n cap (caps each J ticks) W1 h
      rw [hTC] at hsum
      have HTC := Lib.hid hTC; clear hTC
      have Hn := Lib.hid hn; clear hn
      have hsum1 := hsum W.drew hN
      have hupd1 := hupd W.drew b cM
      have hP : ∀ p : Addr, p.block ≠ b → (W.drew.putObj b (.map arr' clk')).cell? p = W.cell? p := fun p hp => World.cell?_of_block (World.putObj_heap_other hp)
      have cO2 := (hP ⟨w.heap.size, 5, none⟩ (by show w.heap.size ≠ b; omega)).trans cO
      have cK02 := (hP ⟨w.heap.size + 1, 0, none⟩ (by show w.heap.size + 1 ≠ b; omega)).trans cK0
      have cK12 := (hP ⟨w.heap.size + 1, 1, none⟩ (by show w.heap.size + 1 ≠ b; omega)).trans cK1
      have c262 := (hP ⟨w.heap.size + 1 + 1, 0, none⟩ (by show w.heap.size + 1 + 1 ≠ b; omega)).trans hc26
      clear hP hsum hupd
      go_wp2_with fail
      go_region_held3 (fun W1 : World => W1.cell? ⟨w.heap.size, 5, none⟩ = some (.map (some b)) ∧ W1.cell? ⟨w.heap.size + 1, 0, none⟩ = some (.int .i64 ticks) ∧ W1.cell? ⟨w.heap.size + 1, 1, none⟩ = some (.int .i64 way) ∧ W1.cell? ⟨w.heap.size + 1 + 1, 0, none⟩ = some (.slice a n cap)) (first | exact ⟨cO, cK0, cK1, hc26⟩ | exact ⟨cO2, cK02, cK12, c262⟩) (first | (go_at_call 58; refine hsum1.mono ?_; rintro e w' ⟨rfl, rfl⟩))
      have hbW : b < W.heap.size := (Array.getElem?_eq_some_iff.1 cM).1
      have cM5 : (W.drew.putObj b (.map arr' clk')).heap[b]? = some (.map arr' clk') := World.putObj_heap_same hbW
      have hlook5 := run_lookup_pair1 pairKey (w := W.drew.putObj b (.map arr' clk')) cM5 hE' ticks way
      rw [pmLook_put, if_pos ⟨rfl, rfl⟩] at hlook5
      simp only [Option.getD_some] at hlook5
      have hDb : D ≠ b := by omega
      have hK5 : (W.drew.putObj b (.map arr' clk')).heap[D]? = some (.deferred (some [])) := (World.putObj_heap_other hDb).trans hK1
      have hG : ∀ k, k < w.heap.size → k ≠ b → (W.drew.putObj b (.map arr' clk')).heap[k]? = w.heap[k]? := fun k hk hkb => (World.putObj_heap_other hkb).trans ((hB.block k (by omega)).trans (hf.bel.block k hk))
      have hzz : W.heap.size = (W.drew.putObj b (.map arr' clk')).heap.size := by show W.heap.size = (W.heap.setIfInBounds b _).size; simp
      have hos : (W.drew.putObj b (.map arr' clk')).os = w.os ∧ (W.drew.putObj b (.map arr' clk')).tape = w.tape ∧ (W.drew.putObj b (.map arr' clk')).output = w.output := ⟨hB.os.trans hf.bel.os, hB.tape.trans hf.bel.tape, hB.output.trans hf.bel.output⟩
      have HzW := Lib.hid (Nat.le_trans hf.bel.size (Nat.le_trans hB.size (Nat.le_of_eq hzz)))
      have Hos := Lib.hid hos
      have HG := Lib.hid hG
      have HM5 := Lib.hid cM5
      have HK5 := Lib.hid hK5
      clear hzz hos hG cM5 hK5 hupd1 hsum1 hK1 hB hrow hv hf hw0
      generalize W.drew.putObj b (.map arr' clk') = W5 at *
      go_wp2
      refine ⟨by simp, .inl ⟨_, _, rfl, run_takeDeferred HK5.out, ?_⟩⟩
      refine ⟨_, results_tmp rfl _ _ _, rfl, ⟨⟨?_, ?_, ?_, ?_, ?_⟩, ?_⟩⟩
      · exact Hos.out.1
      · exact Hos.out.2.1
      · exact Hos.out.2.2
      · exact Nat.le_trans HzW.out (grownBy_putObj' W5 D (.deferred none)).size
      · intro k hk hkb
        have hkb' : k ≠ b := fun e => hkb (by rw [e])
        exact (World.putObj_heap_other (by omega)).trans (HG.out k hk hkb')
      · exact ⟨_, ⟨arr', clk', (World.putObj_heap_other (Ne.symm hDb)).trans HM5.out, hE'⟩, known_put hK ticks way each hway⟩

end Go.Proofs.YtidnopmjhhmedaaDoor
end

section
/- enough, fewest. -/
set_option linter.unusedSimpArgs false
set_option linter.unusedVariables false
namespace Go.Proofs.YtidnopmjhhmedaaDoor
open Go.RowKit

theorem cell_grown {W W1 : World} {b : Nat} {p : Addr} {v : Value} (h : W.grownBy W1 (some b)) (hne : p.block ≠ b) (hc : W.cell? p = some v) : W1.cell? p = some v :=
  (World.cell?_of_block (w := W) (h.block p.block (World.block_lt_of_cell? W p hc) (fun e => hne (Option.some.inj e)))).trans hc
theorem grown_trans {A B C : World} {b : Nat} (h : A.grownBy B (some b)) (k : B.grownBy C (some b)) : A.grownBy C (some b) :=
  ⟨k.os.trans h.os, k.tape.trans h.tape, k.output.trans h.output, Nat.le_trans h.size k.size, fun i hi hn => (k.block i (Nat.lt_of_lt_of_le hi h.size) hn).trans (h.block i hi hn)⟩
theorem grown_below {A B : World} {b : Nat} (h : Below A.heap.size A B) : A.grownBy B (some b) := ⟨h.os, h.tape, h.output, h.size, fun k hk _ => h.block k hk⟩
theorem below_of_grown {A B : World} {b n : Nat} (h : A.grownBy B (some b)) (hn : n ≤ b) (hA : n ≤ A.heap.size) : Below n A B := ⟨h.os, h.tape, h.output, h.size, fun k hk => h.block k (by omega) (fun e => by have := Option.some.inj e; omega)⟩
theorem Ways.grown {A B : World} {b : Nat} (h : Ways A) (hg : A.grownBy B (some b)) (hb : b ≠ 0) : Ways B := ⟨cell_grown hg (Ne.symm hb) h.1, cell_grown hg (Ne.symm hb) h.2⟩
theorem Memo.below {F S J : Int} {w w' : World} {b : Nat} (h : Memo F S J w b) (hb : Below w.heap.size w w') : Memo F S J w' b := by
  obtain ⟨es, h1, h2⟩ := h; exact ⟨es, h1.below hb, h2⟩
theorem Memo.lt {F S J : Int} {w : World} {b : Nat} (h : Memo F S J w b) : b < w.heap.size := by obtain ⟨es, h1, h2⟩ := h; exact h1.lt

/-- What holds of the world between two calls of reach. -/
structure MW (F S J : Int) (b : Nat) (w W : World) : Prop where
  memo : Memo F S J W b
  ways : Ways W
  gr : w.grownBy W (some b)
theorem MW.next {F S J : Int} {b : Nat} {w W W1 : World} (h : MW F S J b w W) (hb : b ≠ 0) (hp : MemoPost F S J b W W1) : MW F S J b w W1 := ⟨hp.2, h.ways.grown hp.1 hb, grown_trans h.gr hp.1⟩
theorem MW.below {F S J : Int} {b : Nat} {w W W1 : World} (h : MW F S J b w W) (hb : Below W.heap.size W W1) : MW F S J b w W1 := ⟨h.memo.below hb, h.ways.below hb, grown_trans h.gr (grown_below hb)⟩
theorem MW.refl {F S J : Int} {b : Nat} {w : World} (h : Memo F S J w b) (hw : Ways w) : MW F S J b w w := ⟨h, hw, grown_below (Below.refl _ _)⟩

/-- The cells of a rule in a block of its own. -/
abbrev RuleAt (W : World) (B : Nat) (F S J L H : Int) (b : Nat) : Prop := W.cell? ⟨B, 0, none⟩ = some (.int .i64 F) ∧ W.cell? ⟨B, 1, none⟩ = some (.int .i64 S) ∧ W.cell? ⟨B, 2, none⟩ = some (.int .i64 J) ∧ W.cell? ⟨B, 3, none⟩ = some (.int .i64 L) ∧ W.cell? ⟨B, 4, none⟩ = some (.int .i64 H) ∧ W.cell? ⟨B, 5, none⟩ = some (.map (some b))
theorem RuleAt.grown {W W1 : World} {B b : Nat} {F S J L H : Int} (h : RuleAt W B F S J L H b) (hg : W.grownBy W1 (some b)) (hne : B ≠ b) : RuleAt W1 B F S J L H b :=
  ⟨cell_grown hg hne h.1, cell_grown hg hne h.2.1, cell_grown hg hne h.2.2.1, cell_grown hg hne h.2.2.2.1, cell_grown hg hne h.2.2.2.2.1, cell_grown hg hne h.2.2.2.2.2⟩

theorem RuleAt.next {W W1 : World} {B b : Nat} {F S J L H : Int} (h : RuleAt W B F S J L H b) (hp : MemoPost F S J b W W1) (hne : B ≠ b) : RuleAt W1 B F S J L H b := h.grown hp.1 hne
theorem RuleAt.setCell {W : World} {B b : Nat} {F S J L H : Int} {p : Addr} {v : Value} (h : RuleAt W B F S J L H b) (hne : B ≠ p.block) : RuleAt (W.setCell p v) B F S J L H b := by
  have hh : ∀ o, (W.setCell p v).cell? ⟨B, o, none⟩ = W.cell? ⟨B, o, none⟩ := fun o => World.cell?_of_block (w := W) (Below.heap_setCell _ _ _ _ hne)
  exact ⟨(hh 0).trans h.1, (hh 1).trans h.2.1, (hh 2).trans h.2.2.1, (hh 3).trans h.2.2.2.1, (hh 4).trans h.2.2.2.2.1, (hh 5).trans h.2.2.2.2.2⟩
theorem MW.setCell {F S J : Int} {b : Nat} {w W : World} {p : Addr} {v : Value} (h : MW F S J b w W) (hp : w.heap.size ≤ p.block) (hpb : p.block ≠ b) (h0 : p.block ≠ 0) : MW F S J b w (W.setCell p v) := by
  obtain ⟨es, ⟨arr, clk, h1, h2⟩, h3⟩ := h.memo
  have hb := (Below.refl p.block W).setCell (p := p) (Nat.le_refl _) v
  exact ⟨⟨es, ⟨arr, clk, (Below.heap_setCell _ _ _ _ (Ne.symm hpb)).trans h1, h2⟩, h3⟩,
    ⟨(World.cell?_of_block (w := W) (a := ⟨0, 0, none⟩) (Below.heap_setCell _ _ _ _ (Ne.symm h0))).trans h.ways.1, (World.cell?_of_block (w := W) (a := ⟨0, 1, none⟩) (Below.heap_setCell _ _ _ _ (Ne.symm h0))).trans h.ways.2⟩,
    ⟨hb.os.trans h.gr.os, hb.tape.trans h.gr.tape, hb.output.trans h.gr.output, Nat.le_trans h.gr.size hb.size, fun k hk hn => (Below.heap_setCell _ _ _ _ (by omega)).trans (h.gr.block k hk hn)⟩⟩

theorem sumL_bd (xs : List Int) (h1 : ∀ x ∈ xs, 0 ≤ x ∧ x ≤ 500) : 0 ≤ sumL xs ∧ sumL xs ≤ 500 * xs.length := by
  induction xs with
  | nil => simp [sumL]
  | cons x xs ih =>
    have h2 := ih (fun y hy => h1 y (by simp [hy]))
    have hx := h1 x (by simp)
    simp only [sumL, List.foldr_cons, List.length_cons] at h2 ⊢
    omega
theorem capSum_bd {each J : Int} {t : Nat} (h0 : 0 ≤ each) (h1 : each ≤ 500) (hJ : 1 ≤ J) (ht : t ≤ 200) : 0 ≤ capSum each J t ∧ capSum each J t ≤ 100000 := by
  have h := sumL_bd (caps each J t) (caps_bd h0 h1 hJ)
  simp [caps] at h
  unfold capSum caps
  omega

theorem reach_slow (F S J L H : Int) (b : Nat) (ticks : Nat) (ht : ticks ≤ 200) (hr : isRuleB F S J L H = true) (w : World) (hw : Ways w) (hM : Memo F S J w b) :
    Calls Tryd.prog 67 #[.agg #[.int .i64 F, .int .i64 S, .int .i64 J, .int .i64 L, .int .i64 H, .map (some b)], .int .i64 ticks, .int .i64 1] w fun e w' => e = .returned (.int .i64 (capSum S J ticks)) ∧ MemoPost F S J b w w' :=
  reach_any F S J L H b ticks 1 S (.inr ⟨rfl, rfl⟩) ht hr w hw hM
theorem reach_fast (F S J L H : Int) (b : Nat) (ticks : Nat) (ht : ticks ≤ 200) (hr : isRuleB F S J L H = true) (w : World) (hw : Ways w) (hM : Memo F S J w b) :
    Calls Tryd.prog 67 #[.agg #[.int .i64 F, .int .i64 S, .int .i64 J, .int .i64 L, .int .i64 H, .map (some b)], .int .i64 ticks, .int .i64 0] w fun e w' => e = .returned (.int .i64 (capSum F J ticks)) ∧ MemoPost F S J b w w' :=
  reach_any F S J L H b ticks 0 F (.inl ⟨rfl, rfl⟩) ht hr w hw hM

def enoughB (F S J off : Int) (t : Nat) : Bool := lies (-off) (-(capSum S J t)) (capSum F J t)

set_option maxRecDepth 100000 in
set_option maxHeartbeats 1000000 in
theorem enough_any (F S J L H : Int) (b : Nat) (off : Int) (ticks : Nat) (ht : ticks ≤ 200) (ho : -20000 ≤ off ∧ off ≤ 20000) (hr : isRuleB F S J L H = true) (w : World) (hw : Ways w) (hM : Memo F S J w b) (hb0 : b ≠ 0) :
    Calls Tryd.prog 79 #[.agg #[.int .i64 F, .int .i64 S, .int .i64 J, .int .i64 L, .int .i64 H, .map (some b)], .int .i64 off, .int .i64 ticks] w fun e w' => e = .returned (.bool (enoughB F S J off ticks)) ∧ MemoPost F S J b w w' := by
  obtain ⟨hF, hS, hJ, _⟩ := isRuleB_spec hr
  have hbS := capSum_bd (each := S) (t := ticks) hS.1 hS.2 hJ.1 ht
  have hw1 : IntKind.i64.wrap (-off) = -off := IntWalk.i64_in _ (by constructor <;> omega)
  have hw2 : IntKind.i64.wrap (-(capSum S J ticks)) = -(capSum S J ticks) := IntWalk.i64_in _ (by constructor <;> omega)
  have hbl := hM.lt
  have hb1 : Below w.heap.size w (w.alloc (.cells #[.int .i64 F, .int .i64 S, .int .i64 J, .int .i64 L, .int .i64 H, .map (some b)] 80)).drew := ((Below.refl _ _).alloc (Nat.le_refl _) _).drew
  have hMW := (MW.refl hM hw).below hb1
  have hRA : RuleAt (w.alloc (.cells #[.int .i64 F, .int .i64 S, .int .i64 J, .int .i64 L, .int .i64 H, .map (some b)] 80)).drew w.heap.size F S J L H b := by simp [RuleAt, go_sem]
  go_enter Tryd.func79, Tryd.ntmps79
  go_wp2_with fail
  go_region_held3 (fun W1 : World => (W1.cell? ⟨w.heap.size, 0, none⟩ = some (.int .i64 F) ∧ W1.cell? ⟨w.heap.size, 1, none⟩ = some (.int .i64 S) ∧ W1.cell? ⟨w.heap.size, 2, none⟩ = some (.int .i64 J) ∧ W1.cell? ⟨w.heap.size, 3, none⟩ = some (.int .i64 L) ∧ W1.cell? ⟨w.heap.size, 4, none⟩ = some (.int .i64 H) ∧ W1.cell? ⟨w.heap.size, 5, none⟩ = some (.map (some b))) ∧ MW F S J b w W1)
    (first | exact hy | exact ⟨RuleAt.grown hx.1 hp.1 (by omega), MW.next hx.2 hb0 hp⟩ | exact ⟨hRA, hMW⟩)
    (first | (go_at_call_of 67 (Value.int IntKind.i64 1); rename_i hx _ _; refine (reach_slow F S J L H b ticks ht hr _ hx.2.ways hx.2.memo).mono ?_; rintro e w1 ⟨rfl, hp⟩) | (go_at_call 67; rename_i hx _ _; refine (reach_fast F S J L H b ticks ht hr _ hx.2.ways hx.2.memo).mono ?_; rintro e w1 ⟨rfl, hp⟩) | (go_at_call 57; rename_i hy _ _; refine (lies_any _ _ _ _).mono ?_; rintro e w' ⟨rfl, rfl⟩))
  rename_i hh
  go_wp2
  go_ret
  exact ⟨rfl, hh.2.gr, hh.2.memo⟩

/-- How few ticks are enough, from t on: d more are tried. -/
def fewFrom (F S J off : Int) : Nat → Nat → Int
  | 0, _ => -1
  | d + 1, t => if enoughB F S J off t = true then t else fewFrom F S J off d (t + 1)

/-- What the closure that calls itself captures. -/
def TryAt (W : World) (A B C : Nat) (F S J L H : Int) (b : Nat) (off : Int) : Prop :=
  W.cell? ⟨A, 0, none⟩ = some (.func (.func 79) #[.agg #[.int .i64 F, .int .i64 S, .int .i64 J, .int .i64 L, .int .i64 H, .map (some b)]] #[]) ∧ W.cell? ⟨B, 0, none⟩ = some (.int .i64 off) ∧
  W.cell? ⟨C, 0, none⟩ = some (.func (.func 80) #[] #[.pointer (some ⟨A, 0, none⟩), .pointer (some ⟨B, 0, none⟩), .pointer (some ⟨C, 0, none⟩)])
theorem TryAt.grown {W W1 : World} {A B C : Nat} {F S J L H : Int} {b : Nat} {off : Int} (h : TryAt W A B C F S J L H b off) (hg : W.grownBy W1 (some b)) (h1 : A ≠ b) (h2 : B ≠ b) (h3 : C ≠ b) : TryAt W1 A B C F S J L H b off :=
  ⟨cell_grown hg h1 h.1, cell_grown hg h2 h.2.1, cell_grown hg h3 h.2.2⟩

set_option maxRecDepth 100000 in
set_option maxHeartbeats 1000000 in
theorem try_any (F S J L H : Int) (b : Nat) (off : Int) (A B C : Nat) (ho : -20000 ≤ off ∧ off ≤ 20000) (hr : isRuleB F S J L H = true) (hb0 : b ≠ 0) (hA : A ≠ b) (hB : B ≠ b) (hC : C ≠ b) (d : Nat) :
    ∀ (t : Nat) (w : World), t + d = 201 → Ways w → Memo F S J w b → TryAt w A B C F S J L H b off →
    Calls Tryd.prog 80 #[.int .i64 t, .pointer (some ⟨A, 0, none⟩), .pointer (some ⟨B, 0, none⟩), .pointer (some ⟨C, 0, none⟩)] w fun e w' => e = .returned (.int .i64 (fewFrom F S J off d t)) ∧ MemoPost F S J b w w' := by
  induction d with
  | zero =>
    intro t w ht hw hM hT
    obtain rfl : t = 201 := by omega
    go_enter Tryd.func80, Tryd.ntmps80
    go_wp2_with fail
    go_ret
    exact ⟨rfl, grown_below (Below.refl _ _), hM⟩
  | succ d ih =>
    intro t w ht hw hM hT
    obtain ⟨hc1, hc2, hc3⟩ := hT
    have htt : (t : Int) ≤ 200 := by omega
    cases he : enoughB F S J off t with
    | true =>
      have HE := Lib.hid he
      have hen := enough_any F S J L H b off t (by omega) ho hr w hw hM hb0
      rw [he] at hen
      clear he ih
      go_enter Tryd.func80, Tryd.ntmps80
      go_wp2_with (go_at_call 79; refine hen.mono ?_; rintro e w' ⟨rfl, hp⟩)
      go_ret
      exact ⟨by simp [fewFrom, HE.out], by assumption⟩
    | false =>
      have HE := Lib.hid he
      have hen := enough_any F S J L H b off t (by omega) ho hr w hw hM hb0
      rw [he] at hen
      clear he
      have ih' := fun w => ih (t + 1) w (by omega)
      have e1 : ((t + 1 : Nat) : Int) = (t : Int) + 1 := by omega
      rw [e1] at ih'
      have IH := Lib.hid ih'
      clear ih ih' e1
      go_enter Tryd.func80, Tryd.ntmps80
      go_wp2_with (go_at_call 79; refine hen.mono ?_; rintro e w1 ⟨rfl, hp⟩; have hc3' := cell_grown hp.1 (p := ⟨C, 0, none⟩) hC hc3)
      refine (IH.out w1 (hw.grown hp.1 hb0) hp.2 ⟨cell_grown hp.1 (p := ⟨A, 0, none⟩) hA hc1, cell_grown hp.1 (p := ⟨B, 0, none⟩) hB hc2, hc3'⟩).mono ?_
      rintro e w2 ⟨rfl, hp2⟩
      go_wp2_with fail
      go_ret
      exact ⟨by simp [fewFrom, HE.out], grown_trans hp.1 hp2.1, hp2.2⟩

/-- How few ticks are enough for an offset; -1: none are. -/
def fewest (F S J off : Int) : Int := fewFrom F S J off 201 0

set_option maxRecDepth 100000 in
set_option maxHeartbeats 1000000 in
theorem fewest_any (F S J L H : Int) (b : Nat) (off : Int) (ho : -20000 ≤ off ∧ off ≤ 20000) (hr : isRuleB F S J L H = true) (w : World) (hw : Ways w) (hM : Memo F S J w b) (hb0 : b ≠ 0) :
    Calls Tryd.prog 62 #[.agg #[.int .i64 F, .int .i64 S, .int .i64 J, .int .i64 L, .int .i64 H, .map (some b)], .int .i64 off] w fun e w' => e = .returned (.int .i64 (fewest F S J off)) ∧ MemoPost F S J b w w' := by
  have hbl := hM.lt
  go_enter Tryd.func62, Tryd.ntmps62
  go_wp2_with fail
  have c := fun h1 h2 h3 W => try_any F S J L H b off (w.heap.size + 1 + 1) (w.heap.size + 1) (w.heap.size + 1 + 1 + 1) ho hr hb0 h1 h2 h3 201 0 W rfl
  rw [show ((0 : Nat) : Int) = 0 from rfl] at c
  refine (c (by omega) (by omega) (by omega) _ ?_ ?_ ?_).mono ?_
  · refine hw.below ?_
    repeat with_reducible (first | exact Below.refl _ _ | refine Below.alloc ?_ (by simp <;> omega) _)
  · refine hM.below ?_
    repeat with_reducible (first | exact Below.refl _ _ | refine Below.alloc ?_ (by simp <;> omega) _)
  · simp [TryAt, go_sem]
  · rintro e w2 ⟨rfl, hp2⟩
    go_wp2_with fail
    go_ret
    refine ⟨rfl, grown_trans (grown_below ?_) hp2.1, hp2.2⟩
    repeat with_reducible (first | exact Below.refl _ _ | refine Below.alloc ?_ (by simp <;> omega) _)

end Go.Proofs.YtidnopmjhhmedaaDoor
end

section
/- Reach, Fewest, IsPlan, Shown: what they refuse. -/
set_option linter.unusedSimpArgs false
set_option linter.unusedVariables false
namespace Go.Proofs.YtidnopmjhhmedaaDoor
open Go.RowKit

theorem below_call {w W w1 : World} (h : Below w.heap.size w W) (hb : Below W.heap.size W w1) : Below w.heap.size w w1 := h.trans (hb.mono h.size)

set_option maxRecDepth 100000 in
set_option maxHeartbeats 1000000 in
theorem Reach_bad (F S J L H t : Int) (hr : isRuleB F S J L H = false) (w : World) :
    Calls Tryd.prog 22 #[.agg #[.int .i64 F, .int .i64 S, .int .i64 J, .int .i64 L, .int .i64 H], .int .i64 t] w fun e w' => e = .returned (.tuple #[.agg #[.int .i64 0, .int .i64 0], .int .i64 40]) ∧ Below w.heap.size w w' := by
  go_enter Tryd.func22, Tryd.ntmps22
  go_wp2_with fail
  go_region_held3 (fun W1 : World => W1.cell? ⟨w.heap.size, 0, none⟩ = some (.int .i64 F) ∧ W1.cell? ⟨w.heap.size, 1, none⟩ = some (.int .i64 S) ∧ W1.cell? ⟨w.heap.size, 2, none⟩ = some (.int .i64 J) ∧ W1.cell? ⟨w.heap.size, 3, none⟩ = some (.int .i64 L) ∧ W1.cell? ⟨w.heap.size, 4, none⟩ = some (.int .i64 H)) (simp [go_sem, *])
    (first | (go_at_call 57; refine (lies_any _ _ _ _).mono ?_; rintro e w' ⟨rfl, rfl⟩) | (go_at_call 54; refine (opened_bad F S J L H _ _ hr).mono ?_; rintro e w1 ⟨rfl, hb⟩; obtain ⟨hc, hf⟩ := bcell hb; have hz := hb.size; simp at hz; have hz1 : w.heap.size < w1.heap.size := (by omega); try (have hz2 : w.heap.size + 1 < w1.heap.size := (by omega)); try (have hz3 : w.heap.size + 1 + 1 < w1.heap.size := (by omega))))
  all_goals
    go_wp2
    have hB1 : Below w.heap.size w w1 := by
      refine below_call ?_ hb
      repeat with_reducible (first | assumption | exact Below.refl _ _ | refine Below.setCell ?_ (by first | omega | (simp <;> omega)) _ | refine Below.alloc ?_ (by first | omega | (simp <;> omega)) _ | refine Below.drew ?_)
    refine bodyPost_ret (v := .tuple #[.agg #[.int .i64 0, .int .i64 0], .int .i64 40]) (by simp [results, Tryd.results22, go_sem, hc, hz1, hz2]) rfl ⟨rfl, ?_⟩
    clear hb hc hf
    repeat with_reducible (first | assumption | exact Below.refl _ _ | refine Below.setCell ?_ (by first | omega | (simp <;> omega)) _ | refine Below.alloc ?_ (by first | omega | (simp <;> omega)) _ | refine Below.drew ?_)

set_option maxRecDepth 100000 in
set_option maxHeartbeats 1000000 in
theorem Reach_ask (F S J L H t : Int) (hr : isRuleB F S J L H = true) (ha : lies t 0 200 = false) (w : World) :
    Calls Tryd.prog 22 #[.agg #[.int .i64 F, .int .i64 S, .int .i64 J, .int .i64 L, .int .i64 H], .int .i64 t] w fun e w' => e = .returned (.tuple #[.agg #[.int .i64 0, .int .i64 0], .int .i64 41]) ∧ Below w.heap.size w w' := by
  go_enter Tryd.func22, Tryd.ntmps22
  go_wp2_with fail
  go_region_held3 (fun W1 : World => W1.cell? ⟨w.heap.size, 0, none⟩ = some (.int .i64 F) ∧ W1.cell? ⟨w.heap.size, 1, none⟩ = some (.int .i64 S) ∧ W1.cell? ⟨w.heap.size, 2, none⟩ = some (.int .i64 J) ∧ W1.cell? ⟨w.heap.size, 3, none⟩ = some (.int .i64 L) ∧ W1.cell? ⟨w.heap.size, 4, none⟩ = some (.int .i64 H)) (simp [go_sem, *])
    (first | (go_at_call 57; refine (lies_any _ _ _ _).mono ?_; rintro e w' ⟨rfl, rfl⟩) | (go_at_call 54; refine (opened_ask F S J L H _ hr).mono ?_; rintro e w1 ⟨rfl, hb⟩; obtain ⟨hc, hf⟩ := bcell hb; have hz := hb.size; simp at hz; have hz1 : w.heap.size < w1.heap.size := (by omega); try (have hz2 : w.heap.size + 1 < w1.heap.size := (by omega)); try (have hz3 : w.heap.size + 1 + 1 < w1.heap.size := (by omega))))
  all_goals
    go_wp2
    have hB1 : Below w.heap.size w w1 := by
      refine below_call ?_ hb
      repeat with_reducible (first | assumption | exact Below.refl _ _ | refine Below.setCell ?_ (by first | omega | (simp <;> omega)) _ | refine Below.alloc ?_ (by first | omega | (simp <;> omega)) _ | refine Below.drew ?_)
    refine bodyPost_ret (v := .tuple #[.agg #[.int .i64 0, .int .i64 0], .int .i64 41]) (by simp [results, Tryd.results22, go_sem, hc, hz1, hz2]) rfl ⟨rfl, ?_⟩
    clear hb hc hf
    repeat with_reducible (first | assumption | exact Below.refl _ _ | refine Below.setCell ?_ (by first | omega | (simp <;> omega)) _ | refine Below.alloc ?_ (by first | omega | (simp <;> omega)) _ | refine Below.drew ?_)

set_option maxRecDepth 100000 in
set_option maxHeartbeats 1000000 in
theorem Fewest_bad (F S J L H off : Int) (hr : isRuleB F S J L H = false) (w : World) :
    Calls Tryd.prog 18 #[.agg #[.int .i64 F, .int .i64 S, .int .i64 J, .int .i64 L, .int .i64 H], .int .i64 off] w fun e w' => e = .returned (.tuple #[.int .i64 0, .int .i64 40]) ∧ Below w.heap.size w w' := by
  go_enter Tryd.func18, Tryd.ntmps18
  go_wp2_with fail
  go_region_held3 (fun W1 : World => W1.cell? ⟨w.heap.size, 0, none⟩ = some (.int .i64 F) ∧ W1.cell? ⟨w.heap.size, 1, none⟩ = some (.int .i64 S) ∧ W1.cell? ⟨w.heap.size, 2, none⟩ = some (.int .i64 J) ∧ W1.cell? ⟨w.heap.size, 3, none⟩ = some (.int .i64 L) ∧ W1.cell? ⟨w.heap.size, 4, none⟩ = some (.int .i64 H)) (simp [go_sem, *])
    (first | (go_at_call 55; refine (isOff_any _ _).mono ?_; rintro e w' ⟨rfl, rfl⟩) | (go_at_call 54; refine (opened_bad F S J L H _ _ hr).mono ?_; rintro e w1 ⟨rfl, hb⟩; obtain ⟨hc, hf⟩ := bcell hb; have hz := hb.size; simp at hz; have hz1 : w.heap.size < w1.heap.size := (by omega); try (have hz2 : w.heap.size + 1 < w1.heap.size := (by omega))))
  all_goals
    go_wp2
    have hB1 : Below w.heap.size w w1 := by
      refine below_call ?_ hb
      repeat with_reducible (first | assumption | exact Below.refl _ _ | refine Below.setCell ?_ (by first | omega | (simp <;> omega)) _ | refine Below.alloc ?_ (by first | omega | (simp <;> omega)) _ | refine Below.drew ?_)
    go_ret2
    refine ⟨rfl, ?_⟩
    clear hb hc hf
    repeat with_reducible (first | assumption | exact Below.refl _ _ | refine Below.setCell ?_ (by first | omega | (simp <;> omega)) _ | refine Below.alloc ?_ (by first | omega | (simp <;> omega)) _ | refine Below.drew ?_)

set_option maxRecDepth 100000 in
set_option maxHeartbeats 1000000 in
theorem Fewest_ask (F S J L H off : Int) (hr : isRuleB F S J L H = true) (ha : lies off (-20000) 20000 = false) (w : World) :
    Calls Tryd.prog 18 #[.agg #[.int .i64 F, .int .i64 S, .int .i64 J, .int .i64 L, .int .i64 H], .int .i64 off] w fun e w' => e = .returned (.tuple #[.int .i64 0, .int .i64 41]) ∧ Below w.heap.size w w' := by
  go_enter Tryd.func18, Tryd.ntmps18
  go_wp2_with fail
  go_region_held3 (fun W1 : World => W1.cell? ⟨w.heap.size, 0, none⟩ = some (.int .i64 F) ∧ W1.cell? ⟨w.heap.size, 1, none⟩ = some (.int .i64 S) ∧ W1.cell? ⟨w.heap.size, 2, none⟩ = some (.int .i64 J) ∧ W1.cell? ⟨w.heap.size, 3, none⟩ = some (.int .i64 L) ∧ W1.cell? ⟨w.heap.size, 4, none⟩ = some (.int .i64 H)) (simp [go_sem, *])
    (first | (go_at_call 55; refine (isOff_any _ _).mono ?_; rintro e w' ⟨rfl, rfl⟩) | (go_at_call 54; refine (opened_ask F S J L H _ hr).mono ?_; rintro e w1 ⟨rfl, hb⟩; obtain ⟨hc, hf⟩ := bcell hb; have hz := hb.size; simp at hz; have hz1 : w.heap.size < w1.heap.size := (by omega); try (have hz2 : w.heap.size + 1 < w1.heap.size := (by omega))))
  all_goals
    go_wp2
    have hB1 : Below w.heap.size w w1 := by
      refine below_call ?_ hb
      repeat with_reducible (first | assumption | exact Below.refl _ _ | refine Below.setCell ?_ (by first | omega | (simp <;> omega)) _ | refine Below.alloc ?_ (by first | omega | (simp <;> omega)) _ | refine Below.drew ?_)
    go_ret2
    refine ⟨rfl, ?_⟩
    clear hb hc hf
    repeat with_reducible (first | assumption | exact Below.refl _ _ | refine Below.setCell ?_ (by first | omega | (simp <;> omega)) _ | refine Below.alloc ?_ (by first | omega | (simp <;> omega)) _ | refine Below.drew ?_)

set_option maxRecDepth 100000 in
set_option maxHeartbeats 1000000 in
theorem IsPlan_bad (F S J L H off : Int) (a : Option Addr) (n cap : Nat) (hr : isRuleB F S J L H = false) (w : World) :
    Calls Tryd.prog 16 #[.agg #[.int .i64 F, .int .i64 S, .int .i64 J, .int .i64 L, .int .i64 H], .int .i64 off, .slice a n cap] w fun e w' => e = .returned (.tuple #[.bool false, .int .i64 40]) ∧ Below w.heap.size w w' := by
  go_enter Tryd.func16, Tryd.ntmps16
  go_wp2_with fail
  go_region_held3 (fun W1 : World => W1.cell? ⟨w.heap.size, 0, none⟩ = some (.int .i64 F) ∧ W1.cell? ⟨w.heap.size, 1, none⟩ = some (.int .i64 S) ∧ W1.cell? ⟨w.heap.size, 2, none⟩ = some (.int .i64 J) ∧ W1.cell? ⟨w.heap.size, 3, none⟩ = some (.int .i64 L) ∧ W1.cell? ⟨w.heap.size, 4, none⟩ = some (.int .i64 H)) (simp [go_sem, *])
    (first | (go_at_call 55; refine (isOff_any _ _).mono ?_; rintro e w' ⟨rfl, rfl⟩) | (go_at_call 54; refine (opened_bad F S J L H _ _ hr).mono ?_; rintro e w1 ⟨rfl, hb⟩; obtain ⟨hc, hf⟩ := bcell hb; have hz := hb.size; simp at hz; have hz1 : w.heap.size < w1.heap.size := (by omega); try (have hz2 : w.heap.size + 1 < w1.heap.size := (by omega))))
  all_goals
    go_wp2
    have hB1 : Below w.heap.size w w1 := by
      refine below_call ?_ hb
      repeat with_reducible (first | assumption | exact Below.refl _ _ | refine Below.setCell ?_ (by first | omega | (simp <;> omega)) _ | refine Below.alloc ?_ (by first | omega | (simp <;> omega)) _ | refine Below.drew ?_)
    go_ret2
    refine ⟨rfl, ?_⟩
    clear hb hc hf
    repeat with_reducible (first | assumption | exact Below.refl _ _ | refine Below.setCell ?_ (by first | omega | (simp <;> omega)) _ | refine Below.alloc ?_ (by first | omega | (simp <;> omega)) _ | refine Below.drew ?_)

set_option maxRecDepth 100000 in
set_option maxHeartbeats 1000000 in
theorem IsPlan_ask (F S J L H off : Int) (a : Option Addr) (n cap : Nat) (hr : isRuleB F S J L H = true) (ha : lies off (-20000) 20000 = false) (w : World) :
    Calls Tryd.prog 16 #[.agg #[.int .i64 F, .int .i64 S, .int .i64 J, .int .i64 L, .int .i64 H], .int .i64 off, .slice a n cap] w fun e w' => e = .returned (.tuple #[.bool false, .int .i64 41]) ∧ Below w.heap.size w w' := by
  go_enter Tryd.func16, Tryd.ntmps16
  go_wp2_with fail
  go_region_held3 (fun W1 : World => W1.cell? ⟨w.heap.size, 0, none⟩ = some (.int .i64 F) ∧ W1.cell? ⟨w.heap.size, 1, none⟩ = some (.int .i64 S) ∧ W1.cell? ⟨w.heap.size, 2, none⟩ = some (.int .i64 J) ∧ W1.cell? ⟨w.heap.size, 3, none⟩ = some (.int .i64 L) ∧ W1.cell? ⟨w.heap.size, 4, none⟩ = some (.int .i64 H)) (simp [go_sem, *])
    (first | (go_at_call 55; refine (isOff_any _ _).mono ?_; rintro e w' ⟨rfl, rfl⟩) | (go_at_call 54; refine (opened_ask F S J L H _ hr).mono ?_; rintro e w1 ⟨rfl, hb⟩; obtain ⟨hc, hf⟩ := bcell hb; have hz := hb.size; simp at hz; have hz1 : w.heap.size < w1.heap.size := (by omega); try (have hz2 : w.heap.size + 1 < w1.heap.size := (by omega))))
  all_goals
    go_wp2
    have hB1 : Below w.heap.size w w1 := by
      refine below_call ?_ hb
      repeat with_reducible (first | assumption | exact Below.refl _ _ | refine Below.setCell ?_ (by first | omega | (simp <;> omega)) _ | refine Below.alloc ?_ (by first | omega | (simp <;> omega)) _ | refine Below.drew ?_)
    go_ret2
    refine ⟨rfl, ?_⟩
    clear hb hc hf
    repeat with_reducible (first | assumption | exact Below.refl _ _ | refine Below.setCell ?_ (by first | omega | (simp <;> omega)) _ | refine Below.alloc ?_ (by first | omega | (simp <;> omega)) _ | refine Below.drew ?_)

end Go.Proofs.YtidnopmjhhmedaaDoor
end

section
/- Reach, Fewest: what they return of what they take. -/
set_option linter.unusedSimpArgs false
set_option linter.unusedVariables false
namespace Go.Proofs.YtidnopmjhhmedaaDoor
open Go.RowKit

theorem heap_drew (w : World) (k : Nat) : w.drew.heap[k]? = w.heap[k]? := rfl
theorem mw_new {F S J : Int} {b : Nat} {w W : World} (hw : Ways w) (hB : Below w.heap.size w W) (hb : W.heap[b]? = some (.map #[] 0)) : MW F S J b w W :=
  ⟨⟨[], PMap.new hb, by intro t v; simp [pmLook]⟩, hw.below hB, grown_below hB⟩
theorem below_grown {w W w2 : World} {b : Nat} (hB : Below w.heap.size w W) (h : W.grownBy w2 (some b)) (hb : w.heap.size ≤ b) : Below w.heap.size w w2 := hB.trans (below_of_grown h hb hB.size)

theorem fewest_at (F S J L H : Int) (b : Nat) (off : Int) (ho : -20000 ≤ off ∧ off ≤ 20000) (hr : isRuleB F S J L H = true) {w W : World} (hw : Ways w) (hnb : w.heap.size ≤ b) (hB : Below w.heap.size w W) (hb : W.heap[b]? = some (.map #[] 0)) :
    Calls Tryd.prog 62 #[.agg #[.int .i64 F, .int .i64 S, .int .i64 J, .int .i64 L, .int .i64 H, .map (some b)], .int .i64 off] W fun e w' => e = .returned (.int .i64 (fewest F S J off)) ∧ Below w.heap.size w w' :=
  (fewest_any F S J L H b off ho hr W (mw_new (F := F) (S := S) (J := J) hw hB hb).ways (mw_new hw hB hb).memo (by have := World.block_lt_of_cell? w _ hw.1; omega)).mono fun e w' h => ⟨h.1, below_grown hB h.2.1 hnb⟩

set_option maxRecDepth 100000 in
set_option maxHeartbeats 1000000 in
theorem Fewest_ok (F S J L H off : Int) (hr : isRuleB F S J L H = true) (ha : lies off (-20000) 20000 = true) (w : World) (hw : Ways w) :
    Calls Tryd.prog 18 #[.agg #[.int .i64 F, .int .i64 S, .int .i64 J, .int .i64 L, .int .i64 H], .int .i64 off] w fun e w' => e = .returned (.tuple #[.int .i64 (if fewest F S J off < 0 then 0 else fewest F S J off), .int .i64 (if fewest F S J off < 0 then 4 else 0)]) ∧ Below w.heap.size w w' := by
  have ho := lies_iff.1 ha
  by_cases hn : fewest F S J off < 0
  all_goals
    simp only [hn, if_true, if_false]
    go_enter Tryd.func18, Tryd.ntmps18
    go_wp2_with fail
    go_region_held3 (fun W1 : World => W1.cell? ⟨w.heap.size, 0, none⟩ = some (.int .i64 F) ∧ W1.cell? ⟨w.heap.size, 1, none⟩ = some (.int .i64 S) ∧ W1.cell? ⟨w.heap.size, 2, none⟩ = some (.int .i64 J) ∧ W1.cell? ⟨w.heap.size, 3, none⟩ = some (.int .i64 L) ∧ W1.cell? ⟨w.heap.size, 4, none⟩ = some (.int .i64 H)) (simp [go_sem, *])
      (first | (go_at_call 55; refine (isOff_any _ _).mono ?_; rintro e w' ⟨rfl, rfl⟩) | (go_at_call 54; refine (opened_ok F S J L H _ hr).mono ?_; rintro e w1 ⟨b, rfl, hb, hnb, hnew⟩; obtain ⟨hc, hf⟩ := bcell hb; have hz := hb.size; simp at hz; simp at hnb; have hz1 : w.heap.size < w1.heap.size := (by omega); try (have hz2 : w.heap.size + 1 < w1.heap.size := (by omega)); try (have hz3 : w.heap.size + 1 + 1 < w1.heap.size := (by omega))))
    all_goals
      have hB1 : Below w.heap.size w w1 := by
        refine below_call ?_ hb
        repeat with_reducible (first | assumption | exact Below.refl _ _ | refine Below.setCell ?_ (by first | omega | (simp <;> omega)) _ | refine Below.alloc ?_ (by first | omega | (simp <;> omega)) _ | refine Below.drew ?_)
      have HNB := Lib.hid hnb; have HBL := Lib.hid (Array.getElem?_eq_some_iff.1 hnew).1; have HB := Lib.hid hB1; have HN := Lib.hid hnew; clear hnb hB1 hnew hb
      go_wp2_with fail
      refine (fewest_at F S J L H b off ho hr hw (by have := HNB.out; omega) ?_ ?_).mono ?_
      · have hnb := HNB.out; have hbl := HBL.out
        repeat with_reducible (first | assumption | exact HB.out | exact Below.refl _ _ | refine Below.setCell ?_ (by first | omega | (simp <;> omega)) _ | refine Below.alloc ?_ (by first | omega | (simp <;> omega)) _ | refine Below.drew ?_)
      · have hnb := HNB.out; have hbl := HBL.out
        repeat with_reducible (first | assumption | exact HN.out | rw [heap_drew] | rw [Below.heap_setCell _ _ _ _ (by first | omega | (simp <;> omega))] | rw [Below.heap_alloc _ _ _ (by first | omega | (simp <;> omega))])
      rintro e w2 ⟨rfl, hB2⟩
      go_wp2_with fail
      go_ret2
      exact ⟨rfl, hB2⟩


theorem frozen_grown {W W1 : World} {b : Nat} {p : Addr} {v : Value} {x : Bool} (h : W.grownBy W1 (some b)) (hne : p.block ≠ b) (hc : W.cell? p = some v) (hf : W.frozen? p = x) : W1.frozen? p = x :=
  (World.frozen?_of_block (w := W) (h.block p.block (World.block_lt_of_cell? W p hc) (fun e => hne (Option.some.inj e)))).trans hf

set_option maxRecDepth 100000 in
set_option maxHeartbeats 1000000 in
theorem Reach_ok (F S J L H : Int) (t : Nat) (hr : isRuleB F S J L H = true) (ht : t ≤ 200) (w : World) (hw : Ways w) :
    Calls Tryd.prog 22 #[.agg #[.int .i64 F, .int .i64 S, .int .i64 J, .int .i64 L, .int .i64 H], .int .i64 t] w fun e w' => e = .returned (.tuple #[.agg #[.int .i64 (-(capSum S J t)), .int .i64 (capSum F J t)], .int .i64 0]) ∧ Below w.heap.size w w' := by
  have ha : lies (t : Int) 0 200 = true := lies_iff.2 ⟨by omega, by omega⟩
  have hw0 : 0 < w.heap.size := World.block_lt_of_cell? w _ hw.1
  obtain ⟨hF, hS, hJ, _⟩ := isRuleB_spec hr
  have hbS := capSum_bd (each := S) (t := t) hS.1 hS.2 hJ.1 ht
  have hw2 : IntKind.i64.wrap (-(capSum S J t)) = -(capSum S J t) := IntWalk.i64_in _ (by constructor <;> omega)
  go_enter Tryd.func22, Tryd.ntmps22
  go_wp2_with fail
  go_region_held3 (fun W1 : World => W1.cell? ⟨w.heap.size, 0, none⟩ = some (.int .i64 F) ∧ W1.cell? ⟨w.heap.size, 1, none⟩ = some (.int .i64 S) ∧ W1.cell? ⟨w.heap.size, 2, none⟩ = some (.int .i64 J) ∧ W1.cell? ⟨w.heap.size, 3, none⟩ = some (.int .i64 L) ∧ W1.cell? ⟨w.heap.size, 4, none⟩ = some (.int .i64 H)) (simp [go_sem, *])
    (first | (go_at_call 57; refine (lies_any _ _ _ _).mono ?_; rintro e w' ⟨rfl, rfl⟩) | (go_at_call 54; refine (opened_ok F S J L H _ hr).mono ?_; rintro e w1 ⟨b, rfl, hb, hnb, hnew⟩; obtain ⟨hc, hf⟩ := bcell hb; have hz := hb.size; simp at hz; simp at hnb; have hz1 : w.heap.size < w1.heap.size := (by omega); try (have hz2 : w.heap.size + 1 < w1.heap.size := (by omega)); try (have hz3 : w.heap.size + 1 + 1 < w1.heap.size := (by omega))))
  all_goals
    have hB1 : Below w.heap.size w w1 := by
      refine below_call ?_ hb
      repeat with_reducible (first | assumption | exact Below.refl _ _ | refine Below.setCell ?_ (by first | omega | (simp <;> omega)) _ | refine Below.alloc ?_ (by first | omega | (simp <;> omega)) _ | refine Below.drew ?_)
    have hb0 : b ≠ 0 := by omega
    have HNB := Lib.hid hnb; have HBL := Lib.hid (Array.getElem?_eq_some_iff.1 hnew).1; have HB := Lib.hid hB1; have HN := Lib.hid hnew; clear hnb hB1 hnew hb
  ·
    have hMW0 : MW F S J b w (w1.alloc (.cells #[.int .i64 F, .int .i64 S, .int .i64 J, .int .i64 L, .int .i64 H, .map (some b)] 80)).drew := by
      have hnb := HNB.out; have hbl := HBL.out
      refine mw_new hw ?_ ?_
      · repeat with_reducible (first | assumption | exact HB.out | exact Below.refl _ _ | refine Below.setCell ?_ (by first | omega | (simp <;> omega)) _ | refine Below.alloc ?_ (by first | omega | (simp <;> omega)) _ | refine Below.drew ?_)
      · repeat with_reducible (first | assumption | exact HN.out | rw [heap_drew] | rw [Below.heap_setCell _ _ _ _ (by first | omega | (simp <;> omega))] | rw [Below.heap_alloc _ _ _ (by first | omega | (simp <;> omega))])
    have hs0 : (w1.alloc (.cells #[.int .i64 F, .int .i64 S, .int .i64 J, .int .i64 L, .int .i64 H, .map (some b)] 80)).drew.cell? ⟨w.heap.size + 1, 0, none⟩ = some (.int .i64 0) := by simp [go_sem, *]
    have hs1 : (w1.alloc (.cells #[.int .i64 F, .int .i64 S, .int .i64 J, .int .i64 L, .int .i64 H, .map (some b)] 80)).drew.cell? ⟨w.heap.size + 1, 1, none⟩ = some (.int .i64 0) := by simp [go_sem, *]
    have hs2 : (w1.alloc (.cells #[.int .i64 F, .int .i64 S, .int .i64 J, .int .i64 L, .int .i64 H, .map (some b)] 80)).drew.frozen? ⟨w.heap.size + 1, 0, none⟩ = false := by simp [go_sem, *]
    have hs3 : (w1.alloc (.cells #[.int .i64 F, .int .i64 S, .int .i64 J, .int .i64 L, .int .i64 H, .map (some b)] 80)).drew.frozen? ⟨w.heap.size + 1, 1, none⟩ = false := by simp [go_sem, *]
    have hNb : w.heap.size + 1 ≠ b := by have := HNB.out; omega
    have hN0 : w.heap.size + 1 ≠ 0 := by omega
    have hNN : w.heap.size ≤ w.heap.size + 1 := by omega
    have hPb : w1.heap.size ≠ b := by have := HNB.out; have := HBL.out; omega
    have hPN : w1.heap.size ≠ w.heap.size + 1 := by omega
    go_wp2_with fail
    go_region_held3 (fun W1 : World => (W1.cell? ⟨w1.heap.size, 0, none⟩ = some (.int .i64 F) ∧ W1.cell? ⟨w1.heap.size, 1, none⟩ = some (.int .i64 S) ∧ W1.cell? ⟨w1.heap.size, 2, none⟩ = some (.int .i64 J) ∧ W1.cell? ⟨w1.heap.size, 3, none⟩ = some (.int .i64 L) ∧ W1.cell? ⟨w1.heap.size, 4, none⟩ = some (.int .i64 H) ∧ W1.cell? ⟨w1.heap.size, 5, none⟩ = some (.map (some b))) ∧ MW F S J b w W1)
      (first | with_reducible exact ⟨((RuleAt.next hx.1 hp hPb).setCell hPN).setCell hPN, ((MW.next hx.2 hb0 hp).setCell hNN hNb hN0).setCell hNN hNb hN0⟩ | with_reducible exact ⟨RuleAt.next hx.1 hp hPb, MW.next hx.2 hb0 hp⟩ | ((repeat' apply And.intro) <;> (first | with_reducible exact hMW0 | (simp [go_sem, *]; done))))
      (first | (go_at_call_of 67 (Value.int IntKind.i64 1); rename_i hx _ _; refine (reach_slow F S J L H b t ht hr _ hx.2.ways hx.2.memo).mono ?_; rintro e w2 ⟨rfl, hp⟩; have hs2 := frozen_grown hp.1 (p := ⟨w.heap.size + 1, 0, none⟩) hNb hs0 hs2; have hs3 := frozen_grown hp.1 (p := ⟨w.heap.size + 1, 1, none⟩) hNb hs1 hs3; have hs0 := cell_grown hp.1 (p := ⟨w.heap.size + 1, 0, none⟩) hNb hs0; have hs1 := cell_grown hp.1 (p := ⟨w.heap.size + 1, 1, none⟩) hNb hs1) | (go_at_call 67; rename_i hx _ _; refine (reach_fast F S J L H b t ht hr _ hx.2.ways hx.2.memo).mono ?_; rintro e w2 ⟨rfl, hp⟩; have hs2 := frozen_grown hp.1 (p := ⟨w.heap.size + 1, 0, none⟩) hNb hs0 hs2; have hs3 := frozen_grown hp.1 (p := ⟨w.heap.size + 1, 1, none⟩) hNb hs1 hs3; have hs0 := cell_grown hp.1 (p := ⟨w.heap.size + 1, 0, none⟩) hNb hs0; have hs1 := cell_grown hp.1 (p := ⟨w.heap.size + 1, 1, none⟩) hNb hs1))
    rename_i hh
    go_wp2
    refine bodyPost_ret (v := .tuple #[.agg #[.int .i64 (-(capSum S J t)), .int .i64 (capSum F J t)], .int .i64 0]) (by simp [results, Tryd.results22, go_sem, *]) rfl ⟨rfl, below_of_grown hh.2.gr (by have := HNB.out; omega) (Nat.le_refl _)⟩
  ·
    have hMW0 : MW F S J b w ((((((w1.setCell ⟨w.heap.size + 1 + 1, 0, none⟩ (.int .i64 F)).setCell ⟨w.heap.size + 1 + 1, 1, none⟩ (.int .i64 S)).setCell ⟨w.heap.size + 1 + 1, 2, none⟩ (.int .i64 J)).setCell ⟨w.heap.size + 1 + 1, 3, none⟩ (.int .i64 L)).setCell ⟨w.heap.size + 1 + 1, 4, none⟩ (.int .i64 H)).setCell ⟨w.heap.size + 1 + 1, 5, none⟩ (.map (some b))).drew := by
      have hnb := HNB.out; have hbl := HBL.out
      refine mw_new hw ?_ ?_
      · repeat with_reducible (first | assumption | exact HB.out | exact Below.refl _ _ | refine Below.setCell ?_ (by first | omega | (simp <;> omega)) _ | refine Below.alloc ?_ (by first | omega | (simp <;> omega)) _ | refine Below.drew ?_)
      · repeat with_reducible (first | assumption | exact HN.out | rw [heap_drew] | rw [Below.heap_setCell _ _ _ _ (by first | omega | (simp <;> omega))] | rw [Below.heap_alloc _ _ _ (by first | omega | (simp <;> omega))])
    have hs0 : ((((((w1.setCell ⟨w.heap.size + 1 + 1, 0, none⟩ (.int .i64 F)).setCell ⟨w.heap.size + 1 + 1, 1, none⟩ (.int .i64 S)).setCell ⟨w.heap.size + 1 + 1, 2, none⟩ (.int .i64 J)).setCell ⟨w.heap.size + 1 + 1, 3, none⟩ (.int .i64 L)).setCell ⟨w.heap.size + 1 + 1, 4, none⟩ (.int .i64 H)).setCell ⟨w.heap.size + 1 + 1, 5, none⟩ (.map (some b))).drew.cell? ⟨w.heap.size + 1, 0, none⟩ = some (.int .i64 0) := by simp [go_sem, *]
    have hs1 : ((((((w1.setCell ⟨w.heap.size + 1 + 1, 0, none⟩ (.int .i64 F)).setCell ⟨w.heap.size + 1 + 1, 1, none⟩ (.int .i64 S)).setCell ⟨w.heap.size + 1 + 1, 2, none⟩ (.int .i64 J)).setCell ⟨w.heap.size + 1 + 1, 3, none⟩ (.int .i64 L)).setCell ⟨w.heap.size + 1 + 1, 4, none⟩ (.int .i64 H)).setCell ⟨w.heap.size + 1 + 1, 5, none⟩ (.map (some b))).drew.cell? ⟨w.heap.size + 1, 1, none⟩ = some (.int .i64 0) := by simp [go_sem, *]
    have hs2 : ((((((w1.setCell ⟨w.heap.size + 1 + 1, 0, none⟩ (.int .i64 F)).setCell ⟨w.heap.size + 1 + 1, 1, none⟩ (.int .i64 S)).setCell ⟨w.heap.size + 1 + 1, 2, none⟩ (.int .i64 J)).setCell ⟨w.heap.size + 1 + 1, 3, none⟩ (.int .i64 L)).setCell ⟨w.heap.size + 1 + 1, 4, none⟩ (.int .i64 H)).setCell ⟨w.heap.size + 1 + 1, 5, none⟩ (.map (some b))).drew.frozen? ⟨w.heap.size + 1, 0, none⟩ = false := by simp [go_sem, *]
    have hs3 : ((((((w1.setCell ⟨w.heap.size + 1 + 1, 0, none⟩ (.int .i64 F)).setCell ⟨w.heap.size + 1 + 1, 1, none⟩ (.int .i64 S)).setCell ⟨w.heap.size + 1 + 1, 2, none⟩ (.int .i64 J)).setCell ⟨w.heap.size + 1 + 1, 3, none⟩ (.int .i64 L)).setCell ⟨w.heap.size + 1 + 1, 4, none⟩ (.int .i64 H)).setCell ⟨w.heap.size + 1 + 1, 5, none⟩ (.map (some b))).drew.frozen? ⟨w.heap.size + 1, 1, none⟩ = false := by simp [go_sem, *]
    have hNb : w.heap.size + 1 ≠ b := by have := HNB.out; omega
    have hN0 : w.heap.size + 1 ≠ 0 := by omega
    have hNN : w.heap.size ≤ w.heap.size + 1 := by omega
    have hPb : w.heap.size + 1 + 1 ≠ b := by have := HNB.out; have := HBL.out; omega
    have hPN : w.heap.size + 1 + 1 ≠ w.heap.size + 1 := by omega
    go_wp2_with fail
    go_region_held3 (fun W1 : World => (W1.cell? ⟨w.heap.size + 1 + 1, 0, none⟩ = some (.int .i64 F) ∧ W1.cell? ⟨w.heap.size + 1 + 1, 1, none⟩ = some (.int .i64 S) ∧ W1.cell? ⟨w.heap.size + 1 + 1, 2, none⟩ = some (.int .i64 J) ∧ W1.cell? ⟨w.heap.size + 1 + 1, 3, none⟩ = some (.int .i64 L) ∧ W1.cell? ⟨w.heap.size + 1 + 1, 4, none⟩ = some (.int .i64 H) ∧ W1.cell? ⟨w.heap.size + 1 + 1, 5, none⟩ = some (.map (some b))) ∧ MW F S J b w W1)
      (first | with_reducible exact ⟨((RuleAt.next hx.1 hp hPb).setCell hPN).setCell hPN, ((MW.next hx.2 hb0 hp).setCell hNN hNb hN0).setCell hNN hNb hN0⟩ | with_reducible exact ⟨RuleAt.next hx.1 hp hPb, MW.next hx.2 hb0 hp⟩ | ((repeat' apply And.intro) <;> (first | with_reducible exact hMW0 | (simp [go_sem, *]; done))))
      (first | (go_at_call_of 67 (Value.int IntKind.i64 1); rename_i hx _ _; refine (reach_slow F S J L H b t ht hr _ hx.2.ways hx.2.memo).mono ?_; rintro e w2 ⟨rfl, hp⟩; have hs2 := frozen_grown hp.1 (p := ⟨w.heap.size + 1, 0, none⟩) hNb hs0 hs2; have hs3 := frozen_grown hp.1 (p := ⟨w.heap.size + 1, 1, none⟩) hNb hs1 hs3; have hs0 := cell_grown hp.1 (p := ⟨w.heap.size + 1, 0, none⟩) hNb hs0; have hs1 := cell_grown hp.1 (p := ⟨w.heap.size + 1, 1, none⟩) hNb hs1) | (go_at_call 67; rename_i hx _ _; refine (reach_fast F S J L H b t ht hr _ hx.2.ways hx.2.memo).mono ?_; rintro e w2 ⟨rfl, hp⟩; have hs2 := frozen_grown hp.1 (p := ⟨w.heap.size + 1, 0, none⟩) hNb hs0 hs2; have hs3 := frozen_grown hp.1 (p := ⟨w.heap.size + 1, 1, none⟩) hNb hs1 hs3; have hs0 := cell_grown hp.1 (p := ⟨w.heap.size + 1, 0, none⟩) hNb hs0; have hs1 := cell_grown hp.1 (p := ⟨w.heap.size + 1, 1, none⟩) hNb hs1))
    rename_i hh
    go_wp2
    refine bodyPost_ret (v := .tuple #[.agg #[.int .i64 (-(capSum S J t)), .int .i64 (capSum F J t)], .int .i64 0]) (by simp [results, Tryd.results22, go_sem, *]) rfl ⟨rfl, below_of_grown hh.2.gr (by have := HNB.out; omega) (Nat.le_refl _)⟩
  ·
    have hMW0 : MW F S J b w ((((((w1.setCell ⟨w.heap.size + 1 + 1, 0, none⟩ (.int .i64 F)).setCell ⟨w.heap.size + 1 + 1, 1, none⟩ (.int .i64 S)).setCell ⟨w.heap.size + 1 + 1, 2, none⟩ (.int .i64 J)).setCell ⟨w.heap.size + 1 + 1, 3, none⟩ (.int .i64 L)).setCell ⟨w.heap.size + 1 + 1, 4, none⟩ (.int .i64 H)).setCell ⟨w.heap.size + 1 + 1, 5, none⟩ (.map (some b))).drew := by
      have hnb := HNB.out; have hbl := HBL.out
      refine mw_new hw ?_ ?_
      · repeat with_reducible (first | assumption | exact HB.out | exact Below.refl _ _ | refine Below.setCell ?_ (by first | omega | (simp <;> omega)) _ | refine Below.alloc ?_ (by first | omega | (simp <;> omega)) _ | refine Below.drew ?_)
      · repeat with_reducible (first | assumption | exact HN.out | rw [heap_drew] | rw [Below.heap_setCell _ _ _ _ (by first | omega | (simp <;> omega))] | rw [Below.heap_alloc _ _ _ (by first | omega | (simp <;> omega))])
    have hs0 : ((((((w1.setCell ⟨w.heap.size + 1 + 1, 0, none⟩ (.int .i64 F)).setCell ⟨w.heap.size + 1 + 1, 1, none⟩ (.int .i64 S)).setCell ⟨w.heap.size + 1 + 1, 2, none⟩ (.int .i64 J)).setCell ⟨w.heap.size + 1 + 1, 3, none⟩ (.int .i64 L)).setCell ⟨w.heap.size + 1 + 1, 4, none⟩ (.int .i64 H)).setCell ⟨w.heap.size + 1 + 1, 5, none⟩ (.map (some b))).drew.cell? ⟨w.heap.size + 1, 0, none⟩ = some (.int .i64 0) := by simp [go_sem, *]
    have hs1 : ((((((w1.setCell ⟨w.heap.size + 1 + 1, 0, none⟩ (.int .i64 F)).setCell ⟨w.heap.size + 1 + 1, 1, none⟩ (.int .i64 S)).setCell ⟨w.heap.size + 1 + 1, 2, none⟩ (.int .i64 J)).setCell ⟨w.heap.size + 1 + 1, 3, none⟩ (.int .i64 L)).setCell ⟨w.heap.size + 1 + 1, 4, none⟩ (.int .i64 H)).setCell ⟨w.heap.size + 1 + 1, 5, none⟩ (.map (some b))).drew.cell? ⟨w.heap.size + 1, 1, none⟩ = some (.int .i64 0) := by simp [go_sem, *]
    have hs2 : ((((((w1.setCell ⟨w.heap.size + 1 + 1, 0, none⟩ (.int .i64 F)).setCell ⟨w.heap.size + 1 + 1, 1, none⟩ (.int .i64 S)).setCell ⟨w.heap.size + 1 + 1, 2, none⟩ (.int .i64 J)).setCell ⟨w.heap.size + 1 + 1, 3, none⟩ (.int .i64 L)).setCell ⟨w.heap.size + 1 + 1, 4, none⟩ (.int .i64 H)).setCell ⟨w.heap.size + 1 + 1, 5, none⟩ (.map (some b))).drew.frozen? ⟨w.heap.size + 1, 0, none⟩ = false := by simp [go_sem, *]
    have hs3 : ((((((w1.setCell ⟨w.heap.size + 1 + 1, 0, none⟩ (.int .i64 F)).setCell ⟨w.heap.size + 1 + 1, 1, none⟩ (.int .i64 S)).setCell ⟨w.heap.size + 1 + 1, 2, none⟩ (.int .i64 J)).setCell ⟨w.heap.size + 1 + 1, 3, none⟩ (.int .i64 L)).setCell ⟨w.heap.size + 1 + 1, 4, none⟩ (.int .i64 H)).setCell ⟨w.heap.size + 1 + 1, 5, none⟩ (.map (some b))).drew.frozen? ⟨w.heap.size + 1, 1, none⟩ = false := by simp [go_sem, *]
    have hNb : w.heap.size + 1 ≠ b := by have := HNB.out; omega
    have hN0 : w.heap.size + 1 ≠ 0 := by omega
    have hNN : w.heap.size ≤ w.heap.size + 1 := by omega
    have hPb : w.heap.size + 1 + 1 ≠ b := by have := HNB.out; have := HBL.out; omega
    have hPN : w.heap.size + 1 + 1 ≠ w.heap.size + 1 := by omega
    go_wp2_with fail
    go_region_held3 (fun W1 : World => (W1.cell? ⟨w.heap.size + 1 + 1, 0, none⟩ = some (.int .i64 F) ∧ W1.cell? ⟨w.heap.size + 1 + 1, 1, none⟩ = some (.int .i64 S) ∧ W1.cell? ⟨w.heap.size + 1 + 1, 2, none⟩ = some (.int .i64 J) ∧ W1.cell? ⟨w.heap.size + 1 + 1, 3, none⟩ = some (.int .i64 L) ∧ W1.cell? ⟨w.heap.size + 1 + 1, 4, none⟩ = some (.int .i64 H) ∧ W1.cell? ⟨w.heap.size + 1 + 1, 5, none⟩ = some (.map (some b))) ∧ MW F S J b w W1)
      (first | with_reducible exact ⟨((RuleAt.next hx.1 hp hPb).setCell hPN).setCell hPN, ((MW.next hx.2 hb0 hp).setCell hNN hNb hN0).setCell hNN hNb hN0⟩ | with_reducible exact ⟨RuleAt.next hx.1 hp hPb, MW.next hx.2 hb0 hp⟩ | ((repeat' apply And.intro) <;> (first | with_reducible exact hMW0 | (simp [go_sem, *]; done))))
      (first | (go_at_call_of 67 (Value.int IntKind.i64 1); rename_i hx _ _; refine (reach_slow F S J L H b t ht hr _ hx.2.ways hx.2.memo).mono ?_; rintro e w2 ⟨rfl, hp⟩; have hs2 := frozen_grown hp.1 (p := ⟨w.heap.size + 1, 0, none⟩) hNb hs0 hs2; have hs3 := frozen_grown hp.1 (p := ⟨w.heap.size + 1, 1, none⟩) hNb hs1 hs3; have hs0 := cell_grown hp.1 (p := ⟨w.heap.size + 1, 0, none⟩) hNb hs0; have hs1 := cell_grown hp.1 (p := ⟨w.heap.size + 1, 1, none⟩) hNb hs1) | (go_at_call 67; rename_i hx _ _; refine (reach_fast F S J L H b t ht hr _ hx.2.ways hx.2.memo).mono ?_; rintro e w2 ⟨rfl, hp⟩; have hs2 := frozen_grown hp.1 (p := ⟨w.heap.size + 1, 0, none⟩) hNb hs0 hs2; have hs3 := frozen_grown hp.1 (p := ⟨w.heap.size + 1, 1, none⟩) hNb hs1 hs3; have hs0 := cell_grown hp.1 (p := ⟨w.heap.size + 1, 0, none⟩) hNb hs0; have hs1 := cell_grown hp.1 (p := ⟨w.heap.size + 1, 1, none⟩) hNb hs1))
    rename_i hh
    go_wp2
    refine bodyPost_ret (v := .tuple #[.agg #[.int .i64 (-(capSum S J t)), .int .i64 (capSum F J t)], .int .i64 0]) (by simp [results, Tryd.results22, go_sem, *]) rfl ⟨rfl, below_of_grown hh.2.gr (by have := HNB.out; omega) (Nat.le_refl _)⟩

end Go.Proofs.YtidnopmjhhmedaaDoor
end

section
/- IsPlan, Shown: what they return of what they take. -/
set_option linter.unusedSimpArgs false
set_option linter.unusedVariables false
namespace Go.Proofs.YtidnopmjhhmedaaDoor
open Go.RowKit

theorem Nums.below {w w' : World} {a : Option Addr} {n : Nat} {xs : List Int} (h : Nums w a n xs) (hb : Below w.heap.size w w') : Nums w' a n xs :=
  ⟨h.1, h.2.1, fun hn => by
    obtain ⟨b, o, e, hc⟩ := h.2.2 hn
    exact ⟨b, o, e, fun j hj => cell_below hb (hc j hj)⟩⟩
theorem lies_same (n a b : Int) (w : World) : Calls Tryd.prog 57 #[.int .i64 n, .int .i64 a, .int .i64 b] w fun e w' => e = .returned (.bool (lies n a b)) ∧ w' = w :=
  (lies_any n a b w).mono fun e w' h => ⟨h.1, h.2.symm⟩

def smoothB (J : Int) (n : Nat) (xs : List Int) : Bool := decide (n = 0) || lies (xs[n - 1]?.getD 0) (-J) J
def isPlanB (F S J off : Int) (n : Nat) (xs : List Int) : Bool := decide (n ≤ 200) && keepsB F S J 0 xs && smoothB J n xs && decide (total xs = -off)

set_option maxRecDepth 100000 in
set_option maxHeartbeats 1000000 in
theorem IsPlan_long (F S J L H off : Int) (a : Option Addr) (n cap : Nat) (xs : List Int) (hr : isRuleB F S J L H = true) (ha : lies off (-20000) 20000 = true) (w : World) (hw : Ways w) (hN : Nums w a n xs) (hn : 200 < n) :
    Calls Tryd.prog 16 #[.agg #[.int .i64 F, .int .i64 S, .int .i64 J, .int .i64 L, .int .i64 H], .int .i64 off, .slice a n cap] w fun e w' => e = .returned (.tuple #[.bool false, .int .i64 0]) ∧ Below w.heap.size w w' := by
  have hm := hN.2.1
  go_enter Tryd.func16, Tryd.ntmps16
  go_wp2_with fail
  go_region_held3 (fun W1 : World => W1.cell? ⟨w.heap.size, 0, none⟩ = some (.int .i64 F) ∧ W1.cell? ⟨w.heap.size, 1, none⟩ = some (.int .i64 S) ∧ W1.cell? ⟨w.heap.size, 2, none⟩ = some (.int .i64 J) ∧ W1.cell? ⟨w.heap.size, 3, none⟩ = some (.int .i64 L) ∧ W1.cell? ⟨w.heap.size, 4, none⟩ = some (.int .i64 H)) (simp [go_sem, *])
    (first | (go_at_call 55; refine (isOff_any _ _).mono ?_; rintro e w' ⟨rfl, rfl⟩) | (go_at_call 54; refine (opened_ok F S J L H _ hr).mono ?_; rintro e w1 ⟨b, rfl, hb, hnb, hnew⟩; obtain ⟨hc, hf⟩ := bcell hb; have hz := hb.size; simp at hz; simp at hnb; have hz1 : w.heap.size < w1.heap.size := (by omega); try (have hz2 : w.heap.size + 1 < w1.heap.size := (by omega)); try (have hz3 : w.heap.size + 1 + 1 < w1.heap.size := (by omega))))
  all_goals
    have hB1 : Below w.heap.size w w1 := by
      refine below_call ?_ hb
      repeat with_reducible (first | assumption | exact Below.refl _ _ | refine Below.setCell ?_ (by first | omega | (simp <;> omega)) _ | refine Below.alloc ?_ (by first | omega | (simp <;> omega)) _ | refine Below.drew ?_)
    have HNB := Lib.hid hnb; have HBL := Lib.hid (Array.getElem?_eq_some_iff.1 hnew).1; have HB := Lib.hid hB1; have HN := Lib.hid hnew; clear hnb hB1 hnew hb
    go_wp2_with fail
    go_ret2
    refine ⟨rfl, ?_⟩
    have hnb := HNB.out
    repeat with_reducible (first | assumption | exact HB.out | exact Below.refl _ _ | refine Below.setCell ?_ (by first | omega | (simp <;> omega)) _ | refine Below.alloc ?_ (by first | omega | (simp <;> omega)) _ | refine Below.drew ?_)

set_option maxRecDepth 100000 in
set_option maxHeartbeats 1000000 in
theorem IsPlan_not (F S J L H off : Int) (a : Option Addr) (n cap : Nat) (xs : List Int) (hr : isRuleB F S J L H = true) (ha : lies off (-20000) 20000 = true) (w : World) (hw : Ways w) (hN : Nums w a n xs) (hn : ¬ 200 < n) (hk : keepsB F S J 0 xs = false) :
    Calls Tryd.prog 16 #[.agg #[.int .i64 F, .int .i64 S, .int .i64 J, .int .i64 L, .int .i64 H], .int .i64 off, .slice a n cap] w fun e w' => e = .returned (.tuple #[.bool false, .int .i64 0]) ∧ Below w.heap.size w w' := by
  have hm := hN.2.1
  go_enter Tryd.func16, Tryd.ntmps16
  go_wp2_with fail
  go_region_held3 (fun W1 : World => W1.cell? ⟨w.heap.size, 0, none⟩ = some (.int .i64 F) ∧ W1.cell? ⟨w.heap.size, 1, none⟩ = some (.int .i64 S) ∧ W1.cell? ⟨w.heap.size, 2, none⟩ = some (.int .i64 J) ∧ W1.cell? ⟨w.heap.size, 3, none⟩ = some (.int .i64 L) ∧ W1.cell? ⟨w.heap.size, 4, none⟩ = some (.int .i64 H)) (simp [go_sem, *])
    (first | (go_at_call 55; refine (isOff_any _ _).mono ?_; rintro e w' ⟨rfl, rfl⟩) | (go_at_call 54; refine (opened_ok F S J L H _ hr).mono ?_; rintro e w1 ⟨b, rfl, hb, hnb, hnew⟩; obtain ⟨hc, hf⟩ := bcell hb; have hz := hb.size; simp at hz; simp at hnb; have hz1 : w.heap.size < w1.heap.size := (by omega); try (have hz2 : w.heap.size + 1 < w1.heap.size := (by omega)); try (have hz3 : w.heap.size + 1 + 1 < w1.heap.size := (by omega))))
  all_goals
    have hB1 : Below w.heap.size w w1 := by
      refine below_call ?_ hb
      repeat with_reducible (first | assumption | exact Below.refl _ _ | refine Below.setCell ?_ (by first | omega | (simp <;> omega)) _ | refine Below.alloc ?_ (by first | omega | (simp <;> omega)) _ | refine Below.drew ?_)
    have HNB := Lib.hid hnb; have HBL := Lib.hid (Array.getElem?_eq_some_iff.1 hnew).1; have HB := Lib.hid hB1; have HN := Lib.hid hnew; clear hnb hB1 hnew hb
    go_wp2_with fail
    refine (keeps_any F S J L H (some b) a n cap xs _ (hN.below ?_) hr).mono ?_
    · have hnb := HNB.out
      repeat with_reducible (first | assumption | exact HB.out | exact Below.refl _ _ | refine Below.setCell ?_ (by first | omega | (simp <;> omega)) _ | refine Below.alloc ?_ (by first | omega | (simp <;> omega)) _ | refine Below.drew ?_)
    rintro e w2 ⟨rfl, hb2⟩
    rw [hk]
    have hB2 : Below w.heap.size w w2 := by
      refine below_call ?_ hb2
      have hnb := HNB.out
      repeat with_reducible (first | assumption | exact HB.out | exact Below.refl _ _ | refine Below.setCell ?_ (by first | omega | (simp <;> omega)) _ | refine Below.alloc ?_ (by first | omega | (simp <;> omega)) _ | refine Below.drew ?_)
    have HB2 := Lib.hid hB2; clear hB2 hb2
    go_wp2_with fail
    go_ret2
    exact ⟨rfl, HB2.out⟩

set_option maxRecDepth 100000 in
set_option maxHeartbeats 1000000 in
theorem IsPlan_nil (F S J L H off : Int) (a : Option Addr) (cap : Nat) (xs : List Int) (hr : isRuleB F S J L H = true) (ha : lies off (-20000) 20000 = true) (w : World) (hw : Ways w) (hN : Nums w a 0 xs) (hk : keepsB F S J 0 xs = true) :
    Calls Tryd.prog 16 #[.agg #[.int .i64 F, .int .i64 S, .int .i64 J, .int .i64 L, .int .i64 H], .int .i64 off, .slice a 0 cap] w fun e w' => e = .returned (.tuple #[.bool (decide (0 = -off)), .int .i64 0]) ∧ Below w.heap.size w w' := by
  have ho := lies_iff.1 ha
  have hx : xs = [] := List.eq_nil_of_length_eq_zero hN.1
  have htot : total xs = 0 := by rw [hx]; rfl
  have hw1 : IntKind.i64.wrap (-off) = -off := IntWalk.i64_in _ (by constructor <;> omega)
  go_enter Tryd.func16, Tryd.ntmps16
  go_wp2_with fail
  go_region_held3 (fun W1 : World => W1.cell? ⟨w.heap.size, 0, none⟩ = some (.int .i64 F) ∧ W1.cell? ⟨w.heap.size, 1, none⟩ = some (.int .i64 S) ∧ W1.cell? ⟨w.heap.size, 2, none⟩ = some (.int .i64 J) ∧ W1.cell? ⟨w.heap.size, 3, none⟩ = some (.int .i64 L) ∧ W1.cell? ⟨w.heap.size, 4, none⟩ = some (.int .i64 H)) (simp [go_sem, *])
    (first | (go_at_call 55; refine (isOff_any _ _).mono ?_; rintro e w' ⟨rfl, rfl⟩) | (go_at_call 54; refine (opened_ok F S J L H _ hr).mono ?_; rintro e w1 ⟨b, rfl, hb, hnb, hnew⟩; obtain ⟨hc, hf⟩ := bcell hb; have hz := hb.size; simp at hz; simp at hnb; have hz1 : w.heap.size < w1.heap.size := (by omega); try (have hz2 : w.heap.size + 1 < w1.heap.size := (by omega)); try (have hz3 : w.heap.size + 1 + 1 < w1.heap.size := (by omega))))
  all_goals
    have hB1 : Below w.heap.size w w1 := by
      refine below_call ?_ hb
      repeat with_reducible (first | assumption | exact Below.refl _ _ | refine Below.setCell ?_ (by first | omega | (simp <;> omega)) _ | refine Below.alloc ?_ (by first | omega | (simp <;> omega)) _ | refine Below.drew ?_)
    have HNB := Lib.hid hnb; have HBL := Lib.hid (Array.getElem?_eq_some_iff.1 hnew).1; have HB := Lib.hid hB1; have HN := Lib.hid hnew; clear hnb hB1 hnew hb
    go_wp2_with fail
    refine (keeps_any F S J L H (some b) a 0 cap xs _ (hN.below ?_) hr).mono ?_
    · have hnb := HNB.out
      repeat with_reducible (first | assumption | exact HB.out | exact Below.refl _ _ | refine Below.setCell ?_ (by first | omega | (simp <;> omega)) _ | refine Below.alloc ?_ (by first | omega | (simp <;> omega)) _ | refine Below.drew ?_)
    rintro e w2 ⟨rfl, hb2⟩
    rw [hk]
    have hB2 : Below w.heap.size w w2 := by
      refine below_call ?_ hb2
      have hnb := HNB.out
      repeat with_reducible (first | assumption | exact HB.out | exact Below.refl _ _ | refine Below.setCell ?_ (by first | omega | (simp <;> omega)) _ | refine Below.alloc ?_ (by first | omega | (simp <;> omega)) _ | refine Below.drew ?_)
    have hN2 := hN.below hB2
    have HB2 := Lib.hid hB2; clear hB2 hb2
    have hsum := fun W (h : Nums W a 0 xs) => sum_any a 0 cap xs W h
    rw [htot] at hsum
    go_wp2_with fail
    go_quiet (fail)
    go_wp2_with fail
    refine (hsum _ (hN2.below (below_drewN (Below.refl _ _) _))).mono ?_
    rintro e w3 ⟨rfl, rfl⟩
    go_wp2_with fail
    go_ret2
    exact ⟨rfl, below_drewN HB2.out _⟩

set_option maxRecDepth 100000 in
set_option maxHeartbeats 1000000 in
theorem IsPlan_rough (F S J L H off : Int) (a : Option Addr) (n cap : Nat) (xs : List Int) (hr : isRuleB F S J L H = true) (ha : lies off (-20000) 20000 = true) (w : World) (hw : Ways w) (hN : Nums w a n xs) (hn : ¬ 200 < n) (h0 : 0 < n) (hk : keepsB F S J 0 xs = true) (hs : lies (xs[n - 1]?.getD 0) (-J) J = false) :
    Calls Tryd.prog 16 #[.agg #[.int .i64 F, .int .i64 S, .int .i64 J, .int .i64 L, .int .i64 H], .int .i64 off, .slice a n cap] w fun e w' => e = .returned (.tuple #[.bool false, .int .i64 0]) ∧ Below w.heap.size w w' := by
  have ho := lies_iff.1 ha
  obtain ⟨hF, hS, hJ, _⟩ := isRuleB_spec hr
  have hw1 : IntKind.i64.wrap (-off) = -off := IntWalk.i64_in _ (by constructor <;> omega)
  have hwJ : IntKind.i64.wrap (-J) = -J := IntWalk.i64_in _ (by constructor <;> omega)
  have hwn : IntKind.i64.wrap ((n : Int) - 1) = (n : Int) - 1 := IntWalk.i64_in _ (by constructor <;> omega)
  have hn1 : (0 : Int) ≤ (n : Int) - 1 := by omega
  have hn2 : (n : Int) - 1 < n := by omega
  have hn3 : ((n : Int) - 1).toNat = n - 1 := by omega
  have hne : ((n : Int) == 0) = false := by simp; omega
  go_enter Tryd.func16, Tryd.ntmps16
  go_wp2_with fail
  go_region_held3 (fun W1 : World => W1.cell? ⟨w.heap.size, 0, none⟩ = some (.int .i64 F) ∧ W1.cell? ⟨w.heap.size, 1, none⟩ = some (.int .i64 S) ∧ W1.cell? ⟨w.heap.size, 2, none⟩ = some (.int .i64 J) ∧ W1.cell? ⟨w.heap.size, 3, none⟩ = some (.int .i64 L) ∧ W1.cell? ⟨w.heap.size, 4, none⟩ = some (.int .i64 H)) (simp [go_sem, *])
    (first | (go_at_call 55; refine (isOff_any _ _).mono ?_; rintro e w' ⟨rfl, rfl⟩) | (go_at_call 54; refine (opened_ok F S J L H _ hr).mono ?_; rintro e w1 ⟨b, rfl, hb, hnb, hnew⟩; obtain ⟨hc, hf⟩ := bcell hb; have hz := hb.size; simp at hz; simp at hnb; have hz1 : w.heap.size < w1.heap.size := (by omega); try (have hz2 : w.heap.size + 1 < w1.heap.size := (by omega)); try (have hz3 : w.heap.size + 1 + 1 < w1.heap.size := (by omega))))
  all_goals
    have hB1 : Below w.heap.size w w1 := by
      refine below_call ?_ hb
      repeat with_reducible (first | assumption | exact Below.refl _ _ | refine Below.setCell ?_ (by first | omega | (simp <;> omega)) _ | refine Below.alloc ?_ (by first | omega | (simp <;> omega)) _ | refine Below.drew ?_)
    have HNB := Lib.hid hnb; have HBL := Lib.hid (Array.getElem?_eq_some_iff.1 hnew).1; have HB := Lib.hid hB1; have HN := Lib.hid hnew; clear hnb hB1 hnew hb
    go_wp2_with fail
    refine (keeps_any F S J L H (some b) a n cap xs _ (hN.below ?_) hr).mono ?_
    · have hnb := HNB.out
      repeat with_reducible (first | assumption | exact HB.out | exact Below.refl _ _ | refine Below.setCell ?_ (by first | omega | (simp <;> omega)) _ | refine Below.alloc ?_ (by first | omega | (simp <;> omega)) _ | refine Below.drew ?_)
    rintro e w2 ⟨rfl, hb2⟩
    rw [hk]
    have hB2 : Below w.heap.size w w2 := by
      refine below_call ?_ hb2
      have hnb := HNB.out
      repeat with_reducible (first | assumption | exact HB.out | exact Below.refl _ _ | refine Below.setCell ?_ (by first | omega | (simp <;> omega)) _ | refine Below.alloc ?_ (by first | omega | (simp <;> omega)) _ | refine Below.drew ?_)
    have hN2 := hN.below hB2
    obtain ⟨hc2, hf2⟩ := bcell hb2
    have hz9 := hb2.size
    simp at hz9
    obtain ⟨pb, po, hpa, hcell⟩ := hN2.2.2 h0
    have hck := hcell (n - 1) (by omega)
    rw [List.getD_eq_getElem?_getD] at hck
    have HB2 := Lib.hid hB2; clear hB2 hb2 hcell
    have hsum := fun W (h : Nums W a n xs) => sum_any a n cap xs W h
    subst hpa
    go_wp2_with fail
    go_quiet ((go_at_call 57; exact Calls.quiet_of_same (lies_same _ _ _ _)))
    go_wp2_with fail
    go_ret2
    exact ⟨rfl, below_drewN HB2.out _⟩

set_option maxRecDepth 100000 in
set_option maxHeartbeats 1000000 in
theorem IsPlan_some (F S J L H off : Int) (a : Option Addr) (n cap : Nat) (xs : List Int) (hr : isRuleB F S J L H = true) (ha : lies off (-20000) 20000 = true) (w : World) (hw : Ways w) (hN : Nums w a n xs) (hn : ¬ 200 < n) (h0 : 0 < n) (hk : keepsB F S J 0 xs = true) (hs : lies (xs[n - 1]?.getD 0) (-J) J = true) :
    Calls Tryd.prog 16 #[.agg #[.int .i64 F, .int .i64 S, .int .i64 J, .int .i64 L, .int .i64 H], .int .i64 off, .slice a n cap] w fun e w' => e = .returned (.tuple #[.bool (decide (total xs = -off)), .int .i64 0]) ∧ Below w.heap.size w w' := by
  have ho := lies_iff.1 ha
  obtain ⟨hF, hS, hJ, _⟩ := isRuleB_spec hr
  have hw1 : IntKind.i64.wrap (-off) = -off := IntWalk.i64_in _ (by constructor <;> omega)
  have hwJ : IntKind.i64.wrap (-J) = -J := IntWalk.i64_in _ (by constructor <;> omega)
  have hwn : IntKind.i64.wrap ((n : Int) - 1) = (n : Int) - 1 := IntWalk.i64_in _ (by constructor <;> omega)
  have hn1 : (0 : Int) ≤ (n : Int) - 1 := by omega
  have hn2 : (n : Int) - 1 < n := by omega
  have hn3 : ((n : Int) - 1).toNat = n - 1 := by omega
  have hne : ((n : Int) == 0) = false := by simp; omega
  go_enter Tryd.func16, Tryd.ntmps16
  go_wp2_with fail
  go_region_held3 (fun W1 : World => W1.cell? ⟨w.heap.size, 0, none⟩ = some (.int .i64 F) ∧ W1.cell? ⟨w.heap.size, 1, none⟩ = some (.int .i64 S) ∧ W1.cell? ⟨w.heap.size, 2, none⟩ = some (.int .i64 J) ∧ W1.cell? ⟨w.heap.size, 3, none⟩ = some (.int .i64 L) ∧ W1.cell? ⟨w.heap.size, 4, none⟩ = some (.int .i64 H)) (simp [go_sem, *])
    (first | (go_at_call 55; refine (isOff_any _ _).mono ?_; rintro e w' ⟨rfl, rfl⟩) | (go_at_call 54; refine (opened_ok F S J L H _ hr).mono ?_; rintro e w1 ⟨b, rfl, hb, hnb, hnew⟩; obtain ⟨hc, hf⟩ := bcell hb; have hz := hb.size; simp at hz; simp at hnb; have hz1 : w.heap.size < w1.heap.size := (by omega); try (have hz2 : w.heap.size + 1 < w1.heap.size := (by omega)); try (have hz3 : w.heap.size + 1 + 1 < w1.heap.size := (by omega))))
  all_goals
    have hB1 : Below w.heap.size w w1 := by
      refine below_call ?_ hb
      repeat with_reducible (first | assumption | exact Below.refl _ _ | refine Below.setCell ?_ (by first | omega | (simp <;> omega)) _ | refine Below.alloc ?_ (by first | omega | (simp <;> omega)) _ | refine Below.drew ?_)
    have HNB := Lib.hid hnb; have HBL := Lib.hid (Array.getElem?_eq_some_iff.1 hnew).1; have HB := Lib.hid hB1; have HN := Lib.hid hnew; clear hnb hB1 hnew hb
    go_wp2_with fail
    refine (keeps_any F S J L H (some b) a n cap xs _ (hN.below ?_) hr).mono ?_
    · have hnb := HNB.out
      repeat with_reducible (first | assumption | exact HB.out | exact Below.refl _ _ | refine Below.setCell ?_ (by first | omega | (simp <;> omega)) _ | refine Below.alloc ?_ (by first | omega | (simp <;> omega)) _ | refine Below.drew ?_)
    rintro e w2 ⟨rfl, hb2⟩
    rw [hk]
    have hB2 : Below w.heap.size w w2 := by
      refine below_call ?_ hb2
      have hnb := HNB.out
      repeat with_reducible (first | assumption | exact HB.out | exact Below.refl _ _ | refine Below.setCell ?_ (by first | omega | (simp <;> omega)) _ | refine Below.alloc ?_ (by first | omega | (simp <;> omega)) _ | refine Below.drew ?_)
    have hN2 := hN.below hB2
    obtain ⟨hc2, hf2⟩ := bcell hb2
    have hz9 := hb2.size
    simp at hz9
    obtain ⟨pb, po, hpa, hcell⟩ := hN2.2.2 h0
    have hck := hcell (n - 1) (by omega)
    rw [List.getD_eq_getElem?_getD] at hck
    have HB2 := Lib.hid hB2; clear hB2 hb2 hcell
    have hsum := fun W (h : Nums W a n xs) => sum_any a n cap xs W h
    subst hpa
    go_wp2_with fail
    go_quiet ((go_at_call 57; exact Calls.quiet_of_same (lies_same _ _ _ _)))
    go_wp2_with fail
    refine (hsum _ (hN2.below (below_drewN (Below.refl _ _) _))).mono ?_
    rintro e w3 ⟨rfl, rfl⟩
    go_wp2_with fail
    go_ret2
    exact ⟨rfl, below_drewN HB2.out _⟩

theorem IsPlan_ok (F S J L H off : Int) (a : Option Addr) (n cap : Nat) (xs : List Int) (hr : isRuleB F S J L H = true) (ha : lies off (-20000) 20000 = true) (w : World) (hw : Ways w) (hN : Nums w a n xs) :
    Calls Tryd.prog 16 #[.agg #[.int .i64 F, .int .i64 S, .int .i64 J, .int .i64 L, .int .i64 H], .int .i64 off, .slice a n cap] w fun e w' => e = .returned (.tuple #[.bool (isPlanB F S J off n xs), .int .i64 0]) ∧ Below w.heap.size w w' := by
  by_cases hn : 200 < n
  · have he : isPlanB F S J off n xs = false := by simp [isPlanB]; omega
    rw [he]; exact IsPlan_long F S J L H off a n cap xs hr ha w hw hN hn
  have hd : decide (n ≤ 200) = true := by simp; omega
  cases hk : keepsB F S J 0 xs with
  | false =>
    have he : isPlanB F S J off n xs = false := by simp [isPlanB, hk]
    rw [he]; exact IsPlan_not F S J L H off a n cap xs hr ha w hw hN hn hk
  | true =>
    by_cases h0 : n = 0
    · subst h0
      have hx : xs = [] := List.eq_nil_of_length_eq_zero hN.1
      have he : isPlanB F S J off 0 xs = decide (0 = -off) := by
        unfold isPlanB smoothB
        rw [hk, hx, show total [] = 0 from rfl]; simp
      rw [he]; exact IsPlan_nil F S J L H off a cap xs hr ha w hw hN hk
    · have hz : decide (n = 0) = false := by simp [h0]
      cases hs : lies (xs[n - 1]?.getD 0) (-J) J with
      | false =>
        have he : isPlanB F S J off n xs = false := by unfold isPlanB smoothB; rw [hk, hs, hz]; simp
        rw [he]; exact IsPlan_rough F S J L H off a n cap xs hr ha w hw hN hn (by omega) hk hs
      | true =>
        have he : isPlanB F S J off n xs = decide (total xs = -off) := by unfold isPlanB smoothB; rw [hk, hs, hz, hd]; simp
        rw [he]; exact IsPlan_some F S J L H off a n cap xs hr ha w hw hN hn (by omega) hk hs

end Go.Proofs.YtidnopmjhhmedaaDoor
end

section
/- Shown. -/
set_option linter.unusedSimpArgs false
set_option linter.unusedVariables false
namespace Go.Proofs.YtidnopmjhhmedaaDoor
open Go.RowKit

/-- The cells of a rule's numbers in a block. -/
abbrev At5 (W : World) (N : Nat) (F S J L H : Int) : Prop := W.cell? ⟨N, 0, none⟩ = some (.int .i64 F) ∧ W.cell? ⟨N, 1, none⟩ = some (.int .i64 S) ∧ W.cell? ⟨N, 2, none⟩ = some (.int .i64 J) ∧ W.cell? ⟨N, 3, none⟩ = some (.int .i64 L) ∧ W.cell? ⟨N, 4, none⟩ = some (.int .i64 H)
theorem At5.of {W W1 : World} {N : Nat} {F S J L H : Int} (h : At5 W N F S J L H) (hh : W1.heap[N]? = W.heap[N]?) : At5 W1 N F S J L H := by
  have hc : ∀ o, W1.cell? ⟨N, o, none⟩ = W.cell? ⟨N, o, none⟩ := fun o => World.cell?_of_block (w := W) hh
  exact ⟨(hc 0).trans h.1, (hc 1).trans h.2.1, (hc 2).trans h.2.2.1, (hc 3).trans h.2.2.2.1, (hc 4).trans h.2.2.2.2⟩
theorem At5.lt {W : World} {N : Nat} {F S J L H : Int} (h : At5 W N F S J L H) : N < W.heap.size := World.block_lt_of_cell? W _ h.1
theorem At5.below {W W1 : World} {N : Nat} {F S J L H : Int} (h : At5 W N F S J L H) (hb : Below W.heap.size W W1) : At5 W1 N F S J L H := h.of (hb.block N h.lt)
theorem At5.alloc {W : World} {N : Nat} {F S J L H : Int} (h : At5 W N F S J L H) (o : Obj) : At5 (W.alloc o) N F S J L H := h.of (Below.heap_alloc _ _ _ h.lt)
theorem At5.setCell {W : World} {N : Nat} {F S J L H : Int} {p : Addr} {v : Value} (h : At5 W N F S J L H) (hp : N ≠ p.block) : At5 (W.setCell p v) N F S J L H := h.of (Below.heap_setCell _ _ _ _ hp)

theorem opened_ask' (F S J L H : Int) {ok : Bool} (hok : ok = false) (w : World) (h : isRuleB F S J L H = true) :
    Calls Tryd.prog 54 #[.agg #[.int .i64 F, .int .i64 S, .int .i64 J, .int .i64 L, .int .i64 H], .bool ok] w fun e w' =>
      e = .returned (.tuple #[.agg #[.int .i64 0, .int .i64 0, .int .i64 0, .int .i64 0, .int .i64 0, .map none], .int .i64 41]) ∧ Below w.heap.size w w' := by
  subst hok; exact opened_ask F S J L H w h
theorem opened_ok' (F S J L H : Int) {ok : Bool} (hok : ok = true) (w : World) (h : isRuleB F S J L H = true) :
    Calls Tryd.prog 54 #[.agg #[.int .i64 F, .int .i64 S, .int .i64 J, .int .i64 L, .int .i64 H], .bool ok] w fun e w' =>
      ∃ b, e = .returned (.tuple #[.agg #[.int .i64 F, .int .i64 S, .int .i64 J, .int .i64 L, .int .i64 H, .map (some b)], .int .i64 0]) ∧ NewMap w w' b := by
  subst hok; exact opened_ok F S J L H w h

theorem lies_is {n a b : Int} {v : Bool} (h : lies n a b = v) (w : World) : Calls Tryd.prog 57 #[.int .i64 n, .int .i64 a, .int .i64 b] w fun e w' => e = .returned (.bool v) ∧ w = w' := h ▸ lies_any n a b w

attribute [local go_sem] Oper.semAt_some
/-- A block of six cells that may be written. -/
def Six (W : World) (p : Nat) : Prop := ∃ c0 c1 c2 c3 c4 c5 : Value, W.heap[p]? = some (.cells #[c0, c1, c2, c3, c4, c5] 80 (0, 0))
theorem Six.cells {W : World} {p : Nat} (h : Six W p) : ∃ c0 c1 c2 c3 c4 c5 : Value, W.cell? ⟨p, 0, none⟩ = some c0 ∧ W.cell? ⟨p, 1, none⟩ = some c1 ∧ W.cell? ⟨p, 2, none⟩ = some c2 ∧ W.cell? ⟨p, 3, none⟩ = some c3 ∧ W.cell? ⟨p, 4, none⟩ = some c4 ∧ W.cell? ⟨p, 5, none⟩ = some c5 ∧ ∀ o, W.frozen? ⟨p, o, none⟩ = false := by
  obtain ⟨c0, c1, c2, c3, c4, c5, h⟩ := h
  refine ⟨c0, c1, c2, c3, c4, c5, ?_, ?_, ?_, ?_, ?_, ?_, ?_⟩
  all_goals first | (simp [World.cell?, h]; done) | (intro o; simp [World.frozen?, h])

theorem step_skip {F : Fence} {n : Nat} {P : Program} {ops : Array Oper} {Q : Exit → Act → World → Prop} {i : Nat} {o : Oper} {a : Act} {w : World} {K : Act → World → Prop}
    (ho : ops[i]? = some o) (hw : Region.wanted o (yielded ops a.tmps) = false) (hab : ∀ f, o.about P w a.eval = some f → F.fn f) (hK : K (a.put o.dst undef) w) : wpOpIn F n P ops Q i K a w := by
  unfold wpOpIn
  rw [ho]
  simp only [hw, Bool.false_eq_true, if_false]
  exact ⟨hab, hK⟩
theorem step_store {F : Fence} {n : Nat} {P : Program} {ops : Array Oper} {Q : Exit → Act → World → Prop} {i : Nat} {o : Oper} {a : Act} {w w' : World} {K : Act → World → Prop}
    (ho : ops[i]? = some o) (hg : o.guard = none) (hab : ∀ f, o.about P w a.eval = some f → F.fn f) (hrun : (o.semAt F.round a.eval).run P w = .ok .skip w') (hK : K (a.put o.dst undef) w') : wpOpIn F n P ops Q i K a w := by
  unfold wpOpIn
  rw [ho]
  simp only [Region.wanted, hg, if_true, Oper.wpIn, hrun, Oper.uponIn]
  exact ⟨hab, hK⟩
theorem step_alloc {F : Fence} {n : Nat} {P : Program} {ops : Array Oper} {Q : Exit → Act → World → Prop} {i : Nat} {o : Oper} {v : Value} {a : Act} {w w' : World} {K : Act → World → Prop}
    (ho : ops[i]? = some o) (hg : o.guard = none) (hab : ∀ f, o.about P w a.eval = some f → F.fn f) (hrun : (o.semAt F.round a.eval).run P w = .ok (.value v) w') (hK : K (a.put o.dst v) w') : wpOpIn F n P ops Q i K a w := by
  unfold wpOpIn
  rw [ho]
  simp only [Region.wanted, hg, if_true, Oper.wpIn, hrun, Oper.uponIn]
  exact ⟨hab, hK⟩
def updS (x : Nat → Value) (j : Nat) (v : Value) : Nat → Value := fun k => if k = j then v else x k
theorem updS_ok {x val : Nat → Value} {listed : Array Bool} {i : Nat} {v : Value} (hi : i < listed.size) (hx : ∀ j, j < 15 → j ≠ 12 → j ≠ 13 → listed.getD j false = true → x j = val j) (hv : i ≠ 12 → i ≠ 13 → v = val i) :
    ∀ j, j < 15 → j ≠ 12 → j ≠ 13 → (listed.setIfInBounds i true).getD j false = true → updS x i v j = val j := by
  intro j hj h12 h13 hl
  unfold updS
  by_cases h : j = i
  · subst h; rw [if_pos rfl, hv h12 h13]
  · rw [if_neg h]
    rw [getD_set hi, if_neg h] at hl
    exact hx j hj h12 h13 hl

/-- The frame of Shown in its first drawn region. -/
def sact (f : Int) (a : Option Addr) (n cap N : Nat) (r : Value) (x : Nat → Value) : Act :=
  { tmps := #[r, .int .i64 f, .slice a n cap, .pointer (some ⟨N, 0, none⟩), undef, undef, .slice none 0 0, .int .i64 0, x 12, x 14, undef, undef, undef, x 9, x 0, x 1, x 2, x 3, x 4, x 5, x 6, x 7, x 8, x 10, x 11,
      undef, undef, undef, undef, undef, undef, undef, undef, undef, undef, undef, undef, undef, undef, undef, undef, undef, undef, undef, undef, undef, undef, undef, undef, undef, undef, undef, undef, undef, undef], defers := [] }
def zrule : Value := .agg #[.int .i64 0, .int .i64 0, .int .i64 0, .int .i64 0, .int .i64 0, .map none]
def sval (f : Int) (r : Value) (code : Int) : Nat → Value
  | 0 => r
  | 1 => .int .i64 f
  | 2 => .bool false
  | 3 => .bool false
  | 4 => undef
  | 5 => undef
  | 6 => undef
  | 7 => .bool false
  | 8 => .tuple #[zrule, .int .i64 code]
  | 9 => .tuple #[zrule, .int .i64 code]
  | 10 => zrule
  | 11 => .int .i64 code
  | _ => .int .i64 code

def SInv (f : Int) (a : Option Addr) (n cap : Nat) (F S J L H code : Int) (w : World) (listed : Array Bool) (ac : Act) (W : World) : Prop :=
  ∃ x : Nat → Value, ac = sact f a n cap w.heap.size (.agg #[.int .i64 F, .int .i64 S, .int .i64 J, .int .i64 L, .int .i64 H]) x ∧
    (∀ j, j < 15 → j ≠ 12 → j ≠ 13 → listed.getD j false = true → x j = sval f (.agg #[.int .i64 F, .int .i64 S, .int .i64 J, .int .i64 L, .int .i64 H]) code j) ∧
    At5 W w.heap.size F S J L H ∧ Below w.heap.size w W ∧ (listed.getD 12 false = true → ∃ p, x 12 = .pointer (some ⟨p, 0, none⟩) ∧ w.heap.size < p ∧ p < W.heap.size ∧ (listed.getD 13 false = false → Six W p))

set_option maxRecDepth 100000 in
set_option maxHeartbeats 2000000 in
theorem Shown_no (F S J L H f code : Int) (a : Option Addr) (n cap : Nat) (w : World) (hl : lies f 0 10000000 = false)
    (hop : ∀ W, Calls Tryd.prog 54 #[.agg #[.int .i64 F, .int .i64 S, .int .i64 J, .int .i64 L, .int .i64 H], .bool false] W fun e w' => e = .returned (.tuple #[zrule, .int .i64 code]) ∧ Below W.heap.size W w') (hcode : (code == 0) = false) :
    Calls Tryd.prog 24 #[.agg #[.int .i64 F, .int .i64 S, .int .i64 J, .int .i64 L, .int .i64 H], .int .i64 f, .slice a n cap] w fun e w' => e = .returned (.tuple #[.slice none 0 0, .int .i64 code]) ∧ Below w.heap.size w w' := by
  have hl' := hl
  clear hl
  go_enter Tryd.func24, Tryd.ntmps24
  go_wp2_with fail
  refine (wpIn_wide (n := 3)).1 ?_
  refine wpIn_region_inv (by rfl) (SInv f a n cap F S J L H code w) (by decide) ?inv0 ?step ?fin
  case inv0 =>
    refine ⟨fun _ => undef, rfl, fun j _ _ _ h => (by rw [getD_none_listed] at h; cases h), ?_, ?_, fun h => (by rw [getD_none_listed] at h; cases h)⟩
    · exact At5.of (W := w.alloc (.cells #[.int .i64 F, .int .i64 S, .int .i64 J, .int .i64 L, .int .i64 H] 25)) (by simp [At5, go_sem]) rfl
    · exact ((Below.refl _ _).alloc (Nat.le_refl _) _).drew
  case fin =>
    rintro listed ac W hd ⟨x, rfl, hx, h5, hB, hp⟩
    obtain ⟨p, hp, _⟩ := hp (hd 12 (by decide))
    have e14 := hx 14 (by decide) (by decide) (by decide) (hd 14 (by decide))
    simp only [sval] at e14
    have HB := Lib.hid hB
    have HE := Lib.hid hcode
    unfold sact
    rw [e14]
    go_wp2_with fail
    go_ret2
    exact ⟨rfl, HB.out⟩
  case step =>
    rintro listed ac W i hc ⟨x, rfl, hx, h5, hB, hp⟩ hi hl hpr
    have hsz : i < listed.size := by rw [hc.1]; exact hi
    have hcases : i = 0 ∨ i = 1 ∨ i = 2 ∨ i = 3 ∨ i = 4 ∨ i = 5 ∨ i = 6 ∨ i = 7 ∨ i = 8 ∨ i = 9 ∨ i = 10 ∨ i = 11 ∨ i = 12 ∨ i = 13 ∨ i = 14 := by
      have : i < 15 := hi
      omega
    have hkeep : i ≠ 12 → i ≠ 13 → ((listed.setIfInBounds i true).getD 12 false = true → ∃ p, x 12 = .pointer (some ⟨p, 0, none⟩) ∧ w.heap.size < p ∧ p < W.heap.size ∧ ((listed.setIfInBounds i true).getD 13 false = false → Six W p)) := by
      intro h12 h13 h
      rw [getD_set hsz, if_neg (Ne.symm h12)] at h
      obtain ⟨p, h1, h2, h3, h4⟩ := hp h
      exact ⟨p, h1, h2, h3, fun h => h4 (by rw [getD_set hsz, if_neg (Ne.symm h13)] at h; exact h)⟩
    obtain ⟨g0, g1, g2, g3, g4⟩ := h5
    rcases hcases with rfl | rfl | rfl | rfl | rfl | rfl | rfl | rfl | rfl | rfl | rfl | rfl | rfl | rfl | rfl
    · refine step_val (v := sval f (.agg #[.int .i64 F, .int .i64 S, .int .i64 J, .int .i64 L, .int .i64 H]) code 0) rfl rfl (fun _ _ => trivial) ?_ ⟨updS x 0 _, rfl, updS_ok hsz hx (fun _ _ => rfl), ⟨g0, g1, g2, g3, g4⟩, hB, hkeep (by decide) (by decide)⟩
      simp [go_sem, sact, sval, zrule, g0, g1, g2, g3, g4]
    · refine step_val (v := sval f (.agg #[.int .i64 F, .int .i64 S, .int .i64 J, .int .i64 L, .int .i64 H]) code 1) rfl rfl (fun _ _ => trivial) ?_ ⟨updS x 1 _, rfl, updS_ok hsz hx (fun _ _ => rfl), ⟨g0, g1, g2, g3, g4⟩, hB, hkeep (by decide) (by decide)⟩
      simp [go_sem, sact, sval, zrule, g0, g1, g2, g3, g4]
    · have e1 := hx 1 (by decide) (by decide) (by decide) (hpr 1 (by decide)); simp only [sval] at e1
      refine step_call (f := 57) (args := #[.int .i64 f, .int .i64 0, .int .i64 10000000]) rfl rfl (fun _ _ => trivial) ?_ (fun h => by cases h) ((callsIn_wide.2 (lies_any f 0 10000000 W)).mono ?_)
      · simp [go_sem, sact, e1]
      · rintro e w' ⟨rfl, rfl⟩
        rw [hl']
        exact ⟨_, rfl, ⟨updS x 2 _, rfl, updS_ok hsz hx (fun _ _ => rfl), ⟨g0, g1, g2, g3, g4⟩, hB, hkeep (by decide) (by decide)⟩⟩
    · have e2 := hx 2 (by decide) (by decide) (by decide) (hpr 2 (by decide)); simp only [sval] at e2
      refine step_val (v := sval f (.agg #[.int .i64 F, .int .i64 S, .int .i64 J, .int .i64 L, .int .i64 H]) code 3) rfl rfl (fun _ _ => trivial) ?_ ⟨updS x 3 _, rfl, updS_ok hsz hx (fun _ _ => rfl), ⟨g0, g1, g2, g3, g4⟩, hB, hkeep (by decide) (by decide)⟩
      simp [go_sem, sact, sval, zrule, e2, g0, g1, g2, g3, g4]
    · have e3 := hx 3 (by decide) (by decide) (by decide) (hpr 3 (by decide)); simp only [sval] at e3
      exact step_skip rfl (by simp [Region.wanted, yielded, sact, e3]) (fun _ _ => trivial) ⟨updS x 4 _, rfl, updS_ok hsz hx (fun _ _ => rfl), ⟨g0, g1, g2, g3, g4⟩, hB, hkeep (by decide) (by decide)⟩
    · have e3 := hx 3 (by decide) (by decide) (by decide) (hpr 3 (by decide)); simp only [sval] at e3
      exact step_skip rfl (by simp [Region.wanted, yielded, sact, e3]) (fun _ _ => trivial) ⟨updS x 5 _, rfl, updS_ok hsz hx (fun _ _ => rfl), ⟨g0, g1, g2, g3, g4⟩, hB, hkeep (by decide) (by decide)⟩
    · have e3 := hx 3 (by decide) (by decide) (by decide) (hpr 3 (by decide)); simp only [sval] at e3
      exact step_skip rfl (by simp [Region.wanted, yielded, sact, e3]) (fun _ _ => trivial) ⟨updS x 6 _, rfl, updS_ok hsz hx (fun _ _ => rfl), ⟨g0, g1, g2, g3, g4⟩, hB, hkeep (by decide) (by decide)⟩
    · have e3 := hx 3 (by decide) (by decide) (by decide) (hpr 3 (by decide)); simp only [sval] at e3
      have e6 := hx 6 (by decide) (by decide) (by decide) (hpr 6 (by decide)); simp only [sval] at e6
      refine step_val (v := sval f (.agg #[.int .i64 F, .int .i64 S, .int .i64 J, .int .i64 L, .int .i64 H]) code 7) rfl rfl (fun _ _ => trivial) ?_ ⟨updS x 7 _, rfl, updS_ok hsz hx (fun _ _ => rfl), ⟨g0, g1, g2, g3, g4⟩, hB, hkeep (by decide) (by decide)⟩
      simp [go_sem, sact, sval, zrule, e3, e6, g0, g1, g2, g3, g4]
    · have e0 := hx 0 (by decide) (by decide) (by decide) (hpr 0 (by decide)); simp only [sval] at e0
      have e7 := hx 7 (by decide) (by decide) (by decide) (hpr 7 (by decide)); simp only [sval] at e7
      refine step_call (f := 54) (args := #[.agg #[.int .i64 F, .int .i64 S, .int .i64 J, .int .i64 L, .int .i64 H], .bool false]) rfl rfl (fun _ _ => trivial) ?_ (fun h => by cases h) ((callsIn_wide.2 (hop W)).mono ?_)
      · simp [go_sem, sact, e0, e7]
      · rintro e w' ⟨rfl, hb⟩
        refine ⟨_, rfl, updS x 8 _, rfl, updS_ok hsz hx (fun _ _ => rfl), At5.of (W := W) ⟨g0, g1, g2, g3, g4⟩ (hb.block _ (At5.lt ⟨g0, g1, g2, g3, g4⟩)), below_call hB hb, fun h => ?_⟩
        obtain ⟨p, q1, q2, q3, q4⟩ := hkeep (by decide) (by decide) h
        exact ⟨p, q1, q2, Nat.lt_of_lt_of_le q3 hb.size, fun h => by obtain ⟨c0, c1, c2, c3, c4, c5, q5⟩ := q4 h; exact ⟨c0, c1, c2, c3, c4, c5, (hb.block p q3).trans q5⟩⟩
    · have e8 := hx 8 (by decide) (by decide) (by decide) (hpr 8 (by decide)); simp only [sval] at e8
      refine step_val (v := sval f (.agg #[.int .i64 F, .int .i64 S, .int .i64 J, .int .i64 L, .int .i64 H]) code 9) rfl rfl (fun _ _ => trivial) ?_ ⟨updS x 9 _, rfl, updS_ok hsz hx (fun _ _ => rfl), ⟨g0, g1, g2, g3, g4⟩, hB, hkeep (by decide) (by decide)⟩
      simp [go_sem, sact, sval, zrule, e8, g0, g1, g2, g3, g4]
    · have e9 := hx 9 (by decide) (by decide) (by decide) (hpr 9 (by decide)); simp only [sval] at e9
      refine step_val (v := sval f (.agg #[.int .i64 F, .int .i64 S, .int .i64 J, .int .i64 L, .int .i64 H]) code 10) rfl rfl (fun _ _ => trivial) ?_ ⟨updS x 10 _, rfl, updS_ok hsz hx (fun _ _ => rfl), ⟨g0, g1, g2, g3, g4⟩, hB, hkeep (by decide) (by decide)⟩
      simp [go_sem, sact, sval, zrule, e9, g0, g1, g2, g3, g4]
    · have e9 := hx 9 (by decide) (by decide) (by decide) (hpr 9 (by decide)); simp only [sval] at e9
      refine step_val (v := sval f (.agg #[.int .i64 F, .int .i64 S, .int .i64 J, .int .i64 L, .int .i64 H]) code 11) rfl rfl (fun _ _ => trivial) ?_ ⟨updS x 11 _, rfl, updS_ok hsz hx (fun _ _ => rfl), ⟨g0, g1, g2, g3, g4⟩, hB, hkeep (by decide) (by decide)⟩
      simp [go_sem, sact, sval, zrule, e9, g0, g1, g2, g3, g4]
    · refine step_alloc (v := .pointer (some ⟨W.heap.size, 0, none⟩)) (w' := W.alloc (.cells #[.int .i64 0, .int .i64 0, .int .i64 0, .int .i64 0, .int .i64 0, .map none] 80)) rfl rfl (fun _ _ => trivial) ?_ ⟨updS x 12 _, rfl, updS_ok hsz hx (fun h => absurd rfl h), At5.of (W := W) ⟨g0, g1, g2, g3, g4⟩ (Below.heap_alloc _ _ _ (At5.lt ⟨g0, g1, g2, g3, g4⟩)), hB.alloc hB.size _, fun _ => ⟨W.heap.size, rfl, At5.lt ⟨g0, g1, g2, g3, g4⟩, by simp, fun _ => ⟨_, _, _, _, _, _, World.alloc_heap_new W _⟩⟩⟩
      simp [go_sem, sact]
    · have e10 := hx 10 (by decide) (by decide) (by decide) (hpr 10 (by decide)); simp only [sval] at e10
      obtain ⟨p, q1, q2, q3, q4⟩ := hp (hpr 12 (by decide))
      have hl13 : listed.getD 13 false = false := by
        have h2 : 13 < listed.size := hsz
        simp [h2] at hl ⊢; exact hl
      obtain ⟨c0, c1, c2, c3, c4, c5, r0, r1, r2, r3, r4, r5, rf⟩ := (q4 hl13).cells
      refine step_store (w' := (((((W.setCell ⟨p, 0, none⟩ (.int .i64 0)).setCell ⟨p, 1, none⟩ (.int .i64 0)).setCell ⟨p, 2, none⟩ (.int .i64 0)).setCell ⟨p, 3, none⟩ (.int .i64 0)).setCell ⟨p, 4, none⟩ (.int .i64 0)).setCell ⟨p, 5, none⟩ (.map none)) rfl rfl (fun _ _ => trivial) ?_ ⟨updS x 13 undef, rfl, updS_ok hsz hx (fun _ h => absurd rfl h), ?_, ?_, fun _ => ⟨p, q1, q2, ?_, fun h => by rw [getD_set hsz, if_pos rfl] at h; cases h⟩⟩
      · simp [go_sem, sact, zrule, e10, q1, r0, r1, r2, r3, r4, r5, rf]
      · refine At5.of (W := W) ⟨g0, g1, g2, g3, g4⟩ ?_
        repeat rw [Below.heap_setCell _ _ _ _ (by show w.heap.size ≠ p; omega)]
      · exact (((((hB.setCell (p := ⟨p, 0, none⟩) (by show _ ≤ p; omega) _).setCell (p := ⟨p, 1, none⟩) (by show _ ≤ p; omega) _).setCell (p := ⟨p, 2, none⟩) (by show _ ≤ p; omega) _).setCell (p := ⟨p, 3, none⟩) (by show _ ≤ p; omega) _).setCell (p := ⟨p, 4, none⟩) (by show _ ≤ p; omega) _).setCell (p := ⟨p, 5, none⟩) (by show _ ≤ p; omega) _
      · simpa using q3
    · have e11 := hx 11 (by decide) (by decide) (by decide) (hpr 11 (by decide)); simp only [sval] at e11
      refine step_val (v := sval f (.agg #[.int .i64 F, .int .i64 S, .int .i64 J, .int .i64 L, .int .i64 H]) code 14) rfl rfl (fun _ _ => trivial) ?_ ⟨updS x 14 _, rfl, updS_ok hsz hx (fun _ _ => rfl), ⟨g0, g1, g2, g3, g4⟩, hB, hkeep (by decide) (by decide)⟩
      simp [go_sem, sact, sval, zrule, e11, g0, g1, g2, g3, g4]

set_option maxRecDepth 100000 in
set_option maxHeartbeats 1000000 in
theorem Shown_bad2 (F S J L H f : Int) (a : Option Addr) (n cap : Nat) (xs : List Int) (w : World) (hN : Nums w a n xs) (hr : isRuleB F S J L H = false) (hl : lies f 0 10000000 = true) (hn : ¬ n ≤ 200) :
    Calls Tryd.prog 24 #[.agg #[.int .i64 F, .int .i64 S, .int .i64 J, .int .i64 L, .int .i64 H], .int .i64 f, .slice a n cap] w fun e w' => e = .returned (.tuple #[.slice none 0 0, .int .i64 40]) ∧ Below w.heap.size w w' := by
  have hm := hN.2.1
  go_enter Tryd.func24, Tryd.ntmps24
  go_wp2_with fail
  go_region_held3 (fun W1 : World => W1.cell? ⟨w.heap.size, 0, none⟩ = some (.int .i64 F) ∧ W1.cell? ⟨w.heap.size, 1, none⟩ = some (.int .i64 S) ∧ W1.cell? ⟨w.heap.size, 2, none⟩ = some (.int .i64 J) ∧ W1.cell? ⟨w.heap.size, 3, none⟩ = some (.int .i64 L) ∧ W1.cell? ⟨w.heap.size, 4, none⟩ = some (.int .i64 H)) (first | with_reducible exact At5.below hq hb | (rename_i hq2 _ _; first | with_reducible exact hq2 | with_reducible exact At5.alloc hq2 _ | ((repeat with_reducible refine At5.setCell ?_ (by first | omega | (simp <;> omega))) <;> with_reducible exact hq2)) | (simp [go_sem, *]; done))
    (first | (go_at_call 57; rename_i hq _ _; refine (lies_is hl _).mono ?_; rintro e w' ⟨rfl, rfl⟩) | (go_at_call 54; rename_i hq _ _; refine (opened_bad F S J L H _ _ hr).mono ?_; rintro e w1 ⟨rfl, hb⟩; obtain ⟨hc, hf⟩ := bcell hb; have hz := hb.size; simp at hz; have hz1 : w.heap.size < w1.heap.size := (by omega); try (have hz2 : w.heap.size + 1 < w1.heap.size := (by omega)); try (have hz3 : w.heap.size + 1 + 1 < w1.heap.size := (by omega))))
  all_goals
    go_wp2
    have hB1 : Below w.heap.size w w1 := by
      refine below_call ?_ hb
      repeat with_reducible (first | assumption | exact Below.refl _ _ | refine Below.setCell ?_ (by first | omega | (simp <;> omega)) _ | refine Below.alloc ?_ (by first | omega | (simp <;> omega)) _ | refine Below.drew ?_)
    go_ret2
    refine ⟨rfl, ?_⟩
    clear hb hc hf
    repeat with_reducible (first | assumption | exact Below.refl _ _ | refine Below.setCell ?_ (by first | omega | (simp <;> omega)) _ | refine Below.alloc ?_ (by first | omega | (simp <;> omega)) _ | refine Below.drew ?_)

set_option maxRecDepth 100000 in
set_option maxHeartbeats 1000000 in
theorem Shown_bad3 (F S J L H f : Int) (a : Option Addr) (n cap : Nat) (xs : List Int) (w : World) (hN : Nums w a n xs) (hr : isRuleB F S J L H = false) (hl : lies f 0 10000000 = true) (hn : n ≤ 200) :
    Calls Tryd.prog 24 #[.agg #[.int .i64 F, .int .i64 S, .int .i64 J, .int .i64 L, .int .i64 H], .int .i64 f, .slice a n cap] w fun e w' => e = .returned (.tuple #[.slice none 0 0, .int .i64 40]) ∧ Below w.heap.size w w' := by
  have hm := hN.2.1
  go_enter Tryd.func24, Tryd.ntmps24
  go_wp2_with fail
  go_region_held3 (fun W1 : World => W1.cell? ⟨w.heap.size, 0, none⟩ = some (.int .i64 F) ∧ W1.cell? ⟨w.heap.size, 1, none⟩ = some (.int .i64 S) ∧ W1.cell? ⟨w.heap.size, 2, none⟩ = some (.int .i64 J) ∧ W1.cell? ⟨w.heap.size, 3, none⟩ = some (.int .i64 L) ∧ W1.cell? ⟨w.heap.size, 4, none⟩ = some (.int .i64 H)) (first | with_reducible exact At5.below hq hb | (rename_i hq2 _ _; first | with_reducible exact hq2 | with_reducible exact At5.alloc hq2 _ | ((repeat with_reducible refine At5.setCell ?_ (by first | omega | (simp <;> omega))) <;> with_reducible exact hq2)) | (simp [go_sem, *]; done))
    (first | (go_at_call 57; rename_i hq _ _; refine (lies_is hl _).mono ?_; rintro e w' ⟨rfl, rfl⟩) | (go_at_call 54; rename_i hq _ _; refine (opened_bad F S J L H _ _ hr).mono ?_; rintro e w1 ⟨rfl, hb⟩; obtain ⟨hc, hf⟩ := bcell hb; have hz := hb.size; simp at hz; have hz1 : w.heap.size < w1.heap.size := (by omega); try (have hz2 : w.heap.size + 1 < w1.heap.size := (by omega)); try (have hz3 : w.heap.size + 1 + 1 < w1.heap.size := (by omega))))
  all_goals
    go_wp2
    have hB1 : Below w.heap.size w w1 := by
      refine below_call ?_ hb
      repeat with_reducible (first | assumption | exact Below.refl _ _ | refine Below.setCell ?_ (by first | omega | (simp <;> omega)) _ | refine Below.alloc ?_ (by first | omega | (simp <;> omega)) _ | refine Below.drew ?_)
    go_ret2
    refine ⟨rfl, ?_⟩
    clear hb hc hf
    repeat with_reducible (first | assumption | exact Below.refl _ _ | refine Below.setCell ?_ (by first | omega | (simp <;> omega)) _ | refine Below.alloc ?_ (by first | omega | (simp <;> omega)) _ | refine Below.drew ?_)

theorem Shown_bad1 (F S J L H f : Int) (a : Option Addr) (n cap : Nat) (xs : List Int) (w : World) (hN : Nums w a n xs) (hr : isRuleB F S J L H = false) (hl : lies f 0 10000000 = false) :
    Calls Tryd.prog 24 #[.agg #[.int .i64 F, .int .i64 S, .int .i64 J, .int .i64 L, .int .i64 H], .int .i64 f, .slice a n cap] w fun e w' => e = .returned (.tuple #[.slice none 0 0, .int .i64 40]) ∧ Below w.heap.size w w' :=
  Shown_no F S J L H f 40 a n cap w hl (fun W => opened_bad F S J L H false W hr) (by decide)
theorem Shown_ask1 (F S J L H f : Int) (a : Option Addr) (n cap : Nat) (xs : List Int) (w : World) (hN : Nums w a n xs) (hr : isRuleB F S J L H = true) (hl : lies f 0 10000000 = false) :
    Calls Tryd.prog 24 #[.agg #[.int .i64 F, .int .i64 S, .int .i64 J, .int .i64 L, .int .i64 H], .int .i64 f, .slice a n cap] w fun e w' => e = .returned (.tuple #[.slice none 0 0, .int .i64 41]) ∧ Below w.heap.size w w' :=
  Shown_no F S J L H f 41 a n cap w hl (fun W => opened_ask F S J L H W hr) (by decide)

set_option maxRecDepth 100000 in
set_option maxHeartbeats 1000000 in
theorem Shown_ask2 (F S J L H f : Int) (a : Option Addr) (n cap : Nat) (xs : List Int) (w : World) (hN : Nums w a n xs) (hr : isRuleB F S J L H = true) (hl : lies f 0 10000000 = true) (hn : ¬ n ≤ 200) :
    Calls Tryd.prog 24 #[.agg #[.int .i64 F, .int .i64 S, .int .i64 J, .int .i64 L, .int .i64 H], .int .i64 f, .slice a n cap] w fun e w' => e = .returned (.tuple #[.slice none 0 0, .int .i64 41]) ∧ Below w.heap.size w w' := by
  have hm := hN.2.1
  go_enter Tryd.func24, Tryd.ntmps24
  go_wp2_with fail
  go_region_held3 (fun W1 : World => W1.cell? ⟨w.heap.size, 0, none⟩ = some (.int .i64 F) ∧ W1.cell? ⟨w.heap.size, 1, none⟩ = some (.int .i64 S) ∧ W1.cell? ⟨w.heap.size, 2, none⟩ = some (.int .i64 J) ∧ W1.cell? ⟨w.heap.size, 3, none⟩ = some (.int .i64 L) ∧ W1.cell? ⟨w.heap.size, 4, none⟩ = some (.int .i64 H)) (first | with_reducible exact At5.below hq hb | (rename_i hq2 _ _; first | with_reducible exact hq2 | with_reducible exact At5.alloc hq2 _ | ((repeat with_reducible refine At5.setCell ?_ (by first | omega | (simp <;> omega))) <;> with_reducible exact hq2)) | (simp [go_sem, *]; done))
    (first | (go_at_call 57; rename_i hq _ _; refine (lies_is hl _).mono ?_; rintro e w' ⟨rfl, rfl⟩) | (go_at_call 54; rename_i hq _ _; refine (opened_ask' F S J L H (by first | rfl | (simp; omega)) _ hr).mono ?_; rintro e w1 ⟨rfl, hb⟩; obtain ⟨hc, hf⟩ := bcell hb; have hz := hb.size; simp at hz; have hz1 : w.heap.size < w1.heap.size := (by omega); try (have hz2 : w.heap.size + 1 < w1.heap.size := (by omega)); try (have hz3 : w.heap.size + 1 + 1 < w1.heap.size := (by omega))))
  all_goals
    go_wp2
    have hB1 : Below w.heap.size w w1 := by
      refine below_call ?_ hb
      repeat with_reducible (first | assumption | exact Below.refl _ _ | refine Below.setCell ?_ (by first | omega | (simp <;> omega)) _ | refine Below.alloc ?_ (by first | omega | (simp <;> omega)) _ | refine Below.drew ?_)
    go_ret2
    refine ⟨rfl, ?_⟩
    clear hb hc hf
    repeat with_reducible (first | assumption | exact Below.refl _ _ | refine Below.setCell ?_ (by first | omega | (simp <;> omega)) _ | refine Below.alloc ?_ (by first | omega | (simp <;> omega)) _ | refine Below.drew ?_)

set_option maxRecDepth 100000 in
set_option maxHeartbeats 1000000 in
theorem Shown_not (F S J L H f : Int) (a : Option Addr) (n cap : Nat) (xs : List Int) (w : World) (hN : Nums w a n xs) (hr : isRuleB F S J L H = true) (hl : lies f 0 10000000 = true) (hn : n ≤ 200) (hk : keepsB F S J 0 xs = false) :
    Calls Tryd.prog 24 #[.agg #[.int .i64 F, .int .i64 S, .int .i64 J, .int .i64 L, .int .i64 H], .int .i64 f, .slice a n cap] w fun e w' => e = .returned (.tuple #[.slice none 0 0, .int .i64 41]) ∧ Below w.heap.size w w' := by
  have hm := hN.2.1
  go_enter Tryd.func24, Tryd.ntmps24
  go_wp2_with fail
  go_region_held3 (fun W1 : World => W1.cell? ⟨w.heap.size, 0, none⟩ = some (.int .i64 F) ∧ W1.cell? ⟨w.heap.size, 1, none⟩ = some (.int .i64 S) ∧ W1.cell? ⟨w.heap.size, 2, none⟩ = some (.int .i64 J) ∧ W1.cell? ⟨w.heap.size, 3, none⟩ = some (.int .i64 L) ∧ W1.cell? ⟨w.heap.size, 4, none⟩ = some (.int .i64 H)) (first | with_reducible exact At5.below hq hb | (rename_i hq2 _ _; first | with_reducible exact hq2 | with_reducible exact At5.alloc hq2 _ | ((repeat with_reducible refine At5.setCell ?_ (by first | omega | (simp <;> omega))) <;> with_reducible exact hq2)) | (simp [go_sem, *]; done))
    (first | (go_at_call 57; rename_i hq _ _; refine (lies_is hl _).mono ?_; rintro e w' ⟨rfl, rfl⟩) | (go_at_call 54; rename_i hq _ _; refine (opened_ok' F S J L H (by first | rfl | (simp; omega)) _ hr).mono ?_; rintro e w1 ⟨b, rfl, hb, hnb, hnew⟩; obtain ⟨hc, hf⟩ := bcell hb; have hz := hb.size; simp at hz; simp at hnb; have hz1 : w.heap.size < w1.heap.size := (by omega); try (have hz2 : w.heap.size + 1 < w1.heap.size := (by omega)); try (have hz3 : w.heap.size + 1 + 1 < w1.heap.size := (by omega))))
  all_goals
    have hB1 : Below w.heap.size w w1 := by
      refine below_call ?_ hb
      repeat with_reducible (first | assumption | exact Below.refl _ _ | refine Below.setCell ?_ (by first | omega | (simp <;> omega)) _ | refine Below.alloc ?_ (by first | omega | (simp <;> omega)) _ | refine Below.drew ?_)
    have HNB := Lib.hid hnb; have HBL := Lib.hid (Array.getElem?_eq_some_iff.1 hnew).1; have HB := Lib.hid hB1; have HN := Lib.hid hnew; clear hnb hB1 hnew hb
    go_wp2_with fail
    refine (keeps_any F S J L H (some b) a n cap xs _ (hN.below ?_) hr).mono ?_
    · have hnb := HNB.out
      repeat with_reducible (first | assumption | exact HB.out | exact Below.refl _ _ | refine Below.setCell ?_ (by first | omega | (simp <;> omega)) _ | refine Below.alloc ?_ (by first | omega | (simp <;> omega)) _ | refine Below.drew ?_)
    rintro e w2 ⟨rfl, hb2⟩
    rw [hk]
    have hB2 : Below w.heap.size w w2 := by
      refine below_call ?_ hb2
      have hnb := HNB.out
      repeat with_reducible (first | assumption | exact HB.out | exact Below.refl _ _ | refine Below.setCell ?_ (by first | omega | (simp <;> omega)) _ | refine Below.alloc ?_ (by first | omega | (simp <;> omega)) _ | refine Below.drew ?_)
    have HB2 := Lib.hid hB2; clear hB2 hb2
    go_wp2_with fail
    go_ret2
    exact ⟨rfl, HB2.out⟩

/-- What the scale shows at the beginning of the tick k. -/
def shownAt (f : Int) (xs : List Int) (k : Nat) : Int := f + 1000 * k + sumL (xs.take k)
def shownTo (f : Int) (xs : List Int) (k : Nat) : List Int := (List.range (k + 1)).map (shownAt f xs)
def shownL (f : Int) (xs : List Int) : List Int := shownTo f xs xs.length
theorem sumL_append (l m : List Int) : sumL (l ++ m) = sumL l + sumL m := by
  induction l with
  | nil => simp [sumL]
  | cons x l ih => simp only [sumL, List.cons_append, List.foldr_cons] at ih ⊢; omega
theorem shownAt_succ (f : Int) (xs : List Int) (k : Nat) (h : k < xs.length) : shownAt f xs (k + 1) = shownAt f xs k + (1000 + xs[k]?.getD 0) := by
  unfold shownAt
  rw [take_snoc_getD xs k h, sumL_append, List.getD_eq_getElem?_getD]
  simp [sumL]; omega
theorem shownTo_succ (f : Int) (xs : List Int) (k : Nat) : shownTo f xs (k + 1) = shownTo f xs k ++ [shownAt f xs (k + 1)] := by
  simp [shownTo, List.range_succ]
theorem keepsB_mem (F S J : Int) (l : List Int) : ∀ d, keepsB F S J d l = true → ∀ x ∈ l, -S ≤ x ∧ x ≤ F := by
  induction l with
  | nil => intro d _ x hx; cases hx
  | cons n l ih =>
    intro d h x hx
    simp only [keepsB, Bool.and_eq_true, lies_iff] at h
    rcases List.mem_cons.1 hx with rfl | hx
    · exact h.1.1
    · exact ih n h.2 x hx
theorem sumL_abs (xs : List Int) (h1 : ∀ x ∈ xs, -500 ≤ x ∧ x ≤ 500) : -(500 * (xs.length : Int)) ≤ sumL xs ∧ sumL xs ≤ 500 * xs.length := by
  induction xs with
  | nil => simp [sumL]
  | cons x xs ih =>
    have h2 := ih (fun y hy => h1 y (by simp [hy]))
    have hx := h1 x (by simp)
    simp only [sumL, List.foldr_cons, List.length_cons] at h2 ⊢
    omega
theorem shownAt_bd (f : Int) (xs : List Int) (k : Nat) (h1 : ∀ x ∈ xs, -500 ≤ x ∧ x ≤ 500) (hf : 0 ≤ f ∧ f ≤ 10000000) (hk : k ≤ 200) : 0 ≤ shownAt f xs k ∧ shownAt f xs k ≤ 11000000 := by
  have h2 := sumL_abs (xs.take k) (fun x hx => h1 x (List.mem_of_mem_take hx))
  have h3 : (xs.take k).length ≤ k := List.length_take_le _ _
  unfold shownAt
  omega
/-- A result that is a slice of numbers in the call's own memory, and a code. -/
def ListPost (code : Int) (l : List Int) (w : World) (e : Ending) (w' : World) : Prop := ∃ a cap, e = .returned (.tuple #[.slice a l.length cap, .int .i64 code]) ∧ (Nums w' a l.length l ∧ l.length ≤ cap ∧ ∀ g o, a = some ⟨g, o, none⟩ → 0 < l.length → w.heap.size ≤ g) ∧ Below w.heap.size w w'
theorem ownsRow_new (W : World) (base : Nat) (x : Value) (hb : base ≤ W.heap.size) : (W.alloc (.cells #[x] 3)).ownsRow base 3 1 (.slice (some ⟨W.heap.size, 0, none⟩) 1 1) 1 [x] :=
  ⟨rfl, .inr ⟨W.heap.size, 1, #[x], rfl, hb, World.alloc_heap_new W _, Nat.le_refl _, by decide, rfl, rfl⟩⟩


end Go.Proofs.YtidnopmjhhmedaaDoor
end

section
/- Shown: what it returns of what it takes. -/
set_option linter.unusedSimpArgs false
set_option linter.unusedVariables false
namespace Go.Proofs.YtidnopmjhhmedaaDoor
open Go.RowKit

theorem own_ge {w : World} {base : Nat} {e : TypeId} {size n : Nat} {v : Value} {xs : List Value} (h : w.ownsRow base e size v n xs) : ∀ k, v.ownBlock = some k → base ≤ k := by
  intro k hk
  rcases h.2 with ⟨rfl, _⟩ | ⟨g, cap, cur, rfl, hb, _⟩
  · simp [Value.ownBlock] at hk
  · have : g = k := by simpa [Value.ownBlock] using hk
    omega

theorem shown_fin {f : Int} {xs : List Int} {k : Nat} (hk : xs.length = k) {W : World} {base : Nat} {v : Value} (h : W.ownsRow base 3 1 v (k + 1) ((shownTo f xs k).map (Value.int .i64))) (hs : k ≤ 200) :
    ∃ g cap, v = .slice (some ⟨g, 0, none⟩) (k + 1) cap ∧ k + 1 ≤ cap ∧ base ≤ g ∧ Nums W (some ⟨g, 0, none⟩) (shownL f xs).length (shownL f xs) := by
  have hl : (shownL f xs).length = k + 1 := by simp [shownL, shownTo, hk]
  have hown := h
  rcases h.2 with ⟨_, h0⟩ | ⟨g, cap, cur, rfl, hbg, _, hc, _⟩
  · omega
  · refine ⟨g, cap, rfl, hc, hbg, rfl, by omega, fun _ => ⟨g, 0, rfl, fun j hj => ?_⟩⟩
    rw [Nat.zero_add, hown.cellAt j (by omega), List.getElem?_map]
    have e : shownTo f xs k = shownL f xs := by rw [shownL, hk]
    rw [e, List.getElem?_eq_getElem hj]
    simp [List.getD_eq_getElem?_getD, hj]

set_option maxRecDepth 100000 in
set_option maxHeartbeats 1000000 in
theorem Shown_ok (F S J L H f : Int) (a : Option Addr) (n cap : Nat) (xs : List Int) (w : World) (hN : Nums w a n xs) (hr : isRuleB F S J L H = true) (hl : lies f 0 10000000 = true) (hn : n ≤ 200) (hk : keepsB F S J 0 xs = true) :
    Calls Tryd.prog 24 #[.agg #[.int .i64 F, .int .i64 S, .int .i64 J, .int .i64 L, .int .i64 H], .int .i64 f, .slice a n cap] w (ListPost 0 (shownL f xs) w) := by
  obtain ⟨hF, hS, hJ, _⟩ := isRuleB_spec hr
  have hfb := lies_iff.1 hl
  have hmem : ∀ x ∈ xs, -500 ≤ x ∧ x ≤ 500 := fun x hx => by have := keepsB_mem F S J xs 0 hk x hx; omega
  obtain ⟨i0, hi, hy0, hy1, hy2⟩ := info_parts Tryd.info3
  have HM := Lib.hid hmem; clear hmem
  have hm := hN.2.1
  go_enter Tryd.func24, Tryd.ntmps24
  go_wp2_with fail
  go_region_held3 (fun W1 : World => W1.cell? ⟨w.heap.size, 0, none⟩ = some (.int .i64 F) ∧ W1.cell? ⟨w.heap.size, 1, none⟩ = some (.int .i64 S) ∧ W1.cell? ⟨w.heap.size, 2, none⟩ = some (.int .i64 J) ∧ W1.cell? ⟨w.heap.size, 3, none⟩ = some (.int .i64 L) ∧ W1.cell? ⟨w.heap.size, 4, none⟩ = some (.int .i64 H)) (first | with_reducible exact At5.below hq hb | (rename_i hq2 _ _; first | with_reducible exact hq2 | with_reducible exact At5.alloc hq2 _ | ((repeat with_reducible refine At5.setCell ?_ (by first | omega | (simp <;> omega))) <;> with_reducible exact hq2)) | (simp [go_sem, *]; done))
    (first | (go_at_call 57; rename_i hq _ _; refine (lies_is hl _).mono ?_; rintro e w' ⟨rfl, rfl⟩) | (go_at_call 54; rename_i hq _ _; refine (opened_ok' F S J L H (by first | rfl | (simp; omega)) _ hr).mono ?_; rintro e w1 ⟨b, rfl, hb, hnb, hnew⟩; obtain ⟨hc, hf⟩ := bcell hb; have hz := hb.size; simp at hz; simp at hnb; have hz1 : w.heap.size < w1.heap.size := (by omega); try (have hz2 : w.heap.size + 1 < w1.heap.size := (by omega)); try (have hz3 : w.heap.size + 1 + 1 < w1.heap.size := (by omega))))
  all_goals
    have hB1 : Below w.heap.size w w1 := by
      refine below_call ?_ hb
      repeat with_reducible (first | assumption | exact Below.refl _ _ | refine Below.setCell ?_ (by first | omega | (simp <;> omega)) _ | refine Below.alloc ?_ (by first | omega | (simp <;> omega)) _ | refine Below.drew ?_)
    have HNB := Lib.hid hnb; have HBL := Lib.hid (Array.getElem?_eq_some_iff.1 hnew).1; have HB := Lib.hid hB1; have HN := Lib.hid hnew; clear hnb hB1 hnew hb
    go_wp2_with fail
    refine (keeps_any F S J L H (some b) a n cap xs _ (hN.below ?_) hr).mono ?_
    · have hnb := HNB.out
      repeat with_reducible (first | assumption | exact HB.out | exact Below.refl _ _ | refine Below.setCell ?_ (by first | omega | (simp <;> omega)) _ | refine Below.alloc ?_ (by first | omega | (simp <;> omega)) _ | refine Below.drew ?_)
    rintro e w2 ⟨rfl, hb2⟩
    rw [hk]
    have hB2 : Below w.heap.size w w2 := by
      refine below_call ?_ hb2
      have hnb := HNB.out
      repeat with_reducible (first | assumption | exact HB.out | exact Below.refl _ _ | refine Below.setCell ?_ (by first | omega | (simp <;> omega)) _ | refine Below.alloc ?_ (by first | omega | (simp <;> omega)) _ | refine Below.drew ?_)
    have hN2 := hN.below hB2
    have hl2 := hN.1
    have HL := Lib.hid hl2; clear hl2
    have HC := Lib.hid hN2.2.2
    have hzw := hB2.size
    have HB2 := Lib.hid hB2; clear hB2 hb2 hN2
    have hs0 : shownAt f xs 0 = f := by simp [shownAt, sumL]
    go_wp2
    go_loopw [1, 10, 36] (fun t v i wr => ∃ k : Nat, k ≤ n ∧ i = .int .i64 k ∧ t = .int .i64 (shownAt f xs k) ∧ wr.ownsRow w.heap.size 3 1 v (k + 1) ((shownTo f xs k).map (Value.int .i64)) ∧ Below w.heap.size w wr) (fun _ _ i _ => n - (intOf i).toNat)
    case atStart =>
      refine ⟨0, Nat.zero_le _, rfl, by rw [hs0], ?_, HB2.out.alloc hzw _⟩
      have := ownsRow_new w2 w.heap.size (.int .i64 f) hzw
      simpa [shownTo, hs0] using this
    case round =>
      obtain ⟨k, hk, rfl, rfl, hown, hB⟩ := hrel
      have hbz := hB.size
      by_cases hlt : k < n
      · obtain ⟨pb, po, hpa, hcell⟩ := hN.2.2 (by omega)
        have hck := cell_below hB (hcell k hlt)
        rw [List.getD_eq_getElem?_getD] at hck
        have hsucc := shownAt_succ f xs k (by rw [HL.out]; exact hlt)
        have hb1 := shownAt_bd f xs k HM.out hfb (by omega)
        have hb2 := shownAt_bd f xs (k + 1) HM.out hfb (by omega)
        rw [hsucc] at hb2
        have hx1 : -500 ≤ xs[k]?.getD 0 ∧ xs[k]?.getD 0 ≤ 500 := by
          have h2 : k < xs.length := by rw [HL.out]; exact hlt
          have := HM.out (xs[k]) (List.getElem_mem h2)
          simpa [h2] using this
        obtain ⟨hb1a, hb1b⟩ := hb1
        obtain ⟨hb2a, hb2b⟩ := hb2
        obtain ⟨hx1a, hx1b⟩ := hx1
        have HSU := Lib.hid hsucc
        clear hsucc
        subst hpa
        clear hcell hc hf
        go_wp2_with (at_builtin; go_loud (refine wpList_append_own _ rfl _ _ 26 rfl w.heap.size 3 i0 (.int .i64 0) 1 8 Tryd.underlying26 hi hy0 hy1 hy2 rfl (by decide) _ _ _ rfl (hown.alloc _) ⟨wr.heap.size, 0, none⟩ 1 1 [.int .i64 (shownAt f xs k + (1000 + xs[k]?.getD 0))] rfl rfl (cell_one_new _ _ _) (by simp [Value.oneCell']) (by unfold maxLen; omega) (by omega) (by simp; omega) ?_); intro v' w3 hown' hgrow _)
        have hown2 : w3.ownsRow w.heap.size 3 1 v' (k + 1 + 1) ((shownTo f xs (k + 1)).map (Value.int .i64)) := by
          rw [shownTo_succ, HSU.out]
          simpa using hown'
        have hB3 : Below w.heap.size w w3 := (hB.alloc hbz _).grown hgrow (by simp; omega) (own_ge hown)
        clear hown' hgrow
        go_roundw
        case rel => exact ⟨k + 1, by omega, by go_num, by rw [HSU.out], hown2, hB3⟩
        case measure => simp [intOf]; omega
      · obtain rfl : k = n := by omega
        have hfin := shown_fin (HL.out) hown (by omega)
        obtain ⟨g, cap2, rfl, hcap, hbg, hNN⟩ := hfin
        have HNN := Lib.hid hNN
        clear hNN
        go_wp2
        go_ret2
        have hlen : (shownL f xs).length = k + 1 := by simp [shownL, shownTo, HL.out]
        refine ⟨some ⟨g, 0, none⟩, k + 1, by (rw [hlen]; rfl), ⟨HNN.out, by rw [hlen]; exact Nat.le_refl _, fun g' o' ha _ => ?_⟩, hB⟩
        injection ha with ha
        injection ha with ha
        omega

end Go.Proofs.YtidnopmjhhmedaaDoor
end

section
/- The levels of a plan. -/
set_option linter.unusedSimpArgs false
set_option linter.unusedVariables false
namespace Go.Proofs.YtidnopmjhhmedaaDoor
open Go.RowKit

def levelL (n : Int) (xs : List Int) : List Int := xs.map fun m => min n m
/-- A result that is a list of its own, in new memory. -/
def OwnPost (l : List Int) (w : World) (e : Ending) (w' : World) : Prop := ∃ v, e = .returned v ∧ w'.ownsRow w.heap.size 3 1 v l.length (l.map (Value.int .i64)) ∧ Below w.heap.size w w'
theorem levelL_take (n : Int) (xs : List Int) (k : Nat) (h : k < xs.length) : levelL n (xs.take (k + 1)) = levelL n (xs.take k) ++ [min n (xs[k]?.getD 0)] := by
  rw [take_snoc_getD xs k h, List.getD_eq_getElem?_getD]; simp [levelL]

set_option maxRecDepth 100000 in
set_option maxHeartbeats 1000000 in
theorem level_any (N : Int) (B : Nat) (a : Option Addr) (n cap : Nat) (xs : List Int) (w : World) (hB : w.cell? ⟨B, 0, none⟩ = some (.slice a n cap)) (hN : Nums w a n xs) (hn : n ≤ 200) :
    Calls Tryd.prog 66 #[.int .i64 N, .pointer (some ⟨B, 0, none⟩)] w (OwnPost (levelL N xs) w) := by
  obtain ⟨i0, hi, hy0, hy1, hy2⟩ := info_parts Tryd.info3
  have hl := hN.1
  have HL := Lib.hid hl; clear hl
  have HC := Lib.hid hN.2.2
  clear hN
  go_enter Tryd.func66, Tryd.ntmps66
  go_wp2
  go_loopw [4, 6, 9] (fun v _ i wr => ∃ k : Nat, k ≤ n ∧ i = .int .i64 k ∧ wr.ownsRow w.heap.size 3 1 v k ((levelL N (xs.take k)).map (Value.int .i64)) ∧ Below w.heap.size w wr) (fun _ _ i _ => n - (intOf i).toNat)
  case atStart => exact ⟨0, Nat.zero_le _, rfl, World.ownsRow_nil _ _ _ _, Below.refl _ _⟩
  case round =>
    obtain ⟨k, hk, rfl, hown, hB1⟩ := hrel
    have hbz := hB1.size
    by_cases hlt : k < n
    · obtain ⟨pb, po, rfl, hcell⟩ := HC.out (by omega)
      have hck := cell_below hB1 (hcell k hlt)
      rw [List.getD_eq_getElem?_getD] at hck
      clear hcell
      have HT := Lib.hid (levelL_take N xs k (by rw [HL.out]; exact hlt))
      go_wp2_with (at_builtin; refine wpList_append_own _ rfl _ _ 26 rfl w.heap.size 3 i0 (.int .i64 0) 1 8 Tryd.underlying26 hi hy0 hy1 hy2 rfl (by decide) _ _ _ rfl (hown.alloc _) ⟨wr.heap.size, 0, none⟩ 1 1 [.int .i64 (min N (xs[k]?.getD 0))] rfl rfl (cell_one_new _ _ _) (by simp [Value.oneCell']) (by unfold maxLen; omega) (by omega) (by simp; omega) ?_; intro v' w3 hown' hgrow _)
      have hown2 : w3.ownsRow w.heap.size 3 1 v' (k + 1) ((levelL N (xs.take (k + 1))).map (Value.int .i64)) := by
        rw [HT.out]
        simpa using hown'
      have hB3 : Below w.heap.size w w3 := (hB1.alloc hbz _).grown hgrow (by simp; omega) (own_ge hown)
      clear hown' hgrow
      go_roundw
      case rel => exact ⟨k + 1, by omega, by go_num, hown2, hB3⟩
      case measure => simp [intOf]; omega
    · obtain rfl : k = n := by omega
      have hx : xs.take k = xs := List.take_of_length_le (by rw [HL.out]; omega)
      have hl2 : (levelL N xs).length = k := by simp [levelL, HL.out]
      rw [hx] at hown
      have HO := Lib.hid hown
      have HL2 := Lib.hid hl2
      clear hx hl2 hown
      go_wp2
      go_ret
      exact ⟨_, rfl, by rw [HL2.out]; exact HO.out, hB1⟩

end Go.Proofs.YtidnopmjhhmedaaDoor
end

section
/- Plain: the levels of a plan, and its adjustments. -/
set_option linter.unusedSimpArgs false
set_option linter.unusedVariables false
namespace Go.Proofs.YtidnopmjhhmedaaDoor
open Go.RowKit

/-- The level: the greatest one, from k on, at which all ticks together are at most what is wanted. -/
def nFrom (want : Int) (xs : List Int) : Nat → Nat → Nat
  | 0, k => k
  | d + 1, k => if sumL (levelL (k + 1) xs) ≤ want then nFrom want xs d (k + 1) else k
def nLevel (want : Int) (xs : List Int) : Nat := nFrom want xs 500 0
def fillS (n : Int) : Int → List Int → Int
  | left, [] => left
  | left, m :: ms => if 0 < left ∧ n < m then fillS n (left - 1) ms else fillS n left ms
def fillL (n : Int) : Int → List Int → List Int
  | _, [] => []
  | left, m :: ms => if 0 < left ∧ n < m then (min n m + 1) :: fillL n (left - 1) ms else min n m :: fillL n left ms
theorem fillL_length (n : Int) (xs : List Int) : ∀ left, (fillL n left xs).length = xs.length := by
  induction xs with
  | nil => intro left; rfl
  | cons m ms ih => intro left; simp only [fillL]; split <;> simp [ih]
theorem fillL_snoc (n : Int) (xs : List Int) (m : Int) : ∀ left, fillL n left (xs ++ [m]) = fillL n left xs ++ [if 0 < fillS n left xs ∧ n < m then min n m + 1 else min n m] := by
  induction xs with
  | nil => intro left; simp only [List.nil_append, fillL, fillS]; split <;> simp [*]
  | cons x xs ih => intro left; simp only [List.cons_append, fillL, fillS]; split <;> simp [ih]
theorem fillS_snoc (n : Int) (xs : List Int) (m : Int) : ∀ left, fillS n left (xs ++ [m]) = if 0 < fillS n left xs ∧ n < m then fillS n left xs - 1 else fillS n left xs := by
  induction xs with
  | nil => intro left; simp only [List.nil_append, fillS]; split <;> rename_i h <;> first | (simp [h]; done) | (simp only [h, if_false]; done)
  | cons x xs ih => intro left; simp only [List.cons_append, fillS]; split <;> simp [ih]
theorem fillS_bd (n : Int) (xs : List Int) : ∀ left, fillS n left xs ≤ left ∧ (fillS n left xs = left ∨ 0 ≤ fillS n left xs) := by
  induction xs with
  | nil => intro left; exact ⟨Int.le_refl _, .inl rfl⟩
  | cons x xs ih =>
    intro left
    simp only [fillS]
    split
    · have := ih (left - 1); omega
    · exact ih left

/-- The list while it is filled: k ticks are done. -/
def midL (n left : Int) (xs : List Int) (k : Nat) : List Int := fillL n left (xs.take k) ++ levelL n (xs.drop k)
theorem midL_zero (n left : Int) (xs : List Int) : midL n left xs 0 = levelL n xs := by simp [midL, fillL]
theorem midL_end (n left : Int) (xs : List Int) : midL n left xs xs.length = fillL n left xs := by simp [midL, levelL]
theorem midL_length (n left : Int) (xs : List Int) (k : Nat) (h : k ≤ xs.length) : (midL n left xs k).length = xs.length := by
  simp [midL, fillL_length, levelL]; omega
theorem midL_at (n left : Int) (xs : List Int) (k : Nat) (h : k < xs.length) : (midL n left xs k)[k]? = some (min n (xs[k]?.getD 0)) := by
  have h1 : (fillL n left (xs.take k)).length = k := by rw [fillL_length]; simp; omega
  rw [midL, List.getElem?_append_right (by omega), h1]
  simp [levelL, h]
theorem drop_cons_getD (xs : List Int) (k : Nat) (h : k < xs.length) : xs.drop k = xs[k]?.getD 0 :: xs.drop (k + 1) := by
  rw [List.drop_eq_getElem_cons h]; simp [h]
theorem set_append_at (l m : List Int) (x y : Int) (k : Nat) (h : l.length = k) : (l ++ x :: m).set k y = (l ++ [y]) ++ m := by
  subst h; simp
theorem midL_succ (n left : Int) (xs : List Int) (k : Nat) (h : k < xs.length) :
    midL n left xs (k + 1) = (midL n left xs k).set k (if 0 < fillS n left (xs.take k) ∧ n < xs[k]?.getD 0 then min n (xs[k]?.getD 0) + 1 else min n (xs[k]?.getD 0)) := by
  have h1 : (fillL n left (xs.take k)).length = k := by rw [fillL_length]; simp; omega
  unfold midL
  rw [take_snoc_getD xs k h, List.getD_eq_getElem?_getD, fillL_snoc, drop_cons_getD xs k h]
  simp only [levelL, List.map_cons]
  rw [set_append_at _ _ _ _ k h1]
theorem midL_go (n left : Int) (xs : List Int) (k : Nat) (h : k < xs.length) (hc : 0 < fillS n left (xs.take k) ∧ n < xs[k]?.getD 0) :
    midL n left xs (k + 1) = (midL n left xs k).set k (min n (xs[k]?.getD 0) + 1) ∧ fillS n left (xs.take (k + 1)) = fillS n left (xs.take k) - 1 := by
  refine ⟨by rw [midL_succ n left xs k h, if_pos hc], ?_⟩
  rw [take_snoc_getD xs k h, List.getD_eq_getElem?_getD, fillS_snoc, if_pos hc]
theorem midL_stay (n left : Int) (xs : List Int) (k : Nat) (h : k < xs.length) (hc : ¬ (0 < fillS n left (xs.take k) ∧ n < xs[k]?.getD 0)) :
    midL n left xs (k + 1) = midL n left xs k ∧ fillS n left (xs.take (k + 1)) = fillS n left (xs.take k) := by
  constructor
  · rw [midL_succ n left xs k h, if_neg hc]
    have h2 := midL_at n left xs k h
    have h3 : k < (midL n left xs k).length := by rw [midL_length n left xs k (by omega)]; exact h
    apply List.ext_getElem?
    intro i
    rw [List.getElem?_set]
    split
    · rename_i e; subst e; first | exact h2.symm | (rw [if_pos h3, h2])
    · rfl
  · rw [take_snoc_getD xs k h, List.getD_eq_getElem?_getD, fillS_snoc, if_neg hc]

def mulL (s : Int) (l : List Int) (k : Nat) : List Int := (l.take k).map (fun x => x * s) ++ l.drop k
theorem mulL_zero (s : Int) (l : List Int) : mulL s l 0 = l := by simp [mulL]
theorem mulL_end (s : Int) (l : List Int) : mulL s l l.length = l.map fun x => x * s := by simp [mulL]
theorem mulL_at (s : Int) (l : List Int) (k : Nat) (h : k < l.length) : (mulL s l k)[k]? = some (l[k]?.getD 0) := by
  have h1 : ((l.take k).map (fun x => x * s)).length = k := by simp; omega
  rw [mulL, List.getElem?_append_right (by omega), h1]
  simp [h]
theorem mulL_succ (s : Int) (l : List Int) (k : Nat) (h : k < l.length) : mulL s l (k + 1) = (mulL s l k).set k (l[k]?.getD 0 * s) := by
  have h1 : ((l.take k).map (fun x => x * s)).length = k := by simp; omega
  unfold mulL
  rw [take_snoc_getD l k h, List.getD_eq_getElem?_getD, List.map_append, drop_cons_getD l k h, set_append_at _ _ _ _ k h1]
  simp
theorem fillL_bd (n : Int) (hn : 0 ≤ n) (hn2 : n ≤ 500) (xs : List Int) (h : ∀ x ∈ xs, 0 ≤ x ∧ x ≤ 500) : ∀ left, ∀ y ∈ fillL n left xs, 0 ≤ y ∧ y ≤ 501 := by
  induction xs with
  | nil => intro left y hy; cases hy
  | cons m ms ih =>
    intro left y hy
    have hm := h m (by simp)
    simp only [fillL] at hy
    split at hy
    · rcases List.mem_cons.1 hy with rfl | hy
      · omega
      · exact ih (fun x hx => h x (by simp [hx])) _ y hy
    · rcases List.mem_cons.1 hy with rfl | hy
      · omega
      · exact ih (fun x hx => h x (by simp [hx])) _ y hy
theorem levelL_bd (n : Int) (hn : 0 ≤ n) (xs : List Int) (h : ∀ x ∈ xs, 0 ≤ x ∧ x ≤ 500) : ∀ y ∈ levelL n xs, 0 ≤ y ∧ y ≤ 500 := by
  intro y hy
  simp only [levelL, List.mem_map] at hy
  obtain ⟨x, hx, rfl⟩ := hy
  have := h x hx
  omega
theorem total_level (n : Int) (hn : 0 ≤ n) (xs : List Int) (h : ∀ x ∈ xs, 0 ≤ x ∧ x ≤ 500) (hl : xs.length ≤ 200) : total (levelL n xs) = sumL (levelL n xs) :=
  total_small _ (levelL_bd n hn xs h) (by simpa [levelL] using hl)
theorem sumL_level_bd (n : Int) (hn : 0 ≤ n) (xs : List Int) (h : ∀ x ∈ xs, 0 ≤ x ∧ x ≤ 500) (hl : xs.length ≤ 200) : 0 ≤ sumL (levelL n xs) ∧ sumL (levelL n xs) ≤ 100000 := by
  have h1 := sumL_bd _ (levelL_bd n hn xs h)
  have h2 : (levelL n xs).length = xs.length := by simp [levelL]
  rw [h2] at h1
  omega

/-- A plan: how far each tick is steered. -/
def planOf (sign want : Int) (xs : List Int) : List Int := (fillL (nLevel want xs) (want - sumL (levelL (nLevel want xs) xs)) xs).map fun x => x * sign
theorem planOf_length (sign want : Int) (xs : List Int) : (planOf sign want xs).length = xs.length := by simp [planOf, fillL_length]
theorem own_some {w : World} {base : Nat} {n cap : Nat} {a : Option Addr} {xs : List Value} (h : w.ownsRow base 3 1 (.slice a n cap) n xs) : (0 < n → ∃ g, a = some ⟨g, 0, none⟩ ∧ base ≤ g) ∧ n ≤ cap ∧ n ≤ maxLen := by
  rcases h.2 with ⟨h0, h1⟩ | ⟨g, cap', cur, h0, hb, _, hc, hm, _⟩
  · simp only [Value.slice.injEq] at h0
    exact ⟨fun hn => by omega, by omega, by omega⟩
  · have ha : a = some ⟨g, 0, none⟩ := by injection h0
    have hk : cap = cap' := by injection h0
    exact ⟨fun _ => ⟨g, ha, hb⟩, by omega, by omega⟩
/-- What owns a row reads as its numbers. -/
theorem own_mono {w : World} {base base' : Nat} {v : Value} {n : Nat} {xs : List Value} (h : w.ownsRow base 3 1 v n xs) (hb : base' ≤ base) : w.ownsRow base' 3 1 v n xs :=
  ⟨h.1, h.2.imp id fun ⟨g, cap, cur, h1, h2, h3⟩ => ⟨g, cap, cur, h1, Nat.le_trans hb h2, h3⟩⟩
theorem nums_of_own {w : World} {base : Nat} {a : Option Addr} {n cap : Nat} {xs : List Int} (h : w.ownsRow base 3 1 (.slice a n cap) n (xs.map (Value.int .i64))) (hl : xs.length = n) (hn : n ≤ 17592186044416) : Nums w a n xs := by
  subst hl
  obtain ⟨a', cap', he, hN⟩ := nums_of_row h hn
  simp only [Value.slice.injEq] at he
  obtain ⟨rfl, _⟩ := he
  exact hN
theorem nums_putObj {w : World} {a : Option Addr} {n D : Nat} {xs : List Int} {o : Obj} (h : Nums w a n xs) (hD : ∀ g o', 0 < n → a = some ⟨g, o', none⟩ → g ≠ D) : Nums (w.putObj D o) a n xs := by
  refine ⟨h.1, h.2.1, fun hn => ?_⟩
  obtain ⟨g, o', ha, hc⟩ := h.2.2 hn
  exact ⟨g, o', ha, fun j hj => (World.cell?_of_block (World.putObj_heap_other (fun e => hD g o' hn ha e))).trans (hc j hj)⟩
theorem below_putObj {n D : Nat} {w W : World} {o : Obj} (h : Below n w W) (hD : n ≤ D) : Below n w (W.putObj D o) :=
  h.trans ⟨rfl, rfl, rfl, (grownBy_putObj' W D o).size, fun k hk => World.putObj_heap_other (by omega)⟩

end Go.Proofs.YtidnopmjhhmedaaDoor
end
