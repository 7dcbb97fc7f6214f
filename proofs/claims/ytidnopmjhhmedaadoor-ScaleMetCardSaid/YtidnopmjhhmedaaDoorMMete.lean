/- PROVED: ScaleMetCardSaid, for every input, where the listed variable reads as the program's text lays it. Part 5 of 5: of this session; merged by wip/tools/mkClaim.py. -/
import Derived.Test.YtidnopmjhhmedaaDoorMMetb
import Derived.Test.YtidnopmjhhmedaaDoorMMetc
import Derived.Test.YtidnopmjhhmedaaDoorMMetd
import Derived.Test.YtidnopmjhhmedaaDoorCards
import Derived.Test.YtidnopmjhhmedaaDoorTie
import Derived.WalkKit
import Derived.Below
import Derived.Carry
import Derived.SevenTiedAt
section
-- Written by wip/tools/pr.py (a program of this repo over the kit's print.py).
namespace Go.Proofs.TrydX.X
open Go.RowKit Go.Proofs.YtidnopmjhhmedaaDoorW.PrintWords Go.Proofs.YtidnopmjhhmedaaDoorW.PrintLast Go.Proofs.YtidnopmjhhmedaaDoorW.PrintMore
attribute [local go_sem] max2_int min2_int max_two min_two max_three min_three max_four min_four   -- for this text's walks alone
set_option linter.unusedVariables false
set_option linter.unusedSimpArgs false

/-! ### remontoirlaw04_ScaleMet: function 8 -/
mutual
def remontoirlaw04_ScaleMet.j0 : Nat → Int → List Int → List Int → Int → Int → Int → Bool → Int → Int → Int → Int → Int → Option (Bool)
  | 0, _, _, _, _, _, _, _, _, _, _, _, _ => none
  | k + 1, x1, x2, x7, x8, x9, x10, x39, x380000, x380001, x380002, x380003, x380004 => if x39 = true then (if x8 = 40 then (if x10 = x8 then (if (x7.length : Int) = 0 then (if x9 = 0 then ((remontoirlaw04_works.f).bind fun t388 => (some t388)) else (some false)) else (some false)) else (some false)) else (if x8 = 41 then (if x10 = x8 then (if (x7.length : Int) = 0 then (if x9 = 0 then ((remontoirlaw04_works.f).bind fun t389 => (some t389)) else (some false)) else (some false)) else (some false)) else (some false))) else (if x8 = x10 then (if x8 = 0 then ((scale_IsPlan.f x380000 x380001 x380002 x380003 x380004 x1 x7).bind fun bt396 => (if bt396.2 = 0 then (if bt396.1 = true then (if (x7.length : Int) = x9 then (if (x7.length : Int) > 200 then (remontoirlaw04_ScaleMet.j1 k x1 x2 x9 true x380000 x380001 x380002 x380003 x380004) else ((remontoirlaw04_kept.f k x380000 x380001 x380002 x380003 x380004 x7).bind fun t398 => (if t398 = true then ((remontoirref00_Total.f k x7).bind fun t399 => (if t399 = (wrap64 (-x1)) then (remontoirlaw04_ScaleMet.j1 k x1 x2 x9 ((x9 == 0) != (x1 == 0)) x380000 x380001 x380002 x380003 x380004) else (remontoirlaw04_ScaleMet.j1 k x1 x2 x9 true x380000 x380001 x380002 x380003 x380004))) else (remontoirlaw04_ScaleMet.j1 k x1 x2 x9 true x380000 x380001 x380002 x380003 x380004)))) else (remontoirlaw04_ScaleMet.j1 k x1 x2 x9 true x380000 x380001 x380002 x380003 x380004)) else (remontoirlaw04_ScaleMet.j1 k x1 x2 x9 true x380000 x380001 x380002 x380003 x380004)) else (remontoirlaw04_ScaleMet.j1 k x1 x2 x9 true x380000 x380001 x380002 x380003 x380004))) else ((scale_Reach.f x380000 x380001 x380002 x380003 x380004 200).bind fun bt390 => (if x8 = 4 then (if (x7.length : Int) = 0 then (if x9 = 0 then (if bt390.2.2 = 0 then ((remontoirref00_Has.f bt390.1 bt390.2.1 (wrap64 (-x1))).bind fun t394 => (if t394 = true then (some false) else ((remontoirlaw04_works.f).bind fun t395 => (some t395)))) else (some false)) else (some false)) else (some false)) else (some false)))) else (some false))
def remontoirlaw04_ScaleMet.j1 : Nat → Int → List Int → Int → Bool → Int → Int → Int → Int → Int → Option (Bool)
  | 0, _, _, _, _, _, _, _, _, _ => none
  | k + 1, x1, x2, x9, x141, x380000, x380001, x380002, x380003, x380004 => if x141 = true then (some false) else (if x9 = 0 then ((remontoirlaw04_works.f).bind fun t400 => (some t400)) else ((scale_Reach.f x380000 x380001 x380002 x380003 x380004 x9).bind fun bt401 => ((scale_Reach.f x380000 x380001 x380002 x380003 x380004 (wrap64 (x9 - 1))).bind fun bt405 => (if bt401.2.2 = 0 then (if bt405.2.2 = 0 then ((remontoirref00_Has.f bt401.1 bt401.2.1 (wrap64 (-x1))).bind fun t409 => (if t409 = true then ((remontoirref00_Has.f bt405.1 bt405.2.1 (wrap64 (-x1))).bind fun t410 => (remontoirlaw04_ScaleMet.j2 k x1 x2 x9 t410 x380000 x380001 x380002 x380003 x380004)) else (remontoirlaw04_ScaleMet.j2 k x1 x2 x9 true x380000 x380001 x380002 x380003 x380004))) else (remontoirlaw04_ScaleMet.j2 k x1 x2 x9 true x380000 x380001 x380002 x380003 x380004)) else (remontoirlaw04_ScaleMet.j2 k x1 x2 x9 true x380000 x380001 x380002 x380003 x380004)))))
def remontoirlaw04_ScaleMet.j2 : Nat → Int → List Int → Int → Bool → Int → Int → Int → Int → Int → Option (Bool)
  | 0, _, _, _, _, _, _, _, _, _ => none
  | k + 1, x1, x2, x9, x176, x380000, x380001, x380002, x380003, x380004 => if x176 = true then (some false) else ((remontoirref00_At.f x2 0).bind fun t411 => ((remontoirref00_Rest.f t411 (mn x9 60)).bind fun t412 => ((remontoirlaw04_steered.f k x380000 x380001 x380002 x380003 x380004 t412 x2 true).bind fun t413 => ((scale_IsPlan.f x380000 x380001 x380002 x380003 x380004 x1 t413).bind fun bt416 => (if bt416.2 = 0 then (if bt416.1 = true then (some false) else ((remontoirlaw04_works.f).bind fun t418 => (some t418))) else (some false))))))
end
def remontoirlaw04_ScaleMet.f (k : Nat) (a0_0 : Int) (a0_1 : Int) (a0_2 : Int) (a0_3 : Int) (a0_4 : Int) (a1 : Int) (l2 : List Int) : Option (Bool) := (scale_Plan.f a0_0 a0_1 a0_2 a0_3 a0_4 a1).bind fun bt380 => ((scale_Fewest.f a0_0 a0_1 a0_2 a0_3 a0_4 a1).bind fun bt384 => ((remontoirlaw04_isRule.f a0_0 a0_1 a0_2 a0_3 a0_4).bind fun t386 => (if t386 = true then ((remontoirref00_Lies.f a1 (-20000) 20000).bind fun t387 => (remontoirlaw04_ScaleMet.j0 k a1 l2 bt380.1 bt380.2 bt384.1 bt384.2 (!t387) a0_0 a0_1 a0_2 a0_3 a0_4)) else (remontoirlaw04_ScaleMet.j0 k a1 l2 bt380.1 bt380.2 bt384.1 bt384.2 true a0_0 a0_1 a0_2 a0_3 a0_4))))
def remontoirlaw04_ScaleMet.T19 : Bool × List (List Nat × List Nat) := (true, [([], []), ([], []), ([1], [1]), ([], []), ([3], [3]), ([2, 4, 2], [2, 4]), ([], []), ([0, 5, 6, 5], [0, 5, 6]), ([7, 7, 0, 1, 2, 3, 4, 5, 6, 7], [7])])
def remontoirlaw04_ScaleMet.B19 : List Nat := [0, 0, 2, 0, 8, 30, 0, 127, 255]
theorem remontoirlaw04_ScaleMet.tab19 : rtab .any (opsOf Tryd.f8 19) = remontoirlaw04_ScaleMet.T19 := by kernel_rfl
theorem remontoirlaw04_ScaleMet.bits19 : waitsOk remontoirlaw04_ScaleMet.T19.2 remontoirlaw04_ScaleMet.B19 = true := by kernel_rfl
set_option maxHeartbeats 8000000 in
set_option maxRecDepth 100000 in
theorem remontoirlaw04_ScaleMet.calls (k : Nat) (a0_0 : Int) (a0_1 : Int) (a0_2 : Int) (a0_3 : Int) (a0_4 : Int) (a1 : Int) (A2 : Option Addr) (c2 : Nat) (l2 : List Int) (r : Bool) (w : World) (hr2 : Kd.C (Kd.int .i64) w A2 l2.length l2) (hc2 : l2.length ≤ c2) (hWays : Go.Proofs.YtidnopmjhhmedaaDoor.Ways w) (h : remontoirlaw04_ScaleMet.f k a0_0 a0_1 a0_2 a0_3 a0_4 a1 l2 = some r) :
    Calls Tryd.prog 8 #[.agg #[.int .i64 a0_0, .int .i64 a0_1, .int .i64 a0_2, .int .i64 a0_3, .int .i64 a0_4], .int .i64 a1, .slice A2 l2.length c2] w fun e w' => e = .returned (.bool r) ∧ Below w.heap.size w w' := by
  have hu25 := Tryd.underlying25
  have hu23 := Tryd.underlying23
  have HR2 := Aside0.mk hr2
  have HC2 := Aside0.mk hc2
  clear hr2 hc2
  have HB := Aside0.mk (Below.refl w.heap.size w)
  have HWays := Aside0.mk hWays
  clear hWays
  have H : ((scale_Plan.f a0_0 a0_1 a0_2 a0_3 a0_4 a1).bind fun bt380 => ((scale_Fewest.f a0_0 a0_1 a0_2 a0_3 a0_4 a1).bind fun bt384 => ((remontoirlaw04_isRule.f a0_0 a0_1 a0_2 a0_3 a0_4).bind fun t386 => (if t386 = true then ((remontoirref00_Lies.f a1 (-20000) 20000).bind fun t387 => (remontoirlaw04_ScaleMet.j0 k a1 l2 bt380.1 bt380.2 bt384.1 bt384.2 (!t387) a0_0 a0_1 a0_2 a0_3 a0_4)) else (remontoirlaw04_ScaleMet.j0 k a1 l2 bt380.1 bt380.2 bt384.1 bt384.2 true a0_0 a0_1 a0_2 a0_3 a0_4))))) = some r := h
  clear h
  replace H := Option.bind_eq_some_iff.mp H
  obtain ⟨⟨t380, t383⟩, A40, H⟩ := H
  replace H : ((scale_Fewest.f a0_0 a0_1 a0_2 a0_3 a0_4 a1).bind fun bt384 => ((remontoirlaw04_isRule.f a0_0 a0_1 a0_2 a0_3 a0_4).bind fun t386 => (if t386 = true then ((remontoirref00_Lies.f a1 (-20000) 20000).bind fun t387 => (remontoirlaw04_ScaleMet.j0 k a1 l2 t380 t383 bt384.1 bt384.2 (!t387) a0_0 a0_1 a0_2 a0_3 a0_4)) else (remontoirlaw04_ScaleMet.j0 k a1 l2 t380 t383 bt384.1 bt384.2 true a0_0 a0_1 a0_2 a0_3 a0_4)))) = some r := H
  have A4 := Aside0.mk A40
  clear A40
  replace H := Option.bind_eq_some_iff.mp H
  obtain ⟨⟨t384, t385⟩, A50, H⟩ := H
  replace H : ((remontoirlaw04_isRule.f a0_0 a0_1 a0_2 a0_3 a0_4).bind fun t386 => (if t386 = true then ((remontoirref00_Lies.f a1 (-20000) 20000).bind fun t387 => (remontoirlaw04_ScaleMet.j0 k a1 l2 t380 t383 t384 t385 (!t387) a0_0 a0_1 a0_2 a0_3 a0_4)) else (remontoirlaw04_ScaleMet.j0 k a1 l2 t380 t383 t384 t385 true a0_0 a0_1 a0_2 a0_3 a0_4))) = some r := H
  have A5 := Aside0.mk A50
  clear A50
  have HC6 := Aside0.mk H
  clear H
  go_enter Tryd.func8, Tryd.ntmps8
  go_upto_region 3 with (first | ((with_reducible refine gate_dst (N := 3) rfl ?_); (try (refine gate_guard (by rfl) ?_; dsimp only)); refine box_event ?hg (N := 3) ?hd (cs := #[.int .i64 a0_0, .int .i64 a0_1, .int .i64 a0_2, .int .i64 a0_3, .int .i64 a0_4]) (t := 25) ?hr ?_; (case hd => rfl); (case hg => rfl); (case hr => first | (go_simp; done) | (go_simp; rfl)); intro gb379 hg w7 hbox hb; have n0_ := Aside0.mk (below_step (by repeat (first | (with_reducible first | exact HB.out | apply below_alloc | apply pw_below_drewN | apply below_drew1) | exact HB.out)) hb); have n1_ := Aside0.mk (hbox); have n2_ := Aside0.mk ((by rw [hg]; exact (below_size (by repeat (first | (with_reducible first | exact HB.out | apply below_alloc | apply pw_below_drewN | apply below_drew1) | exact HB.out))) : w.heap.size ≤ gb379)); have n3_ := Aside0.mk ((by rw [hg]; exact (below_size (by repeat (first | (with_reducible first | exact HB.out | apply below_alloc | apply pw_below_drewN | apply below_drew1) | exact HB.out))) : w.heap.size ≤ gb379)); clear HB; have HB := n0_; have BK379 := n1_; have GW379 := n2_; have GE379 := n3_; clear n0_ n1_ n2_ n3_; clear hb hbox hg; have hcz8_0 : w7.cell? ⟨gb379, 0, none⟩ = some (.int .i64 a0_0) := (blk_cell BK379.out 0).trans rfl; have hcz8_1 : w7.cell? ⟨gb379, 1, none⟩ = some (.int .i64 a0_1) := (blk_cell BK379.out 1).trans rfl; have hcz8_2 : w7.cell? ⟨gb379, 2, none⟩ = some (.int .i64 a0_2) := (blk_cell BK379.out 2).trans rfl; have hcz8_3 : w7.cell? ⟨gb379, 3, none⟩ = some (.int .i64 a0_3) := (blk_cell BK379.out 3).trans rfl; have hcz8_4 : w7.cell? ⟨gb379, 4, none⟩ = some (.int .i64 a0_4) := (blk_cell BK379.out 4).trans rfl; have hfz8_0 := blk_frozen BK379.out 0; have hfz8_1 := blk_frozen BK379.out 1; have hfz8_2 := blk_frozen BK379.out 2; have hfz8_3 := blk_frozen BK379.out 3; have hfz8_4 := blk_frozen BK379.out 4) | ((with_reducible refine gate_callee (f := 20) rfl ?_); refine goesL_ (some 23) rfl rfl Tryd.func20 (by kernel_rfl) rfl #[.agg #[.int .i64 a0_0, .int .i64 a0_1, .int .i64 a0_2, .int .i64 a0_3, .int .i64 a0_4], .int .i64 a1] rfl (by (try simp only [List.map_toArray, List.map_cons, List.map_nil]); first | done | rfl | (simp only [List.length_drop, List.length_take]; rfl)) ?_; (with_reducible refine (scale_Plan.calls a0_0 a0_1 a0_2 a0_3 a0_4 a1 t380 t383 _ ?side1 A4.out).mono ?_); (case side1 => exact Go.Proofs.YtidnopmjhhmedaaDoor.Ways.below HWays.out (by repeat (first | (with_reducible first | exact HB.out | apply below_alloc | apply pw_below_drewN | apply below_drew1 | refine below_set ?_ GE379.out) | exact HB.out))); rintro e w9 ⟨v381, rfl, ho0, hb⟩; refine ⟨_, rfl, ?_⟩; have n0_ := Aside0.mk (Kd.V_lower (Kd.V_mono (ok' := fun k_ => k_ ≠ gb379) ho0 (fun k_ hk_ => (Kd.freshB (g := gb379) (o := .cells #[.int .i64 a0_0, .int .i64 a0_1, .int .i64 a0_2, .int .i64 a0_3, .int .i64 a0_4] 25 (0, 0)) (by (with_reducible repeat (first | refine blk_drewN ?_ _ | refine blk_drew ?_ | refine blk_alloc ?_ _)); exact BK379.out) k_ hk_))) (below_size (by repeat (first | (with_reducible first | exact HB.out | apply below_alloc | apply pw_below_drewN | apply below_drew1 | refine below_set ?_ GE379.out) | exact HB.out)))); have n1_ := Aside0.mk (blk_below (g := gb379) (o := .cells #[.int .i64 a0_0, .int .i64 a0_1, .int .i64 a0_2, .int .i64 a0_3, .int .i64 a0_4] 25 (0, 0)) (by (with_reducible repeat (first | refine blk_drewN ?_ _ | refine blk_drew ?_ | refine blk_alloc ?_ _)); exact BK379.out) hb); have n2_ := Aside0.mk (below_step (by repeat (first | (with_reducible first | exact HB.out | apply below_alloc | apply pw_below_drewN | apply below_drew1 | refine below_set ?_ GE379.out) | exact HB.out)) hb); clear BK379; clear HB; have HO382 := n0_; have BK379 := n1_; have HB := n2_; clear n0_ n1_ n2_; (try clear hb); (try clear hb2); (try clear hk); (try clear hi); (try clear ho0); have hcz10_0 : w9.cell? ⟨gb379, 0, none⟩ = some (.int .i64 a0_0) := (blk_cell BK379.out 0).trans rfl; have hcz10_1 : w9.cell? ⟨gb379, 1, none⟩ = some (.int .i64 a0_1) := (blk_cell BK379.out 1).trans rfl; have hcz10_2 : w9.cell? ⟨gb379, 2, none⟩ = some (.int .i64 a0_2) := (blk_cell BK379.out 2).trans rfl; have hcz10_3 : w9.cell? ⟨gb379, 3, none⟩ = some (.int .i64 a0_3) := (blk_cell BK379.out 3).trans rfl; have hcz10_4 : w9.cell? ⟨gb379, 4, none⟩ = some (.int .i64 a0_4) := (blk_cell BK379.out 4).trans rfl; have hfz10_0 := blk_frozen BK379.out 0; have hfz10_1 := blk_frozen BK379.out 1; have hfz10_2 := blk_frozen BK379.out 2; have hfz10_3 := blk_frozen BK379.out 3; have hfz10_4 := blk_frozen BK379.out 4) | ((with_reducible refine gate_callee (f := 18) rfl ?_); refine goesL_ (some 29) rfl rfl Tryd.func18 (by kernel_rfl) rfl #[.agg #[.int .i64 a0_0, .int .i64 a0_1, .int .i64 a0_2, .int .i64 a0_3, .int .i64 a0_4], .int .i64 a1] rfl (by (try simp only [List.map_toArray, List.map_cons, List.map_nil]); first | done | rfl | (simp only [List.length_drop, List.length_take]; rfl)) ?_; (with_reducible refine (scale_Fewest.calls a0_0 a0_1 a0_2 a0_3 a0_4 a1 t384 t385 _ ?side1 A5.out).mono ?_); (case side1 => exact Go.Proofs.YtidnopmjhhmedaaDoor.Ways.below HWays.out (by repeat (first | (with_reducible first | exact HB.out | apply below_alloc | apply pw_below_drewN | apply below_drew1 | refine below_set ?_ GE379.out) | exact HB.out))); rintro e w11 ⟨rfl, hb⟩; refine ⟨_, rfl, ?_⟩; have n0_ := Aside0.mk (Kd.V_below (by (with_reducible repeat (first | apply Kd.V_alloc | apply Kd.V_drewN | apply Kd.V_drew)); exact HO382.out) hb); have n1_ := Aside0.mk (blk_below (g := gb379) (o := .cells #[.int .i64 a0_0, .int .i64 a0_1, .int .i64 a0_2, .int .i64 a0_3, .int .i64 a0_4] 25 (0, 0)) (by (with_reducible repeat (first | refine blk_drewN ?_ _ | refine blk_drew ?_ | refine blk_alloc ?_ _)); exact BK379.out) hb); have n2_ := Aside0.mk (below_step (by repeat (first | (with_reducible first | exact HB.out | apply below_alloc | apply pw_below_drewN | apply below_drew1 | refine below_set ?_ GE379.out) | exact HB.out)) hb); clear HO382; clear BK379; clear HB; have HO382 := n0_; have BK379 := n1_; have HB := n2_; clear n0_ n1_ n2_; (try clear hb); (try clear hb2); (try clear hk); (try clear hi)))
  (try simp only [Act.put, List.setIfInBounds_toArray, List.set_cons_zero, List.set_cons_succ])
  go_cut [39] (fun v39 wc => ∃ (kq : Nat) (x39_5 : Bool), v39 = .bool x39_5 ∧ Aside0 (remontoirlaw04_ScaleMet.j0 kq a1 l2 t380 t383 t384 t385 x39_5 a0_0 a0_1 a0_2 a0_3 a0_4 = some r) ∧ Aside0 (kq ≤ k) ∧ Aside0 (Kd.V (Kd.int .i64) 3 wc w.heap.size (fun k_ => k_ ≠ gb379) v381 t380) ∧ Aside0 (wc.heap[gb379]? = some (.cells #[.int .i64 a0_0, .int .i64 a0_1, .int .i64 a0_2, .int .i64 a0_3, .int .i64 a0_4] 25 (0, 0))) ∧ Aside0 (Below w.heap.size w wc))
  case first =>
    have H := HC6.out
    clear HC6
    replace H := Option.bind_eq_some_iff.mp H
    obtain ⟨t386, A120, H⟩ := H
    replace H : (if t386 = true then ((remontoirref00_Lies.f a1 (-20000) 20000).bind fun t387 => (remontoirlaw04_ScaleMet.j0 k a1 l2 t380 t383 t384 t385 (!t387) a0_0 a0_1 a0_2 a0_3 a0_4)) else (remontoirlaw04_ScaleMet.j0 k a1 l2 t380 t383 t384 t385 true a0_0 a0_1 a0_2 a0_3 a0_4)) = some r := H
    have A12 := Aside0.mk A120
    clear A120
    by_cases c13 : t386 = true
    · subst c13
      have H1 : ((remontoirref00_Lies.f a1 (-20000) 20000).bind fun t387 => (remontoirlaw04_ScaleMet.j0 k a1 l2 t380 t383 t384 t385 (!t387) a0_0 a0_1 a0_2 a0_3 a0_4)) = some r := by rw [if_pos rfl] at H; exact H
      clear H
      have H := H1
      clear H1
      replace H := Option.bind_eq_some_iff.mp H
      obtain ⟨t387, A140, H⟩ := H
      replace H : (remontoirlaw04_ScaleMet.j0 k a1 l2 t380 t383 t384 t385 (!t387) a0_0 a0_1 a0_2 a0_3 a0_4) = some r := H
      have A14 := Aside0.mk A140
      clear A140
      have H' := Aside0.mk H
      clear H
      have hcz15_0 : w11.cell? ⟨gb379, 0, none⟩ = some (.int .i64 a0_0) := (blk_cell BK379.out 0).trans rfl
      have hcz15_1 : w11.cell? ⟨gb379, 1, none⟩ = some (.int .i64 a0_1) := (blk_cell BK379.out 1).trans rfl
      have hcz15_2 : w11.cell? ⟨gb379, 2, none⟩ = some (.int .i64 a0_2) := (blk_cell BK379.out 2).trans rfl
      have hcz15_3 : w11.cell? ⟨gb379, 3, none⟩ = some (.int .i64 a0_3) := (blk_cell BK379.out 3).trans rfl
      have hcz15_4 : w11.cell? ⟨gb379, 4, none⟩ = some (.int .i64 a0_4) := (blk_cell BK379.out 4).trans rfl
      have hfz15_0 := blk_frozen BK379.out 0
      have hfz15_1 := blk_frozen BK379.out 1
      have hfz15_2 := blk_frozen BK379.out 2
      have hfz15_3 := blk_frozen BK379.out 3
      have hfz15_4 := blk_frozen BK379.out 4
      go_wp2_with (first | ((with_reducible refine gate_callee (f := 37) rfl ?_); refine goesL_ (some 33) rfl rfl Tryd.func37 (by kernel_rfl) rfl #[.agg #[.int .i64 a0_0, .int .i64 a0_1, .int .i64 a0_2, .int .i64 a0_3, .int .i64 a0_4]] rfl (by (try simp only [List.map_toArray, List.map_cons, List.map_nil]); first | done | rfl | (simp only [List.length_drop, List.length_take]; rfl)) ?_; (with_reducible refine (remontoirlaw04_isRule.calls a0_0 a0_1 a0_2 a0_3 a0_4 true _ ?side1 A12.out).mono ?_); (case side1 => exact Go.Proofs.YtidnopmjhhmedaaDoor.Ways.below HWays.out (by repeat (first | (with_reducible first | exact HB.out | apply below_alloc | apply pw_below_drewN | apply below_drew1 | refine below_set ?_ GE379.out) | exact HB.out))); rintro e w16 ⟨rfl, hb⟩; refine ⟨_, rfl, ?_⟩; have n0_ := Aside0.mk (Kd.V_below (by (with_reducible repeat (first | apply Kd.V_alloc | apply Kd.V_drewN | apply Kd.V_drew)); exact HO382.out) hb); have n1_ := Aside0.mk (blk_below (g := gb379) (o := .cells #[.int .i64 a0_0, .int .i64 a0_1, .int .i64 a0_2, .int .i64 a0_3, .int .i64 a0_4] 25 (0, 0)) (by (with_reducible repeat (first | refine blk_drewN ?_ _ | refine blk_drew ?_ | refine blk_alloc ?_ _)); exact BK379.out) hb); have n2_ := Aside0.mk (below_step (by repeat (first | (with_reducible first | exact HB.out | apply below_alloc | apply pw_below_drewN | apply below_drew1 | refine below_set ?_ GE379.out) | exact HB.out)) hb); clear HO382; clear BK379; clear HB; have HO382 := n0_; have BK379 := n1_; have HB := n2_; clear n0_ n1_ n2_; (try clear hb); (try clear hb2); (try clear hk); (try clear hi)) | (go_at_call 42; (with_reducible refine (remontoirref00_Lies.calls a1 (-20000) 20000 t387 _ A14.out).mono ?_); rintro e w' ⟨rfl, ⟨nd, rfl⟩⟩))
      go_meet
      case rel => exact ⟨_, (!t387), (by first | rfl | (simp; done) | (simp [*]; done)), H', ⟨by first | omega | exact Nat.le_refl _⟩, ⟨by (with_reducible repeat (first | apply Kd.V_alloc | apply Kd.V_drewN | apply Kd.V_drew)); exact HO382.out⟩, ⟨by (with_reducible repeat (first | refine blk_drewN ?_ _ | refine blk_drew ?_ | refine blk_alloc ?_ _)); exact BK379.out⟩, ⟨by repeat (first | (with_reducible first | exact HB.out | apply below_alloc | apply pw_below_drewN | apply below_drew1 | refine below_set ?_ GE379.out) | exact HB.out)⟩⟩
    · replace c13 := Bool.eq_false_iff.mpr c13
      subst c13
      have H1 : (remontoirlaw04_ScaleMet.j0 k a1 l2 t380 t383 t384 t385 true a0_0 a0_1 a0_2 a0_3 a0_4) = some r := by rw [if_neg (show ¬ (false = true) by decide)] at H; exact H
      clear H
      have H := H1
      clear H1
      have H' := Aside0.mk H
      clear H
      have hcz17_0 : w11.cell? ⟨gb379, 0, none⟩ = some (.int .i64 a0_0) := (blk_cell BK379.out 0).trans rfl
      have hcz17_1 : w11.cell? ⟨gb379, 1, none⟩ = some (.int .i64 a0_1) := (blk_cell BK379.out 1).trans rfl
      have hcz17_2 : w11.cell? ⟨gb379, 2, none⟩ = some (.int .i64 a0_2) := (blk_cell BK379.out 2).trans rfl
      have hcz17_3 : w11.cell? ⟨gb379, 3, none⟩ = some (.int .i64 a0_3) := (blk_cell BK379.out 3).trans rfl
      have hcz17_4 : w11.cell? ⟨gb379, 4, none⟩ = some (.int .i64 a0_4) := (blk_cell BK379.out 4).trans rfl
      have hfz17_0 := blk_frozen BK379.out 0
      have hfz17_1 := blk_frozen BK379.out 1
      have hfz17_2 := blk_frozen BK379.out 2
      have hfz17_3 := blk_frozen BK379.out 3
      have hfz17_4 := blk_frozen BK379.out 4
      go_wp2_with (first | ((with_reducible refine gate_callee (f := 37) rfl ?_); refine goesL_ (some 33) rfl rfl Tryd.func37 (by kernel_rfl) rfl #[.agg #[.int .i64 a0_0, .int .i64 a0_1, .int .i64 a0_2, .int .i64 a0_3, .int .i64 a0_4]] rfl (by (try simp only [List.map_toArray, List.map_cons, List.map_nil]); first | done | rfl | (simp only [List.length_drop, List.length_take]; rfl)) ?_; (with_reducible refine (remontoirlaw04_isRule.calls a0_0 a0_1 a0_2 a0_3 a0_4 false _ ?side1 A12.out).mono ?_); (case side1 => exact Go.Proofs.YtidnopmjhhmedaaDoor.Ways.below HWays.out (by repeat (first | (with_reducible first | exact HB.out | apply below_alloc | apply pw_below_drewN | apply below_drew1 | refine below_set ?_ GE379.out) | exact HB.out))); rintro e w18 ⟨rfl, hb⟩; refine ⟨_, rfl, ?_⟩; have n0_ := Aside0.mk (Kd.V_below (by (with_reducible repeat (first | apply Kd.V_alloc | apply Kd.V_drewN | apply Kd.V_drew)); exact HO382.out) hb); have n1_ := Aside0.mk (blk_below (g := gb379) (o := .cells #[.int .i64 a0_0, .int .i64 a0_1, .int .i64 a0_2, .int .i64 a0_3, .int .i64 a0_4] 25 (0, 0)) (by (with_reducible repeat (first | refine blk_drewN ?_ _ | refine blk_drew ?_ | refine blk_alloc ?_ _)); exact BK379.out) hb); have n2_ := Aside0.mk (below_step (by repeat (first | (with_reducible first | exact HB.out | apply below_alloc | apply pw_below_drewN | apply below_drew1 | refine below_set ?_ GE379.out) | exact HB.out)) hb); clear HO382; clear BK379; clear HB; have HO382 := n0_; have BK379 := n1_; have HB := n2_; clear n0_ n1_ n2_; (try clear hb); (try clear hb2); (try clear hk); (try clear hi)))
      go_meet
      case rel => exact ⟨_, (true), (by first | rfl | (simp; done) | (simp [*]; done)), H', ⟨by first | omega | exact Nat.le_refl _⟩, ⟨by (with_reducible repeat (first | apply Kd.V_alloc | apply Kd.V_drewN | apply Kd.V_drew)); exact HO382.out⟩, ⟨by (with_reducible repeat (first | refine blk_drewN ?_ _ | refine blk_drew ?_ | refine blk_alloc ?_ _)); exact BK379.out⟩, ⟨by repeat (first | (with_reducible first | exact HB.out | apply below_alloc | apply pw_below_drewN | apply below_drew1 | refine below_set ?_ GE379.out) | exact HB.out)⟩⟩
  case rest =>
    as_aux_lemma =>
    clear HC6
    try clear c1
    try clear c2
    try clear p2
    try clear c3
    try clear c8
    try clear c13
    try clear c18
    try clear hcz10_0
    try clear hcz10_1
    try clear hcz10_2
    try clear hcz10_3
    try clear hcz10_4
    try clear hcz15_0
    try clear hcz15_1
    try clear hcz15_2
    try clear hcz15_3
    try clear hcz15_4
    try clear hcz17_0
    try clear hcz17_1
    try clear hcz17_2
    try clear hcz17_3
    try clear hcz17_4
    try clear hcz8_0
    try clear hcz8_1
    try clear hcz8_2
    try clear hcz8_3
    try clear hcz8_4
    try clear hfz10_0
    try clear hfz10_1
    try clear hfz10_2
    try clear hfz10_3
    try clear hfz10_4
    try clear hfz15_0
    try clear hfz15_1
    try clear hfz15_2
    try clear hfz15_3
    try clear hfz15_4
    try clear hfz17_0
    try clear hfz17_1
    try clear hfz17_2
    try clear hfz17_3
    try clear hfz17_4
    try clear hfz8_0
    try clear hfz8_1
    try clear hfz8_2
    try clear hfz8_3
    try clear hfz8_4
    obtain ⟨kq, x39_5, rfl, HA, HJ5, HO_7, BK379, HB⟩ := hcut
    cases kq with
    | zero => exact absurd HA.out (by simp [remontoirlaw04_ScaleMet.j0])
    | succ kj5 =>
      have H := HA.out
      clear HA
      simp only [remontoirlaw04_ScaleMet.j0] at H
      by_cases c19 : x39_5 = true
      · subst c19
        have H1 : (if t383 = 40 then (if t385 = t383 then (if (t380.length : Int) = 0 then (if t384 = 0 then ((remontoirlaw04_works.f).bind fun t388 => (some t388)) else (some false)) else (some false)) else (some false)) else (if t383 = 41 then (if t385 = t383 then (if (t380.length : Int) = 0 then (if t384 = 0 then ((remontoirlaw04_works.f).bind fun t389 => (some t389)) else (some false)) else (some false)) else (some false)) else (some false))) = some r := by rw [if_pos rfl] at H; exact H
        clear H
        have H := H1
        clear H1
        by_cases c20 : t383 = 40
        · rw [if_pos c20] at H
          have c20b0 : (t383 == 40) = true := beq_iff_eq.mpr c20
          have c20b1 : (t383 != 40) = false := bne_eq_false_iff_eq.mpr c20
          clear c20
          by_cases c21 : t385 = t383
          · rw [if_pos c21] at H
            have c21b0 : (t385 == t383) = true := beq_iff_eq.mpr c21
            have c21b1 : (t385 != t383) = false := bne_eq_false_iff_eq.mpr c21
            clear c21
            by_cases c22 : (t380.length : Int) = 0
            · rw [if_pos c22] at H
              have c22b0 : ((t380.length : Int) == 0) = true := beq_iff_eq.mpr c22
              have c22b1 : ((t380.length : Int) != 0) = false := bne_eq_false_iff_eq.mpr c22
              clear c22
              by_cases c23 : t384 = 0
              · rw [if_pos c23] at H
                have c23b0 : (t384 == 0) = true := beq_iff_eq.mpr c23
                have c23b1 : (t384 != 0) = false := bne_eq_false_iff_eq.mpr c23
                clear c23
                replace H := Option.bind_eq_some_iff.mp H
                obtain ⟨t388, A240, H⟩ := H
                replace H : (some t388) = some r := H
                have A24 := Aside0.mk A240
                clear A240
                obtain rfl := Option.some.inj H
                obtain ⟨Ao25, co25, eo25⟩ := Kd.V_slice HO_7.out
                subst eo25
                go_wp2_with (first | (go_at_call 21; (with_reducible refine (remontoirlaw04_works.calls  t388 _ ?side1 A24.out).mono ?_); (case side1 => exact Go.Proofs.YtidnopmjhhmedaaDoor.Ways.below HWays.out (by repeat (first | (with_reducible first | exact HB.out | apply below_alloc | apply pw_below_drewN | apply below_drew1 | refine below_set ?_ GE379.out) | exact HB.out))); rintro e w26 ⟨rfl, hb⟩; have n0_ := Aside0.mk (Kd.V_below (by (with_reducible repeat (first | apply Kd.V_alloc | apply Kd.V_drewN | apply Kd.V_drew)); exact HO_7.out) hb); have n1_ := Aside0.mk (blk_below (g := gb379) (o := .cells #[.int .i64 a0_0, .int .i64 a0_1, .int .i64 a0_2, .int .i64 a0_3, .int .i64 a0_4] 25 (0, 0)) (by (with_reducible repeat (first | refine blk_drewN ?_ _ | refine blk_drew ?_ | refine blk_alloc ?_ _)); exact BK379.out) hb); have n2_ := Aside0.mk (below_step (by repeat (first | (with_reducible first | exact HB.out | apply below_alloc | apply pw_below_drewN | apply below_drew1 | refine below_set ?_ GE379.out) | exact HB.out)) hb); clear HO_7; clear BK379; clear HB; have HO_7 := n0_; have BK379 := n1_; have HB := n2_; clear n0_ n1_ n2_; (try clear hb); (try clear hb2); (try clear hk); (try clear hi)))
                go_ret
                exact ⟨by first | rfl | (simp [errW_none, errW_some] <;> rfl) | (simp [*, errW_none, errW_some] <;> rfl), by repeat (first | (with_reducible first | exact HB.out | apply below_alloc | apply pw_below_drewN | apply below_drew1 | refine below_set ?_ GE379.out) | exact HB.out)⟩
              · rw [if_neg c23] at H
                have c23b0 : (t384 == 0) = false := beq_eq_false_iff_ne.mpr c23
                have c23b1 : (t384 != 0) = true := bne_iff_ne.mpr c23
                obtain rfl := Option.some.inj H
                obtain ⟨Ao27, co27, eo27⟩ := Kd.V_slice HO_7.out
                subst eo27
                go_wp2
                go_ret
                exact ⟨by first | rfl | (simp [errW_none, errW_some] <;> rfl) | (simp [*, errW_none, errW_some] <;> rfl), by repeat (first | (with_reducible first | exact HB.out | apply below_alloc | apply pw_below_drewN | apply below_drew1 | refine below_set ?_ GE379.out) | exact HB.out)⟩
            · rw [if_neg c22] at H
              have c22b0 : ((t380.length : Int) == 0) = false := beq_eq_false_iff_ne.mpr c22
              have c22b1 : ((t380.length : Int) != 0) = true := bne_iff_ne.mpr c22
              have c22b2 : ¬ (t380 = []) := fun h_ => c22 (by rw [h_]; rfl)
              obtain rfl := Option.some.inj H
              obtain ⟨Ao28, co28, eo28⟩ := Kd.V_slice HO_7.out
              subst eo28
              go_wp2
              go_ret
              exact ⟨by first | rfl | (simp [errW_none, errW_some] <;> rfl) | (simp [*, errW_none, errW_some] <;> rfl), by repeat (first | (with_reducible first | exact HB.out | apply below_alloc | apply pw_below_drewN | apply below_drew1 | refine below_set ?_ GE379.out) | exact HB.out)⟩
          · rw [if_neg c21] at H
            have c21b0 : (t385 == t383) = false := beq_eq_false_iff_ne.mpr c21
            have c21b1 : (t385 != t383) = true := bne_iff_ne.mpr c21
            obtain rfl := Option.some.inj H
            go_wp2
            go_ret
            exact ⟨by first | rfl | (simp [errW_none, errW_some] <;> rfl) | (simp [*, errW_none, errW_some] <;> rfl), by repeat (first | (with_reducible first | exact HB.out | apply below_alloc | apply pw_below_drewN | apply below_drew1 | refine below_set ?_ GE379.out) | exact HB.out)⟩
        · rw [if_neg c20] at H
          have c20b0 : (t383 == 40) = false := beq_eq_false_iff_ne.mpr c20
          have c20b1 : (t383 != 40) = true := bne_iff_ne.mpr c20
          by_cases c29 : t383 = 41
          · rw [if_pos c29] at H
            have c29b0 : (t383 == 41) = true := beq_iff_eq.mpr c29
            have c29b1 : (t383 != 41) = false := bne_eq_false_iff_eq.mpr c29
            clear c29
            by_cases c30 : t385 = t383
            · rw [if_pos c30] at H
              have c30b0 : (t385 == t383) = true := beq_iff_eq.mpr c30
              have c30b1 : (t385 != t383) = false := bne_eq_false_iff_eq.mpr c30
              clear c30
              by_cases c31 : (t380.length : Int) = 0
              · rw [if_pos c31] at H
                have c31b0 : ((t380.length : Int) == 0) = true := beq_iff_eq.mpr c31
                have c31b1 : ((t380.length : Int) != 0) = false := bne_eq_false_iff_eq.mpr c31
                clear c31
                by_cases c32 : t384 = 0
                · rw [if_pos c32] at H
                  have c32b0 : (t384 == 0) = true := beq_iff_eq.mpr c32
                  have c32b1 : (t384 != 0) = false := bne_eq_false_iff_eq.mpr c32
                  clear c32
                  replace H := Option.bind_eq_some_iff.mp H
                  obtain ⟨t389, A330, H⟩ := H
                  replace H : (some t389) = some r := H
                  have A33 := Aside0.mk A330
                  clear A330
                  obtain rfl := Option.some.inj H
                  obtain ⟨Ao34, co34, eo34⟩ := Kd.V_slice HO_7.out
                  subst eo34
                  go_wp2_with (first | (go_at_call 21; (with_reducible refine (remontoirlaw04_works.calls  t389 _ ?side1 A33.out).mono ?_); (case side1 => exact Go.Proofs.YtidnopmjhhmedaaDoor.Ways.below HWays.out (by repeat (first | (with_reducible first | exact HB.out | apply below_alloc | apply pw_below_drewN | apply below_drew1 | refine below_set ?_ GE379.out) | exact HB.out))); rintro e w35 ⟨rfl, hb⟩; have n0_ := Aside0.mk (Kd.V_below (by (with_reducible repeat (first | apply Kd.V_alloc | apply Kd.V_drewN | apply Kd.V_drew)); exact HO_7.out) hb); have n1_ := Aside0.mk (blk_below (g := gb379) (o := .cells #[.int .i64 a0_0, .int .i64 a0_1, .int .i64 a0_2, .int .i64 a0_3, .int .i64 a0_4] 25 (0, 0)) (by (with_reducible repeat (first | refine blk_drewN ?_ _ | refine blk_drew ?_ | refine blk_alloc ?_ _)); exact BK379.out) hb); have n2_ := Aside0.mk (below_step (by repeat (first | (with_reducible first | exact HB.out | apply below_alloc | apply pw_below_drewN | apply below_drew1 | refine below_set ?_ GE379.out) | exact HB.out)) hb); clear HO_7; clear BK379; clear HB; have HO_7 := n0_; have BK379 := n1_; have HB := n2_; clear n0_ n1_ n2_; (try clear hb); (try clear hb2); (try clear hk); (try clear hi)))
                  go_ret
                  exact ⟨by first | rfl | (simp [errW_none, errW_some] <;> rfl) | (simp [*, errW_none, errW_some] <;> rfl), by repeat (first | (with_reducible first | exact HB.out | apply below_alloc | apply pw_below_drewN | apply below_drew1 | refine below_set ?_ GE379.out) | exact HB.out)⟩
                · rw [if_neg c32] at H
                  have c32b0 : (t384 == 0) = false := beq_eq_false_iff_ne.mpr c32
                  have c32b1 : (t384 != 0) = true := bne_iff_ne.mpr c32
                  obtain rfl := Option.some.inj H
                  obtain ⟨Ao36, co36, eo36⟩ := Kd.V_slice HO_7.out
                  subst eo36
                  go_wp2
                  go_ret
                  exact ⟨by first | rfl | (simp [errW_none, errW_some] <;> rfl) | (simp [*, errW_none, errW_some] <;> rfl), by repeat (first | (with_reducible first | exact HB.out | apply below_alloc | apply pw_below_drewN | apply below_drew1 | refine below_set ?_ GE379.out) | exact HB.out)⟩
              · rw [if_neg c31] at H
                have c31b0 : ((t380.length : Int) == 0) = false := beq_eq_false_iff_ne.mpr c31
                have c31b1 : ((t380.length : Int) != 0) = true := bne_iff_ne.mpr c31
                have c31b2 : ¬ (t380 = []) := fun h_ => c31 (by rw [h_]; rfl)
                obtain rfl := Option.some.inj H
                obtain ⟨Ao37, co37, eo37⟩ := Kd.V_slice HO_7.out
                subst eo37
                go_wp2
                go_ret
                exact ⟨by first | rfl | (simp [errW_none, errW_some] <;> rfl) | (simp [*, errW_none, errW_some] <;> rfl), by repeat (first | (with_reducible first | exact HB.out | apply below_alloc | apply pw_below_drewN | apply below_drew1 | refine below_set ?_ GE379.out) | exact HB.out)⟩
            · rw [if_neg c30] at H
              have c30b0 : (t385 == t383) = false := beq_eq_false_iff_ne.mpr c30
              have c30b1 : (t385 != t383) = true := bne_iff_ne.mpr c30
              obtain rfl := Option.some.inj H
              go_wp2
              go_ret
              exact ⟨by first | rfl | (simp [errW_none, errW_some] <;> rfl) | (simp [*, errW_none, errW_some] <;> rfl), by repeat (first | (with_reducible first | exact HB.out | apply below_alloc | apply pw_below_drewN | apply below_drew1 | refine below_set ?_ GE379.out) | exact HB.out)⟩
          · rw [if_neg c29] at H
            have c29b0 : (t383 == 41) = false := beq_eq_false_iff_ne.mpr c29
            have c29b1 : (t383 != 41) = true := bne_iff_ne.mpr c29
            obtain rfl := Option.some.inj H
            go_wp2
            go_ret
            exact ⟨by first | rfl | (simp [errW_none, errW_some] <;> rfl) | (simp [*, errW_none, errW_some] <;> rfl), by repeat (first | (with_reducible first | exact HB.out | apply below_alloc | apply pw_below_drewN | apply below_drew1 | refine below_set ?_ GE379.out) | exact HB.out)⟩
      · replace c19 := Bool.eq_false_iff.mpr c19
        subst c19
        have H1 : (if t383 = t385 then (if t383 = 0 then ((scale_IsPlan.f a0_0 a0_1 a0_2 a0_3 a0_4 a1 t380).bind fun bt396 => (if bt396.2 = 0 then (if bt396.1 = true then (if (t380.length : Int) = t384 then (if (t380.length : Int) > 200 then (remontoirlaw04_ScaleMet.j1 kj5 a1 l2 t384 true a0_0 a0_1 a0_2 a0_3 a0_4) else ((remontoirlaw04_kept.f kj5 a0_0 a0_1 a0_2 a0_3 a0_4 t380).bind fun t398 => (if t398 = true then ((remontoirref00_Total.f kj5 t380).bind fun t399 => (if t399 = (wrap64 (-a1)) then (remontoirlaw04_ScaleMet.j1 kj5 a1 l2 t384 ((t384 == 0) != (a1 == 0)) a0_0 a0_1 a0_2 a0_3 a0_4) else (remontoirlaw04_ScaleMet.j1 kj5 a1 l2 t384 true a0_0 a0_1 a0_2 a0_3 a0_4))) else (remontoirlaw04_ScaleMet.j1 kj5 a1 l2 t384 true a0_0 a0_1 a0_2 a0_3 a0_4)))) else (remontoirlaw04_ScaleMet.j1 kj5 a1 l2 t384 true a0_0 a0_1 a0_2 a0_3 a0_4)) else (remontoirlaw04_ScaleMet.j1 kj5 a1 l2 t384 true a0_0 a0_1 a0_2 a0_3 a0_4)) else (remontoirlaw04_ScaleMet.j1 kj5 a1 l2 t384 true a0_0 a0_1 a0_2 a0_3 a0_4))) else ((scale_Reach.f a0_0 a0_1 a0_2 a0_3 a0_4 200).bind fun bt390 => (if t383 = 4 then (if (t380.length : Int) = 0 then (if t384 = 0 then (if bt390.2.2 = 0 then ((remontoirref00_Has.f bt390.1 bt390.2.1 (wrap64 (-a1))).bind fun t394 => (if t394 = true then (some false) else ((remontoirlaw04_works.f).bind fun t395 => (some t395)))) else (some false)) else (some false)) else (some false)) else (some false)))) else (some false)) = some r := by rw [if_neg (show ¬ (false = true) by decide)] at H; exact H
        clear H
        have H := H1
        clear H1
        by_cases c38 : t383 = t385
        · rw [if_pos c38] at H
          have c38b0 : (t383 == t385) = true := beq_iff_eq.mpr c38
          have c38b1 : (t383 != t385) = false := bne_eq_false_iff_eq.mpr c38
          clear c38
          by_cases c39 : t383 = 0
          · rw [if_pos c39] at H
            have c39b0 : (t383 == 0) = true := beq_iff_eq.mpr c39
            have c39b1 : (t383 != 0) = false := bne_eq_false_iff_eq.mpr c39
            clear c39
            replace H := Option.bind_eq_some_iff.mp H
            obtain ⟨⟨t396, t397⟩, A400, H⟩ := H
            replace H : (if t397 = 0 then (if t396 = true then (if (t380.length : Int) = t384 then (if (t380.length : Int) > 200 then (remontoirlaw04_ScaleMet.j1 kj5 a1 l2 t384 true a0_0 a0_1 a0_2 a0_3 a0_4) else ((remontoirlaw04_kept.f kj5 a0_0 a0_1 a0_2 a0_3 a0_4 t380).bind fun t398 => (if t398 = true then ((remontoirref00_Total.f kj5 t380).bind fun t399 => (if t399 = (wrap64 (-a1)) then (remontoirlaw04_ScaleMet.j1 kj5 a1 l2 t384 ((t384 == 0) != (a1 == 0)) a0_0 a0_1 a0_2 a0_3 a0_4) else (remontoirlaw04_ScaleMet.j1 kj5 a1 l2 t384 true a0_0 a0_1 a0_2 a0_3 a0_4))) else (remontoirlaw04_ScaleMet.j1 kj5 a1 l2 t384 true a0_0 a0_1 a0_2 a0_3 a0_4)))) else (remontoirlaw04_ScaleMet.j1 kj5 a1 l2 t384 true a0_0 a0_1 a0_2 a0_3 a0_4)) else (remontoirlaw04_ScaleMet.j1 kj5 a1 l2 t384 true a0_0 a0_1 a0_2 a0_3 a0_4)) else (remontoirlaw04_ScaleMet.j1 kj5 a1 l2 t384 true a0_0 a0_1 a0_2 a0_3 a0_4)) = some r := H
            have A40 := Aside0.mk A400
            clear A400
            have HC41 := Aside0.mk H
            clear H
            have hcz42_0 : wc.cell? ⟨gb379, 0, none⟩ = some (.int .i64 a0_0) := (blk_cell BK379.out 0).trans rfl
            have hcz42_1 : wc.cell? ⟨gb379, 1, none⟩ = some (.int .i64 a0_1) := (blk_cell BK379.out 1).trans rfl
            have hcz42_2 : wc.cell? ⟨gb379, 2, none⟩ = some (.int .i64 a0_2) := (blk_cell BK379.out 2).trans rfl
            have hcz42_3 : wc.cell? ⟨gb379, 3, none⟩ = some (.int .i64 a0_3) := (blk_cell BK379.out 3).trans rfl
            have hcz42_4 : wc.cell? ⟨gb379, 4, none⟩ = some (.int .i64 a0_4) := (blk_cell BK379.out 4).trans rfl
            have hfz42_0 := blk_frozen BK379.out 0
            have hfz42_1 := blk_frozen BK379.out 1
            have hfz42_2 := blk_frozen BK379.out 2
            have hfz42_3 := blk_frozen BK379.out 3
            have hfz42_4 := blk_frozen BK379.out 4
            obtain ⟨Ao43, co43, eo43⟩ := Kd.V_slice HO_7.out
            subst eo43
            go_upto_region 11 with (first | ((with_reducible refine gate_callee (f := 16) rfl ?_); refine goesL_ (some 102) rfl rfl Tryd.func16 (by kernel_rfl) rfl #[.agg #[.int .i64 a0_0, .int .i64 a0_1, .int .i64 a0_2, .int .i64 a0_3, .int .i64 a0_4], .int .i64 a1, .slice Ao43 t380.length co43] rfl (by (try simp only [List.map_toArray, List.map_cons, List.map_nil]); first | done | rfl | (simp only [List.length_drop, List.length_take]; rfl)) ?_; (with_reducible refine (scale_IsPlan.calls a0_0 a0_1 a0_2 a0_3 a0_4 a1 _ _ t380 t396 t397 _ ?side1 ?side2 ?side3 A40.out).mono ?_); (case side1 => repeat (first | exact (Kd.V_reads' HO_7.out).2.2 | (with_reducible refine Kd.C_alloc ?_ _) | (with_reducible refine Kd.C_drewN ?_ _) | (with_reducible refine Kd.C_drew ?_))); (case side2 => exact (Kd.V_reads' HO_7.out).2.1); (case side3 => exact Go.Proofs.YtidnopmjhhmedaaDoor.Ways.below HWays.out (by repeat (first | (with_reducible first | exact HB.out | apply below_alloc | apply pw_below_drewN | apply below_drew1 | refine below_set ?_ GE379.out) | exact HB.out))); rintro e w44 ⟨rfl, hb⟩; refine ⟨_, rfl, ?_⟩; have n0_ := Aside0.mk (Kd.V_below (by (with_reducible repeat (first | apply Kd.V_alloc | apply Kd.V_drewN | apply Kd.V_drew)); exact HO_7.out) hb); have n1_ := Aside0.mk (blk_below (g := gb379) (o := .cells #[.int .i64 a0_0, .int .i64 a0_1, .int .i64 a0_2, .int .i64 a0_3, .int .i64 a0_4] 25 (0, 0)) (by (with_reducible repeat (first | refine blk_drewN ?_ _ | refine blk_drew ?_ | refine blk_alloc ?_ _)); exact BK379.out) hb); have n2_ := Aside0.mk (below_step (by repeat (first | (with_reducible first | exact HB.out | apply below_alloc | apply pw_below_drewN | apply below_drew1 | refine below_set ?_ GE379.out) | exact HB.out)) hb); clear HO_7; clear BK379; clear HB; have HO_7 := n0_; have BK379 := n1_; have HB := n2_; clear n0_ n1_ n2_; (try clear hb); (try clear hb2); (try clear hk); (try clear hi)))
            (try simp only [Act.put, List.setIfInBounds_toArray, List.set_cons_zero, List.set_cons_succ])
            go_cut [141] (fun v141 wc => ∃ (kq : Nat) (x141_40 : Bool), v141 = .bool x141_40 ∧ Aside0 (remontoirlaw04_ScaleMet.j1 kq a1 l2 t384 x141_40 a0_0 a0_1 a0_2 a0_3 a0_4 = some r) ∧ Aside0 (kq ≤ kj5) ∧ Aside0 (wc.heap[gb379]? = some (.cells #[.int .i64 a0_0, .int .i64 a0_1, .int .i64 a0_2, .int .i64 a0_3, .int .i64 a0_4] 25 (0, 0))) ∧ Aside0 (Below w.heap.size w wc))
            case first =>
              have H := HC41.out
              clear HC41
              by_cases c45 : t397 = 0
              · rw [if_pos c45] at H
                have c45b0 : (t397 == 0) = true := beq_iff_eq.mpr c45
                have c45b1 : (t397 != 0) = false := bne_eq_false_iff_eq.mpr c45
                clear c45
                (first | rw [c45b0] | (simp only [i64_w, i32_w]; rw [c45b0]) | skip)
                by_cases c46 : t396 = true
                · subst c46
                  have H1 : (if (t380.length : Int) = t384 then (if (t380.length : Int) > 200 then (remontoirlaw04_ScaleMet.j1 kj5 a1 l2 t384 true a0_0 a0_1 a0_2 a0_3 a0_4) else ((remontoirlaw04_kept.f kj5 a0_0 a0_1 a0_2 a0_3 a0_4 t380).bind fun t398 => (if t398 = true then ((remontoirref00_Total.f kj5 t380).bind fun t399 => (if t399 = (wrap64 (-a1)) then (remontoirlaw04_ScaleMet.j1 kj5 a1 l2 t384 ((t384 == 0) != (a1 == 0)) a0_0 a0_1 a0_2 a0_3 a0_4) else (remontoirlaw04_ScaleMet.j1 kj5 a1 l2 t384 true a0_0 a0_1 a0_2 a0_3 a0_4))) else (remontoirlaw04_ScaleMet.j1 kj5 a1 l2 t384 true a0_0 a0_1 a0_2 a0_3 a0_4)))) else (remontoirlaw04_ScaleMet.j1 kj5 a1 l2 t384 true a0_0 a0_1 a0_2 a0_3 a0_4)) = some r := by rw [if_pos rfl] at H; exact H
                  clear H
                  have H := H1
                  clear H1
                  by_cases c47 : (t380.length : Int) = t384
                  · rw [if_pos c47] at H
                    have c47b0 : ((t380.length : Int) == t384) = true := beq_iff_eq.mpr c47
                    have c47b1 : ((t380.length : Int) != t384) = false := bne_eq_false_iff_eq.mpr c47
                    clear c47
                    by_cases c48 : (t380.length : Int) > 200
                    · rw [if_pos c48] at H
                      have c48b0 : decide (200 < (t380.length : Int)) = true := decide_eq_true c48
                      have c48b1 : decide (200 < t380.length) = true := decide_eq_true (by omega)
                      clear c48
                      have H' := Aside0.mk H
                      clear H
                      go_wp2
                      go_meet
                      case rel => exact ⟨_, (true), (by first | rfl | (simp; done) | (simp [*]; done)), H', ⟨by have := HJ5.out; first | omega | exact Nat.le_refl _⟩, ⟨by (with_reducible repeat (first | refine blk_drewN ?_ _ | refine blk_drew ?_ | refine blk_alloc ?_ _)); exact BK379.out⟩, ⟨by repeat (first | (with_reducible first | exact HB.out | apply below_alloc | apply pw_below_drewN | apply below_drew1 | refine below_set ?_ GE379.out) | exact HB.out)⟩⟩
                    · rw [if_neg c48] at H
                      have c48b0 : decide (200 < (t380.length : Int)) = false := decide_eq_false c48
                      have c48b1 : decide (200 < t380.length) = false := decide_eq_false (by omega)
                      clear c48
                      replace H := Option.bind_eq_some_iff.mp H
                      obtain ⟨t398, A490, H⟩ := H
                      replace H : (if t398 = true then ((remontoirref00_Total.f kj5 t380).bind fun t399 => (if t399 = (wrap64 (-a1)) then (remontoirlaw04_ScaleMet.j1 kj5 a1 l2 t384 ((t384 == 0) != (a1 == 0)) a0_0 a0_1 a0_2 a0_3 a0_4) else (remontoirlaw04_ScaleMet.j1 kj5 a1 l2 t384 true a0_0 a0_1 a0_2 a0_3 a0_4))) else (remontoirlaw04_ScaleMet.j1 kj5 a1 l2 t384 true a0_0 a0_1 a0_2 a0_3 a0_4)) = some r := H
                      have A49 := Aside0.mk A490
                      clear A490
                      by_cases c50 : t398 = true
                      · subst c50
                        have H1 : ((remontoirref00_Total.f kj5 t380).bind fun t399 => (if t399 = (wrap64 (-a1)) then (remontoirlaw04_ScaleMet.j1 kj5 a1 l2 t384 ((t384 == 0) != (a1 == 0)) a0_0 a0_1 a0_2 a0_3 a0_4) else (remontoirlaw04_ScaleMet.j1 kj5 a1 l2 t384 true a0_0 a0_1 a0_2 a0_3 a0_4))) = some r := by rw [if_pos rfl] at H; exact H
                        clear H
                        have H := H1
                        clear H1
                        replace H := Option.bind_eq_some_iff.mp H
                        obtain ⟨t399, A510, H⟩ := H
                        replace H : (if t399 = (wrap64 (-a1)) then (remontoirlaw04_ScaleMet.j1 kj5 a1 l2 t384 ((t384 == 0) != (a1 == 0)) a0_0 a0_1 a0_2 a0_3 a0_4) else (remontoirlaw04_ScaleMet.j1 kj5 a1 l2 t384 true a0_0 a0_1 a0_2 a0_3 a0_4)) = some r := H
                        have A51 := Aside0.mk A510
                        clear A510
                        by_cases c52 : t399 = (wrap64 (-a1))
                        · rw [if_pos c52] at H
                          have c52b0 : (t399 == (wrap64 (-a1))) = true := beq_iff_eq.mpr c52
                          have c52b1 : (t399 != (wrap64 (-a1))) = false := bne_eq_false_iff_eq.mpr c52
                          clear c52
                          have H' := Aside0.mk H
                          clear H
                          have hcz53_0 : w44.cell? ⟨gb379, 0, none⟩ = some (.int .i64 a0_0) := (blk_cell BK379.out 0).trans rfl
                          have hcz53_1 : w44.cell? ⟨gb379, 1, none⟩ = some (.int .i64 a0_1) := (blk_cell BK379.out 1).trans rfl
                          have hcz53_2 : w44.cell? ⟨gb379, 2, none⟩ = some (.int .i64 a0_2) := (blk_cell BK379.out 2).trans rfl
                          have hcz53_3 : w44.cell? ⟨gb379, 3, none⟩ = some (.int .i64 a0_3) := (blk_cell BK379.out 3).trans rfl
                          have hcz53_4 : w44.cell? ⟨gb379, 4, none⟩ = some (.int .i64 a0_4) := (blk_cell BK379.out 4).trans rfl
                          have hfz53_0 := blk_frozen BK379.out 0
                          have hfz53_1 := blk_frozen BK379.out 1
                          have hfz53_2 := blk_frozen BK379.out 2
                          have hfz53_3 := blk_frozen BK379.out 3
                          have hfz53_4 := blk_frozen BK379.out 4
                          go_wp2_with (first | (go_at_call 44; (with_reducible refine (remontoirlaw04_kept.calls kj5 a0_0 a0_1 a0_2 a0_3 a0_4 _ _ t380 true _ ?side1 ?side2 A49.out).mono ?_); (case side1 => repeat (first | exact (Kd.V_reads' HO_7.out).2.2 | (with_reducible refine Kd.C_alloc ?_ _) | (with_reducible refine Kd.C_drewN ?_ _) | (with_reducible refine Kd.C_drew ?_))); (case side2 => exact (Kd.V_reads' HO_7.out).2.1); rintro e w54 ⟨rfl, hb⟩; have n0_ := Aside0.mk (Kd.V_below (by (with_reducible repeat (first | apply Kd.V_alloc | apply Kd.V_drewN | apply Kd.V_drew)); exact HO_7.out) hb); have n1_ := Aside0.mk (blk_below (g := gb379) (o := .cells #[.int .i64 a0_0, .int .i64 a0_1, .int .i64 a0_2, .int .i64 a0_3, .int .i64 a0_4] 25 (0, 0)) (by (with_reducible repeat (first | refine blk_drewN ?_ _ | refine blk_drew ?_ | refine blk_alloc ?_ _)); exact BK379.out) hb); have n2_ := Aside0.mk (below_step (by repeat (first | (with_reducible first | exact HB.out | apply below_alloc | apply pw_below_drewN | apply below_drew1 | refine below_set ?_ GE379.out) | exact HB.out)) hb); clear HO_7; clear BK379; clear HB; have HO_7 := n0_; have BK379 := n1_; have HB := n2_; clear n0_ n1_ n2_; (try clear hb); (try clear hb2); (try clear hk); (try clear hi)) | (go_at_call 41; (with_reducible refine (remontoirref00_Total.calls kj5 _ _ t380 t399 _ ?side1 ?side2 A51.out).mono ?_); (case side1 => repeat (first | exact (Kd.V_reads' HO_7.out).2.2 | (with_reducible refine Kd.C_alloc ?_ _) | (with_reducible refine Kd.C_drewN ?_ _) | (with_reducible refine Kd.C_drew ?_))); (case side2 => exact (Kd.V_reads' HO_7.out).2.1); rintro e w' ⟨rfl, ⟨nd, rfl⟩⟩))
                          go_meet
                          case rel => exact ⟨_, (((t384 == 0) != (a1 == 0))), (by first | rfl | (simp; done) | (simp [*]; done)), H', ⟨by have := HJ5.out; first | omega | exact Nat.le_refl _⟩, ⟨by (with_reducible repeat (first | refine blk_drewN ?_ _ | refine blk_drew ?_ | refine blk_alloc ?_ _)); exact BK379.out⟩, ⟨by repeat (first | (with_reducible first | exact HB.out | apply below_alloc | apply pw_below_drewN | apply below_drew1 | refine below_set ?_ GE379.out) | exact HB.out)⟩⟩
                        · rw [if_neg c52] at H
                          have c52b0 : (t399 == (wrap64 (-a1))) = false := beq_eq_false_iff_ne.mpr c52
                          have c52b1 : (t399 != (wrap64 (-a1))) = true := bne_iff_ne.mpr c52
                          have H' := Aside0.mk H
                          clear H
                          have hcz55_0 : w44.cell? ⟨gb379, 0, none⟩ = some (.int .i64 a0_0) := (blk_cell BK379.out 0).trans rfl
                          have hcz55_1 : w44.cell? ⟨gb379, 1, none⟩ = some (.int .i64 a0_1) := (blk_cell BK379.out 1).trans rfl
                          have hcz55_2 : w44.cell? ⟨gb379, 2, none⟩ = some (.int .i64 a0_2) := (blk_cell BK379.out 2).trans rfl
                          have hcz55_3 : w44.cell? ⟨gb379, 3, none⟩ = some (.int .i64 a0_3) := (blk_cell BK379.out 3).trans rfl
                          have hcz55_4 : w44.cell? ⟨gb379, 4, none⟩ = some (.int .i64 a0_4) := (blk_cell BK379.out 4).trans rfl
                          have hfz55_0 := blk_frozen BK379.out 0
                          have hfz55_1 := blk_frozen BK379.out 1
                          have hfz55_2 := blk_frozen BK379.out 2
                          have hfz55_3 := blk_frozen BK379.out 3
                          have hfz55_4 := blk_frozen BK379.out 4
                          go_wp2_with (first | (go_at_call 44; (with_reducible refine (remontoirlaw04_kept.calls kj5 a0_0 a0_1 a0_2 a0_3 a0_4 _ _ t380 true _ ?side1 ?side2 A49.out).mono ?_); (case side1 => repeat (first | exact (Kd.V_reads' HO_7.out).2.2 | (with_reducible refine Kd.C_alloc ?_ _) | (with_reducible refine Kd.C_drewN ?_ _) | (with_reducible refine Kd.C_drew ?_))); (case side2 => exact (Kd.V_reads' HO_7.out).2.1); rintro e w56 ⟨rfl, hb⟩; have n0_ := Aside0.mk (Kd.V_below (by (with_reducible repeat (first | apply Kd.V_alloc | apply Kd.V_drewN | apply Kd.V_drew)); exact HO_7.out) hb); have n1_ := Aside0.mk (blk_below (g := gb379) (o := .cells #[.int .i64 a0_0, .int .i64 a0_1, .int .i64 a0_2, .int .i64 a0_3, .int .i64 a0_4] 25 (0, 0)) (by (with_reducible repeat (first | refine blk_drewN ?_ _ | refine blk_drew ?_ | refine blk_alloc ?_ _)); exact BK379.out) hb); have n2_ := Aside0.mk (below_step (by repeat (first | (with_reducible first | exact HB.out | apply below_alloc | apply pw_below_drewN | apply below_drew1 | refine below_set ?_ GE379.out) | exact HB.out)) hb); clear HO_7; clear BK379; clear HB; have HO_7 := n0_; have BK379 := n1_; have HB := n2_; clear n0_ n1_ n2_; (try clear hb); (try clear hb2); (try clear hk); (try clear hi)) | (go_at_call 41; (with_reducible refine (remontoirref00_Total.calls kj5 _ _ t380 t399 _ ?side1 ?side2 A51.out).mono ?_); (case side1 => repeat (first | exact (Kd.V_reads' HO_7.out).2.2 | (with_reducible refine Kd.C_alloc ?_ _) | (with_reducible refine Kd.C_drewN ?_ _) | (with_reducible refine Kd.C_drew ?_))); (case side2 => exact (Kd.V_reads' HO_7.out).2.1); rintro e w' ⟨rfl, ⟨nd, rfl⟩⟩))
                          go_meet
                          case rel => exact ⟨_, (true), (by first | rfl | (simp; done) | (simp [*]; done)), H', ⟨by have := HJ5.out; first | omega | exact Nat.le_refl _⟩, ⟨by (with_reducible repeat (first | refine blk_drewN ?_ _ | refine blk_drew ?_ | refine blk_alloc ?_ _)); exact BK379.out⟩, ⟨by repeat (first | (with_reducible first | exact HB.out | apply below_alloc | apply pw_below_drewN | apply below_drew1 | refine below_set ?_ GE379.out) | exact HB.out)⟩⟩
                      · replace c50 := Bool.eq_false_iff.mpr c50
                        subst c50
                        have H1 : (remontoirlaw04_ScaleMet.j1 kj5 a1 l2 t384 true a0_0 a0_1 a0_2 a0_3 a0_4) = some r := by rw [if_neg (show ¬ (false = true) by decide)] at H; exact H
                        clear H
                        have H := H1
                        clear H1
                        have H' := Aside0.mk H
                        clear H
                        have hcz57_0 : w44.cell? ⟨gb379, 0, none⟩ = some (.int .i64 a0_0) := (blk_cell BK379.out 0).trans rfl
                        have hcz57_1 : w44.cell? ⟨gb379, 1, none⟩ = some (.int .i64 a0_1) := (blk_cell BK379.out 1).trans rfl
                        have hcz57_2 : w44.cell? ⟨gb379, 2, none⟩ = some (.int .i64 a0_2) := (blk_cell BK379.out 2).trans rfl
                        have hcz57_3 : w44.cell? ⟨gb379, 3, none⟩ = some (.int .i64 a0_3) := (blk_cell BK379.out 3).trans rfl
                        have hcz57_4 : w44.cell? ⟨gb379, 4, none⟩ = some (.int .i64 a0_4) := (blk_cell BK379.out 4).trans rfl
                        have hfz57_0 := blk_frozen BK379.out 0
                        have hfz57_1 := blk_frozen BK379.out 1
                        have hfz57_2 := blk_frozen BK379.out 2
                        have hfz57_3 := blk_frozen BK379.out 3
                        have hfz57_4 := blk_frozen BK379.out 4
                        go_wp2_with (first | (go_at_call 44; (with_reducible refine (remontoirlaw04_kept.calls kj5 a0_0 a0_1 a0_2 a0_3 a0_4 _ _ t380 false _ ?side1 ?side2 A49.out).mono ?_); (case side1 => repeat (first | exact (Kd.V_reads' HO_7.out).2.2 | (with_reducible refine Kd.C_alloc ?_ _) | (with_reducible refine Kd.C_drewN ?_ _) | (with_reducible refine Kd.C_drew ?_))); (case side2 => exact (Kd.V_reads' HO_7.out).2.1); rintro e w58 ⟨rfl, hb⟩; have n0_ := Aside0.mk (Kd.V_below (by (with_reducible repeat (first | apply Kd.V_alloc | apply Kd.V_drewN | apply Kd.V_drew)); exact HO_7.out) hb); have n1_ := Aside0.mk (blk_below (g := gb379) (o := .cells #[.int .i64 a0_0, .int .i64 a0_1, .int .i64 a0_2, .int .i64 a0_3, .int .i64 a0_4] 25 (0, 0)) (by (with_reducible repeat (first | refine blk_drewN ?_ _ | refine blk_drew ?_ | refine blk_alloc ?_ _)); exact BK379.out) hb); have n2_ := Aside0.mk (below_step (by repeat (first | (with_reducible first | exact HB.out | apply below_alloc | apply pw_below_drewN | apply below_drew1 | refine below_set ?_ GE379.out) | exact HB.out)) hb); clear HO_7; clear BK379; clear HB; have HO_7 := n0_; have BK379 := n1_; have HB := n2_; clear n0_ n1_ n2_; (try clear hb); (try clear hb2); (try clear hk); (try clear hi)))
                        go_meet
                        case rel => exact ⟨_, (true), (by first | rfl | (simp; done) | (simp [*]; done)), H', ⟨by have := HJ5.out; first | omega | exact Nat.le_refl _⟩, ⟨by (with_reducible repeat (first | refine blk_drewN ?_ _ | refine blk_drew ?_ | refine blk_alloc ?_ _)); exact BK379.out⟩, ⟨by repeat (first | (with_reducible first | exact HB.out | apply below_alloc | apply pw_below_drewN | apply below_drew1 | refine below_set ?_ GE379.out) | exact HB.out)⟩⟩
                  · rw [if_neg c47] at H
                    have c47b0 : ((t380.length : Int) == t384) = false := beq_eq_false_iff_ne.mpr c47
                    have c47b1 : ((t380.length : Int) != t384) = true := bne_iff_ne.mpr c47
                    have H' := Aside0.mk H
                    clear H
                    go_wp2
                    go_meet
                    case rel => exact ⟨_, (true), (by first | rfl | (simp; done) | (simp [*]; done)), H', ⟨by have := HJ5.out; first | omega | exact Nat.le_refl _⟩, ⟨by (with_reducible repeat (first | refine blk_drewN ?_ _ | refine blk_drew ?_ | refine blk_alloc ?_ _)); exact BK379.out⟩, ⟨by repeat (first | (with_reducible first | exact HB.out | apply below_alloc | apply pw_below_drewN | apply below_drew1 | refine below_set ?_ GE379.out) | exact HB.out)⟩⟩
                · replace c46 := Bool.eq_false_iff.mpr c46
                  subst c46
                  have H1 : (remontoirlaw04_ScaleMet.j1 kj5 a1 l2 t384 true a0_0 a0_1 a0_2 a0_3 a0_4) = some r := by rw [if_neg (show ¬ (false = true) by decide)] at H; exact H
                  clear H
                  have H := H1
                  clear H1
                  have H' := Aside0.mk H
                  clear H
                  go_wp2
                  go_meet
                  case rel => exact ⟨_, (true), (by first | rfl | (simp; done) | (simp [*]; done)), H', ⟨by have := HJ5.out; first | omega | exact Nat.le_refl _⟩, ⟨by (with_reducible repeat (first | refine blk_drewN ?_ _ | refine blk_drew ?_ | refine blk_alloc ?_ _)); exact BK379.out⟩, ⟨by repeat (first | (with_reducible first | exact HB.out | apply below_alloc | apply pw_below_drewN | apply below_drew1 | refine below_set ?_ GE379.out) | exact HB.out)⟩⟩
              · rw [if_neg c45] at H
                have c45b0 : (t397 == 0) = false := beq_eq_false_iff_ne.mpr c45
                have c45b1 : (t397 != 0) = true := bne_iff_ne.mpr c45
                (first | rw [c45b0] | (simp only [i64_w, i32_w]; rw [c45b0]) | skip)
                have H' := Aside0.mk H
                clear H
                go_wp2
                go_meet
                case rel => exact ⟨_, (true), (by first | rfl | (simp; done) | (simp [*]; done)), H', ⟨by have := HJ5.out; first | omega | exact Nat.le_refl _⟩, ⟨by (with_reducible repeat (first | refine blk_drewN ?_ _ | refine blk_drew ?_ | refine blk_alloc ?_ _)); exact BK379.out⟩, ⟨by repeat (first | (with_reducible first | exact HB.out | apply below_alloc | apply pw_below_drewN | apply below_drew1 | refine below_set ?_ GE379.out) | exact HB.out)⟩⟩
            case rest =>
              as_aux_lemma =>
              clear HC41
              try clear c1
              try clear c2
              try clear p2
              try clear c3
              try clear c4
              try clear c5
              try clear p6
              try clear c8
              try clear c13
              try clear c16
              try clear c18
              try clear c19
              try clear c20
              try clear c20b0
              try clear c20b1
              try clear c21
              try clear c21b0
              try clear c21b1
              try clear c22
              try clear c22b0
              try clear c22b1
              try clear c22b2
              try clear c23
              try clear c23b0
              try clear c23b1
              try clear c29
              try clear c29b0
              try clear c29b1
              try clear c30
              try clear c30b0
              try clear c30b1
              try clear c31
              try clear c31b0
              try clear c31b1
              try clear c31b2
              try clear c32
              try clear c32b0
              try clear c32b1
              try clear c37
              try clear c38
              try clear c38b0
              try clear c38b1
              try clear c39
              try clear c39b0
              try clear c39b1
              try clear c45
              try clear c45b0
              try clear c45b1
              try clear c46
              try clear c47
              try clear c47b0
              try clear c47b1
              try clear c48
              try clear c48b0
              try clear c48b1
              try clear c50
              try clear c52
              try clear c52b0
              try clear c52b1
              try clear hcz10_0
              try clear hcz10_1
              try clear hcz10_2
              try clear hcz10_3
              try clear hcz10_4
              try clear hcz15_0
              try clear hcz15_1
              try clear hcz15_2
              try clear hcz15_3
              try clear hcz15_4
              try clear hcz17_0
              try clear hcz17_1
              try clear hcz17_2
              try clear hcz17_3
              try clear hcz17_4
              try clear hcz42_0
              try clear hcz42_1
              try clear hcz42_2
              try clear hcz42_3
              try clear hcz42_4
              try clear hcz53_0
              try clear hcz53_1
              try clear hcz53_2
              try clear hcz53_3
              try clear hcz53_4
              try clear hcz55_0
              try clear hcz55_1
              try clear hcz55_2
              try clear hcz55_3
              try clear hcz55_4
              try clear hcz57_0
              try clear hcz57_1
              try clear hcz57_2
              try clear hcz57_3
              try clear hcz57_4
              try clear hcz8_0
              try clear hcz8_1
              try clear hcz8_2
              try clear hcz8_3
              try clear hcz8_4
              try clear hfz10_0
              try clear hfz10_1
              try clear hfz10_2
              try clear hfz10_3
              try clear hfz10_4
              try clear hfz15_0
              try clear hfz15_1
              try clear hfz15_2
              try clear hfz15_3
              try clear hfz15_4
              try clear hfz17_0
              try clear hfz17_1
              try clear hfz17_2
              try clear hfz17_3
              try clear hfz17_4
              try clear hfz42_0
              try clear hfz42_1
              try clear hfz42_2
              try clear hfz42_3
              try clear hfz42_4
              try clear hfz53_0
              try clear hfz53_1
              try clear hfz53_2
              try clear hfz53_3
              try clear hfz53_4
              try clear hfz55_0
              try clear hfz55_1
              try clear hfz55_2
              try clear hfz55_3
              try clear hfz55_4
              try clear hfz57_0
              try clear hfz57_1
              try clear hfz57_2
              try clear hfz57_3
              try clear hfz57_4
              try clear hfz8_0
              try clear hfz8_1
              try clear hfz8_2
              try clear hfz8_3
              try clear hfz8_4
              try clear p2
              obtain ⟨kq, x141_40, rfl, HA, HJ40, BK379, HB⟩ := hcut
              cases kq with
              | zero => exact absurd HA.out (by simp [remontoirlaw04_ScaleMet.j1])
              | succ kj40 =>
                have H := HA.out
                clear HA
                simp only [remontoirlaw04_ScaleMet.j1] at H
                by_cases c59 : x141_40 = true
                · subst c59
                  have H1 : (some false) = some r := by rw [if_pos rfl] at H; exact H
                  clear H
                  have H := H1
                  clear H1
                  obtain rfl := Option.some.inj H
                  go_wp2
                  go_ret
                  exact ⟨by first | rfl | (simp [errW_none, errW_some] <;> rfl) | (simp [*, errW_none, errW_some] <;> rfl), by repeat (first | (with_reducible first | exact HB.out | apply below_alloc | apply pw_below_drewN | apply below_drew1 | refine below_set ?_ GE379.out) | exact HB.out)⟩
                · replace c59 := Bool.eq_false_iff.mpr c59
                  subst c59
                  have H1 : (if t384 = 0 then ((remontoirlaw04_works.f).bind fun t400 => (some t400)) else ((scale_Reach.f a0_0 a0_1 a0_2 a0_3 a0_4 t384).bind fun bt401 => ((scale_Reach.f a0_0 a0_1 a0_2 a0_3 a0_4 (wrap64 (t384 - 1))).bind fun bt405 => (if bt401.2.2 = 0 then (if bt405.2.2 = 0 then ((remontoirref00_Has.f bt401.1 bt401.2.1 (wrap64 (-a1))).bind fun t409 => (if t409 = true then ((remontoirref00_Has.f bt405.1 bt405.2.1 (wrap64 (-a1))).bind fun t410 => (remontoirlaw04_ScaleMet.j2 kj40 a1 l2 t384 t410 a0_0 a0_1 a0_2 a0_3 a0_4)) else (remontoirlaw04_ScaleMet.j2 kj40 a1 l2 t384 true a0_0 a0_1 a0_2 a0_3 a0_4))) else (remontoirlaw04_ScaleMet.j2 kj40 a1 l2 t384 true a0_0 a0_1 a0_2 a0_3 a0_4)) else (remontoirlaw04_ScaleMet.j2 kj40 a1 l2 t384 true a0_0 a0_1 a0_2 a0_3 a0_4))))) = some r := by rw [if_neg (show ¬ (false = true) by decide)] at H; exact H
                  clear H
                  have H := H1
                  clear H1
                  by_cases c60 : t384 = 0
                  · rw [if_pos c60] at H
                    have c60b0 : (t384 == 0) = true := beq_iff_eq.mpr c60
                    have c60b1 : (t384 != 0) = false := bne_eq_false_iff_eq.mpr c60
                    clear c60
                    replace H := Option.bind_eq_some_iff.mp H
                    obtain ⟨t400, A610, H⟩ := H
                    replace H : (some t400) = some r := H
                    have A61 := Aside0.mk A610
                    clear A610
                    obtain rfl := Option.some.inj H
                    go_wp2_with (first | ((with_reducible refine gate_callee (f := 21) rfl ?_); refine goesL_ (some 144) rfl rfl Tryd.func21 (by kernel_rfl) rfl #[] rfl (by (try simp only [List.map_toArray, List.map_cons, List.map_nil]); first | done | rfl | (simp only [List.length_drop, List.length_take]; rfl)) ?_; (with_reducible refine (remontoirlaw04_works.calls  t400 _ ?side1 A61.out).mono ?_); (case side1 => exact Go.Proofs.YtidnopmjhhmedaaDoor.Ways.below HWays.out (by repeat (first | (with_reducible first | exact HB.out | apply below_alloc | apply pw_below_drewN | apply below_drew1 | refine below_set ?_ GE379.out) | exact HB.out))); rintro e w62 ⟨rfl, hb⟩; refine ⟨_, rfl, ?_⟩; have n0_ := Aside0.mk (blk_below (g := gb379) (o := .cells #[.int .i64 a0_0, .int .i64 a0_1, .int .i64 a0_2, .int .i64 a0_3, .int .i64 a0_4] 25 (0, 0)) (by (with_reducible repeat (first | refine blk_drewN ?_ _ | refine blk_drew ?_ | refine blk_alloc ?_ _)); exact BK379.out) hb); have n1_ := Aside0.mk (below_step (by repeat (first | (with_reducible first | exact HB.out | apply below_alloc | apply pw_below_drewN | apply below_drew1 | refine below_set ?_ GE379.out) | exact HB.out)) hb); clear BK379; clear HB; have BK379 := n0_; have HB := n1_; clear n0_ n1_; (try clear hb); (try clear hb2); (try clear hk); (try clear hi)))
                    go_ret
                    exact ⟨by first | rfl | (simp [errW_none, errW_some] <;> rfl) | (simp [*, errW_none, errW_some] <;> rfl), by repeat (first | (with_reducible first | exact HB.out | apply below_alloc | apply pw_below_drewN | apply below_drew1 | refine below_set ?_ GE379.out) | exact HB.out)⟩
                  · rw [if_neg c60] at H
                    have c60b0 : (t384 == 0) = false := beq_eq_false_iff_ne.mpr c60
                    have c60b1 : (t384 != 0) = true := bne_iff_ne.mpr c60
                    replace H := Option.bind_eq_some_iff.mp H
                    obtain ⟨⟨t401, t402, t403⟩, A630, H⟩ := H
                    replace H : ((scale_Reach.f a0_0 a0_1 a0_2 a0_3 a0_4 (wrap64 (t384 - 1))).bind fun bt405 => (if t403 = 0 then (if bt405.2.2 = 0 then ((remontoirref00_Has.f t401 t402 (wrap64 (-a1))).bind fun t409 => (if t409 = true then ((remontoirref00_Has.f bt405.1 bt405.2.1 (wrap64 (-a1))).bind fun t410 => (remontoirlaw04_ScaleMet.j2 kj40 a1 l2 t384 t410 a0_0 a0_1 a0_2 a0_3 a0_4)) else (remontoirlaw04_ScaleMet.j2 kj40 a1 l2 t384 true a0_0 a0_1 a0_2 a0_3 a0_4))) else (remontoirlaw04_ScaleMet.j2 kj40 a1 l2 t384 true a0_0 a0_1 a0_2 a0_3 a0_4)) else (remontoirlaw04_ScaleMet.j2 kj40 a1 l2 t384 true a0_0 a0_1 a0_2 a0_3 a0_4))) = some r := H
                    have A63 := Aside0.mk A630
                    clear A630
                    replace H := Option.bind_eq_some_iff.mp H
                    obtain ⟨⟨t405, t406, t407⟩, A640, H⟩ := H
                    replace H : (if t403 = 0 then (if t407 = 0 then ((remontoirref00_Has.f t401 t402 (wrap64 (-a1))).bind fun t409 => (if t409 = true then ((remontoirref00_Has.f t405 t406 (wrap64 (-a1))).bind fun t410 => (remontoirlaw04_ScaleMet.j2 kj40 a1 l2 t384 t410 a0_0 a0_1 a0_2 a0_3 a0_4)) else (remontoirlaw04_ScaleMet.j2 kj40 a1 l2 t384 true a0_0 a0_1 a0_2 a0_3 a0_4))) else (remontoirlaw04_ScaleMet.j2 kj40 a1 l2 t384 true a0_0 a0_1 a0_2 a0_3 a0_4)) else (remontoirlaw04_ScaleMet.j2 kj40 a1 l2 t384 true a0_0 a0_1 a0_2 a0_3 a0_4)) = some r := H
                    have A64 := Aside0.mk A640
                    clear A640
                    have HC65 := Aside0.mk H
                    clear H
                    have hcz66_0 : wc.cell? ⟨gb379, 0, none⟩ = some (.int .i64 a0_0) := (blk_cell BK379.out 0).trans rfl
                    have hcz66_1 : wc.cell? ⟨gb379, 1, none⟩ = some (.int .i64 a0_1) := (blk_cell BK379.out 1).trans rfl
                    have hcz66_2 : wc.cell? ⟨gb379, 2, none⟩ = some (.int .i64 a0_2) := (blk_cell BK379.out 2).trans rfl
                    have hcz66_3 : wc.cell? ⟨gb379, 3, none⟩ = some (.int .i64 a0_3) := (blk_cell BK379.out 3).trans rfl
                    have hcz66_4 : wc.cell? ⟨gb379, 4, none⟩ = some (.int .i64 a0_4) := (blk_cell BK379.out 4).trans rfl
                    have hfz66_0 := blk_frozen BK379.out 0
                    have hfz66_1 := blk_frozen BK379.out 1
                    have hfz66_2 := blk_frozen BK379.out 2
                    have hfz66_3 := blk_frozen BK379.out 3
                    have hfz66_4 := blk_frozen BK379.out 4
                    go_upto_region 17 with (first | ((with_reducible refine gate_callee (f := 22) rfl ?_); refine goesL_ (some 148) rfl rfl Tryd.func22 (by kernel_rfl) rfl #[.agg #[.int .i64 a0_0, .int .i64 a0_1, .int .i64 a0_2, .int .i64 a0_3, .int .i64 a0_4], .int .i64 t384] rfl (by (try simp only [List.map_toArray, List.map_cons, List.map_nil]); first | done | rfl | (simp only [List.length_drop, List.length_take]; rfl)) ?_; (with_reducible refine (scale_Reach.calls a0_0 a0_1 a0_2 a0_3 a0_4 t384 t401 t402 t403 _ ?side1 A63.out).mono ?_); (case side1 => exact Go.Proofs.YtidnopmjhhmedaaDoor.Ways.below HWays.out (by repeat (first | (with_reducible first | exact HB.out | apply below_alloc | apply pw_below_drewN | apply below_drew1 | refine below_set ?_ GE379.out) | exact HB.out))); rintro e w67 ⟨rfl, hb⟩; refine ⟨_, rfl, ?_⟩; have n0_ := Aside0.mk (blk_below (g := gb379) (o := .cells #[.int .i64 a0_0, .int .i64 a0_1, .int .i64 a0_2, .int .i64 a0_3, .int .i64 a0_4] 25 (0, 0)) (by (with_reducible repeat (first | refine blk_drewN ?_ _ | refine blk_drew ?_ | refine blk_alloc ?_ _)); exact BK379.out) hb); have n1_ := Aside0.mk (below_step (by repeat (first | (with_reducible first | exact HB.out | apply below_alloc | apply pw_below_drewN | apply below_drew1 | refine below_set ?_ GE379.out) | exact HB.out)) hb); clear BK379; clear HB; have BK379 := n0_; have HB := n1_; clear n0_ n1_; (try clear hb); (try clear hb2); (try clear hk); (try clear hi)) | ((with_reducible refine gate_dst (N := 15) rfl ?_); (try (refine gate_guard (by rfl) ?_; dsimp only)); refine box_event ?hg (N := 15) ?hd (cs := #[.int .i64 0, .int .i64 0]) (t := 23) ?hr ?_; (case hd => rfl); (case hg => rfl); (case hr => first | (go_simp; done) | (go_simp; rfl)); intro gb404 hg w68 hbox hb; have n0_ := Aside0.mk (blk_below (g := gb379) (o := .cells #[.int .i64 a0_0, .int .i64 a0_1, .int .i64 a0_2, .int .i64 a0_3, .int .i64 a0_4] 25 (0, 0)) (by (with_reducible repeat (first | refine blk_drewN ?_ _ | refine blk_drew ?_ | refine blk_alloc ?_ _)); exact BK379.out) hb); have n1_ := Aside0.mk (below_step (by repeat (first | (with_reducible first | exact HB.out | apply below_alloc | apply pw_below_drewN | apply below_drew1 | refine below_set ?_ GE379.out) | exact HB.out)) hb); have n2_ := Aside0.mk (hbox); have n3_ := Aside0.mk ((by rw [hg]; exact (below_size (by repeat (first | (with_reducible first | exact HB.out | apply below_alloc | apply pw_below_drewN | apply below_drew1 | refine below_set ?_ GE379.out) | exact HB.out))) : w.heap.size ≤ gb404)); have n4_ := Aside0.mk ((by rw [hg]; exact (below_size (by repeat (first | (with_reducible first | exact HB.out | apply below_alloc | apply pw_below_drewN | apply below_drew1 | refine below_set ?_ GE379.out) | exact HB.out))) : w.heap.size ≤ gb404)); have n5_ := Aside0.mk ((by rw [hg]; exact Nat.ne_of_lt (blk_lt (g := gb379) (o := .cells #[.int .i64 a0_0, .int .i64 a0_1, .int .i64 a0_2, .int .i64 a0_3, .int .i64 a0_4] 25 (0, 0)) (by (with_reducible repeat (first | refine blk_drewN ?_ _ | refine blk_drew ?_ | refine blk_alloc ?_ _)); exact BK379.out)) : gb379 ≠ gb404)); have n6_ := Aside0.mk ((by rw [hg]; exact Nat.ne_of_gt (blk_lt (g := gb379) (o := .cells #[.int .i64 a0_0, .int .i64 a0_1, .int .i64 a0_2, .int .i64 a0_3, .int .i64 a0_4] 25 (0, 0)) (by (with_reducible repeat (first | refine blk_drewN ?_ _ | refine blk_drew ?_ | refine blk_alloc ?_ _)); exact BK379.out)) : gb404 ≠ gb379)); clear BK379; clear HB; have BK379 := n0_; have HB := n1_; have BK404 := n2_; have GW404 := n3_; have GE404 := n4_; have NB379_404 := n5_; have NB404_379 := n6_; clear n0_ n1_ n2_ n3_ n4_ n5_ n6_; clear hb hbox hg; have hnb69 := NB404_379.out; have hnc69 := NB379_404.out; have hcz70_0 : w68.cell? ⟨gb404, 0, none⟩ = some (.int .i64 0) := (blk_cell BK404.out 0).trans rfl; have hcz70_1 : w68.cell? ⟨gb404, 1, none⟩ = some (.int .i64 0) := (blk_cell BK404.out 1).trans rfl; have hfz70_0 := blk_frozen BK404.out 0; have hfz70_1 := blk_frozen BK404.out 1; have hcz71_0 : w68.cell? ⟨gb379, 0, none⟩ = some (.int .i64 a0_0) := (blk_cell BK379.out 0).trans rfl; have hcz71_1 : w68.cell? ⟨gb379, 1, none⟩ = some (.int .i64 a0_1) := (blk_cell BK379.out 1).trans rfl; have hcz71_2 : w68.cell? ⟨gb379, 2, none⟩ = some (.int .i64 a0_2) := (blk_cell BK379.out 2).trans rfl; have hcz71_3 : w68.cell? ⟨gb379, 3, none⟩ = some (.int .i64 a0_3) := (blk_cell BK379.out 3).trans rfl; have hcz71_4 : w68.cell? ⟨gb379, 4, none⟩ = some (.int .i64 a0_4) := (blk_cell BK379.out 4).trans rfl; have hfz71_0 := blk_frozen BK379.out 0; have hfz71_1 := blk_frozen BK379.out 1; have hfz71_2 := blk_frozen BK379.out 2; have hfz71_3 := blk_frozen BK379.out 3; have hfz71_4 := blk_frozen BK379.out 4) | ((with_reducible refine gate_callee (f := 22) rfl ?_); refine goesL_ (some 155) rfl rfl Tryd.func22 (by kernel_rfl) rfl #[.agg #[.int .i64 a0_0, .int .i64 a0_1, .int .i64 a0_2, .int .i64 a0_3, .int .i64 a0_4], .int .i64 (wrap64 (t384 - 1))] rfl (by (try simp only [List.map_toArray, List.map_cons, List.map_nil]); first | done | rfl | (simp only [List.length_drop, List.length_take]; rfl)) ?_; (with_reducible refine (scale_Reach.calls a0_0 a0_1 a0_2 a0_3 a0_4 (wrap64 (t384 - 1)) t405 t406 t407 _ ?side1 A64.out).mono ?_); (case side1 => exact Go.Proofs.YtidnopmjhhmedaaDoor.Ways.below HWays.out (by repeat (first | (with_reducible first | exact HB.out | apply below_alloc | apply pw_below_drewN | apply below_drew1 | refine below_set ?_ GE379.out | refine below_set ?_ GE404.out) | exact HB.out))); rintro e w72 ⟨rfl, hb⟩; refine ⟨_, rfl, ?_⟩; have n0_ := Aside0.mk (blk_below (g := gb379) (o := .cells #[.int .i64 a0_0, .int .i64 a0_1, .int .i64 a0_2, .int .i64 a0_3, .int .i64 a0_4] 25 (0, 0)) (by (with_reducible repeat (first | refine blk_drewN ?_ _ | refine blk_drew ?_ | refine blk_alloc ?_ _)); refine blk_far ?_ NB379_404.out _; (with_reducible repeat (first | refine blk_drewN ?_ _ | refine blk_drew ?_ | refine blk_alloc ?_ _)); refine blk_far ?_ NB379_404.out _; (with_reducible repeat (first | refine blk_drewN ?_ _ | refine blk_drew ?_ | refine blk_alloc ?_ _)); exact BK379.out) hb); have n1_ := Aside0.mk (blk_below (g := gb404) (o := .cells #[.int .i64 t401, .int .i64 t402] 23 (0, 0)) (by (with_reducible repeat (first | refine blk_drewN ?_ _ | refine blk_drew ?_ | refine blk_alloc ?_ _)); refine blk_put (cs := #[.int .i64 t401, .int .i64 0]) ?_ 1 _ rfl; (with_reducible repeat (first | refine blk_drewN ?_ _ | refine blk_drew ?_ | refine blk_alloc ?_ _)); refine blk_put (cs := #[.int .i64 0, .int .i64 0]) ?_ 0 _ rfl; (with_reducible repeat (first | refine blk_drewN ?_ _ | refine blk_drew ?_ | refine blk_alloc ?_ _)); exact BK404.out) hb); have n2_ := Aside0.mk (below_step (by repeat (first | (with_reducible first | exact HB.out | apply below_alloc | apply pw_below_drewN | apply below_drew1 | refine below_set ?_ GE379.out | refine below_set ?_ GE404.out) | exact HB.out)) hb); clear BK379; clear BK404; clear HB; have BK379 := n0_; have BK404 := n1_; have HB := n2_; clear n0_ n1_ n2_; (try clear hb); (try clear hb2); (try clear hk); (try clear hi)) | ((with_reducible refine gate_dst (N := 16) rfl ?_); (try (refine gate_guard (by rfl) ?_; dsimp only)); refine box_event ?hg (N := 16) ?hd (cs := #[.int .i64 0, .int .i64 0]) (t := 23) ?hr ?_; (case hd => rfl); (case hg => rfl); (case hr => first | (go_simp; done) | (go_simp; rfl)); intro gb408 hg w73 hbox hb; have n0_ := Aside0.mk (blk_below (g := gb379) (o := .cells #[.int .i64 a0_0, .int .i64 a0_1, .int .i64 a0_2, .int .i64 a0_3, .int .i64 a0_4] 25 (0, 0)) (by (with_reducible repeat (first | refine blk_drewN ?_ _ | refine blk_drew ?_ | refine blk_alloc ?_ _)); exact BK379.out) hb); have n1_ := Aside0.mk (blk_below (g := gb404) (o := .cells #[.int .i64 t401, .int .i64 t402] 23 (0, 0)) (by (with_reducible repeat (first | refine blk_drewN ?_ _ | refine blk_drew ?_ | refine blk_alloc ?_ _)); exact BK404.out) hb); have n2_ := Aside0.mk (below_step (by repeat (first | (with_reducible first | exact HB.out | apply below_alloc | apply pw_below_drewN | apply below_drew1 | refine below_set ?_ GE379.out | refine below_set ?_ GE404.out) | exact HB.out)) hb); have n3_ := Aside0.mk (hbox); have n4_ := Aside0.mk ((by rw [hg]; exact (below_size (by repeat (first | (with_reducible first | exact HB.out | apply below_alloc | apply pw_below_drewN | apply below_drew1 | refine below_set ?_ GE379.out | refine below_set ?_ GE404.out) | exact HB.out))) : w.heap.size ≤ gb408)); have n5_ := Aside0.mk ((by rw [hg]; exact (below_size (by repeat (first | (with_reducible first | exact HB.out | apply below_alloc | apply pw_below_drewN | apply below_drew1 | refine below_set ?_ GE379.out | refine below_set ?_ GE404.out) | exact HB.out))) : w.heap.size ≤ gb408)); have n6_ := Aside0.mk ((by rw [hg]; exact Nat.ne_of_lt (blk_lt (g := gb379) (o := .cells #[.int .i64 a0_0, .int .i64 a0_1, .int .i64 a0_2, .int .i64 a0_3, .int .i64 a0_4] 25 (0, 0)) (by (with_reducible repeat (first | refine blk_drewN ?_ _ | refine blk_drew ?_ | refine blk_alloc ?_ _)); exact BK379.out)) : gb379 ≠ gb408)); have n7_ := Aside0.mk ((by rw [hg]; exact Nat.ne_of_gt (blk_lt (g := gb379) (o := .cells #[.int .i64 a0_0, .int .i64 a0_1, .int .i64 a0_2, .int .i64 a0_3, .int .i64 a0_4] 25 (0, 0)) (by (with_reducible repeat (first | refine blk_drewN ?_ _ | refine blk_drew ?_ | refine blk_alloc ?_ _)); exact BK379.out)) : gb408 ≠ gb379)); have n8_ := Aside0.mk ((by rw [hg]; exact Nat.ne_of_lt (blk_lt (g := gb404) (o := .cells #[.int .i64 t401, .int .i64 t402] 23 (0, 0)) (by (with_reducible repeat (first | refine blk_drewN ?_ _ | refine blk_drew ?_ | refine blk_alloc ?_ _)); exact BK404.out)) : gb404 ≠ gb408)); have n9_ := Aside0.mk ((by rw [hg]; exact Nat.ne_of_gt (blk_lt (g := gb404) (o := .cells #[.int .i64 t401, .int .i64 t402] 23 (0, 0)) (by (with_reducible repeat (first | refine blk_drewN ?_ _ | refine blk_drew ?_ | refine blk_alloc ?_ _)); exact BK404.out)) : gb408 ≠ gb404)); clear BK379; clear BK404; clear HB; have BK379 := n0_; have BK404 := n1_; have HB := n2_; have BK408 := n3_; have GW408 := n4_; have GE408 := n5_; have NB379_408 := n6_; have NB408_379 := n7_; have NB404_408 := n8_; have NB408_404 := n9_; clear n0_ n1_ n2_ n3_ n4_ n5_ n6_ n7_ n8_ n9_; clear hb hbox hg; have hnb74 := NB408_379.out; have hnc74 := NB379_408.out; have hnb75 := NB408_404.out; have hnc75 := NB404_408.out; have hcz76_0 : w73.cell? ⟨gb408, 0, none⟩ = some (.int .i64 0) := (blk_cell BK408.out 0).trans rfl; have hcz76_1 : w73.cell? ⟨gb408, 1, none⟩ = some (.int .i64 0) := (blk_cell BK408.out 1).trans rfl; have hfz76_0 := blk_frozen BK408.out 0; have hfz76_1 := blk_frozen BK408.out 1))
                    (try simp only [Act.put, List.setIfInBounds_toArray, List.set_cons_zero, List.set_cons_succ])
                    go_cut [176] (fun v176 wc => ∃ (kq : Nat) (x176_64 : Bool), v176 = .bool x176_64 ∧ Aside0 (remontoirlaw04_ScaleMet.j2 kq a1 l2 t384 x176_64 a0_0 a0_1 a0_2 a0_3 a0_4 = some r) ∧ Aside0 (kq ≤ kj40) ∧ Aside0 (wc.heap[gb379]? = some (.cells #[.int .i64 a0_0, .int .i64 a0_1, .int .i64 a0_2, .int .i64 a0_3, .int .i64 a0_4] 25 (0, 0))) ∧ Aside0 (wc.heap[gb404]? = some (.cells #[.int .i64 t401, .int .i64 t402] 23 (0, 0))) ∧ Aside0 (wc.heap[gb408]? = some (.cells #[.int .i64 t405, .int .i64 t406] 23 (0, 0))) ∧ Aside0 (Below w.heap.size w wc))
                    case first =>
                      have H := HC65.out
                      clear HC65
                      by_cases c77 : t403 = 0
                      · rw [if_pos c77] at H
                        have c77b0 : (t403 == 0) = true := beq_iff_eq.mpr c77
                        have c77b1 : (t403 != 0) = false := bne_eq_false_iff_eq.mpr c77
                        clear c77
                        (first | rw [c77b0] | (simp only [i64_w, i32_w]; rw [c77b0]) | skip)
                        by_cases c78 : t407 = 0
                        · rw [if_pos c78] at H
                          have c78b0 : (t407 == 0) = true := beq_iff_eq.mpr c78
                          have c78b1 : (t407 != 0) = false := bne_eq_false_iff_eq.mpr c78
                          clear c78
                          replace H := Option.bind_eq_some_iff.mp H
                          obtain ⟨t409, A790, H⟩ := H
                          replace H : (if t409 = true then ((remontoirref00_Has.f t405 t406 (wrap64 (-a1))).bind fun t410 => (remontoirlaw04_ScaleMet.j2 kj40 a1 l2 t384 t410 a0_0 a0_1 a0_2 a0_3 a0_4)) else (remontoirlaw04_ScaleMet.j2 kj40 a1 l2 t384 true a0_0 a0_1 a0_2 a0_3 a0_4)) = some r := H
                          have A79 := Aside0.mk A790
                          clear A790
                          by_cases c80 : t409 = true
                          · subst c80
                            have H1 : ((remontoirref00_Has.f t405 t406 (wrap64 (-a1))).bind fun t410 => (remontoirlaw04_ScaleMet.j2 kj40 a1 l2 t384 t410 a0_0 a0_1 a0_2 a0_3 a0_4)) = some r := by rw [if_pos rfl] at H; exact H
                            clear H
                            have H := H1
                            clear H1
                            replace H := Option.bind_eq_some_iff.mp H
                            obtain ⟨t410, A810, H⟩ := H
                            replace H : (remontoirlaw04_ScaleMet.j2 kj40 a1 l2 t384 t410 a0_0 a0_1 a0_2 a0_3 a0_4) = some r := H
                            have A81 := Aside0.mk A810
                            clear A810
                            have H' := Aside0.mk H
                            clear H
                            have hnb82 := NB404_379.out
                            have hnc82 := NB379_404.out
                            have hnb83 := NB404_408.out
                            have hnc83 := NB408_404.out
                            have hcz84_0 : w73.cell? ⟨gb404, 0, none⟩ = some (.int .i64 t401) := (blk_cell BK404.out 0).trans rfl
                            have hcz84_1 : w73.cell? ⟨gb404, 1, none⟩ = some (.int .i64 t402) := (blk_cell BK404.out 1).trans rfl
                            have hfz84_0 := blk_frozen BK404.out 0
                            have hfz84_1 := blk_frozen BK404.out 1
                            go_wp2_with (first | (go_at_call 43; (with_reducible refine (remontoirref00_Has.calls t401 t402 (wrap64 (-a1)) true _ A79.out).mono ?_); rintro e w85 ⟨rfl, hb⟩; have n0_ := Aside0.mk (blk_below (g := gb379) (o := .cells #[.int .i64 a0_0, .int .i64 a0_1, .int .i64 a0_2, .int .i64 a0_3, .int .i64 a0_4] 25 (0, 0)) (by (with_reducible repeat (first | refine blk_drewN ?_ _ | refine blk_drew ?_ | refine blk_alloc ?_ _)); refine blk_far ?_ NB379_408.out _; (with_reducible repeat (first | refine blk_drewN ?_ _ | refine blk_drew ?_ | refine blk_alloc ?_ _)); refine blk_far ?_ NB379_408.out _; (with_reducible repeat (first | refine blk_drewN ?_ _ | refine blk_drew ?_ | refine blk_alloc ?_ _)); exact BK379.out) hb); have n1_ := Aside0.mk (blk_below (g := gb404) (o := .cells #[.int .i64 t401, .int .i64 t402] 23 (0, 0)) (by (with_reducible repeat (first | refine blk_drewN ?_ _ | refine blk_drew ?_ | refine blk_alloc ?_ _)); refine blk_far ?_ NB404_408.out _; (with_reducible repeat (first | refine blk_drewN ?_ _ | refine blk_drew ?_ | refine blk_alloc ?_ _)); refine blk_far ?_ NB404_408.out _; (with_reducible repeat (first | refine blk_drewN ?_ _ | refine blk_drew ?_ | refine blk_alloc ?_ _)); exact BK404.out) hb); have n2_ := Aside0.mk (blk_below (g := gb408) (o := .cells #[.int .i64 t405, .int .i64 t406] 23 (0, 0)) (by (with_reducible repeat (first | refine blk_drewN ?_ _ | refine blk_drew ?_ | refine blk_alloc ?_ _)); refine blk_put (cs := #[.int .i64 t405, .int .i64 0]) ?_ 1 _ rfl; (with_reducible repeat (first | refine blk_drewN ?_ _ | refine blk_drew ?_ | refine blk_alloc ?_ _)); refine blk_put (cs := #[.int .i64 0, .int .i64 0]) ?_ 0 _ rfl; (with_reducible repeat (first | refine blk_drewN ?_ _ | refine blk_drew ?_ | refine blk_alloc ?_ _)); exact BK408.out) hb); have n3_ := Aside0.mk (below_step (by repeat (first | (with_reducible first | exact HB.out | apply below_alloc | apply pw_below_drewN | apply below_drew1 | refine below_set ?_ GE379.out | refine below_set ?_ GE404.out | refine below_set ?_ GE408.out) | exact HB.out)) hb); clear BK379; clear BK404; clear BK408; clear HB; have BK379 := n0_; have BK404 := n1_; have BK408 := n2_; have HB := n3_; clear n0_ n1_ n2_ n3_; (try clear hb); (try clear hb2); (try clear hk); (try clear hi); have hnb86 := NB408_379.out; have hnc86 := NB379_408.out; have hcz87_0 : w85.cell? ⟨gb408, 0, none⟩ = some (.int .i64 t405) := (blk_cell BK408.out 0).trans rfl; have hcz87_1 : w85.cell? ⟨gb408, 1, none⟩ = some (.int .i64 t406) := (blk_cell BK408.out 1).trans rfl; have hfz87_0 := blk_frozen BK408.out 0; have hfz87_1 := blk_frozen BK408.out 1) | (go_at_call 43; (with_reducible refine (remontoirref00_Has.calls t405 t406 (wrap64 (-a1)) t410 _ A81.out).mono ?_); rintro e w88 ⟨rfl, hb⟩; have n0_ := Aside0.mk (blk_below (g := gb379) (o := .cells #[.int .i64 a0_0, .int .i64 a0_1, .int .i64 a0_2, .int .i64 a0_3, .int .i64 a0_4] 25 (0, 0)) (by (with_reducible repeat (first | refine blk_drewN ?_ _ | refine blk_drew ?_ | refine blk_alloc ?_ _)); exact BK379.out) hb); have n1_ := Aside0.mk (blk_below (g := gb404) (o := .cells #[.int .i64 t401, .int .i64 t402] 23 (0, 0)) (by (with_reducible repeat (first | refine blk_drewN ?_ _ | refine blk_drew ?_ | refine blk_alloc ?_ _)); exact BK404.out) hb); have n2_ := Aside0.mk (blk_below (g := gb408) (o := .cells #[.int .i64 t405, .int .i64 t406] 23 (0, 0)) (by (with_reducible repeat (first | refine blk_drewN ?_ _ | refine blk_drew ?_ | refine blk_alloc ?_ _)); exact BK408.out) hb); have n3_ := Aside0.mk (below_step (by repeat (first | (with_reducible first | exact HB.out | apply below_alloc | apply pw_below_drewN | apply below_drew1 | refine below_set ?_ GE379.out | refine below_set ?_ GE404.out | refine below_set ?_ GE408.out) | exact HB.out)) hb); clear BK379; clear BK404; clear BK408; clear HB; have BK379 := n0_; have BK404 := n1_; have BK408 := n2_; have HB := n3_; clear n0_ n1_ n2_ n3_; (try clear hb); (try clear hb2); (try clear hk); (try clear hi)))
                            go_meet
                            case rel => exact ⟨_, (t410), (by first | rfl | (simp; done) | (simp [*]; done)), H', ⟨by have := HJ5.out; have := HJ40.out; first | omega | exact Nat.le_refl _⟩, ⟨by (with_reducible repeat (first | refine blk_drewN ?_ _ | refine blk_drew ?_ | refine blk_alloc ?_ _)); exact BK379.out⟩, ⟨by (with_reducible repeat (first | refine blk_drewN ?_ _ | refine blk_drew ?_ | refine blk_alloc ?_ _)); exact BK404.out⟩, ⟨by (with_reducible repeat (first | refine blk_drewN ?_ _ | refine blk_drew ?_ | refine blk_alloc ?_ _)); exact BK408.out⟩, ⟨by repeat (first | (with_reducible first | exact HB.out | apply below_alloc | apply pw_below_drewN | apply below_drew1 | refine below_set ?_ GE379.out | refine below_set ?_ GE404.out | refine below_set ?_ GE408.out) | exact HB.out)⟩⟩
                          · replace c80 := Bool.eq_false_iff.mpr c80
                            subst c80
                            have H1 : (remontoirlaw04_ScaleMet.j2 kj40 a1 l2 t384 true a0_0 a0_1 a0_2 a0_3 a0_4) = some r := by rw [if_neg (show ¬ (false = true) by decide)] at H; exact H
                            clear H
                            have H := H1
                            clear H1
                            have H' := Aside0.mk H
                            clear H
                            have hnb89 := NB404_379.out
                            have hnc89 := NB379_404.out
                            have hnb90 := NB404_408.out
                            have hnc90 := NB408_404.out
                            have hcz91_0 : w73.cell? ⟨gb404, 0, none⟩ = some (.int .i64 t401) := (blk_cell BK404.out 0).trans rfl
                            have hcz91_1 : w73.cell? ⟨gb404, 1, none⟩ = some (.int .i64 t402) := (blk_cell BK404.out 1).trans rfl
                            have hfz91_0 := blk_frozen BK404.out 0
                            have hfz91_1 := blk_frozen BK404.out 1
                            go_wp2_with (first | (go_at_call 43; (with_reducible refine (remontoirref00_Has.calls t401 t402 (wrap64 (-a1)) false _ A79.out).mono ?_); rintro e w92 ⟨rfl, hb⟩; have n0_ := Aside0.mk (blk_below (g := gb379) (o := .cells #[.int .i64 a0_0, .int .i64 a0_1, .int .i64 a0_2, .int .i64 a0_3, .int .i64 a0_4] 25 (0, 0)) (by (with_reducible repeat (first | refine blk_drewN ?_ _ | refine blk_drew ?_ | refine blk_alloc ?_ _)); refine blk_far ?_ NB379_408.out _; (with_reducible repeat (first | refine blk_drewN ?_ _ | refine blk_drew ?_ | refine blk_alloc ?_ _)); refine blk_far ?_ NB379_408.out _; (with_reducible repeat (first | refine blk_drewN ?_ _ | refine blk_drew ?_ | refine blk_alloc ?_ _)); exact BK379.out) hb); have n1_ := Aside0.mk (blk_below (g := gb404) (o := .cells #[.int .i64 t401, .int .i64 t402] 23 (0, 0)) (by (with_reducible repeat (first | refine blk_drewN ?_ _ | refine blk_drew ?_ | refine blk_alloc ?_ _)); refine blk_far ?_ NB404_408.out _; (with_reducible repeat (first | refine blk_drewN ?_ _ | refine blk_drew ?_ | refine blk_alloc ?_ _)); refine blk_far ?_ NB404_408.out _; (with_reducible repeat (first | refine blk_drewN ?_ _ | refine blk_drew ?_ | refine blk_alloc ?_ _)); exact BK404.out) hb); have n2_ := Aside0.mk (blk_below (g := gb408) (o := .cells #[.int .i64 t405, .int .i64 t406] 23 (0, 0)) (by (with_reducible repeat (first | refine blk_drewN ?_ _ | refine blk_drew ?_ | refine blk_alloc ?_ _)); refine blk_put (cs := #[.int .i64 t405, .int .i64 0]) ?_ 1 _ rfl; (with_reducible repeat (first | refine blk_drewN ?_ _ | refine blk_drew ?_ | refine blk_alloc ?_ _)); refine blk_put (cs := #[.int .i64 0, .int .i64 0]) ?_ 0 _ rfl; (with_reducible repeat (first | refine blk_drewN ?_ _ | refine blk_drew ?_ | refine blk_alloc ?_ _)); exact BK408.out) hb); have n3_ := Aside0.mk (below_step (by repeat (first | (with_reducible first | exact HB.out | apply below_alloc | apply pw_below_drewN | apply below_drew1 | refine below_set ?_ GE379.out | refine below_set ?_ GE404.out | refine below_set ?_ GE408.out) | exact HB.out)) hb); clear BK379; clear BK404; clear BK408; clear HB; have BK379 := n0_; have BK404 := n1_; have BK408 := n2_; have HB := n3_; clear n0_ n1_ n2_ n3_; (try clear hb); (try clear hb2); (try clear hk); (try clear hi)))
                            go_meet
                            case rel => exact ⟨_, (true), (by first | rfl | (simp; done) | (simp [*]; done)), H', ⟨by have := HJ5.out; have := HJ40.out; first | omega | exact Nat.le_refl _⟩, ⟨by (with_reducible repeat (first | refine blk_drewN ?_ _ | refine blk_drew ?_ | refine blk_alloc ?_ _)); exact BK379.out⟩, ⟨by (with_reducible repeat (first | refine blk_drewN ?_ _ | refine blk_drew ?_ | refine blk_alloc ?_ _)); exact BK404.out⟩, ⟨by (with_reducible repeat (first | refine blk_drewN ?_ _ | refine blk_drew ?_ | refine blk_alloc ?_ _)); exact BK408.out⟩, ⟨by repeat (first | (with_reducible first | exact HB.out | apply below_alloc | apply pw_below_drewN | apply below_drew1 | refine below_set ?_ GE379.out | refine below_set ?_ GE404.out | refine below_set ?_ GE408.out) | exact HB.out)⟩⟩
                        · rw [if_neg c78] at H
                          have c78b0 : (t407 == 0) = false := beq_eq_false_iff_ne.mpr c78
                          have c78b1 : (t407 != 0) = true := bne_iff_ne.mpr c78
                          have H' := Aside0.mk H
                          clear H
                          go_wp2
                          go_meet
                          case rel => exact ⟨_, (true), (by first | rfl | (simp; done) | (simp [*]; done)), H', ⟨by have := HJ5.out; have := HJ40.out; first | omega | exact Nat.le_refl _⟩, ⟨by (with_reducible repeat (first | refine blk_drewN ?_ _ | refine blk_drew ?_ | refine blk_alloc ?_ _)); refine blk_far ?_ NB379_408.out _; (with_reducible repeat (first | refine blk_drewN ?_ _ | refine blk_drew ?_ | refine blk_alloc ?_ _)); refine blk_far ?_ NB379_408.out _; (with_reducible repeat (first | refine blk_drewN ?_ _ | refine blk_drew ?_ | refine blk_alloc ?_ _)); exact BK379.out⟩, ⟨by (with_reducible repeat (first | refine blk_drewN ?_ _ | refine blk_drew ?_ | refine blk_alloc ?_ _)); refine blk_far ?_ NB404_408.out _; (with_reducible repeat (first | refine blk_drewN ?_ _ | refine blk_drew ?_ | refine blk_alloc ?_ _)); refine blk_far ?_ NB404_408.out _; (with_reducible repeat (first | refine blk_drewN ?_ _ | refine blk_drew ?_ | refine blk_alloc ?_ _)); exact BK404.out⟩, ⟨by (with_reducible repeat (first | refine blk_drewN ?_ _ | refine blk_drew ?_ | refine blk_alloc ?_ _)); refine blk_put (cs := #[.int .i64 t405, .int .i64 0]) ?_ 1 _ rfl; (with_reducible repeat (first | refine blk_drewN ?_ _ | refine blk_drew ?_ | refine blk_alloc ?_ _)); refine blk_put (cs := #[.int .i64 0, .int .i64 0]) ?_ 0 _ rfl; (with_reducible repeat (first | refine blk_drewN ?_ _ | refine blk_drew ?_ | refine blk_alloc ?_ _)); exact BK408.out⟩, ⟨by repeat (first | (with_reducible first | exact HB.out | apply below_alloc | apply pw_below_drewN | apply below_drew1 | refine below_set ?_ GE379.out | refine below_set ?_ GE404.out | refine below_set ?_ GE408.out) | exact HB.out)⟩⟩
                      · rw [if_neg c77] at H
                        have c77b0 : (t403 == 0) = false := beq_eq_false_iff_ne.mpr c77
                        have c77b1 : (t403 != 0) = true := bne_iff_ne.mpr c77
                        (first | rw [c77b0] | (simp only [i64_w, i32_w]; rw [c77b0]) | skip)
                        have H' := Aside0.mk H
                        clear H
                        go_wp2
                        go_meet
                        case rel => exact ⟨_, (true), (by first | rfl | (simp; done) | (simp [*]; done)), H', ⟨by have := HJ5.out; have := HJ40.out; first | omega | exact Nat.le_refl _⟩, ⟨by (with_reducible repeat (first | refine blk_drewN ?_ _ | refine blk_drew ?_ | refine blk_alloc ?_ _)); refine blk_far ?_ NB379_408.out _; (with_reducible repeat (first | refine blk_drewN ?_ _ | refine blk_drew ?_ | refine blk_alloc ?_ _)); refine blk_far ?_ NB379_408.out _; (with_reducible repeat (first | refine blk_drewN ?_ _ | refine blk_drew ?_ | refine blk_alloc ?_ _)); exact BK379.out⟩, ⟨by (with_reducible repeat (first | refine blk_drewN ?_ _ | refine blk_drew ?_ | refine blk_alloc ?_ _)); refine blk_far ?_ NB404_408.out _; (with_reducible repeat (first | refine blk_drewN ?_ _ | refine blk_drew ?_ | refine blk_alloc ?_ _)); refine blk_far ?_ NB404_408.out _; (with_reducible repeat (first | refine blk_drewN ?_ _ | refine blk_drew ?_ | refine blk_alloc ?_ _)); exact BK404.out⟩, ⟨by (with_reducible repeat (first | refine blk_drewN ?_ _ | refine blk_drew ?_ | refine blk_alloc ?_ _)); refine blk_put (cs := #[.int .i64 t405, .int .i64 0]) ?_ 1 _ rfl; (with_reducible repeat (first | refine blk_drewN ?_ _ | refine blk_drew ?_ | refine blk_alloc ?_ _)); refine blk_put (cs := #[.int .i64 0, .int .i64 0]) ?_ 0 _ rfl; (with_reducible repeat (first | refine blk_drewN ?_ _ | refine blk_drew ?_ | refine blk_alloc ?_ _)); exact BK408.out⟩, ⟨by repeat (first | (with_reducible first | exact HB.out | apply below_alloc | apply pw_below_drewN | apply below_drew1 | refine below_set ?_ GE379.out | refine below_set ?_ GE404.out | refine below_set ?_ GE408.out) | exact HB.out)⟩⟩
                    case rest =>
                      as_aux_lemma =>
                      clear HC65
                      try clear c1
                      try clear c2
                      try clear p2
                      try clear c3
                      try clear c4
                      try clear c5
                      try clear c6
                      try clear p6
                      try clear c7
                      try clear c8
                      try clear c9
                      try clear c13
                      try clear c16
                      try clear c18
                      try clear c19
                      try clear c20
                      try clear c20b0
                      try clear c20b1
                      try clear c21
                      try clear c21b0
                      try clear c21b1
                      try clear c22
                      try clear c22b0
                      try clear c22b1
                      try clear c22b2
                      try clear c23
                      try clear c23b0
                      try clear c23b1
                      try clear c29
                      try clear c29b0
                      try clear c29b1
                      try clear c30
                      try clear c30b0
                      try clear c30b1
                      try clear c31
                      try clear c31b0
                      try clear c31b1
                      try clear c31b2
                      try clear c32
                      try clear c32b0
                      try clear c32b1
                      try clear c37
                      try clear c38
                      try clear c38b0
                      try clear c38b1
                      try clear c39
                      try clear c39b0
                      try clear c39b1
                      try clear c45
                      try clear c45b0
                      try clear c45b1
                      try clear c46
                      try clear c47
                      try clear c47b0
                      try clear c47b1
                      try clear c48
                      try clear c48b0
                      try clear c48b1
                      try clear c50
                      try clear c52
                      try clear c52b0
                      try clear c52b1
                      try clear c59
                      try clear c60
                      try clear c60b0
                      try clear c60b1
                      try clear p64
                      try clear c69
                      try clear c74
                      try clear c75
                      try clear c77
                      try clear c77b0
                      try clear c77b1
                      try clear c78
                      try clear c78b0
                      try clear c78b1
                      try clear c80
                      try clear c82
                      try clear c83
                      try clear c86
                      try clear c89
                      try clear c90
                      try clear hcz10_0
                      try clear hcz10_1
                      try clear hcz10_2
                      try clear hcz10_3
                      try clear hcz10_4
                      try clear hcz15_0
                      try clear hcz15_1
                      try clear hcz15_2
                      try clear hcz15_3
                      try clear hcz15_4
                      try clear hcz17_0
                      try clear hcz17_1
                      try clear hcz17_2
                      try clear hcz17_3
                      try clear hcz17_4
                      try clear hcz42_0
                      try clear hcz42_1
                      try clear hcz42_2
                      try clear hcz42_3
                      try clear hcz42_4
                      try clear hcz53_0
                      try clear hcz53_1
                      try clear hcz53_2
                      try clear hcz53_3
                      try clear hcz53_4
                      try clear hcz55_0
                      try clear hcz55_1
                      try clear hcz55_2
                      try clear hcz55_3
                      try clear hcz55_4
                      try clear hcz57_0
                      try clear hcz57_1
                      try clear hcz57_2
                      try clear hcz57_3
                      try clear hcz57_4
                      try clear hcz66_0
                      try clear hcz66_1
                      try clear hcz66_2
                      try clear hcz66_3
                      try clear hcz66_4
                      try clear hcz70_0
                      try clear hcz70_1
                      try clear hcz71_0
                      try clear hcz71_1
                      try clear hcz71_2
                      try clear hcz71_3
                      try clear hcz71_4
                      try clear hcz76_0
                      try clear hcz76_1
                      try clear hcz84_0
                      try clear hcz84_1
                      try clear hcz87_0
                      try clear hcz87_1
                      try clear hcz8_0
                      try clear hcz8_1
                      try clear hcz8_2
                      try clear hcz8_3
                      try clear hcz8_4
                      try clear hcz91_0
                      try clear hcz91_1
                      try clear hfz10_0
                      try clear hfz10_1
                      try clear hfz10_2
                      try clear hfz10_3
                      try clear hfz10_4
                      try clear hfz15_0
                      try clear hfz15_1
                      try clear hfz15_2
                      try clear hfz15_3
                      try clear hfz15_4
                      try clear hfz17_0
                      try clear hfz17_1
                      try clear hfz17_2
                      try clear hfz17_3
                      try clear hfz17_4
                      try clear hfz42_0
                      try clear hfz42_1
                      try clear hfz42_2
                      try clear hfz42_3
                      try clear hfz42_4
                      try clear hfz53_0
                      try clear hfz53_1
                      try clear hfz53_2
                      try clear hfz53_3
                      try clear hfz53_4
                      try clear hfz55_0
                      try clear hfz55_1
                      try clear hfz55_2
                      try clear hfz55_3
                      try clear hfz55_4
                      try clear hfz57_0
                      try clear hfz57_1
                      try clear hfz57_2
                      try clear hfz57_3
                      try clear hfz57_4
                      try clear hfz66_0
                      try clear hfz66_1
                      try clear hfz66_2
                      try clear hfz66_3
                      try clear hfz66_4
                      try clear hfz70_0
                      try clear hfz70_1
                      try clear hfz71_0
                      try clear hfz71_1
                      try clear hfz71_2
                      try clear hfz71_3
                      try clear hfz71_4
                      try clear hfz76_0
                      try clear hfz76_1
                      try clear hfz84_0
                      try clear hfz84_1
                      try clear hfz87_0
                      try clear hfz87_1
                      try clear hfz8_0
                      try clear hfz8_1
                      try clear hfz8_2
                      try clear hfz8_3
                      try clear hfz8_4
                      try clear hfz91_0
                      try clear hfz91_1
                      try clear p2
                      try clear p6
                      obtain ⟨kq, x176_64, rfl, HA, HJ64, BK379, BK404, BK408, HB⟩ := hcut
                      cases kq with
                      | zero => exact absurd HA.out (by simp [remontoirlaw04_ScaleMet.j2])
                      | succ kj64 =>
                        have H := HA.out
                        clear HA
                        simp only [remontoirlaw04_ScaleMet.j2] at H
                        by_cases c93 : x176_64 = true
                        · subst c93
                          have H1 : (some false) = some r := by rw [if_pos rfl] at H; exact H
                          clear H
                          have H := H1
                          clear H1
                          obtain rfl := Option.some.inj H
                          go_wp2
                          go_ret
                          exact ⟨by first | rfl | (simp [errW_none, errW_some] <;> rfl) | (simp [*, errW_none, errW_some] <;> rfl), by repeat (first | (with_reducible first | exact HB.out | apply below_alloc | apply pw_below_drewN | apply below_drew1 | refine below_set ?_ GE379.out | refine below_set ?_ GE404.out | refine below_set ?_ GE408.out) | exact HB.out)⟩
                        · replace c93 := Bool.eq_false_iff.mpr c93
                          subst c93
                          have H1 : ((remontoirref00_At.f l2 0).bind fun t411 => ((remontoirref00_Rest.f t411 (mn t384 60)).bind fun t412 => ((remontoirlaw04_steered.f kj64 a0_0 a0_1 a0_2 a0_3 a0_4 t412 l2 true).bind fun t413 => ((scale_IsPlan.f a0_0 a0_1 a0_2 a0_3 a0_4 a1 t413).bind fun bt416 => (if bt416.2 = 0 then (if bt416.1 = true then (some false) else ((remontoirlaw04_works.f).bind fun t418 => (some t418))) else (some false)))))) = some r := by rw [if_neg (show ¬ (false = true) by decide)] at H; exact H
                          clear H
                          have H := H1
                          clear H1
                          replace H := Option.bind_eq_some_iff.mp H
                          obtain ⟨t411, A940, H⟩ := H
                          replace H : ((remontoirref00_Rest.f t411 (mn t384 60)).bind fun t412 => ((remontoirlaw04_steered.f kj64 a0_0 a0_1 a0_2 a0_3 a0_4 t412 l2 true).bind fun t413 => ((scale_IsPlan.f a0_0 a0_1 a0_2 a0_3 a0_4 a1 t413).bind fun bt416 => (if bt416.2 = 0 then (if bt416.1 = true then (some false) else ((remontoirlaw04_works.f).bind fun t418 => (some t418))) else (some false))))) = some r := H
                          have A94 := Aside0.mk A940
                          clear A940
                          obtain ⟨ji95, hji95⟩ : ∃ j_ : Int, (mn t384 60) = j_ := ⟨_, rfl⟩
                          replace H : ((remontoirref00_Rest.f t411 (ji95)).bind fun t412 => ((remontoirlaw04_steered.f kj64 a0_0 a0_1 a0_2 a0_3 a0_4 t412 l2 true).bind fun t413 => ((scale_IsPlan.f a0_0 a0_1 a0_2 a0_3 a0_4 a1 t413).bind fun bt416 => (if bt416.2 = 0 then (if bt416.1 = true then (some false) else ((remontoirlaw04_works.f).bind fun t418 => (some t418))) else (some false))))) = some r := by first | (rw [hji95] at H; exact H) | (simp only [hji95] at H ⊢; exact H)
                          (try rw [hji95] at A94)
                          have hji95_ : (if 60 < t384 then 60 else t384) = ji95 := hji95
                          replace H := Option.bind_eq_some_iff.mp H
                          obtain ⟨t412, A960, H⟩ := H
                          replace H : ((remontoirlaw04_steered.f kj64 a0_0 a0_1 a0_2 a0_3 a0_4 t412 l2 true).bind fun t413 => ((scale_IsPlan.f a0_0 a0_1 a0_2 a0_3 a0_4 a1 t413).bind fun bt416 => (if bt416.2 = 0 then (if bt416.1 = true then (some false) else ((remontoirlaw04_works.f).bind fun t418 => (some t418))) else (some false)))) = some r := H
                          have A96 := Aside0.mk A960
                          clear A960
                          replace H := Option.bind_eq_some_iff.mp H
                          obtain ⟨t413, A970, H⟩ := H
                          replace H : ((scale_IsPlan.f a0_0 a0_1 a0_2 a0_3 a0_4 a1 t413).bind fun bt416 => (if bt416.2 = 0 then (if bt416.1 = true then (some false) else ((remontoirlaw04_works.f).bind fun t418 => (some t418))) else (some false))) = some r := H
                          have A97 := Aside0.mk A970
                          clear A970
                          replace H := Option.bind_eq_some_iff.mp H
                          obtain ⟨⟨t416, t417⟩, A980, H⟩ := H
                          replace H : (if t417 = 0 then (if t416 = true then (some false) else ((remontoirlaw04_works.f).bind fun t418 => (some t418))) else (some false)) = some r := H
                          have A98 := Aside0.mk A980
                          clear A980
                          by_cases c99 : t417 = 0
                          · rw [if_pos c99] at H
                            have c99b0 : (t417 == 0) = true := beq_iff_eq.mpr c99
                            have c99b1 : (t417 != 0) = false := bne_eq_false_iff_eq.mpr c99
                            clear c99
                            by_cases c100 : t416 = true
                            · subst c100
                              have H1 : (some false) = some r := by rw [if_pos rfl] at H; exact H
                              clear H
                              have H := H1
                              clear H1
                              obtain rfl := Option.some.inj H
                              try go_wp2
                              have n0_ := Aside0.mk (blk_drew BK379.out)
                              have n1_ := Aside0.mk (blk_drew BK404.out)
                              have n2_ := Aside0.mk (blk_drew BK408.out)
                              have n3_ := Aside0.mk (below_drew1 HB.out)
                              clear BK379
                              clear BK404
                              clear BK408
                              clear HB
                              have BK379 := n0_
                              have BK404 := n1_
                              have BK408 := n2_
                              have HB := n3_
                              clear n0_ n1_ n2_ n3_
                              refine start_ (n := 9) (S := fun w' => w'.cell? ⟨gb379, 0, none⟩ = some (.int .i64 a0_0) ∧ w'.cell? ⟨gb379, 1, none⟩ = some (.int .i64 a0_1) ∧ w'.cell? ⟨gb379, 2, none⟩ = some (.int .i64 a0_2) ∧ w'.cell? ⟨gb379, 3, none⟩ = some (.int .i64 a0_3) ∧ w'.cell? ⟨gb379, 4, none⟩ = some (.int .i64 a0_4)) (ds := []) #[false, false, false, false, false, false, false, false, false] (by kernel_rfl) rfl rfl ⟨(blk_cell BK379.out 0).trans rfl, (blk_cell BK379.out 1).trans rfl, (blk_cell BK379.out 2).trans rfl, (blk_cell BK379.out 3).trans rfl, (blk_cell BK379.out 4).trans rfl⟩ (fun hHeld => ?_); refine with_tabW remontoirlaw04_ScaleMet.tab19 remontoirlaw04_ScaleMet.bits19 (fun HT_ HW_ => ?_)
                              generalize wc.drew = w101 at BK379 BK404 BK408 HB hHeld ⊢
                              refine pure_ (i := 1) (N := some 178) (v := ?_) (a' := ?_) #[false, true, false, false, false, false, false, false, false] rfl rfl (any_of HT_.out (by kernel_rfl)) (fun _ _ _ h => h) (Or.inl ⟨by rfl, ?_⟩) ?_ ?_
                              rotate_left
                              · intro w'
                                go_simp
                                with_reducible rfl
                              rotate_left
                              · simp only [Act.put, List.setIfInBounds_toArray, List.set_cons_zero, List.set_cons_succ, i64_w, i32_w]
                                rfl
                              refine pure_ (i := 3) (N := some 180) (v := ?_) (a' := ?_) #[false, true, false, true, false, false, false, false, false] rfl rfl (any_of HT_.out (by kernel_rfl)) (fun _ _ _ h => h) (Or.inl ⟨by rfl, ?_⟩) ?_ ?_
                              rotate_left
                              · intro w'
                                go_simp
                                with_reducible rfl
                              rotate_left
                              · simp only [Act.put, List.setIfInBounds_toArray, List.set_cons_zero, List.set_cons_succ, i64_w, i32_w]
                                rfl
                              refine pure_ (i := 4) (N := some 181) (v := ?_) (a' := ?_) #[false, true, false, true, true, false, false, false, false] rfl rfl (any_of HT_.out (by kernel_rfl)) (fun _ _ _ h => h) (Or.inl ⟨by rfl, ?_⟩) ?_ ?_
                              rotate_left
                              · intro w'
                                go_simp
                                with_reducible rfl
                              rotate_left
                              · simp only [Act.put, List.setIfInBounds_toArray, List.set_cons_zero, List.set_cons_succ, i64_w, i32_w]
                                rfl
                              refine pure_ (i := 6) (N := some 183) (v := ?_) (a' := ?_) #[false, true, false, true, true, false, true, false, false] rfl rfl (any_of HT_.out (by kernel_rfl)) (fun _ _ _ h => h) (Or.inl ⟨by rfl, ?_⟩) ?_ ?_
                              rotate_left
                              · intro w'
                                go_simp
                                with_reducible rfl
                              rotate_left
                              · simp only [Act.put, List.setIfInBounds_toArray, List.set_cons_zero, List.set_cons_succ, i64_w, i32_w]
                                rfl
                              refine take_ (i := 0) (N := some 177) (v := ?_) (a' := ?_) #[true, true, false, true, true, false, true, false, false] rfl rfl (take_ofW HT_.out HW_.out (by kernel_rfl)) (fun _ _ _ h => h) (Or.inl ⟨by rfl, ?_⟩) hHeld ?_ ?_
                              rotate_left
                              · rintro w' ⟨s0, s1, s2, s3, s4⟩
                                go_simp
                                with_reducible rfl
                              rotate_left
                              · simp only [Act.put, List.setIfInBounds_toArray, List.set_cons_zero, List.set_cons_succ, i64_w, i32_w]
                                rfl
                              refine one_ (i := 2) (N := some 179) #[true, true, true, true, true, false, true, false, false] rfl rfl (one_of HT_.out (by kernel_rfl)) (by decide) (fun K hK => ?_)
                              refine goes_ Tryd.func40 (by kernel_rfl) rfl #[.slice A2 l2.length c2, .int .i64 0] (by rfl) rfl rfl (by (try simp only [List.map_toArray, List.map_cons, List.map_nil]); first | done | rfl | (simp only [List.length_drop, List.length_take]; rfl)) ?_
                              with_reducible refine (remontoirref00_At.calls _ _ l2 0 t411 _ ?side1 ?side2 A94.out).mono ?_
                              (case side1 => repeat (first | exact (Kd.C_below HR2.out HB.out) | (with_reducible refine Kd.C_alloc ?_ _) | (with_reducible refine Kd.C_drewN ?_ _) | (with_reducible refine Kd.C_drew ?_)))
                              (case side2 => exact HC2.out)
                              rintro e w' ⟨rfl, ⟨nd, rfl⟩⟩
                              refine ⟨_, rfl, ?_⟩
                              refine hK.out _ _ ⟨(blk_cell BK379.out 0).trans rfl, (blk_cell BK379.out 1).trans rfl, (blk_cell BK379.out 2).trans rfl, (blk_cell BK379.out 3).trans rfl, (blk_cell BK379.out 4).trans rfl⟩ (fun hHeld => ?_)
                              clear hK K
                              refine norm_ (a' := ?_) ?_ ?_
                              rotate_left
                              · show Act.put _ (some 179) _ = _
                                simp only [Act.put, List.setIfInBounds_toArray, List.set_cons_zero, List.set_cons_succ, i64_w, i32_w]
                                rfl
                              refine one_ (i := 5) (N := some 182) #[true, true, true, true, true, true, true, false, false] rfl rfl (one_of HT_.out (by kernel_rfl)) (by decide) (fun K hK => ?_)
                              refine goes_ Tryd.func38 (by kernel_rfl) rfl #[.int .i64 t411, .int .i64 ji95] (by rfl) rfl rfl (by (try simp only [List.map_toArray, List.map_cons, List.map_nil]); first | done | (simp only [hji95]; rfl) | rfl | (simp only [List.length_drop, List.length_take]; rfl)) ?_
                              with_reducible refine (remontoirref00_Rest.calls t411 ji95 t412 _ A96.out).mono ?_
                              rintro e w' ⟨rfl, ⟨nd, rfl⟩⟩
                              refine ⟨_, rfl, ?_⟩
                              refine hK.out _ _ ⟨(blk_cell BK379.out 0).trans rfl, (blk_cell BK379.out 1).trans rfl, (blk_cell BK379.out 2).trans rfl, (blk_cell BK379.out 3).trans rfl, (blk_cell BK379.out 4).trans rfl⟩ (fun hHeld => ?_)
                              clear hK K
                              refine norm_ (a' := ?_) ?_ ?_
                              rotate_left
                              · show Act.put _ (some 182) _ = _
                                simp only [Act.put, List.setIfInBounds_toArray, List.set_cons_zero, List.set_cons_succ, i64_w, i32_w]
                                rfl
                              refine one_ (i := 7) (N := some 184) #[true, true, true, true, true, true, true, true, false] rfl rfl (one_of HT_.out (by kernel_rfl)) (by decide) (fun K hK => ?_)
                              refine goes_ Tryd.func39 (by kernel_rfl) rfl #[.agg #[.int .i64 a0_0, .int .i64 a0_1, .int .i64 a0_2, .int .i64 a0_3, .int .i64 a0_4], .int .i64 t412, .slice A2 l2.length c2, .bool true] (by rfl) rfl rfl (by (try simp only [List.map_toArray, List.map_cons, List.map_nil]); first | done | rfl | (simp only [List.length_drop, List.length_take]; rfl)) ?_
                              with_reducible refine (remontoirlaw04_steered.calls kj64 a0_0 a0_1 a0_2 a0_3 a0_4 t412 _ _ l2 true t413 _ ?side1 ?side2 A97.out).mono ?_
                              (case side1 => repeat (first | exact (Kd.C_below HR2.out (by repeat (first | (with_reducible first | exact HB.out | apply below_alloc | apply pw_below_drewN | apply below_drew1 | refine below_set ?_ GE379.out | refine below_set ?_ GE404.out | refine below_set ?_ GE408.out) | exact HB.out))) | (with_reducible refine Kd.C_alloc ?_ _) | (with_reducible refine Kd.C_drewN ?_ _) | (with_reducible refine Kd.C_drew ?_)))
                              (case side2 => exact HC2.out)
                              rintro e w102 ⟨v414, rfl, ho0, hb⟩
                              refine ⟨_, rfl, ?_⟩
                              have n0_ := Aside0.mk (Kd.R_lower ho0 (below_size (by repeat (first | (with_reducible first | exact HB.out | apply below_alloc | apply pw_below_drewN | apply below_drew1 | refine below_set ?_ GE379.out | refine below_set ?_ GE404.out | refine below_set ?_ GE408.out) | exact HB.out))))
                              have n1_ := Aside0.mk (blk_below (g := gb379) (o := .cells #[.int .i64 a0_0, .int .i64 a0_1, .int .i64 a0_2, .int .i64 a0_3, .int .i64 a0_4] 25 (0, 0)) (by (with_reducible repeat (first | refine blk_drewN ?_ _ | refine blk_drew ?_ | refine blk_alloc ?_ _)); exact BK379.out) hb)
                              have n2_ := Aside0.mk (blk_below (g := gb404) (o := .cells #[.int .i64 t401, .int .i64 t402] 23 (0, 0)) (by (with_reducible repeat (first | refine blk_drewN ?_ _ | refine blk_drew ?_ | refine blk_alloc ?_ _)); exact BK404.out) hb)
                              have n3_ := Aside0.mk (blk_below (g := gb408) (o := .cells #[.int .i64 t405, .int .i64 t406] 23 (0, 0)) (by (with_reducible repeat (first | refine blk_drewN ?_ _ | refine blk_drew ?_ | refine blk_alloc ?_ _)); exact BK408.out) hb)
                              have n4_ := Aside0.mk (below_step (by repeat (first | (with_reducible first | exact HB.out | apply below_alloc | apply pw_below_drewN | apply below_drew1 | refine below_set ?_ GE379.out | refine below_set ?_ GE404.out | refine below_set ?_ GE408.out) | exact HB.out)) hb)
                              clear BK379
                              clear BK404
                              clear BK408
                              clear HB
                              have HO415 := n0_
                              have BK379 := n1_
                              have BK404 := n2_
                              have BK408 := n3_
                              have HB := n4_
                              clear n0_ n1_ n2_ n3_ n4_
                              (try clear hb)
                              (try clear hb2)
                              (try clear hk)
                              (try clear hi)
                              (try clear ho0)
                              refine hK.out _ _ ⟨(blk_cell BK379.out 0).trans rfl, (blk_cell BK379.out 1).trans rfl, (blk_cell BK379.out 2).trans rfl, (blk_cell BK379.out 3).trans rfl, (blk_cell BK379.out 4).trans rfl⟩ (fun hHeld => ?_)
                              clear hK K
                              refine norm_ (a' := ?_) ?_ ?_
                              rotate_left
                              · show Act.put _ (some 184) _ = _
                                simp only [Act.put, List.setIfInBounds_toArray, List.set_cons_zero, List.set_cons_succ, i64_w, i32_w]
                                rfl
                              refine pure_ (i := 8) (N := some 18) (v := ?_) (a' := ?_) #[true, true, true, true, true, true, true, true, true] rfl rfl (any_of HT_.out (by kernel_rfl)) (fun _ _ _ h => h) (Or.inl ⟨by rfl, ?_⟩) ?_ ?_
                              rotate_left
                              · intro w'
                                go_simp
                                with_reducible rfl
                              rotate_left
                              · simp only [Act.put, List.setIfInBounds_toArray, List.set_cons_zero, List.set_cons_succ, i64_w, i32_w]
                                rfl
                              refine done_ (done_of HT_.out (by kernel_rfl)) ?_
                              have hnb103 := NB379_404.out
                              have hnc103 := NB404_379.out
                              have hnb104 := NB379_408.out
                              have hnc104 := NB408_379.out
                              have hcz105_0 : w102.cell? ⟨gb379, 0, none⟩ = some (.int .i64 a0_0) := (blk_cell BK379.out 0).trans rfl
                              have hcz105_1 : w102.cell? ⟨gb379, 1, none⟩ = some (.int .i64 a0_1) := (blk_cell BK379.out 1).trans rfl
                              have hcz105_2 : w102.cell? ⟨gb379, 2, none⟩ = some (.int .i64 a0_2) := (blk_cell BK379.out 2).trans rfl
                              have hcz105_3 : w102.cell? ⟨gb379, 3, none⟩ = some (.int .i64 a0_3) := (blk_cell BK379.out 3).trans rfl
                              have hcz105_4 : w102.cell? ⟨gb379, 4, none⟩ = some (.int .i64 a0_4) := (blk_cell BK379.out 4).trans rfl
                              have hfz105_0 := blk_frozen BK379.out 0
                              have hfz105_1 := blk_frozen BK379.out 1
                              have hfz105_2 := blk_frozen BK379.out 2
                              have hfz105_3 := blk_frozen BK379.out 3
                              have hfz105_4 := blk_frozen BK379.out 4
                              obtain ⟨Ao106, co106, eo106⟩ := Kd.R_slice HO415.out
                              subst eo106
                              try go_wp2_with (first | ((with_reducible refine gate_callee (f := 16) rfl ?_); refine goesL_ (some 189) rfl rfl Tryd.func16 (by kernel_rfl) rfl #[.agg #[.int .i64 a0_0, .int .i64 a0_1, .int .i64 a0_2, .int .i64 a0_3, .int .i64 a0_4], .int .i64 a1, .slice Ao106 t413.length co106] rfl (by (try simp only [List.map_toArray, List.map_cons, List.map_nil]); first | done | rfl | (simp only [List.length_drop, List.length_take]; rfl)) ?_; (with_reducible refine (scale_IsPlan.calls a0_0 a0_1 a0_2 a0_3 a0_4 a1 _ _ t413 true t417 _ ?side1 ?side2 ?side3 A98.out).mono ?_); (case side1 => repeat (first | exact (Kd.R_reads' HO415.out).2.2 | (with_reducible refine Kd.C_alloc ?_ _) | (with_reducible refine Kd.C_drewN ?_ _) | (with_reducible refine Kd.C_drew ?_))); (case side2 => exact (Kd.R_reads' HO415.out).2.1); (case side3 => exact Go.Proofs.YtidnopmjhhmedaaDoor.Ways.below HWays.out (by repeat (first | (with_reducible first | exact HB.out | apply below_alloc | apply pw_below_drewN | apply below_drew1 | refine below_set ?_ GE379.out | refine below_set ?_ GE404.out | refine below_set ?_ GE408.out) | exact HB.out))); rintro e w107 ⟨rfl, hb⟩; refine ⟨_, rfl, ?_⟩; have n0_ := Aside0.mk (Kd.R_below (by (with_reducible repeat (first | apply Kd.R_alloc | apply Kd.R_drewN | apply Kd.R_drew)); exact HO415.out) hb); have n1_ := Aside0.mk (blk_below (g := gb379) (o := .cells #[.int .i64 a0_0, .int .i64 a0_1, .int .i64 a0_2, .int .i64 a0_3, .int .i64 a0_4] 25 (0, 0)) (by (with_reducible repeat (first | refine blk_drewN ?_ _ | refine blk_drew ?_ | refine blk_alloc ?_ _)); exact BK379.out) hb); have n2_ := Aside0.mk (blk_below (g := gb404) (o := .cells #[.int .i64 t401, .int .i64 t402] 23 (0, 0)) (by (with_reducible repeat (first | refine blk_drewN ?_ _ | refine blk_drew ?_ | refine blk_alloc ?_ _)); exact BK404.out) hb); have n3_ := Aside0.mk (blk_below (g := gb408) (o := .cells #[.int .i64 t405, .int .i64 t406] 23 (0, 0)) (by (with_reducible repeat (first | refine blk_drewN ?_ _ | refine blk_drew ?_ | refine blk_alloc ?_ _)); exact BK408.out) hb); have n4_ := Aside0.mk (below_step (by repeat (first | (with_reducible first | exact HB.out | apply below_alloc | apply pw_below_drewN | apply below_drew1 | refine below_set ?_ GE379.out | refine below_set ?_ GE404.out | refine below_set ?_ GE408.out) | exact HB.out)) hb); clear HO415; clear BK379; clear BK404; clear BK408; clear HB; have HO415 := n0_; have BK379 := n1_; have BK404 := n2_; have BK408 := n3_; have HB := n4_; clear n0_ n1_ n2_ n3_ n4_; (try clear hb); (try clear hb2); (try clear hk); (try clear hi)))
                              go_ret
                              exact ⟨by first | rfl | (simp [errW_none, errW_some] <;> rfl) | (simp only [← hji95]; first | rfl | (simp [errW_none, errW_some] <;> rfl)) | (simp [*, errW_none, errW_some] <;> rfl), by repeat (first | (with_reducible first | exact HB.out | apply below_alloc | apply pw_below_drewN | apply below_drew1 | refine below_set ?_ GE379.out | refine below_set ?_ GE404.out | refine below_set ?_ GE408.out) | exact HB.out)⟩
                            · replace c100 := Bool.eq_false_iff.mpr c100
                              subst c100
                              have H1 : ((remontoirlaw04_works.f).bind fun t418 => (some t418)) = some r := by rw [if_neg (show ¬ (false = true) by decide)] at H; exact H
                              clear H
                              have H := H1
                              clear H1
                              replace H := Option.bind_eq_some_iff.mp H
                              obtain ⟨t418, A1080, H⟩ := H
                              replace H : (some t418) = some r := H
                              have A108 := Aside0.mk A1080
                              clear A1080
                              obtain rfl := Option.some.inj H
                              try go_wp2
                              have n0_ := Aside0.mk (blk_drew BK379.out)
                              have n1_ := Aside0.mk (blk_drew BK404.out)
                              have n2_ := Aside0.mk (blk_drew BK408.out)
                              have n3_ := Aside0.mk (below_drew1 HB.out)
                              clear BK379
                              clear BK404
                              clear BK408
                              clear HB
                              have BK379 := n0_
                              have BK404 := n1_
                              have BK408 := n2_
                              have HB := n3_
                              clear n0_ n1_ n2_ n3_
                              refine start_ (n := 9) (S := fun w' => w'.cell? ⟨gb379, 0, none⟩ = some (.int .i64 a0_0) ∧ w'.cell? ⟨gb379, 1, none⟩ = some (.int .i64 a0_1) ∧ w'.cell? ⟨gb379, 2, none⟩ = some (.int .i64 a0_2) ∧ w'.cell? ⟨gb379, 3, none⟩ = some (.int .i64 a0_3) ∧ w'.cell? ⟨gb379, 4, none⟩ = some (.int .i64 a0_4)) (ds := []) #[false, false, false, false, false, false, false, false, false] (by kernel_rfl) rfl rfl ⟨(blk_cell BK379.out 0).trans rfl, (blk_cell BK379.out 1).trans rfl, (blk_cell BK379.out 2).trans rfl, (blk_cell BK379.out 3).trans rfl, (blk_cell BK379.out 4).trans rfl⟩ (fun hHeld => ?_); refine with_tabW remontoirlaw04_ScaleMet.tab19 remontoirlaw04_ScaleMet.bits19 (fun HT_ HW_ => ?_)
                              generalize wc.drew = w109 at BK379 BK404 BK408 HB hHeld ⊢
                              refine pure_ (i := 1) (N := some 178) (v := ?_) (a' := ?_) #[false, true, false, false, false, false, false, false, false] rfl rfl (any_of HT_.out (by kernel_rfl)) (fun _ _ _ h => h) (Or.inl ⟨by rfl, ?_⟩) ?_ ?_
                              rotate_left
                              · intro w'
                                go_simp
                                with_reducible rfl
                              rotate_left
                              · simp only [Act.put, List.setIfInBounds_toArray, List.set_cons_zero, List.set_cons_succ, i64_w, i32_w]
                                rfl
                              refine pure_ (i := 3) (N := some 180) (v := ?_) (a' := ?_) #[false, true, false, true, false, false, false, false, false] rfl rfl (any_of HT_.out (by kernel_rfl)) (fun _ _ _ h => h) (Or.inl ⟨by rfl, ?_⟩) ?_ ?_
                              rotate_left
                              · intro w'
                                go_simp
                                with_reducible rfl
                              rotate_left
                              · simp only [Act.put, List.setIfInBounds_toArray, List.set_cons_zero, List.set_cons_succ, i64_w, i32_w]
                                rfl
                              refine pure_ (i := 4) (N := some 181) (v := ?_) (a' := ?_) #[false, true, false, true, true, false, false, false, false] rfl rfl (any_of HT_.out (by kernel_rfl)) (fun _ _ _ h => h) (Or.inl ⟨by rfl, ?_⟩) ?_ ?_
                              rotate_left
                              · intro w'
                                go_simp
                                with_reducible rfl
                              rotate_left
                              · simp only [Act.put, List.setIfInBounds_toArray, List.set_cons_zero, List.set_cons_succ, i64_w, i32_w]
                                rfl
                              refine pure_ (i := 6) (N := some 183) (v := ?_) (a' := ?_) #[false, true, false, true, true, false, true, false, false] rfl rfl (any_of HT_.out (by kernel_rfl)) (fun _ _ _ h => h) (Or.inl ⟨by rfl, ?_⟩) ?_ ?_
                              rotate_left
                              · intro w'
                                go_simp
                                with_reducible rfl
                              rotate_left
                              · simp only [Act.put, List.setIfInBounds_toArray, List.set_cons_zero, List.set_cons_succ, i64_w, i32_w]
                                rfl
                              refine take_ (i := 0) (N := some 177) (v := ?_) (a' := ?_) #[true, true, false, true, true, false, true, false, false] rfl rfl (take_ofW HT_.out HW_.out (by kernel_rfl)) (fun _ _ _ h => h) (Or.inl ⟨by rfl, ?_⟩) hHeld ?_ ?_
                              rotate_left
                              · rintro w' ⟨s0, s1, s2, s3, s4⟩
                                go_simp
                                with_reducible rfl
                              rotate_left
                              · simp only [Act.put, List.setIfInBounds_toArray, List.set_cons_zero, List.set_cons_succ, i64_w, i32_w]
                                rfl
                              refine one_ (i := 2) (N := some 179) #[true, true, true, true, true, false, true, false, false] rfl rfl (one_of HT_.out (by kernel_rfl)) (by decide) (fun K hK => ?_)
                              refine goes_ Tryd.func40 (by kernel_rfl) rfl #[.slice A2 l2.length c2, .int .i64 0] (by rfl) rfl rfl (by (try simp only [List.map_toArray, List.map_cons, List.map_nil]); first | done | rfl | (simp only [List.length_drop, List.length_take]; rfl)) ?_
                              with_reducible refine (remontoirref00_At.calls _ _ l2 0 t411 _ ?side1 ?side2 A94.out).mono ?_
                              (case side1 => repeat (first | exact (Kd.C_below HR2.out HB.out) | (with_reducible refine Kd.C_alloc ?_ _) | (with_reducible refine Kd.C_drewN ?_ _) | (with_reducible refine Kd.C_drew ?_)))
                              (case side2 => exact HC2.out)
                              rintro e w' ⟨rfl, ⟨nd, rfl⟩⟩
                              refine ⟨_, rfl, ?_⟩
                              refine hK.out _ _ ⟨(blk_cell BK379.out 0).trans rfl, (blk_cell BK379.out 1).trans rfl, (blk_cell BK379.out 2).trans rfl, (blk_cell BK379.out 3).trans rfl, (blk_cell BK379.out 4).trans rfl⟩ (fun hHeld => ?_)
                              clear hK K
                              refine norm_ (a' := ?_) ?_ ?_
                              rotate_left
                              · show Act.put _ (some 179) _ = _
                                simp only [Act.put, List.setIfInBounds_toArray, List.set_cons_zero, List.set_cons_succ, i64_w, i32_w]
                                rfl
                              refine one_ (i := 5) (N := some 182) #[true, true, true, true, true, true, true, false, false] rfl rfl (one_of HT_.out (by kernel_rfl)) (by decide) (fun K hK => ?_)
                              refine goes_ Tryd.func38 (by kernel_rfl) rfl #[.int .i64 t411, .int .i64 ji95] (by rfl) rfl rfl (by (try simp only [List.map_toArray, List.map_cons, List.map_nil]); first | done | (simp only [hji95]; rfl) | rfl | (simp only [List.length_drop, List.length_take]; rfl)) ?_
                              with_reducible refine (remontoirref00_Rest.calls t411 ji95 t412 _ A96.out).mono ?_
                              rintro e w' ⟨rfl, ⟨nd, rfl⟩⟩
                              refine ⟨_, rfl, ?_⟩
                              refine hK.out _ _ ⟨(blk_cell BK379.out 0).trans rfl, (blk_cell BK379.out 1).trans rfl, (blk_cell BK379.out 2).trans rfl, (blk_cell BK379.out 3).trans rfl, (blk_cell BK379.out 4).trans rfl⟩ (fun hHeld => ?_)
                              clear hK K
                              refine norm_ (a' := ?_) ?_ ?_
                              rotate_left
                              · show Act.put _ (some 182) _ = _
                                simp only [Act.put, List.setIfInBounds_toArray, List.set_cons_zero, List.set_cons_succ, i64_w, i32_w]
                                rfl
                              refine one_ (i := 7) (N := some 184) #[true, true, true, true, true, true, true, true, false] rfl rfl (one_of HT_.out (by kernel_rfl)) (by decide) (fun K hK => ?_)
                              refine goes_ Tryd.func39 (by kernel_rfl) rfl #[.agg #[.int .i64 a0_0, .int .i64 a0_1, .int .i64 a0_2, .int .i64 a0_3, .int .i64 a0_4], .int .i64 t412, .slice A2 l2.length c2, .bool true] (by rfl) rfl rfl (by (try simp only [List.map_toArray, List.map_cons, List.map_nil]); first | done | rfl | (simp only [List.length_drop, List.length_take]; rfl)) ?_
                              with_reducible refine (remontoirlaw04_steered.calls kj64 a0_0 a0_1 a0_2 a0_3 a0_4 t412 _ _ l2 true t413 _ ?side1 ?side2 A97.out).mono ?_
                              (case side1 => repeat (first | exact (Kd.C_below HR2.out (by repeat (first | (with_reducible first | exact HB.out | apply below_alloc | apply pw_below_drewN | apply below_drew1 | refine below_set ?_ GE379.out | refine below_set ?_ GE404.out | refine below_set ?_ GE408.out) | exact HB.out))) | (with_reducible refine Kd.C_alloc ?_ _) | (with_reducible refine Kd.C_drewN ?_ _) | (with_reducible refine Kd.C_drew ?_)))
                              (case side2 => exact HC2.out)
                              rintro e w110 ⟨v414, rfl, ho0, hb⟩
                              refine ⟨_, rfl, ?_⟩
                              have n0_ := Aside0.mk (Kd.R_lower ho0 (below_size (by repeat (first | (with_reducible first | exact HB.out | apply below_alloc | apply pw_below_drewN | apply below_drew1 | refine below_set ?_ GE379.out | refine below_set ?_ GE404.out | refine below_set ?_ GE408.out) | exact HB.out))))
                              have n1_ := Aside0.mk (blk_below (g := gb379) (o := .cells #[.int .i64 a0_0, .int .i64 a0_1, .int .i64 a0_2, .int .i64 a0_3, .int .i64 a0_4] 25 (0, 0)) (by (with_reducible repeat (first | refine blk_drewN ?_ _ | refine blk_drew ?_ | refine blk_alloc ?_ _)); exact BK379.out) hb)
                              have n2_ := Aside0.mk (blk_below (g := gb404) (o := .cells #[.int .i64 t401, .int .i64 t402] 23 (0, 0)) (by (with_reducible repeat (first | refine blk_drewN ?_ _ | refine blk_drew ?_ | refine blk_alloc ?_ _)); exact BK404.out) hb)
                              have n3_ := Aside0.mk (blk_below (g := gb408) (o := .cells #[.int .i64 t405, .int .i64 t406] 23 (0, 0)) (by (with_reducible repeat (first | refine blk_drewN ?_ _ | refine blk_drew ?_ | refine blk_alloc ?_ _)); exact BK408.out) hb)
                              have n4_ := Aside0.mk (below_step (by repeat (first | (with_reducible first | exact HB.out | apply below_alloc | apply pw_below_drewN | apply below_drew1 | refine below_set ?_ GE379.out | refine below_set ?_ GE404.out | refine below_set ?_ GE408.out) | exact HB.out)) hb)
                              clear BK379
                              clear BK404
                              clear BK408
                              clear HB
                              have HO415 := n0_
                              have BK379 := n1_
                              have BK404 := n2_
                              have BK408 := n3_
                              have HB := n4_
                              clear n0_ n1_ n2_ n3_ n4_
                              (try clear hb)
                              (try clear hb2)
                              (try clear hk)
                              (try clear hi)
                              (try clear ho0)
                              refine hK.out _ _ ⟨(blk_cell BK379.out 0).trans rfl, (blk_cell BK379.out 1).trans rfl, (blk_cell BK379.out 2).trans rfl, (blk_cell BK379.out 3).trans rfl, (blk_cell BK379.out 4).trans rfl⟩ (fun hHeld => ?_)
                              clear hK K
                              refine norm_ (a' := ?_) ?_ ?_
                              rotate_left
                              · show Act.put _ (some 184) _ = _
                                simp only [Act.put, List.setIfInBounds_toArray, List.set_cons_zero, List.set_cons_succ, i64_w, i32_w]
                                rfl
                              refine pure_ (i := 8) (N := some 18) (v := ?_) (a' := ?_) #[true, true, true, true, true, true, true, true, true] rfl rfl (any_of HT_.out (by kernel_rfl)) (fun _ _ _ h => h) (Or.inl ⟨by rfl, ?_⟩) ?_ ?_
                              rotate_left
                              · intro w'
                                go_simp
                                with_reducible rfl
                              rotate_left
                              · simp only [Act.put, List.setIfInBounds_toArray, List.set_cons_zero, List.set_cons_succ, i64_w, i32_w]
                                rfl
                              refine done_ (done_of HT_.out (by kernel_rfl)) ?_
                              have hnb111 := NB379_404.out
                              have hnc111 := NB404_379.out
                              have hnb112 := NB379_408.out
                              have hnc112 := NB408_379.out
                              have hcz113_0 : w110.cell? ⟨gb379, 0, none⟩ = some (.int .i64 a0_0) := (blk_cell BK379.out 0).trans rfl
                              have hcz113_1 : w110.cell? ⟨gb379, 1, none⟩ = some (.int .i64 a0_1) := (blk_cell BK379.out 1).trans rfl
                              have hcz113_2 : w110.cell? ⟨gb379, 2, none⟩ = some (.int .i64 a0_2) := (blk_cell BK379.out 2).trans rfl
                              have hcz113_3 : w110.cell? ⟨gb379, 3, none⟩ = some (.int .i64 a0_3) := (blk_cell BK379.out 3).trans rfl
                              have hcz113_4 : w110.cell? ⟨gb379, 4, none⟩ = some (.int .i64 a0_4) := (blk_cell BK379.out 4).trans rfl
                              have hfz113_0 := blk_frozen BK379.out 0
                              have hfz113_1 := blk_frozen BK379.out 1
                              have hfz113_2 := blk_frozen BK379.out 2
                              have hfz113_3 := blk_frozen BK379.out 3
                              have hfz113_4 := blk_frozen BK379.out 4
                              obtain ⟨Ao114, co114, eo114⟩ := Kd.R_slice HO415.out
                              subst eo114
                              try go_wp2_with (first | ((with_reducible refine gate_callee (f := 16) rfl ?_); refine goesL_ (some 189) rfl rfl Tryd.func16 (by kernel_rfl) rfl #[.agg #[.int .i64 a0_0, .int .i64 a0_1, .int .i64 a0_2, .int .i64 a0_3, .int .i64 a0_4], .int .i64 a1, .slice Ao114 t413.length co114] rfl (by (try simp only [List.map_toArray, List.map_cons, List.map_nil]); first | done | rfl | (simp only [List.length_drop, List.length_take]; rfl)) ?_; (with_reducible refine (scale_IsPlan.calls a0_0 a0_1 a0_2 a0_3 a0_4 a1 _ _ t413 false t417 _ ?side1 ?side2 ?side3 A98.out).mono ?_); (case side1 => repeat (first | exact (Kd.R_reads' HO415.out).2.2 | (with_reducible refine Kd.C_alloc ?_ _) | (with_reducible refine Kd.C_drewN ?_ _) | (with_reducible refine Kd.C_drew ?_))); (case side2 => exact (Kd.R_reads' HO415.out).2.1); (case side3 => exact Go.Proofs.YtidnopmjhhmedaaDoor.Ways.below HWays.out (by repeat (first | (with_reducible first | exact HB.out | apply below_alloc | apply pw_below_drewN | apply below_drew1 | refine below_set ?_ GE379.out | refine below_set ?_ GE404.out | refine below_set ?_ GE408.out) | exact HB.out))); rintro e w115 ⟨rfl, hb⟩; refine ⟨_, rfl, ?_⟩; have n0_ := Aside0.mk (Kd.R_below (by (with_reducible repeat (first | apply Kd.R_alloc | apply Kd.R_drewN | apply Kd.R_drew)); exact HO415.out) hb); have n1_ := Aside0.mk (blk_below (g := gb379) (o := .cells #[.int .i64 a0_0, .int .i64 a0_1, .int .i64 a0_2, .int .i64 a0_3, .int .i64 a0_4] 25 (0, 0)) (by (with_reducible repeat (first | refine blk_drewN ?_ _ | refine blk_drew ?_ | refine blk_alloc ?_ _)); exact BK379.out) hb); have n2_ := Aside0.mk (blk_below (g := gb404) (o := .cells #[.int .i64 t401, .int .i64 t402] 23 (0, 0)) (by (with_reducible repeat (first | refine blk_drewN ?_ _ | refine blk_drew ?_ | refine blk_alloc ?_ _)); exact BK404.out) hb); have n3_ := Aside0.mk (blk_below (g := gb408) (o := .cells #[.int .i64 t405, .int .i64 t406] 23 (0, 0)) (by (with_reducible repeat (first | refine blk_drewN ?_ _ | refine blk_drew ?_ | refine blk_alloc ?_ _)); exact BK408.out) hb); have n4_ := Aside0.mk (below_step (by repeat (first | (with_reducible first | exact HB.out | apply below_alloc | apply pw_below_drewN | apply below_drew1 | refine below_set ?_ GE379.out | refine below_set ?_ GE404.out | refine below_set ?_ GE408.out) | exact HB.out)) hb); clear HO415; clear BK379; clear BK404; clear BK408; clear HB; have HO415 := n0_; have BK379 := n1_; have BK404 := n2_; have BK408 := n3_; have HB := n4_; clear n0_ n1_ n2_ n3_ n4_; (try clear hb); (try clear hb2); (try clear hk); (try clear hi)) | (go_at_call 21; (with_reducible refine (remontoirlaw04_works.calls  t418 _ ?side1 A108.out).mono ?_); (case side1 => exact Go.Proofs.YtidnopmjhhmedaaDoor.Ways.below HWays.out (by repeat (first | (with_reducible first | exact HB.out | apply below_alloc | apply pw_below_drewN | apply below_drew1 | refine below_set ?_ GE379.out | refine below_set ?_ GE404.out | refine below_set ?_ GE408.out) | exact HB.out))); rintro e w116 ⟨rfl, hb⟩; have n0_ := Aside0.mk (Kd.R_below (by (with_reducible repeat (first | apply Kd.R_alloc | apply Kd.R_drewN | apply Kd.R_drew)); exact HO415.out) hb); have n1_ := Aside0.mk (blk_below (g := gb379) (o := .cells #[.int .i64 a0_0, .int .i64 a0_1, .int .i64 a0_2, .int .i64 a0_3, .int .i64 a0_4] 25 (0, 0)) (by (with_reducible repeat (first | refine blk_drewN ?_ _ | refine blk_drew ?_ | refine blk_alloc ?_ _)); exact BK379.out) hb); have n2_ := Aside0.mk (blk_below (g := gb404) (o := .cells #[.int .i64 t401, .int .i64 t402] 23 (0, 0)) (by (with_reducible repeat (first | refine blk_drewN ?_ _ | refine blk_drew ?_ | refine blk_alloc ?_ _)); exact BK404.out) hb); have n3_ := Aside0.mk (blk_below (g := gb408) (o := .cells #[.int .i64 t405, .int .i64 t406] 23 (0, 0)) (by (with_reducible repeat (first | refine blk_drewN ?_ _ | refine blk_drew ?_ | refine blk_alloc ?_ _)); exact BK408.out) hb); have n4_ := Aside0.mk (below_step (by repeat (first | (with_reducible first | exact HB.out | apply below_alloc | apply pw_below_drewN | apply below_drew1 | refine below_set ?_ GE379.out | refine below_set ?_ GE404.out | refine below_set ?_ GE408.out) | exact HB.out)) hb); clear HO415; clear BK379; clear BK404; clear BK408; clear HB; have HO415 := n0_; have BK379 := n1_; have BK404 := n2_; have BK408 := n3_; have HB := n4_; clear n0_ n1_ n2_ n3_ n4_; (try clear hb); (try clear hb2); (try clear hk); (try clear hi)))
                              go_ret
                              exact ⟨by first | rfl | (simp [errW_none, errW_some] <;> rfl) | (simp only [← hji95]; first | rfl | (simp [errW_none, errW_some] <;> rfl)) | (simp [*, errW_none, errW_some] <;> rfl), by repeat (first | (with_reducible first | exact HB.out | apply below_alloc | apply pw_below_drewN | apply below_drew1 | refine below_set ?_ GE379.out | refine below_set ?_ GE404.out | refine below_set ?_ GE408.out) | exact HB.out)⟩
                          · rw [if_neg c99] at H
                            have c99b0 : (t417 == 0) = false := beq_eq_false_iff_ne.mpr c99
                            have c99b1 : (t417 != 0) = true := bne_iff_ne.mpr c99
                            obtain rfl := Option.some.inj H
                            try go_wp2
                            have n0_ := Aside0.mk (blk_drew BK379.out)
                            have n1_ := Aside0.mk (blk_drew BK404.out)
                            have n2_ := Aside0.mk (blk_drew BK408.out)
                            have n3_ := Aside0.mk (below_drew1 HB.out)
                            clear BK379
                            clear BK404
                            clear BK408
                            clear HB
                            have BK379 := n0_
                            have BK404 := n1_
                            have BK408 := n2_
                            have HB := n3_
                            clear n0_ n1_ n2_ n3_
                            refine start_ (n := 9) (S := fun w' => w'.cell? ⟨gb379, 0, none⟩ = some (.int .i64 a0_0) ∧ w'.cell? ⟨gb379, 1, none⟩ = some (.int .i64 a0_1) ∧ w'.cell? ⟨gb379, 2, none⟩ = some (.int .i64 a0_2) ∧ w'.cell? ⟨gb379, 3, none⟩ = some (.int .i64 a0_3) ∧ w'.cell? ⟨gb379, 4, none⟩ = some (.int .i64 a0_4)) (ds := []) #[false, false, false, false, false, false, false, false, false] (by kernel_rfl) rfl rfl ⟨(blk_cell BK379.out 0).trans rfl, (blk_cell BK379.out 1).trans rfl, (blk_cell BK379.out 2).trans rfl, (blk_cell BK379.out 3).trans rfl, (blk_cell BK379.out 4).trans rfl⟩ (fun hHeld => ?_); refine with_tabW remontoirlaw04_ScaleMet.tab19 remontoirlaw04_ScaleMet.bits19 (fun HT_ HW_ => ?_)
                            generalize wc.drew = w117 at BK379 BK404 BK408 HB hHeld ⊢
                            refine pure_ (i := 1) (N := some 178) (v := ?_) (a' := ?_) #[false, true, false, false, false, false, false, false, false] rfl rfl (any_of HT_.out (by kernel_rfl)) (fun _ _ _ h => h) (Or.inl ⟨by rfl, ?_⟩) ?_ ?_
                            rotate_left
                            · intro w'
                              go_simp
                              with_reducible rfl
                            rotate_left
                            · simp only [Act.put, List.setIfInBounds_toArray, List.set_cons_zero, List.set_cons_succ, i64_w, i32_w]
                              rfl
                            refine pure_ (i := 3) (N := some 180) (v := ?_) (a' := ?_) #[false, true, false, true, false, false, false, false, false] rfl rfl (any_of HT_.out (by kernel_rfl)) (fun _ _ _ h => h) (Or.inl ⟨by rfl, ?_⟩) ?_ ?_
                            rotate_left
                            · intro w'
                              go_simp
                              with_reducible rfl
                            rotate_left
                            · simp only [Act.put, List.setIfInBounds_toArray, List.set_cons_zero, List.set_cons_succ, i64_w, i32_w]
                              rfl
                            refine pure_ (i := 4) (N := some 181) (v := ?_) (a' := ?_) #[false, true, false, true, true, false, false, false, false] rfl rfl (any_of HT_.out (by kernel_rfl)) (fun _ _ _ h => h) (Or.inl ⟨by rfl, ?_⟩) ?_ ?_
                            rotate_left
                            · intro w'
                              go_simp
                              with_reducible rfl
                            rotate_left
                            · simp only [Act.put, List.setIfInBounds_toArray, List.set_cons_zero, List.set_cons_succ, i64_w, i32_w]
                              rfl
                            refine pure_ (i := 6) (N := some 183) (v := ?_) (a' := ?_) #[false, true, false, true, true, false, true, false, false] rfl rfl (any_of HT_.out (by kernel_rfl)) (fun _ _ _ h => h) (Or.inl ⟨by rfl, ?_⟩) ?_ ?_
                            rotate_left
                            · intro w'
                              go_simp
                              with_reducible rfl
                            rotate_left
                            · simp only [Act.put, List.setIfInBounds_toArray, List.set_cons_zero, List.set_cons_succ, i64_w, i32_w]
                              rfl
                            refine take_ (i := 0) (N := some 177) (v := ?_) (a' := ?_) #[true, true, false, true, true, false, true, false, false] rfl rfl (take_ofW HT_.out HW_.out (by kernel_rfl)) (fun _ _ _ h => h) (Or.inl ⟨by rfl, ?_⟩) hHeld ?_ ?_
                            rotate_left
                            · rintro w' ⟨s0, s1, s2, s3, s4⟩
                              go_simp
                              with_reducible rfl
                            rotate_left
                            · simp only [Act.put, List.setIfInBounds_toArray, List.set_cons_zero, List.set_cons_succ, i64_w, i32_w]
                              rfl
                            refine one_ (i := 2) (N := some 179) #[true, true, true, true, true, false, true, false, false] rfl rfl (one_of HT_.out (by kernel_rfl)) (by decide) (fun K hK => ?_)
                            refine goes_ Tryd.func40 (by kernel_rfl) rfl #[.slice A2 l2.length c2, .int .i64 0] (by rfl) rfl rfl (by (try simp only [List.map_toArray, List.map_cons, List.map_nil]); first | done | rfl | (simp only [List.length_drop, List.length_take]; rfl)) ?_
                            with_reducible refine (remontoirref00_At.calls _ _ l2 0 t411 _ ?side1 ?side2 A94.out).mono ?_
                            (case side1 => repeat (first | exact (Kd.C_below HR2.out HB.out) | (with_reducible refine Kd.C_alloc ?_ _) | (with_reducible refine Kd.C_drewN ?_ _) | (with_reducible refine Kd.C_drew ?_)))
                            (case side2 => exact HC2.out)
                            rintro e w' ⟨rfl, ⟨nd, rfl⟩⟩
                            refine ⟨_, rfl, ?_⟩
                            refine hK.out _ _ ⟨(blk_cell BK379.out 0).trans rfl, (blk_cell BK379.out 1).trans rfl, (blk_cell BK379.out 2).trans rfl, (blk_cell BK379.out 3).trans rfl, (blk_cell BK379.out 4).trans rfl⟩ (fun hHeld => ?_)
                            clear hK K
                            refine norm_ (a' := ?_) ?_ ?_
                            rotate_left
                            · show Act.put _ (some 179) _ = _
                              simp only [Act.put, List.setIfInBounds_toArray, List.set_cons_zero, List.set_cons_succ, i64_w, i32_w]
                              rfl
                            refine one_ (i := 5) (N := some 182) #[true, true, true, true, true, true, true, false, false] rfl rfl (one_of HT_.out (by kernel_rfl)) (by decide) (fun K hK => ?_)
                            refine goes_ Tryd.func38 (by kernel_rfl) rfl #[.int .i64 t411, .int .i64 ji95] (by rfl) rfl rfl (by (try simp only [List.map_toArray, List.map_cons, List.map_nil]); first | done | (simp only [hji95]; rfl) | rfl | (simp only [List.length_drop, List.length_take]; rfl)) ?_
                            with_reducible refine (remontoirref00_Rest.calls t411 ji95 t412 _ A96.out).mono ?_
                            rintro e w' ⟨rfl, ⟨nd, rfl⟩⟩
                            refine ⟨_, rfl, ?_⟩
                            refine hK.out _ _ ⟨(blk_cell BK379.out 0).trans rfl, (blk_cell BK379.out 1).trans rfl, (blk_cell BK379.out 2).trans rfl, (blk_cell BK379.out 3).trans rfl, (blk_cell BK379.out 4).trans rfl⟩ (fun hHeld => ?_)
                            clear hK K
                            refine norm_ (a' := ?_) ?_ ?_
                            rotate_left
                            · show Act.put _ (some 182) _ = _
                              simp only [Act.put, List.setIfInBounds_toArray, List.set_cons_zero, List.set_cons_succ, i64_w, i32_w]
                              rfl
                            refine one_ (i := 7) (N := some 184) #[true, true, true, true, true, true, true, true, false] rfl rfl (one_of HT_.out (by kernel_rfl)) (by decide) (fun K hK => ?_)
                            refine goes_ Tryd.func39 (by kernel_rfl) rfl #[.agg #[.int .i64 a0_0, .int .i64 a0_1, .int .i64 a0_2, .int .i64 a0_3, .int .i64 a0_4], .int .i64 t412, .slice A2 l2.length c2, .bool true] (by rfl) rfl rfl (by (try simp only [List.map_toArray, List.map_cons, List.map_nil]); first | done | rfl | (simp only [List.length_drop, List.length_take]; rfl)) ?_
                            with_reducible refine (remontoirlaw04_steered.calls kj64 a0_0 a0_1 a0_2 a0_3 a0_4 t412 _ _ l2 true t413 _ ?side1 ?side2 A97.out).mono ?_
                            (case side1 => repeat (first | exact (Kd.C_below HR2.out (by repeat (first | (with_reducible first | exact HB.out | apply below_alloc | apply pw_below_drewN | apply below_drew1 | refine below_set ?_ GE379.out | refine below_set ?_ GE404.out | refine below_set ?_ GE408.out) | exact HB.out))) | (with_reducible refine Kd.C_alloc ?_ _) | (with_reducible refine Kd.C_drewN ?_ _) | (with_reducible refine Kd.C_drew ?_)))
                            (case side2 => exact HC2.out)
                            rintro e w118 ⟨v414, rfl, ho0, hb⟩
                            refine ⟨_, rfl, ?_⟩
                            have n0_ := Aside0.mk (Kd.R_lower ho0 (below_size (by repeat (first | (with_reducible first | exact HB.out | apply below_alloc | apply pw_below_drewN | apply below_drew1 | refine below_set ?_ GE379.out | refine below_set ?_ GE404.out | refine below_set ?_ GE408.out) | exact HB.out))))
                            have n1_ := Aside0.mk (blk_below (g := gb379) (o := .cells #[.int .i64 a0_0, .int .i64 a0_1, .int .i64 a0_2, .int .i64 a0_3, .int .i64 a0_4] 25 (0, 0)) (by (with_reducible repeat (first | refine blk_drewN ?_ _ | refine blk_drew ?_ | refine blk_alloc ?_ _)); exact BK379.out) hb)
                            have n2_ := Aside0.mk (blk_below (g := gb404) (o := .cells #[.int .i64 t401, .int .i64 t402] 23 (0, 0)) (by (with_reducible repeat (first | refine blk_drewN ?_ _ | refine blk_drew ?_ | refine blk_alloc ?_ _)); exact BK404.out) hb)
                            have n3_ := Aside0.mk (blk_below (g := gb408) (o := .cells #[.int .i64 t405, .int .i64 t406] 23 (0, 0)) (by (with_reducible repeat (first | refine blk_drewN ?_ _ | refine blk_drew ?_ | refine blk_alloc ?_ _)); exact BK408.out) hb)
                            have n4_ := Aside0.mk (below_step (by repeat (first | (with_reducible first | exact HB.out | apply below_alloc | apply pw_below_drewN | apply below_drew1 | refine below_set ?_ GE379.out | refine below_set ?_ GE404.out | refine below_set ?_ GE408.out) | exact HB.out)) hb)
                            clear BK379
                            clear BK404
                            clear BK408
                            clear HB
                            have HO415 := n0_
                            have BK379 := n1_
                            have BK404 := n2_
                            have BK408 := n3_
                            have HB := n4_
                            clear n0_ n1_ n2_ n3_ n4_
                            (try clear hb)
                            (try clear hb2)
                            (try clear hk)
                            (try clear hi)
                            (try clear ho0)
                            refine hK.out _ _ ⟨(blk_cell BK379.out 0).trans rfl, (blk_cell BK379.out 1).trans rfl, (blk_cell BK379.out 2).trans rfl, (blk_cell BK379.out 3).trans rfl, (blk_cell BK379.out 4).trans rfl⟩ (fun hHeld => ?_)
                            clear hK K
                            refine norm_ (a' := ?_) ?_ ?_
                            rotate_left
                            · show Act.put _ (some 184) _ = _
                              simp only [Act.put, List.setIfInBounds_toArray, List.set_cons_zero, List.set_cons_succ, i64_w, i32_w]
                              rfl
                            refine pure_ (i := 8) (N := some 18) (v := ?_) (a' := ?_) #[true, true, true, true, true, true, true, true, true] rfl rfl (any_of HT_.out (by kernel_rfl)) (fun _ _ _ h => h) (Or.inl ⟨by rfl, ?_⟩) ?_ ?_
                            rotate_left
                            · intro w'
                              go_simp
                              with_reducible rfl
                            rotate_left
                            · simp only [Act.put, List.setIfInBounds_toArray, List.set_cons_zero, List.set_cons_succ, i64_w, i32_w]
                              rfl
                            refine done_ (done_of HT_.out (by kernel_rfl)) ?_
                            have hnb119 := NB379_404.out
                            have hnc119 := NB404_379.out
                            have hnb120 := NB379_408.out
                            have hnc120 := NB408_379.out
                            have hcz121_0 : w118.cell? ⟨gb379, 0, none⟩ = some (.int .i64 a0_0) := (blk_cell BK379.out 0).trans rfl
                            have hcz121_1 : w118.cell? ⟨gb379, 1, none⟩ = some (.int .i64 a0_1) := (blk_cell BK379.out 1).trans rfl
                            have hcz121_2 : w118.cell? ⟨gb379, 2, none⟩ = some (.int .i64 a0_2) := (blk_cell BK379.out 2).trans rfl
                            have hcz121_3 : w118.cell? ⟨gb379, 3, none⟩ = some (.int .i64 a0_3) := (blk_cell BK379.out 3).trans rfl
                            have hcz121_4 : w118.cell? ⟨gb379, 4, none⟩ = some (.int .i64 a0_4) := (blk_cell BK379.out 4).trans rfl
                            have hfz121_0 := blk_frozen BK379.out 0
                            have hfz121_1 := blk_frozen BK379.out 1
                            have hfz121_2 := blk_frozen BK379.out 2
                            have hfz121_3 := blk_frozen BK379.out 3
                            have hfz121_4 := blk_frozen BK379.out 4
                            obtain ⟨Ao122, co122, eo122⟩ := Kd.R_slice HO415.out
                            subst eo122
                            try go_wp2_with (first | ((with_reducible refine gate_callee (f := 16) rfl ?_); refine goesL_ (some 189) rfl rfl Tryd.func16 (by kernel_rfl) rfl #[.agg #[.int .i64 a0_0, .int .i64 a0_1, .int .i64 a0_2, .int .i64 a0_3, .int .i64 a0_4], .int .i64 a1, .slice Ao122 t413.length co122] rfl (by (try simp only [List.map_toArray, List.map_cons, List.map_nil]); first | done | rfl | (simp only [List.length_drop, List.length_take]; rfl)) ?_; (with_reducible refine (scale_IsPlan.calls a0_0 a0_1 a0_2 a0_3 a0_4 a1 _ _ t413 t416 t417 _ ?side1 ?side2 ?side3 A98.out).mono ?_); (case side1 => repeat (first | exact (Kd.R_reads' HO415.out).2.2 | (with_reducible refine Kd.C_alloc ?_ _) | (with_reducible refine Kd.C_drewN ?_ _) | (with_reducible refine Kd.C_drew ?_))); (case side2 => exact (Kd.R_reads' HO415.out).2.1); (case side3 => exact Go.Proofs.YtidnopmjhhmedaaDoor.Ways.below HWays.out (by repeat (first | (with_reducible first | exact HB.out | apply below_alloc | apply pw_below_drewN | apply below_drew1 | refine below_set ?_ GE379.out | refine below_set ?_ GE404.out | refine below_set ?_ GE408.out) | exact HB.out))); rintro e w123 ⟨rfl, hb⟩; refine ⟨_, rfl, ?_⟩; have n0_ := Aside0.mk (Kd.R_below (by (with_reducible repeat (first | apply Kd.R_alloc | apply Kd.R_drewN | apply Kd.R_drew)); exact HO415.out) hb); have n1_ := Aside0.mk (blk_below (g := gb379) (o := .cells #[.int .i64 a0_0, .int .i64 a0_1, .int .i64 a0_2, .int .i64 a0_3, .int .i64 a0_4] 25 (0, 0)) (by (with_reducible repeat (first | refine blk_drewN ?_ _ | refine blk_drew ?_ | refine blk_alloc ?_ _)); exact BK379.out) hb); have n2_ := Aside0.mk (blk_below (g := gb404) (o := .cells #[.int .i64 t401, .int .i64 t402] 23 (0, 0)) (by (with_reducible repeat (first | refine blk_drewN ?_ _ | refine blk_drew ?_ | refine blk_alloc ?_ _)); exact BK404.out) hb); have n3_ := Aside0.mk (blk_below (g := gb408) (o := .cells #[.int .i64 t405, .int .i64 t406] 23 (0, 0)) (by (with_reducible repeat (first | refine blk_drewN ?_ _ | refine blk_drew ?_ | refine blk_alloc ?_ _)); exact BK408.out) hb); have n4_ := Aside0.mk (below_step (by repeat (first | (with_reducible first | exact HB.out | apply below_alloc | apply pw_below_drewN | apply below_drew1 | refine below_set ?_ GE379.out | refine below_set ?_ GE404.out | refine below_set ?_ GE408.out) | exact HB.out)) hb); clear HO415; clear BK379; clear BK404; clear BK408; clear HB; have HO415 := n0_; have BK379 := n1_; have BK404 := n2_; have BK408 := n3_; have HB := n4_; clear n0_ n1_ n2_ n3_ n4_; (try clear hb); (try clear hb2); (try clear hk); (try clear hi)))
                            go_ret
                            exact ⟨by first | rfl | (simp [errW_none, errW_some] <;> rfl) | (simp only [← hji95]; first | rfl | (simp [errW_none, errW_some] <;> rfl)) | (simp [*, errW_none, errW_some] <;> rfl), by repeat (first | (with_reducible first | exact HB.out | apply below_alloc | apply pw_below_drewN | apply below_drew1 | refine below_set ?_ GE379.out | refine below_set ?_ GE404.out | refine below_set ?_ GE408.out) | exact HB.out)⟩
          · rw [if_neg c39] at H
            have c39b0 : (t383 == 0) = false := beq_eq_false_iff_ne.mpr c39
            have c39b1 : (t383 != 0) = true := bne_iff_ne.mpr c39
            replace H := Option.bind_eq_some_iff.mp H
            obtain ⟨⟨t390, t391, t392⟩, A1240, H⟩ := H
            replace H : (if t383 = 4 then (if (t380.length : Int) = 0 then (if t384 = 0 then (if t392 = 0 then ((remontoirref00_Has.f t390 t391 (wrap64 (-a1))).bind fun t394 => (if t394 = true then (some false) else ((remontoirlaw04_works.f).bind fun t395 => (some t395)))) else (some false)) else (some false)) else (some false)) else (some false)) = some r := H
            have A124 := Aside0.mk A1240
            clear A1240
            by_cases c125 : t383 = 4
            · rw [if_pos c125] at H
              have c125b0 : (t383 == 4) = true := beq_iff_eq.mpr c125
              have c125b1 : (t383 != 4) = false := bne_eq_false_iff_eq.mpr c125
              clear c125
              by_cases c126 : (t380.length : Int) = 0
              · rw [if_pos c126] at H
                have c126b0 : ((t380.length : Int) == 0) = true := beq_iff_eq.mpr c126
                have c126b1 : ((t380.length : Int) != 0) = false := bne_eq_false_iff_eq.mpr c126
                clear c126
                by_cases c127 : t384 = 0
                · rw [if_pos c127] at H
                  have c127b0 : (t384 == 0) = true := beq_iff_eq.mpr c127
                  have c127b1 : (t384 != 0) = false := bne_eq_false_iff_eq.mpr c127
                  clear c127
                  by_cases c128 : t392 = 0
                  · rw [if_pos c128] at H
                    have c128b0 : (t392 == 0) = true := beq_iff_eq.mpr c128
                    have c128b1 : (t392 != 0) = false := bne_eq_false_iff_eq.mpr c128
                    clear c128
                    replace H := Option.bind_eq_some_iff.mp H
                    obtain ⟨t394, A1290, H⟩ := H
                    replace H : (if t394 = true then (some false) else ((remontoirlaw04_works.f).bind fun t395 => (some t395))) = some r := H
                    have A129 := Aside0.mk A1290
                    clear A1290
                    by_cases c130 : t394 = true
                    · subst c130
                      have H1 : (some false) = some r := by rw [if_pos rfl] at H; exact H
                      clear H
                      have H := H1
                      clear H1
                      obtain rfl := Option.some.inj H
                      have hcz131_0 : wc.cell? ⟨gb379, 0, none⟩ = some (.int .i64 a0_0) := (blk_cell BK379.out 0).trans rfl
                      have hcz131_1 : wc.cell? ⟨gb379, 1, none⟩ = some (.int .i64 a0_1) := (blk_cell BK379.out 1).trans rfl
                      have hcz131_2 : wc.cell? ⟨gb379, 2, none⟩ = some (.int .i64 a0_2) := (blk_cell BK379.out 2).trans rfl
                      have hcz131_3 : wc.cell? ⟨gb379, 3, none⟩ = some (.int .i64 a0_3) := (blk_cell BK379.out 3).trans rfl
                      have hcz131_4 : wc.cell? ⟨gb379, 4, none⟩ = some (.int .i64 a0_4) := (blk_cell BK379.out 4).trans rfl
                      have hfz131_0 := blk_frozen BK379.out 0
                      have hfz131_1 := blk_frozen BK379.out 1
                      have hfz131_2 := blk_frozen BK379.out 2
                      have hfz131_3 := blk_frozen BK379.out 3
                      have hfz131_4 := blk_frozen BK379.out 4
                      go_wp2_with (first | ((with_reducible refine gate_callee (f := 22) rfl ?_); refine goesL_ (some 70) rfl rfl Tryd.func22 (by kernel_rfl) rfl #[.agg #[.int .i64 a0_0, .int .i64 a0_1, .int .i64 a0_2, .int .i64 a0_3, .int .i64 a0_4], .int .i64 200] rfl (by (try simp only [List.map_toArray, List.map_cons, List.map_nil]); first | done | rfl | (simp only [List.length_drop, List.length_take]; rfl)) ?_; (with_reducible refine (scale_Reach.calls a0_0 a0_1 a0_2 a0_3 a0_4 200 t390 t391 t392 _ ?side1 A124.out).mono ?_); (case side1 => exact Go.Proofs.YtidnopmjhhmedaaDoor.Ways.below HWays.out (by repeat (first | (with_reducible first | exact HB.out | apply below_alloc | apply pw_below_drewN | apply below_drew1 | refine below_set ?_ GE379.out) | exact HB.out))); rintro e w132 ⟨rfl, hb⟩; refine ⟨_, rfl, ?_⟩; have n0_ := Aside0.mk (Kd.V_below (by (with_reducible repeat (first | apply Kd.V_alloc | apply Kd.V_drewN | apply Kd.V_drew)); exact HO_7.out) hb); have n1_ := Aside0.mk (blk_below (g := gb379) (o := .cells #[.int .i64 a0_0, .int .i64 a0_1, .int .i64 a0_2, .int .i64 a0_3, .int .i64 a0_4] 25 (0, 0)) (by (with_reducible repeat (first | refine blk_drewN ?_ _ | refine blk_drew ?_ | refine blk_alloc ?_ _)); exact BK379.out) hb); have n2_ := Aside0.mk (below_step (by repeat (first | (with_reducible first | exact HB.out | apply below_alloc | apply pw_below_drewN | apply below_drew1 | refine below_set ?_ GE379.out) | exact HB.out)) hb); clear HO_7; clear BK379; clear HB; have HO_7 := n0_; have BK379 := n1_; have HB := n2_; clear n0_ n1_ n2_; (try clear hb); (try clear hb2); (try clear hk); (try clear hi)) | ((with_reducible refine gate_dst (N := 11) rfl ?_); (try (refine gate_guard (by rfl) ?_; dsimp only)); refine box_event ?hg (N := 11) ?hd (cs := #[.int .i64 0, .int .i64 0]) (t := 23) ?hr ?_; (case hd => rfl); (case hg => rfl); (case hr => first | (go_simp; done) | (go_simp; rfl)); intro gb393 hg w133 hbox hb; have n0_ := Aside0.mk (Kd.V_below (Kd.V_elderB (by (with_reducible repeat (first | apply Kd.V_alloc | apply Kd.V_drewN | apply Kd.V_drew)); exact HO_7.out) gb393 (Nat.le_of_eq hg.symm)) hb); have n1_ := Aside0.mk (blk_below (g := gb379) (o := .cells #[.int .i64 a0_0, .int .i64 a0_1, .int .i64 a0_2, .int .i64 a0_3, .int .i64 a0_4] 25 (0, 0)) (by (with_reducible repeat (first | refine blk_drewN ?_ _ | refine blk_drew ?_ | refine blk_alloc ?_ _)); exact BK379.out) hb); have n2_ := Aside0.mk (below_step (by repeat (first | (with_reducible first | exact HB.out | apply below_alloc | apply pw_below_drewN | apply below_drew1 | refine below_set ?_ GE379.out) | exact HB.out)) hb); have n3_ := Aside0.mk (hbox); have n4_ := Aside0.mk ((by rw [hg]; exact (below_size (by repeat (first | (with_reducible first | exact HB.out | apply below_alloc | apply pw_below_drewN | apply below_drew1 | refine below_set ?_ GE379.out) | exact HB.out))) : w.heap.size ≤ gb393)); have n5_ := Aside0.mk ((by rw [hg]; exact (below_size (by repeat (first | (with_reducible first | exact HB.out | apply below_alloc | apply pw_below_drewN | apply below_drew1 | refine below_set ?_ GE379.out) | exact HB.out))) : w.heap.size ≤ gb393)); have n6_ := Aside0.mk ((by rw [hg]; exact Nat.ne_of_lt (blk_lt (g := gb379) (o := .cells #[.int .i64 a0_0, .int .i64 a0_1, .int .i64 a0_2, .int .i64 a0_3, .int .i64 a0_4] 25 (0, 0)) (by (with_reducible repeat (first | refine blk_drewN ?_ _ | refine blk_drew ?_ | refine blk_alloc ?_ _)); exact BK379.out)) : gb379 ≠ gb393)); have n7_ := Aside0.mk ((by rw [hg]; exact Nat.ne_of_gt (blk_lt (g := gb379) (o := .cells #[.int .i64 a0_0, .int .i64 a0_1, .int .i64 a0_2, .int .i64 a0_3, .int .i64 a0_4] 25 (0, 0)) (by (with_reducible repeat (first | refine blk_drewN ?_ _ | refine blk_drew ?_ | refine blk_alloc ?_ _)); exact BK379.out)) : gb393 ≠ gb379)); clear HO_7; clear BK379; clear HB; have HO_7 := n0_; have BK379 := n1_; have HB := n2_; have BK393 := n3_; have GW393 := n4_; have GE393 := n5_; have NB379_393 := n6_; have NB393_379 := n7_; clear n0_ n1_ n2_ n3_ n4_ n5_ n6_ n7_; clear hb hbox hg; have hnb134 := NB393_379.out; have hnc134 := NB379_393.out; have hcz135_0 : w133.cell? ⟨gb393, 0, none⟩ = some (.int .i64 0) := (blk_cell BK393.out 0).trans rfl; have hcz135_1 : w133.cell? ⟨gb393, 1, none⟩ = some (.int .i64 0) := (blk_cell BK393.out 1).trans rfl; have hfz135_0 := blk_frozen BK393.out 0; have hfz135_1 := blk_frozen BK393.out 1; obtain ⟨Ao136, co136, eo136⟩ := Kd.V_slice HO_7.out; subst eo136) | (go_at_call 43; (with_reducible refine (remontoirref00_Has.calls t390 t391 (wrap64 (-a1)) true _ A129.out).mono ?_); rintro e w137 ⟨rfl, hb⟩; have n0_ := Aside0.mk (Kd.V_below (by (with_reducible repeat (first | apply Kd.V_alloc | apply Kd.V_drewN | apply Kd.V_drew)); exact (Kd.V_mono (Kd.V_far (p := ⟨gb393, 1, none⟩) (Kd.V_far (p := ⟨gb393, 0, none⟩) (Kd.V_mono HO_7.out (fun k_ hk => (⟨hk, hk.2⟩ : _ ∧ k_ ≠ gb393))) (fun _ hk => hk.2) (.int .i64 t390)) (fun _ hk => hk.2) (.int .i64 t391)) (fun _ h_ => h_.1))) hb); have n1_ := Aside0.mk (blk_below (g := gb379) (o := .cells #[.int .i64 a0_0, .int .i64 a0_1, .int .i64 a0_2, .int .i64 a0_3, .int .i64 a0_4] 25 (0, 0)) (by (with_reducible repeat (first | refine blk_drewN ?_ _ | refine blk_drew ?_ | refine blk_alloc ?_ _)); refine blk_far ?_ NB379_393.out _; (with_reducible repeat (first | refine blk_drewN ?_ _ | refine blk_drew ?_ | refine blk_alloc ?_ _)); refine blk_far ?_ NB379_393.out _; (with_reducible repeat (first | refine blk_drewN ?_ _ | refine blk_drew ?_ | refine blk_alloc ?_ _)); exact BK379.out) hb); have n2_ := Aside0.mk (blk_below (g := gb393) (o := .cells #[.int .i64 t390, .int .i64 t391] 23 (0, 0)) (by (with_reducible repeat (first | refine blk_drewN ?_ _ | refine blk_drew ?_ | refine blk_alloc ?_ _)); refine blk_put (cs := #[.int .i64 t390, .int .i64 0]) ?_ 1 _ rfl; (with_reducible repeat (first | refine blk_drewN ?_ _ | refine blk_drew ?_ | refine blk_alloc ?_ _)); refine blk_put (cs := #[.int .i64 0, .int .i64 0]) ?_ 0 _ rfl; (with_reducible repeat (first | refine blk_drewN ?_ _ | refine blk_drew ?_ | refine blk_alloc ?_ _)); exact BK393.out) hb); have n3_ := Aside0.mk (below_step (by repeat (first | (with_reducible first | exact HB.out | apply below_alloc | apply pw_below_drewN | apply below_drew1 | refine below_set ?_ GE379.out | refine below_set ?_ GE393.out) | exact HB.out)) hb); clear HO_7; clear BK379; clear BK393; clear HB; have HO_7 := n0_; have BK379 := n1_; have BK393 := n2_; have HB := n3_; clear n0_ n1_ n2_ n3_; (try clear hb); (try clear hb2); (try clear hk); (try clear hi)))
                      go_ret
                      exact ⟨by first | rfl | (simp [errW_none, errW_some] <;> rfl) | (simp [*, errW_none, errW_some] <;> rfl), by repeat (first | (with_reducible first | exact HB.out | apply below_alloc | apply pw_below_drewN | apply below_drew1 | refine below_set ?_ GE379.out | refine below_set ?_ GE393.out) | exact HB.out)⟩
                    · replace c130 := Bool.eq_false_iff.mpr c130
                      subst c130
                      have H1 : ((remontoirlaw04_works.f).bind fun t395 => (some t395)) = some r := by rw [if_neg (show ¬ (false = true) by decide)] at H; exact H
                      clear H
                      have H := H1
                      clear H1
                      replace H := Option.bind_eq_some_iff.mp H
                      obtain ⟨t395, A1380, H⟩ := H
                      replace H : (some t395) = some r := H
                      have A138 := Aside0.mk A1380
                      clear A1380
                      obtain rfl := Option.some.inj H
                      have hcz139_0 : wc.cell? ⟨gb379, 0, none⟩ = some (.int .i64 a0_0) := (blk_cell BK379.out 0).trans rfl
                      have hcz139_1 : wc.cell? ⟨gb379, 1, none⟩ = some (.int .i64 a0_1) := (blk_cell BK379.out 1).trans rfl
                      have hcz139_2 : wc.cell? ⟨gb379, 2, none⟩ = some (.int .i64 a0_2) := (blk_cell BK379.out 2).trans rfl
                      have hcz139_3 : wc.cell? ⟨gb379, 3, none⟩ = some (.int .i64 a0_3) := (blk_cell BK379.out 3).trans rfl
                      have hcz139_4 : wc.cell? ⟨gb379, 4, none⟩ = some (.int .i64 a0_4) := (blk_cell BK379.out 4).trans rfl
                      have hfz139_0 := blk_frozen BK379.out 0
                      have hfz139_1 := blk_frozen BK379.out 1
                      have hfz139_2 := blk_frozen BK379.out 2
                      have hfz139_3 := blk_frozen BK379.out 3
                      have hfz139_4 := blk_frozen BK379.out 4
                      go_wp2_with (first | ((with_reducible refine gate_callee (f := 22) rfl ?_); refine goesL_ (some 70) rfl rfl Tryd.func22 (by kernel_rfl) rfl #[.agg #[.int .i64 a0_0, .int .i64 a0_1, .int .i64 a0_2, .int .i64 a0_3, .int .i64 a0_4], .int .i64 200] rfl (by (try simp only [List.map_toArray, List.map_cons, List.map_nil]); first | done | rfl | (simp only [List.length_drop, List.length_take]; rfl)) ?_; (with_reducible refine (scale_Reach.calls a0_0 a0_1 a0_2 a0_3 a0_4 200 t390 t391 t392 _ ?side1 A124.out).mono ?_); (case side1 => exact Go.Proofs.YtidnopmjhhmedaaDoor.Ways.below HWays.out (by repeat (first | (with_reducible first | exact HB.out | apply below_alloc | apply pw_below_drewN | apply below_drew1 | refine below_set ?_ GE379.out) | exact HB.out))); rintro e w140 ⟨rfl, hb⟩; refine ⟨_, rfl, ?_⟩; have n0_ := Aside0.mk (Kd.V_below (by (with_reducible repeat (first | apply Kd.V_alloc | apply Kd.V_drewN | apply Kd.V_drew)); exact HO_7.out) hb); have n1_ := Aside0.mk (blk_below (g := gb379) (o := .cells #[.int .i64 a0_0, .int .i64 a0_1, .int .i64 a0_2, .int .i64 a0_3, .int .i64 a0_4] 25 (0, 0)) (by (with_reducible repeat (first | refine blk_drewN ?_ _ | refine blk_drew ?_ | refine blk_alloc ?_ _)); exact BK379.out) hb); have n2_ := Aside0.mk (below_step (by repeat (first | (with_reducible first | exact HB.out | apply below_alloc | apply pw_below_drewN | apply below_drew1 | refine below_set ?_ GE379.out) | exact HB.out)) hb); clear HO_7; clear BK379; clear HB; have HO_7 := n0_; have BK379 := n1_; have HB := n2_; clear n0_ n1_ n2_; (try clear hb); (try clear hb2); (try clear hk); (try clear hi)) | ((with_reducible refine gate_dst (N := 11) rfl ?_); (try (refine gate_guard (by rfl) ?_; dsimp only)); refine box_event ?hg (N := 11) ?hd (cs := #[.int .i64 0, .int .i64 0]) (t := 23) ?hr ?_; (case hd => rfl); (case hg => rfl); (case hr => first | (go_simp; done) | (go_simp; rfl)); intro gb393 hg w141 hbox hb; have n0_ := Aside0.mk (Kd.V_below (Kd.V_elderB (by (with_reducible repeat (first | apply Kd.V_alloc | apply Kd.V_drewN | apply Kd.V_drew)); exact HO_7.out) gb393 (Nat.le_of_eq hg.symm)) hb); have n1_ := Aside0.mk (blk_below (g := gb379) (o := .cells #[.int .i64 a0_0, .int .i64 a0_1, .int .i64 a0_2, .int .i64 a0_3, .int .i64 a0_4] 25 (0, 0)) (by (with_reducible repeat (first | refine blk_drewN ?_ _ | refine blk_drew ?_ | refine blk_alloc ?_ _)); exact BK379.out) hb); have n2_ := Aside0.mk (below_step (by repeat (first | (with_reducible first | exact HB.out | apply below_alloc | apply pw_below_drewN | apply below_drew1 | refine below_set ?_ GE379.out) | exact HB.out)) hb); have n3_ := Aside0.mk (hbox); have n4_ := Aside0.mk ((by rw [hg]; exact (below_size (by repeat (first | (with_reducible first | exact HB.out | apply below_alloc | apply pw_below_drewN | apply below_drew1 | refine below_set ?_ GE379.out) | exact HB.out))) : w.heap.size ≤ gb393)); have n5_ := Aside0.mk ((by rw [hg]; exact (below_size (by repeat (first | (with_reducible first | exact HB.out | apply below_alloc | apply pw_below_drewN | apply below_drew1 | refine below_set ?_ GE379.out) | exact HB.out))) : w.heap.size ≤ gb393)); have n6_ := Aside0.mk ((by rw [hg]; exact Nat.ne_of_lt (blk_lt (g := gb379) (o := .cells #[.int .i64 a0_0, .int .i64 a0_1, .int .i64 a0_2, .int .i64 a0_3, .int .i64 a0_4] 25 (0, 0)) (by (with_reducible repeat (first | refine blk_drewN ?_ _ | refine blk_drew ?_ | refine blk_alloc ?_ _)); exact BK379.out)) : gb379 ≠ gb393)); have n7_ := Aside0.mk ((by rw [hg]; exact Nat.ne_of_gt (blk_lt (g := gb379) (o := .cells #[.int .i64 a0_0, .int .i64 a0_1, .int .i64 a0_2, .int .i64 a0_3, .int .i64 a0_4] 25 (0, 0)) (by (with_reducible repeat (first | refine blk_drewN ?_ _ | refine blk_drew ?_ | refine blk_alloc ?_ _)); exact BK379.out)) : gb393 ≠ gb379)); clear HO_7; clear BK379; clear HB; have HO_7 := n0_; have BK379 := n1_; have HB := n2_; have BK393 := n3_; have GW393 := n4_; have GE393 := n5_; have NB379_393 := n6_; have NB393_379 := n7_; clear n0_ n1_ n2_ n3_ n4_ n5_ n6_ n7_; clear hb hbox hg; have hnb142 := NB393_379.out; have hnc142 := NB379_393.out; have hcz143_0 : w141.cell? ⟨gb393, 0, none⟩ = some (.int .i64 0) := (blk_cell BK393.out 0).trans rfl; have hcz143_1 : w141.cell? ⟨gb393, 1, none⟩ = some (.int .i64 0) := (blk_cell BK393.out 1).trans rfl; have hfz143_0 := blk_frozen BK393.out 0; have hfz143_1 := blk_frozen BK393.out 1; obtain ⟨Ao144, co144, eo144⟩ := Kd.V_slice HO_7.out; subst eo144) | (go_at_call 43; (with_reducible refine (remontoirref00_Has.calls t390 t391 (wrap64 (-a1)) false _ A129.out).mono ?_); rintro e w145 ⟨rfl, hb⟩; have n0_ := Aside0.mk (Kd.V_below (by (with_reducible repeat (first | apply Kd.V_alloc | apply Kd.V_drewN | apply Kd.V_drew)); exact (Kd.V_mono (Kd.V_far (p := ⟨gb393, 1, none⟩) (Kd.V_far (p := ⟨gb393, 0, none⟩) (Kd.V_mono HO_7.out (fun k_ hk => (⟨hk, hk.2⟩ : _ ∧ k_ ≠ gb393))) (fun _ hk => hk.2) (.int .i64 t390)) (fun _ hk => hk.2) (.int .i64 t391)) (fun _ h_ => h_.1))) hb); have n1_ := Aside0.mk (blk_below (g := gb379) (o := .cells #[.int .i64 a0_0, .int .i64 a0_1, .int .i64 a0_2, .int .i64 a0_3, .int .i64 a0_4] 25 (0, 0)) (by (with_reducible repeat (first | refine blk_drewN ?_ _ | refine blk_drew ?_ | refine blk_alloc ?_ _)); refine blk_far ?_ NB379_393.out _; (with_reducible repeat (first | refine blk_drewN ?_ _ | refine blk_drew ?_ | refine blk_alloc ?_ _)); refine blk_far ?_ NB379_393.out _; (with_reducible repeat (first | refine blk_drewN ?_ _ | refine blk_drew ?_ | refine blk_alloc ?_ _)); exact BK379.out) hb); have n2_ := Aside0.mk (blk_below (g := gb393) (o := .cells #[.int .i64 t390, .int .i64 t391] 23 (0, 0)) (by (with_reducible repeat (first | refine blk_drewN ?_ _ | refine blk_drew ?_ | refine blk_alloc ?_ _)); refine blk_put (cs := #[.int .i64 t390, .int .i64 0]) ?_ 1 _ rfl; (with_reducible repeat (first | refine blk_drewN ?_ _ | refine blk_drew ?_ | refine blk_alloc ?_ _)); refine blk_put (cs := #[.int .i64 0, .int .i64 0]) ?_ 0 _ rfl; (with_reducible repeat (first | refine blk_drewN ?_ _ | refine blk_drew ?_ | refine blk_alloc ?_ _)); exact BK393.out) hb); have n3_ := Aside0.mk (below_step (by repeat (first | (with_reducible first | exact HB.out | apply below_alloc | apply pw_below_drewN | apply below_drew1 | refine below_set ?_ GE379.out | refine below_set ?_ GE393.out) | exact HB.out)) hb); clear HO_7; clear BK379; clear BK393; clear HB; have HO_7 := n0_; have BK379 := n1_; have BK393 := n2_; have HB := n3_; clear n0_ n1_ n2_ n3_; (try clear hb); (try clear hb2); (try clear hk); (try clear hi)) | (go_at_call 21; (with_reducible refine (remontoirlaw04_works.calls  t395 _ ?side1 A138.out).mono ?_); (case side1 => exact Go.Proofs.YtidnopmjhhmedaaDoor.Ways.below HWays.out (by repeat (first | (with_reducible first | exact HB.out | apply below_alloc | apply pw_below_drewN | apply below_drew1 | refine below_set ?_ GE379.out | refine below_set ?_ GE393.out) | exact HB.out))); rintro e w146 ⟨rfl, hb⟩; have n0_ := Aside0.mk (Kd.V_below (by (with_reducible repeat (first | apply Kd.V_alloc | apply Kd.V_drewN | apply Kd.V_drew)); exact HO_7.out) hb); have n1_ := Aside0.mk (blk_below (g := gb379) (o := .cells #[.int .i64 a0_0, .int .i64 a0_1, .int .i64 a0_2, .int .i64 a0_3, .int .i64 a0_4] 25 (0, 0)) (by (with_reducible repeat (first | refine blk_drewN ?_ _ | refine blk_drew ?_ | refine blk_alloc ?_ _)); exact BK379.out) hb); have n2_ := Aside0.mk (blk_below (g := gb393) (o := .cells #[.int .i64 t390, .int .i64 t391] 23 (0, 0)) (by (with_reducible repeat (first | refine blk_drewN ?_ _ | refine blk_drew ?_ | refine blk_alloc ?_ _)); exact BK393.out) hb); have n3_ := Aside0.mk (below_step (by repeat (first | (with_reducible first | exact HB.out | apply below_alloc | apply pw_below_drewN | apply below_drew1 | refine below_set ?_ GE379.out | refine below_set ?_ GE393.out) | exact HB.out)) hb); clear HO_7; clear BK379; clear BK393; clear HB; have HO_7 := n0_; have BK379 := n1_; have BK393 := n2_; have HB := n3_; clear n0_ n1_ n2_ n3_; (try clear hb); (try clear hb2); (try clear hk); (try clear hi)))
                      go_ret
                      exact ⟨by first | rfl | (simp [errW_none, errW_some] <;> rfl) | (simp [*, errW_none, errW_some] <;> rfl), by repeat (first | (with_reducible first | exact HB.out | apply below_alloc | apply pw_below_drewN | apply below_drew1 | refine below_set ?_ GE379.out | refine below_set ?_ GE393.out) | exact HB.out)⟩
                  · rw [if_neg c128] at H
                    have c128b0 : (t392 == 0) = false := beq_eq_false_iff_ne.mpr c128
                    have c128b1 : (t392 != 0) = true := bne_iff_ne.mpr c128
                    obtain rfl := Option.some.inj H
                    have hcz147_0 : wc.cell? ⟨gb379, 0, none⟩ = some (.int .i64 a0_0) := (blk_cell BK379.out 0).trans rfl
                    have hcz147_1 : wc.cell? ⟨gb379, 1, none⟩ = some (.int .i64 a0_1) := (blk_cell BK379.out 1).trans rfl
                    have hcz147_2 : wc.cell? ⟨gb379, 2, none⟩ = some (.int .i64 a0_2) := (blk_cell BK379.out 2).trans rfl
                    have hcz147_3 : wc.cell? ⟨gb379, 3, none⟩ = some (.int .i64 a0_3) := (blk_cell BK379.out 3).trans rfl
                    have hcz147_4 : wc.cell? ⟨gb379, 4, none⟩ = some (.int .i64 a0_4) := (blk_cell BK379.out 4).trans rfl
                    have hfz147_0 := blk_frozen BK379.out 0
                    have hfz147_1 := blk_frozen BK379.out 1
                    have hfz147_2 := blk_frozen BK379.out 2
                    have hfz147_3 := blk_frozen BK379.out 3
                    have hfz147_4 := blk_frozen BK379.out 4
                    go_wp2_with (first | ((with_reducible refine gate_callee (f := 22) rfl ?_); refine goesL_ (some 70) rfl rfl Tryd.func22 (by kernel_rfl) rfl #[.agg #[.int .i64 a0_0, .int .i64 a0_1, .int .i64 a0_2, .int .i64 a0_3, .int .i64 a0_4], .int .i64 200] rfl (by (try simp only [List.map_toArray, List.map_cons, List.map_nil]); first | done | rfl | (simp only [List.length_drop, List.length_take]; rfl)) ?_; (with_reducible refine (scale_Reach.calls a0_0 a0_1 a0_2 a0_3 a0_4 200 t390 t391 t392 _ ?side1 A124.out).mono ?_); (case side1 => exact Go.Proofs.YtidnopmjhhmedaaDoor.Ways.below HWays.out (by repeat (first | (with_reducible first | exact HB.out | apply below_alloc | apply pw_below_drewN | apply below_drew1 | refine below_set ?_ GE379.out) | exact HB.out))); rintro e w148 ⟨rfl, hb⟩; refine ⟨_, rfl, ?_⟩; have n0_ := Aside0.mk (Kd.V_below (by (with_reducible repeat (first | apply Kd.V_alloc | apply Kd.V_drewN | apply Kd.V_drew)); exact HO_7.out) hb); have n1_ := Aside0.mk (blk_below (g := gb379) (o := .cells #[.int .i64 a0_0, .int .i64 a0_1, .int .i64 a0_2, .int .i64 a0_3, .int .i64 a0_4] 25 (0, 0)) (by (with_reducible repeat (first | refine blk_drewN ?_ _ | refine blk_drew ?_ | refine blk_alloc ?_ _)); exact BK379.out) hb); have n2_ := Aside0.mk (below_step (by repeat (first | (with_reducible first | exact HB.out | apply below_alloc | apply pw_below_drewN | apply below_drew1 | refine below_set ?_ GE379.out) | exact HB.out)) hb); clear HO_7; clear BK379; clear HB; have HO_7 := n0_; have BK379 := n1_; have HB := n2_; clear n0_ n1_ n2_; (try clear hb); (try clear hb2); (try clear hk); (try clear hi)) | ((with_reducible refine gate_dst (N := 11) rfl ?_); (try (refine gate_guard (by rfl) ?_; dsimp only)); refine box_event ?hg (N := 11) ?hd (cs := #[.int .i64 0, .int .i64 0]) (t := 23) ?hr ?_; (case hd => rfl); (case hg => rfl); (case hr => first | (go_simp; done) | (go_simp; rfl)); intro gb393 hg w149 hbox hb; have n0_ := Aside0.mk (Kd.V_below (Kd.V_elderB (by (with_reducible repeat (first | apply Kd.V_alloc | apply Kd.V_drewN | apply Kd.V_drew)); exact HO_7.out) gb393 (Nat.le_of_eq hg.symm)) hb); have n1_ := Aside0.mk (blk_below (g := gb379) (o := .cells #[.int .i64 a0_0, .int .i64 a0_1, .int .i64 a0_2, .int .i64 a0_3, .int .i64 a0_4] 25 (0, 0)) (by (with_reducible repeat (first | refine blk_drewN ?_ _ | refine blk_drew ?_ | refine blk_alloc ?_ _)); exact BK379.out) hb); have n2_ := Aside0.mk (below_step (by repeat (first | (with_reducible first | exact HB.out | apply below_alloc | apply pw_below_drewN | apply below_drew1 | refine below_set ?_ GE379.out) | exact HB.out)) hb); have n3_ := Aside0.mk (hbox); have n4_ := Aside0.mk ((by rw [hg]; exact (below_size (by repeat (first | (with_reducible first | exact HB.out | apply below_alloc | apply pw_below_drewN | apply below_drew1 | refine below_set ?_ GE379.out) | exact HB.out))) : w.heap.size ≤ gb393)); have n5_ := Aside0.mk ((by rw [hg]; exact (below_size (by repeat (first | (with_reducible first | exact HB.out | apply below_alloc | apply pw_below_drewN | apply below_drew1 | refine below_set ?_ GE379.out) | exact HB.out))) : w.heap.size ≤ gb393)); have n6_ := Aside0.mk ((by rw [hg]; exact Nat.ne_of_lt (blk_lt (g := gb379) (o := .cells #[.int .i64 a0_0, .int .i64 a0_1, .int .i64 a0_2, .int .i64 a0_3, .int .i64 a0_4] 25 (0, 0)) (by (with_reducible repeat (first | refine blk_drewN ?_ _ | refine blk_drew ?_ | refine blk_alloc ?_ _)); exact BK379.out)) : gb379 ≠ gb393)); have n7_ := Aside0.mk ((by rw [hg]; exact Nat.ne_of_gt (blk_lt (g := gb379) (o := .cells #[.int .i64 a0_0, .int .i64 a0_1, .int .i64 a0_2, .int .i64 a0_3, .int .i64 a0_4] 25 (0, 0)) (by (with_reducible repeat (first | refine blk_drewN ?_ _ | refine blk_drew ?_ | refine blk_alloc ?_ _)); exact BK379.out)) : gb393 ≠ gb379)); clear HO_7; clear BK379; clear HB; have HO_7 := n0_; have BK379 := n1_; have HB := n2_; have BK393 := n3_; have GW393 := n4_; have GE393 := n5_; have NB379_393 := n6_; have NB393_379 := n7_; clear n0_ n1_ n2_ n3_ n4_ n5_ n6_ n7_; clear hb hbox hg; have hnb150 := NB393_379.out; have hnc150 := NB379_393.out; have hcz151_0 : w149.cell? ⟨gb393, 0, none⟩ = some (.int .i64 0) := (blk_cell BK393.out 0).trans rfl; have hcz151_1 : w149.cell? ⟨gb393, 1, none⟩ = some (.int .i64 0) := (blk_cell BK393.out 1).trans rfl; have hfz151_0 := blk_frozen BK393.out 0; have hfz151_1 := blk_frozen BK393.out 1; obtain ⟨Ao152, co152, eo152⟩ := Kd.V_slice HO_7.out; subst eo152))
                    go_ret
                    exact ⟨by first | rfl | (simp [errW_none, errW_some] <;> rfl) | (simp [*, errW_none, errW_some] <;> rfl), by repeat (first | (with_reducible first | exact HB.out | apply below_alloc | apply pw_below_drewN | apply below_drew1 | refine below_set ?_ GE379.out | refine below_set ?_ GE393.out) | exact HB.out)⟩
                · rw [if_neg c127] at H
                  have c127b0 : (t384 == 0) = false := beq_eq_false_iff_ne.mpr c127
                  have c127b1 : (t384 != 0) = true := bne_iff_ne.mpr c127
                  obtain rfl := Option.some.inj H
                  have hcz153_0 : wc.cell? ⟨gb379, 0, none⟩ = some (.int .i64 a0_0) := (blk_cell BK379.out 0).trans rfl
                  have hcz153_1 : wc.cell? ⟨gb379, 1, none⟩ = some (.int .i64 a0_1) := (blk_cell BK379.out 1).trans rfl
                  have hcz153_2 : wc.cell? ⟨gb379, 2, none⟩ = some (.int .i64 a0_2) := (blk_cell BK379.out 2).trans rfl
                  have hcz153_3 : wc.cell? ⟨gb379, 3, none⟩ = some (.int .i64 a0_3) := (blk_cell BK379.out 3).trans rfl
                  have hcz153_4 : wc.cell? ⟨gb379, 4, none⟩ = some (.int .i64 a0_4) := (blk_cell BK379.out 4).trans rfl
                  have hfz153_0 := blk_frozen BK379.out 0
                  have hfz153_1 := blk_frozen BK379.out 1
                  have hfz153_2 := blk_frozen BK379.out 2
                  have hfz153_3 := blk_frozen BK379.out 3
                  have hfz153_4 := blk_frozen BK379.out 4
                  go_wp2_with (first | ((with_reducible refine gate_callee (f := 22) rfl ?_); refine goesL_ (some 70) rfl rfl Tryd.func22 (by kernel_rfl) rfl #[.agg #[.int .i64 a0_0, .int .i64 a0_1, .int .i64 a0_2, .int .i64 a0_3, .int .i64 a0_4], .int .i64 200] rfl (by (try simp only [List.map_toArray, List.map_cons, List.map_nil]); first | done | rfl | (simp only [List.length_drop, List.length_take]; rfl)) ?_; (with_reducible refine (scale_Reach.calls a0_0 a0_1 a0_2 a0_3 a0_4 200 t390 t391 t392 _ ?side1 A124.out).mono ?_); (case side1 => exact Go.Proofs.YtidnopmjhhmedaaDoor.Ways.below HWays.out (by repeat (first | (with_reducible first | exact HB.out | apply below_alloc | apply pw_below_drewN | apply below_drew1 | refine below_set ?_ GE379.out) | exact HB.out))); rintro e w154 ⟨rfl, hb⟩; refine ⟨_, rfl, ?_⟩; have n0_ := Aside0.mk (Kd.V_below (by (with_reducible repeat (first | apply Kd.V_alloc | apply Kd.V_drewN | apply Kd.V_drew)); exact HO_7.out) hb); have n1_ := Aside0.mk (blk_below (g := gb379) (o := .cells #[.int .i64 a0_0, .int .i64 a0_1, .int .i64 a0_2, .int .i64 a0_3, .int .i64 a0_4] 25 (0, 0)) (by (with_reducible repeat (first | refine blk_drewN ?_ _ | refine blk_drew ?_ | refine blk_alloc ?_ _)); exact BK379.out) hb); have n2_ := Aside0.mk (below_step (by repeat (first | (with_reducible first | exact HB.out | apply below_alloc | apply pw_below_drewN | apply below_drew1 | refine below_set ?_ GE379.out) | exact HB.out)) hb); clear HO_7; clear BK379; clear HB; have HO_7 := n0_; have BK379 := n1_; have HB := n2_; clear n0_ n1_ n2_; (try clear hb); (try clear hb2); (try clear hk); (try clear hi)) | ((with_reducible refine gate_dst (N := 11) rfl ?_); (try (refine gate_guard (by rfl) ?_; dsimp only)); refine box_event ?hg (N := 11) ?hd (cs := #[.int .i64 0, .int .i64 0]) (t := 23) ?hr ?_; (case hd => rfl); (case hg => rfl); (case hr => first | (go_simp; done) | (go_simp; rfl)); intro gb393 hg w155 hbox hb; have n0_ := Aside0.mk (Kd.V_below (Kd.V_elderB (by (with_reducible repeat (first | apply Kd.V_alloc | apply Kd.V_drewN | apply Kd.V_drew)); exact HO_7.out) gb393 (Nat.le_of_eq hg.symm)) hb); have n1_ := Aside0.mk (blk_below (g := gb379) (o := .cells #[.int .i64 a0_0, .int .i64 a0_1, .int .i64 a0_2, .int .i64 a0_3, .int .i64 a0_4] 25 (0, 0)) (by (with_reducible repeat (first | refine blk_drewN ?_ _ | refine blk_drew ?_ | refine blk_alloc ?_ _)); exact BK379.out) hb); have n2_ := Aside0.mk (below_step (by repeat (first | (with_reducible first | exact HB.out | apply below_alloc | apply pw_below_drewN | apply below_drew1 | refine below_set ?_ GE379.out) | exact HB.out)) hb); have n3_ := Aside0.mk (hbox); have n4_ := Aside0.mk ((by rw [hg]; exact (below_size (by repeat (first | (with_reducible first | exact HB.out | apply below_alloc | apply pw_below_drewN | apply below_drew1 | refine below_set ?_ GE379.out) | exact HB.out))) : w.heap.size ≤ gb393)); have n5_ := Aside0.mk ((by rw [hg]; exact (below_size (by repeat (first | (with_reducible first | exact HB.out | apply below_alloc | apply pw_below_drewN | apply below_drew1 | refine below_set ?_ GE379.out) | exact HB.out))) : w.heap.size ≤ gb393)); have n6_ := Aside0.mk ((by rw [hg]; exact Nat.ne_of_lt (blk_lt (g := gb379) (o := .cells #[.int .i64 a0_0, .int .i64 a0_1, .int .i64 a0_2, .int .i64 a0_3, .int .i64 a0_4] 25 (0, 0)) (by (with_reducible repeat (first | refine blk_drewN ?_ _ | refine blk_drew ?_ | refine blk_alloc ?_ _)); exact BK379.out)) : gb379 ≠ gb393)); have n7_ := Aside0.mk ((by rw [hg]; exact Nat.ne_of_gt (blk_lt (g := gb379) (o := .cells #[.int .i64 a0_0, .int .i64 a0_1, .int .i64 a0_2, .int .i64 a0_3, .int .i64 a0_4] 25 (0, 0)) (by (with_reducible repeat (first | refine blk_drewN ?_ _ | refine blk_drew ?_ | refine blk_alloc ?_ _)); exact BK379.out)) : gb393 ≠ gb379)); clear HO_7; clear BK379; clear HB; have HO_7 := n0_; have BK379 := n1_; have HB := n2_; have BK393 := n3_; have GW393 := n4_; have GE393 := n5_; have NB379_393 := n6_; have NB393_379 := n7_; clear n0_ n1_ n2_ n3_ n4_ n5_ n6_ n7_; clear hb hbox hg; have hnb156 := NB393_379.out; have hnc156 := NB379_393.out; have hcz157_0 : w155.cell? ⟨gb393, 0, none⟩ = some (.int .i64 0) := (blk_cell BK393.out 0).trans rfl; have hcz157_1 : w155.cell? ⟨gb393, 1, none⟩ = some (.int .i64 0) := (blk_cell BK393.out 1).trans rfl; have hfz157_0 := blk_frozen BK393.out 0; have hfz157_1 := blk_frozen BK393.out 1; obtain ⟨Ao158, co158, eo158⟩ := Kd.V_slice HO_7.out; subst eo158))
                  go_ret
                  exact ⟨by first | rfl | (simp [errW_none, errW_some] <;> rfl) | (simp [*, errW_none, errW_some] <;> rfl), by repeat (first | (with_reducible first | exact HB.out | apply below_alloc | apply pw_below_drewN | apply below_drew1 | refine below_set ?_ GE379.out | refine below_set ?_ GE393.out) | exact HB.out)⟩
              · rw [if_neg c126] at H
                have c126b0 : ((t380.length : Int) == 0) = false := beq_eq_false_iff_ne.mpr c126
                have c126b1 : ((t380.length : Int) != 0) = true := bne_iff_ne.mpr c126
                have c126b2 : ¬ (t380 = []) := fun h_ => c126 (by rw [h_]; rfl)
                obtain rfl := Option.some.inj H
                have hcz159_0 : wc.cell? ⟨gb379, 0, none⟩ = some (.int .i64 a0_0) := (blk_cell BK379.out 0).trans rfl
                have hcz159_1 : wc.cell? ⟨gb379, 1, none⟩ = some (.int .i64 a0_1) := (blk_cell BK379.out 1).trans rfl
                have hcz159_2 : wc.cell? ⟨gb379, 2, none⟩ = some (.int .i64 a0_2) := (blk_cell BK379.out 2).trans rfl
                have hcz159_3 : wc.cell? ⟨gb379, 3, none⟩ = some (.int .i64 a0_3) := (blk_cell BK379.out 3).trans rfl
                have hcz159_4 : wc.cell? ⟨gb379, 4, none⟩ = some (.int .i64 a0_4) := (blk_cell BK379.out 4).trans rfl
                have hfz159_0 := blk_frozen BK379.out 0
                have hfz159_1 := blk_frozen BK379.out 1
                have hfz159_2 := blk_frozen BK379.out 2
                have hfz159_3 := blk_frozen BK379.out 3
                have hfz159_4 := blk_frozen BK379.out 4
                go_wp2_with (first | ((with_reducible refine gate_callee (f := 22) rfl ?_); refine goesL_ (some 70) rfl rfl Tryd.func22 (by kernel_rfl) rfl #[.agg #[.int .i64 a0_0, .int .i64 a0_1, .int .i64 a0_2, .int .i64 a0_3, .int .i64 a0_4], .int .i64 200] rfl (by (try simp only [List.map_toArray, List.map_cons, List.map_nil]); first | done | rfl | (simp only [List.length_drop, List.length_take]; rfl)) ?_; (with_reducible refine (scale_Reach.calls a0_0 a0_1 a0_2 a0_3 a0_4 200 t390 t391 t392 _ ?side1 A124.out).mono ?_); (case side1 => exact Go.Proofs.YtidnopmjhhmedaaDoor.Ways.below HWays.out (by repeat (first | (with_reducible first | exact HB.out | apply below_alloc | apply pw_below_drewN | apply below_drew1 | refine below_set ?_ GE379.out) | exact HB.out))); rintro e w160 ⟨rfl, hb⟩; refine ⟨_, rfl, ?_⟩; have n0_ := Aside0.mk (Kd.V_below (by (with_reducible repeat (first | apply Kd.V_alloc | apply Kd.V_drewN | apply Kd.V_drew)); exact HO_7.out) hb); have n1_ := Aside0.mk (blk_below (g := gb379) (o := .cells #[.int .i64 a0_0, .int .i64 a0_1, .int .i64 a0_2, .int .i64 a0_3, .int .i64 a0_4] 25 (0, 0)) (by (with_reducible repeat (first | refine blk_drewN ?_ _ | refine blk_drew ?_ | refine blk_alloc ?_ _)); exact BK379.out) hb); have n2_ := Aside0.mk (below_step (by repeat (first | (with_reducible first | exact HB.out | apply below_alloc | apply pw_below_drewN | apply below_drew1 | refine below_set ?_ GE379.out) | exact HB.out)) hb); clear HO_7; clear BK379; clear HB; have HO_7 := n0_; have BK379 := n1_; have HB := n2_; clear n0_ n1_ n2_; (try clear hb); (try clear hb2); (try clear hk); (try clear hi)) | ((with_reducible refine gate_dst (N := 11) rfl ?_); (try (refine gate_guard (by rfl) ?_; dsimp only)); refine box_event ?hg (N := 11) ?hd (cs := #[.int .i64 0, .int .i64 0]) (t := 23) ?hr ?_; (case hd => rfl); (case hg => rfl); (case hr => first | (go_simp; done) | (go_simp; rfl)); intro gb393 hg w161 hbox hb; have n0_ := Aside0.mk (Kd.V_below (Kd.V_elderB (by (with_reducible repeat (first | apply Kd.V_alloc | apply Kd.V_drewN | apply Kd.V_drew)); exact HO_7.out) gb393 (Nat.le_of_eq hg.symm)) hb); have n1_ := Aside0.mk (blk_below (g := gb379) (o := .cells #[.int .i64 a0_0, .int .i64 a0_1, .int .i64 a0_2, .int .i64 a0_3, .int .i64 a0_4] 25 (0, 0)) (by (with_reducible repeat (first | refine blk_drewN ?_ _ | refine blk_drew ?_ | refine blk_alloc ?_ _)); exact BK379.out) hb); have n2_ := Aside0.mk (below_step (by repeat (first | (with_reducible first | exact HB.out | apply below_alloc | apply pw_below_drewN | apply below_drew1 | refine below_set ?_ GE379.out) | exact HB.out)) hb); have n3_ := Aside0.mk (hbox); have n4_ := Aside0.mk ((by rw [hg]; exact (below_size (by repeat (first | (with_reducible first | exact HB.out | apply below_alloc | apply pw_below_drewN | apply below_drew1 | refine below_set ?_ GE379.out) | exact HB.out))) : w.heap.size ≤ gb393)); have n5_ := Aside0.mk ((by rw [hg]; exact (below_size (by repeat (first | (with_reducible first | exact HB.out | apply below_alloc | apply pw_below_drewN | apply below_drew1 | refine below_set ?_ GE379.out) | exact HB.out))) : w.heap.size ≤ gb393)); have n6_ := Aside0.mk ((by rw [hg]; exact Nat.ne_of_lt (blk_lt (g := gb379) (o := .cells #[.int .i64 a0_0, .int .i64 a0_1, .int .i64 a0_2, .int .i64 a0_3, .int .i64 a0_4] 25 (0, 0)) (by (with_reducible repeat (first | refine blk_drewN ?_ _ | refine blk_drew ?_ | refine blk_alloc ?_ _)); exact BK379.out)) : gb379 ≠ gb393)); have n7_ := Aside0.mk ((by rw [hg]; exact Nat.ne_of_gt (blk_lt (g := gb379) (o := .cells #[.int .i64 a0_0, .int .i64 a0_1, .int .i64 a0_2, .int .i64 a0_3, .int .i64 a0_4] 25 (0, 0)) (by (with_reducible repeat (first | refine blk_drewN ?_ _ | refine blk_drew ?_ | refine blk_alloc ?_ _)); exact BK379.out)) : gb393 ≠ gb379)); clear HO_7; clear BK379; clear HB; have HO_7 := n0_; have BK379 := n1_; have HB := n2_; have BK393 := n3_; have GW393 := n4_; have GE393 := n5_; have NB379_393 := n6_; have NB393_379 := n7_; clear n0_ n1_ n2_ n3_ n4_ n5_ n6_ n7_; clear hb hbox hg; have hnb162 := NB393_379.out; have hnc162 := NB379_393.out; have hcz163_0 : w161.cell? ⟨gb393, 0, none⟩ = some (.int .i64 0) := (blk_cell BK393.out 0).trans rfl; have hcz163_1 : w161.cell? ⟨gb393, 1, none⟩ = some (.int .i64 0) := (blk_cell BK393.out 1).trans rfl; have hfz163_0 := blk_frozen BK393.out 0; have hfz163_1 := blk_frozen BK393.out 1; obtain ⟨Ao164, co164, eo164⟩ := Kd.V_slice HO_7.out; subst eo164))
                go_ret
                exact ⟨by first | rfl | (simp [errW_none, errW_some] <;> rfl) | (simp [*, errW_none, errW_some] <;> rfl), by repeat (first | (with_reducible first | exact HB.out | apply below_alloc | apply pw_below_drewN | apply below_drew1 | refine below_set ?_ GE379.out | refine below_set ?_ GE393.out) | exact HB.out)⟩
            · rw [if_neg c125] at H
              have c125b0 : (t383 == 4) = false := beq_eq_false_iff_ne.mpr c125
              have c125b1 : (t383 != 4) = true := bne_iff_ne.mpr c125
              obtain rfl := Option.some.inj H
              have hcz165_0 : wc.cell? ⟨gb379, 0, none⟩ = some (.int .i64 a0_0) := (blk_cell BK379.out 0).trans rfl
              have hcz165_1 : wc.cell? ⟨gb379, 1, none⟩ = some (.int .i64 a0_1) := (blk_cell BK379.out 1).trans rfl
              have hcz165_2 : wc.cell? ⟨gb379, 2, none⟩ = some (.int .i64 a0_2) := (blk_cell BK379.out 2).trans rfl
              have hcz165_3 : wc.cell? ⟨gb379, 3, none⟩ = some (.int .i64 a0_3) := (blk_cell BK379.out 3).trans rfl
              have hcz165_4 : wc.cell? ⟨gb379, 4, none⟩ = some (.int .i64 a0_4) := (blk_cell BK379.out 4).trans rfl
              have hfz165_0 := blk_frozen BK379.out 0
              have hfz165_1 := blk_frozen BK379.out 1
              have hfz165_2 := blk_frozen BK379.out 2
              have hfz165_3 := blk_frozen BK379.out 3
              have hfz165_4 := blk_frozen BK379.out 4
              go_wp2_with (first | ((with_reducible refine gate_callee (f := 22) rfl ?_); refine goesL_ (some 70) rfl rfl Tryd.func22 (by kernel_rfl) rfl #[.agg #[.int .i64 a0_0, .int .i64 a0_1, .int .i64 a0_2, .int .i64 a0_3, .int .i64 a0_4], .int .i64 200] rfl (by (try simp only [List.map_toArray, List.map_cons, List.map_nil]); first | done | rfl | (simp only [List.length_drop, List.length_take]; rfl)) ?_; (with_reducible refine (scale_Reach.calls a0_0 a0_1 a0_2 a0_3 a0_4 200 t390 t391 t392 _ ?side1 A124.out).mono ?_); (case side1 => exact Go.Proofs.YtidnopmjhhmedaaDoor.Ways.below HWays.out (by repeat (first | (with_reducible first | exact HB.out | apply below_alloc | apply pw_below_drewN | apply below_drew1 | refine below_set ?_ GE379.out) | exact HB.out))); rintro e w166 ⟨rfl, hb⟩; refine ⟨_, rfl, ?_⟩; have n0_ := Aside0.mk (Kd.V_below (by (with_reducible repeat (first | apply Kd.V_alloc | apply Kd.V_drewN | apply Kd.V_drew)); exact HO_7.out) hb); have n1_ := Aside0.mk (blk_below (g := gb379) (o := .cells #[.int .i64 a0_0, .int .i64 a0_1, .int .i64 a0_2, .int .i64 a0_3, .int .i64 a0_4] 25 (0, 0)) (by (with_reducible repeat (first | refine blk_drewN ?_ _ | refine blk_drew ?_ | refine blk_alloc ?_ _)); exact BK379.out) hb); have n2_ := Aside0.mk (below_step (by repeat (first | (with_reducible first | exact HB.out | apply below_alloc | apply pw_below_drewN | apply below_drew1 | refine below_set ?_ GE379.out) | exact HB.out)) hb); clear HO_7; clear BK379; clear HB; have HO_7 := n0_; have BK379 := n1_; have HB := n2_; clear n0_ n1_ n2_; (try clear hb); (try clear hb2); (try clear hk); (try clear hi)) | ((with_reducible refine gate_dst (N := 11) rfl ?_); (try (refine gate_guard (by rfl) ?_; dsimp only)); refine box_event ?hg (N := 11) ?hd (cs := #[.int .i64 0, .int .i64 0]) (t := 23) ?hr ?_; (case hd => rfl); (case hg => rfl); (case hr => first | (go_simp; done) | (go_simp; rfl)); intro gb393 hg w167 hbox hb; have n0_ := Aside0.mk (Kd.V_below (Kd.V_elderB (by (with_reducible repeat (first | apply Kd.V_alloc | apply Kd.V_drewN | apply Kd.V_drew)); exact HO_7.out) gb393 (Nat.le_of_eq hg.symm)) hb); have n1_ := Aside0.mk (blk_below (g := gb379) (o := .cells #[.int .i64 a0_0, .int .i64 a0_1, .int .i64 a0_2, .int .i64 a0_3, .int .i64 a0_4] 25 (0, 0)) (by (with_reducible repeat (first | refine blk_drewN ?_ _ | refine blk_drew ?_ | refine blk_alloc ?_ _)); exact BK379.out) hb); have n2_ := Aside0.mk (below_step (by repeat (first | (with_reducible first | exact HB.out | apply below_alloc | apply pw_below_drewN | apply below_drew1 | refine below_set ?_ GE379.out) | exact HB.out)) hb); have n3_ := Aside0.mk (hbox); have n4_ := Aside0.mk ((by rw [hg]; exact (below_size (by repeat (first | (with_reducible first | exact HB.out | apply below_alloc | apply pw_below_drewN | apply below_drew1 | refine below_set ?_ GE379.out) | exact HB.out))) : w.heap.size ≤ gb393)); have n5_ := Aside0.mk ((by rw [hg]; exact (below_size (by repeat (first | (with_reducible first | exact HB.out | apply below_alloc | apply pw_below_drewN | apply below_drew1 | refine below_set ?_ GE379.out) | exact HB.out))) : w.heap.size ≤ gb393)); have n6_ := Aside0.mk ((by rw [hg]; exact Nat.ne_of_lt (blk_lt (g := gb379) (o := .cells #[.int .i64 a0_0, .int .i64 a0_1, .int .i64 a0_2, .int .i64 a0_3, .int .i64 a0_4] 25 (0, 0)) (by (with_reducible repeat (first | refine blk_drewN ?_ _ | refine blk_drew ?_ | refine blk_alloc ?_ _)); exact BK379.out)) : gb379 ≠ gb393)); have n7_ := Aside0.mk ((by rw [hg]; exact Nat.ne_of_gt (blk_lt (g := gb379) (o := .cells #[.int .i64 a0_0, .int .i64 a0_1, .int .i64 a0_2, .int .i64 a0_3, .int .i64 a0_4] 25 (0, 0)) (by (with_reducible repeat (first | refine blk_drewN ?_ _ | refine blk_drew ?_ | refine blk_alloc ?_ _)); exact BK379.out)) : gb393 ≠ gb379)); clear HO_7; clear BK379; clear HB; have HO_7 := n0_; have BK379 := n1_; have HB := n2_; have BK393 := n3_; have GW393 := n4_; have GE393 := n5_; have NB379_393 := n6_; have NB393_379 := n7_; clear n0_ n1_ n2_ n3_ n4_ n5_ n6_ n7_; clear hb hbox hg; have hnb168 := NB393_379.out; have hnc168 := NB379_393.out; have hcz169_0 : w167.cell? ⟨gb393, 0, none⟩ = some (.int .i64 0) := (blk_cell BK393.out 0).trans rfl; have hcz169_1 : w167.cell? ⟨gb393, 1, none⟩ = some (.int .i64 0) := (blk_cell BK393.out 1).trans rfl; have hfz169_0 := blk_frozen BK393.out 0; have hfz169_1 := blk_frozen BK393.out 1))
              go_ret
              exact ⟨by first | rfl | (simp [errW_none, errW_some] <;> rfl) | (simp [*, errW_none, errW_some] <;> rfl), by repeat (first | (with_reducible first | exact HB.out | apply below_alloc | apply pw_below_drewN | apply below_drew1 | refine below_set ?_ GE379.out | refine below_set ?_ GE393.out) | exact HB.out)⟩
        · rw [if_neg c38] at H
          have c38b0 : (t383 == t385) = false := beq_eq_false_iff_ne.mpr c38
          have c38b1 : (t383 != t385) = true := bne_iff_ne.mpr c38
          obtain rfl := Option.some.inj H
          go_wp2
          go_ret
          exact ⟨by first | rfl | (simp [errW_none, errW_some] <;> rfl) | (simp [*, errW_none, errW_some] <;> rfl), by repeat (first | (with_reducible first | exact HB.out | apply below_alloc | apply pw_below_drewN | apply below_drew1 | refine below_set ?_ GE379.out) | exact HB.out)⟩

end Go.Proofs.TrydX.X
end

section
/- Plain: a plan that is filled up to a level is a plan. -/
set_option linter.unusedSimpArgs false
set_option linter.unusedVariables false
namespace Go.Proofs.YtidnopmjhhmedaaDoor
open Go.RowKit

theorem fewFrom_spec (F S J off : Int) (d : Nat) : ∀ t : Nat, (fewFrom F S J off d t = -1 ∧ ∀ s, t ≤ s → s < t + d → enoughB F S J off s = false) ∨
    ∃ n : Nat, fewFrom F S J off d t = n ∧ t ≤ n ∧ n < t + d ∧ enoughB F S J off n = true ∧ ∀ s, t ≤ s → s < n → enoughB F S J off s = false := by
  induction d with
  | zero => intro t; exact .inl ⟨rfl, fun s h1 h2 => by omega⟩
  | succ d ih =>
    intro t
    by_cases h : enoughB F S J off t = true
    · refine .inr ⟨t, ?_, Nat.le_refl _, by omega, h, fun s h1 h2 => by omega⟩
      simp [fewFrom, h]
    · have hs : fewFrom F S J off (d + 1) t = fewFrom F S J off d (t + 1) := by simp [fewFrom, h]
      rw [hs]
      rcases ih (t + 1) with ⟨h1, h2⟩ | ⟨n, h1, h2, h3, h4, h5⟩
      · refine .inl ⟨h1, fun s h3 h4 => ?_⟩
        rcases Nat.eq_or_lt_of_le h3 with rfl | h6
        · simpa using h
        · exact h2 s h6 (by omega)
      · refine .inr ⟨n, h1, by omega, by omega, h4, fun s h6 h7 => ?_⟩
        rcases Nat.eq_or_lt_of_le h6 with rfl | h8
        · simpa using h
        · exact h5 s h8 h7
theorem fewest_spec (F S J off : Int) : (fewest F S J off = -1 ∧ ∀ s, s ≤ 200 → enoughB F S J off s = false) ∨
    ∃ n : Nat, fewest F S J off = n ∧ n ≤ 200 ∧ enoughB F S J off n = true ∧ ∀ s, s < n → enoughB F S J off s = false := by
  rcases fewFrom_spec F S J off 201 0 with ⟨h1, h2⟩ | ⟨n, h1, h2, h3, h4, h5⟩
  · exact .inl ⟨h1, fun s hs => h2 s (Nat.zero_le _) (by omega)⟩
  · exact .inr ⟨n, h1, by omega, h4, fun s hs => h5 s (Nat.zero_le _) hs⟩

theorem sumL_cons (x : Int) (l : List Int) : sumL (x :: l) = x + sumL l := rfl
/-- How many are above a level. -/
def above (n : Int) (xs : List Int) : Int := ((xs.filter fun m => decide (n < m)).length : Nat)
theorem above_cons (n x : Int) (xs : List Int) : above n (x :: xs) = above n xs + if n < x then 1 else 0 := by
  unfold above
  rw [List.filter_cons]
  by_cases h : n < x <;> simp [h]
theorem above_nn (n : Int) (xs : List Int) : 0 ≤ above n xs := by unfold above; omega
theorem level_succ (n : Int) (xs : List Int) : sumL (levelL (n + 1) xs) = sumL (levelL n xs) + above n xs := by
  induction xs with
  | nil => rfl
  | cons x xs ih =>
    have h1 : levelL (n + 1) (x :: xs) = min (n + 1) x :: levelL (n + 1) xs := rfl
    have h2 : levelL n (x :: xs) = min n x :: levelL n xs := rfl
    rw [h1, h2, sumL_cons, sumL_cons, ih, above_cons]
    by_cases h : n < x
    · rw [if_pos h]; omega
    · rw [if_neg h]; omega
theorem fill_zero (n : Int) (xs : List Int) : ∀ left, left ≤ 0 → fillL n left xs = levelL n xs := by
  induction xs with
  | nil => intro left h; rfl
  | cons m ms ih =>
    intro left h
    simp only [fillL, levelL, List.map_cons]
    rw [if_neg (by omega), ih left h]
    rfl
theorem fill_sum (n : Int) (xs : List Int) : ∀ left, 0 ≤ left → left ≤ above n xs → sumL (fillL n left xs) = sumL (levelL n xs) + left := by
  induction xs with
  | nil => intro left h0 h1; simp [above] at h1; simp [fillL, levelL, sumL]; omega
  | cons m ms ih =>
    intro left h0 h1
    have h2 : levelL n (m :: ms) = min n m :: levelL n ms := rfl
    rw [above_cons] at h1
    by_cases hz : left = 0
    · subst hz
      rw [fill_zero n _ 0 (Int.le_refl _)]; omega
    · simp only [fillL]
      by_cases hm : n < m
      · rw [if_pos hm] at h1
        rw [if_pos ⟨by omega, hm⟩, sumL_cons, ih (left - 1) (by omega) (by omega), h2, sumL_cons]; omega
      · rw [if_neg hm] at h1
        rw [if_neg (by omega), sumL_cons, ih left h0 (by omega), h2, sumL_cons]; omega
theorem level_zero (xs : List Int) (h : ∀ x ∈ xs, 0 ≤ x) : sumL (levelL 0 xs) = 0 := by
  induction xs with
  | nil => rfl
  | cons x xs ih =>
    have h2 : levelL 0 (x :: xs) = min 0 x :: levelL 0 xs := rfl
    rw [h2, sumL_cons, ih fun y hy => h y (by simp [hy])]
    have := h x (by simp)
    omega
theorem level_all (n : Int) (xs : List Int) (h : ∀ x ∈ xs, x ≤ n) : levelL n xs = xs := by
  unfold levelL
  conv => rhs; rw [← List.map_id xs]
  apply List.map_congr_left
  intro x hx
  have := h x hx
  simp; omega
theorem nFrom_spec (want : Int) (xs : List Int) (d : Nat) : ∀ k : Nat, sumL (levelL (k : Int) xs) ≤ want →
    sumL (levelL ((nFrom want xs d k : Nat) : Int) xs) ≤ want ∧ (nFrom want xs d k = k + d ∨ want < sumL (levelL (((nFrom want xs d k : Nat) : Int) + 1) xs)) ∧ k ≤ nFrom want xs d k ∧ nFrom want xs d k ≤ k + d := by
  induction d with
  | zero => intro k h; exact ⟨h, .inl rfl, Nat.le_refl _, Nat.le_refl _⟩
  | succ d ih =>
    intro k h
    simp only [nFrom]
    split
    · rename_i h2
      obtain ⟨h3, h4, h5, h6⟩ := ih (k + 1) (by simpa using h2)
      exact ⟨h3, h4.imp (by omega) id, by omega, by omega⟩
    · rename_i h2
      exact ⟨h, .inr (by omega), Nat.le_refl _, by omega⟩
/-- What is filled adds up to what is wanted. -/
theorem fill_wanted (want : Int) (xs : List Int) (h0 : 0 ≤ want) (h1 : want ≤ sumL xs) (hx : ∀ x ∈ xs, 0 ≤ x ∧ x ≤ 500) :
    sumL (fillL (nLevel want xs) (want - sumL (levelL (nLevel want xs) xs)) xs) = want := by
  obtain ⟨h2, h3, _, _⟩ := nFrom_spec want xs 500 0 (by simpa using (by rw [level_zero xs fun x h => (hx x h).1]; exact h0 : sumL (levelL 0 xs) ≤ want))
  change sumL (levelL ((nLevel want xs : Nat) : Int) xs) ≤ want at h2
  change nLevel want xs = 0 + 500 ∨ want < sumL (levelL (((nLevel want xs : Nat) : Int) + 1) xs) at h3
  rw [fill_sum _ _ _ (by omega)]
  · omega
  · rcases h3 with h3 | h3
    · have h4 : levelL ((nLevel want xs : Nat) : Int) xs = xs := level_all _ _ fun x h => by have := hx x h; omega
      rw [h4] at h2 ⊢
      have := above_nn ((nLevel want xs : Nat) : Int) xs
      omega
    · rw [level_succ] at h3
      omega

/-- Neighbours differ by at most so much; the first one from d. -/
def Steps (J : Int) : Int → List Int → Prop
  | _, [] => True
  | d, x :: l => -J ≤ x - d ∧ x - d ≤ J ∧ Steps J x l
theorem keeps_of {F S J : Int} (l : List Int) : ∀ d, (∀ x ∈ l, -S ≤ x ∧ x ≤ F) → Steps J d l → keepsB F S J d l = true := by
  induction l with
  | nil => intro d _ _; rfl
  | cons x l ih =>
    intro d h1 h2
    simp only [keepsB, Bool.and_eq_true, lies_iff]
    exact ⟨⟨h1 x (by simp), h2.1, h2.2.1⟩, ih x (fun y hy => h1 y (by simp [hy])) h2.2.2⟩
theorem of_keeps {F S J : Int} (l : List Int) : ∀ d, keepsB F S J d l = true → (∀ x ∈ l, -S ≤ x ∧ x ≤ F) ∧ Steps J d l := by
  induction l with
  | nil => intro d _; exact ⟨fun x hx => (List.not_mem_nil hx).elim, trivial⟩
  | cons x l ih =>
    intro d h
    simp only [keepsB, Bool.and_eq_true, lies_iff] at h
    obtain ⟨h1, h2⟩ := ih x h.2
    refine ⟨fun y hy => ?_, h.1.2.1, h.1.2.2, h2⟩
    rcases List.mem_cons.1 hy with e | hy
    · subst e; exact h.1.1
    · exact h1 y hy
/-- What is filled of a list with small steps has small steps; so has it with the other sign. -/
theorem fill_steps {J n : Int} (hJ : 1 ≤ J) (s : Int) (hs : s = 1 ∨ s = -1) (xs : List Int) : ∀ (left d e : Int), Steps J d xs → (e = min n d ∨ e = min (n + 1) d) → Steps J (e * s) ((fillL n left xs).map fun x => x * s) := by
  induction xs with
  | nil => intro left d e _ _; trivial
  | cons m ms ih =>
    intro left d e h he
    obtain ⟨h1, h2, h3⟩ := h
    simp only [fillL]
    split
    · rename_i hc
      have := ih (left - 1) m (min n m + 1) h3 (.inr (by omega))
      refine ⟨?_, ?_, this⟩ <;> rcases hs with rfl | rfl <;> rcases he with rfl | rfl <;> dsimp only <;> omega
    · have := ih left m (min n m) h3 (.inl rfl)
      refine ⟨?_, ?_, this⟩ <;> rcases hs with rfl | rfl <;> rcases he with rfl | rfl <;> dsimp only <;> omega
theorem fill_le {n : Int} (hn : 0 ≤ n) (xs : List Int) : ∀ left, (∀ x ∈ xs, 0 ≤ x) → ∀ (k : Nat) (x : Int), xs[k]? = some x → ∃ y, (fillL n left xs)[k]? = some y ∧ 0 ≤ y ∧ y ≤ x := by
  induction xs with
  | nil => intro left _ k x h; simp at h
  | cons m ms ih =>
    intro left hx k x h
    have hm := hx m (by simp)
    simp only [fillL]
    cases k with
    | zero =>
      simp at h
      subst h
      split
      · exact ⟨_, rfl, by omega, by omega⟩
      · exact ⟨_, rfl, by omega, by omega⟩
    | succ k =>
      simp at h
      split
      · obtain ⟨y, h1, h2⟩ := ih (left - 1) (fun z hz => hx z (by simp [hz])) k x h
        exact ⟨y, by simpa using h1, h2⟩
      · obtain ⟨y, h1, h2⟩ := ih left (fun z hz => hx z (by simp [hz])) k x h
        exact ⟨y, by simpa using h1, h2⟩

/-- Each number and the one before it, by place. -/
theorem steps_of_get {J : Int} (l : List Int) : ∀ d, (∀ x, l[0]? = some x → -J ≤ x - d ∧ x - d ≤ J) → (∀ (k : Nat) x y, l[k]? = some x → l[k + 1]? = some y → -J ≤ y - x ∧ y - x ≤ J) → Steps J d l := by
  induction l with
  | nil => intro d _ _; trivial
  | cons x l ih =>
    intro d h1 h2
    have := h1 x rfl
    refine ⟨this.1, this.2, ih x (fun y hy => h2 0 x y rfl (by simpa using hy)) fun k a b ha hb => h2 (k + 1) a b (by simpa using ha) (by simpa using hb)⟩
theorem caps_get (each J : Int) (t k : Nat) (h : k < t) : (caps each J t)[k]? = some (capAt each J t k) := by
  simp [caps, h]
theorem capAt_step {each J : Int} {t k : Nat} (hJ : 0 ≤ J) : -J ≤ capAt each J t (k + 1) - capAt each J t k ∧ capAt each J t (k + 1) - capAt each J t k ≤ J := by
  unfold capAt
  have h1 : J * (((k + 1 : Nat) : Int) + 1) = J * ((k : Int) + 1) + J := by
    rw [show (((k + 1 : Nat) : Int) + 1) = ((k : Int) + 1) + 1 by omega, Int.mul_add, Int.mul_one]
  have h2 : J * ((t : Int) - ((k + 1 : Nat) : Int)) = J * ((t : Int) - (k : Int)) - J := by
    rw [show ((t : Int) - ((k + 1 : Nat) : Int)) = ((t : Int) - (k : Int)) - 1 by omega, Int.mul_sub, Int.mul_one]
  rw [h1, h2]
  generalize J * ((k : Int) + 1) = a
  generalize J * ((t : Int) - (k : Int)) = b
  omega
theorem caps_steps (each J : Int) (t : Nat) (h0 : 0 ≤ each) (hJ : 1 ≤ J) : Steps J 0 (caps each J t) := by
  refine steps_of_get _ _ (fun x hx => ?_) fun k x y hx hy => ?_
  · have ht : 0 < t := by
      rcases Nat.eq_zero_or_pos t with rfl | h
      · simp [caps] at hx
      · exact h
    rw [caps_get _ _ _ _ ht] at hx
    injection hx with hx
    subst hx
    unfold capAt
    have : 0 ≤ J * ((t : Int) - ((0 : Nat) : Int)) := Int.mul_nonneg (by omega) (by omega)
    simp only [Int.natCast_zero, Int.zero_add, Int.mul_one]
    simp only [Int.natCast_zero] at this
    omega
  · have hk : k + 1 < t := by
      rcases Nat.lt_or_ge (k + 1) t with h | h
      · exact h
      · rw [List.getElem?_eq_none (by simp [caps]; omega)] at hy; cases hy
    rw [caps_get _ _ _ _ (by omega)] at hx
    rw [caps_get _ _ _ _ hk] at hy
    injection hx with hx
    injection hy with hy
    subst hx; subst hy
    exact capAt_step (by omega)
theorem sumL_mul (s : Int) (l : List Int) : sumL (l.map fun x => x * s) = sumL l * s := by
  induction l with
  | nil => simp [sumL]
  | cons x l ih => rw [List.map_cons, sumL_cons, sumL_cons, ih, Int.add_mul]
theorem total_from' (xs : List Int) : ∀ a : Int, (∀ x ∈ xs, -1000 ≤ x ∧ x ≤ 1000) → -1000000000 + 1000 * xs.length ≤ a → a + 1000 * xs.length ≤ 1000000000 → xs.foldl (fun a b => wrap64 (a + b)) a = a + sumL xs := by
  induction xs with
  | nil => intro a h0 h1 h2; simp [sumL]
  | cons x xs ih =>
    intro a h0 h1 h2
    have hx := h0 x (by simp)
    simp only [List.length_cons, Int.natCast_add, Int.natCast_one] at h1 h2
    rw [List.foldl_cons, IntWalk.wrap64_in _ (by constructor <;> omega), ih _ (fun y hy => h0 y (by simp [hy])) (by omega) (by omega), sumL_cons]
    omega
theorem total_is (xs : List Int) (h : ∀ x ∈ xs, -1000 ≤ x ∧ x ≤ 1000) (hl : xs.length ≤ 1000) : total xs = sumL xs := by
  rw [total, total_from' xs 0 h (by omega) (by omega)]; omega

/-- A plan out of the numbers that are the most. -/
theorem plan_is {F S J off s each want : Int} {t : Nat} (hF : 0 ≤ F ∧ F ≤ 500) (hS : 0 ≤ S ∧ S ≤ 500) (hJ : 1 ≤ J) (ht : t ≤ 200)
    (hs : (s = 1 ∧ each = F ∧ want = -off) ∨ (s = -1 ∧ each = S ∧ want = off)) (hw0 : 0 ≤ want) (hw1 : want ≤ capSum each J t) :
    isPlanB F S J off (planOf s want (caps each J t)).length (planOf s want (caps each J t)) = true ∧ (planOf s want (caps each J t)).length = t := by
  have he : 0 ≤ each ∧ each ≤ 500 := by omega
  have hbd := caps_bd (ticks := t) he.1 he.2 hJ
  have hlen : (planOf s want (caps each J t)).length = t := by rw [planOf_length]; simp [caps]
  have hs1 : s = 1 ∨ s = -1 := hs.imp (fun h => h.1) (fun h => h.1)
  have hsum := fill_wanted want (caps each J t) hw0 hw1 hbd
  have hst := fill_steps (n := (nLevel want (caps each J t) : Nat)) hJ s hs1 _ (want - sumL (levelL (nLevel want (caps each J t)) (caps each J t))) 0 0 (caps_steps each J t he.1 hJ) (.inl (by omega))
  have hle := fill_le (n := (nLevel want (caps each J t) : Nat)) (by omega) (caps each J t) (want - sumL (levelL (nLevel want (caps each J t)) (caps each J t))) fun x hx => (hbd x hx).1
  have hlf : (fillL (nLevel want (caps each J t)) (want - sumL (levelL (nLevel want (caps each J t)) (caps each J t))) (caps each J t)).length = t := by rw [fillL_length]; simp [caps]
  rw [Int.zero_mul] at hst
  unfold planOf at hlen ⊢
  generalize fillL (nLevel want (caps each J t)) (want - sumL (levelL (nLevel want (caps each J t)) (caps each J t))) (caps each J t) = ys at *
  have hy : ∀ (k : Nat) y, ys[k]? = some y → 0 ≤ y ∧ y ≤ capAt each J t k := by
    intro k y hk
    have hkt : k < t := by
      rcases Nat.lt_or_ge k ys.length with h | h
      · omega
      · rw [List.getElem?_eq_none h] at hk; cases hk
    obtain ⟨z, h1, h2, h3⟩ := hle k _ (caps_get each J t k hkt)
    rw [h1] at hk
    injection hk with hk
    subst hk
    exact ⟨h2, h3⟩
  have hcap : ∀ k, k < t → capAt each J t k ≤ each ∧ capAt each J t k ≤ J * ((t : Int) - k) := by
    intro k _
    unfold capAt
    omega
  have hym : ∀ y ∈ ys, 0 ≤ y ∧ y ≤ each := by
    intro y hy1
    obtain ⟨k, hk⟩ := List.getElem?_of_mem hy1
    have h1 := hy k y hk
    have hkt : k < t := by
      rcases Nat.lt_or_ge k ys.length with h | h
      · omega
      · rw [List.getElem?_eq_none h] at hk; cases hk
    have h2 := hcap k hkt
    omega
  have hpm : ∀ x ∈ ys.map (fun x => x * s), -S ≤ x ∧ x ≤ F := by
    intro x hx
    obtain ⟨y, h1, rfl⟩ := List.mem_map.1 hx
    have := hym y h1
    rcases hs with ⟨rfl, rfl, _⟩ | ⟨rfl, rfl, _⟩ <;> omega
  refine ⟨?_, hlen⟩
  simp only [isPlanB, Bool.and_eq_true, decide_eq_true_eq]
  refine ⟨⟨⟨by omega, keeps_of _ _ hpm hst⟩, ?_⟩, ?_⟩
  · unfold smoothB
    rw [hlen]
    by_cases h0 : t = 0
    · simp [h0]
    · simp only [h0, decide_false, Bool.false_or, lies_iff]
      have hk : t - 1 < ys.length := by omega
      have h1 := hy (t - 1) ys[t - 1] (List.getElem?_eq_getElem hk)
      have h2 := hcap (t - 1) (by omega)
      rw [show (t : Int) - ((t - 1 : Nat) : Int) = 1 by omega, Int.mul_one] at h2
      rw [List.getElem?_map, List.getElem?_eq_getElem hk]
      simp only [Option.map_some, Option.getD_some]
      rcases hs1 with rfl | rfl <;> omega
  · rw [total_is _ (fun x hx => by have := hpm x hx; omega) (by omega), sumL_mul, hsum]
    rcases hs with ⟨rfl, _, rfl⟩ | ⟨rfl, _, rfl⟩ <;> omega

end Go.Proofs.YtidnopmjhhmedaaDoor
end

section
-- Written by wip/tools/pr.py (a program of this repo over the kit's print.py).
namespace Go.Proofs.TrydX.X
open Go.RowKit Go.Proofs.YtidnopmjhhmedaaDoorW.PrintWords Go.Proofs.YtidnopmjhhmedaaDoorW.PrintLast Go.Proofs.YtidnopmjhhmedaaDoorW.PrintMore
attribute [local go_sem] max2_int min2_int max_two min_two max_three min_three max_four min_four   -- for this text's walks alone
set_option linter.unusedVariables false
set_option linter.unusedSimpArgs false

end Go.Proofs.TrydX.X
end

section
-- Written by wip/tools/pr.py (a program of this repo over the kit's print.py).
namespace Go.Proofs.TrydX.X
open Go.RowKit Go.Proofs.YtidnopmjhhmedaaDoorW.PrintWords Go.Proofs.YtidnopmjhhmedaaDoorW.PrintLast Go.Proofs.YtidnopmjhhmedaaDoorW.PrintMore
attribute [local go_sem] max2_int min2_int max_two min_two max_three min_three max_four min_four   -- for this text's walks alone
set_option linter.unusedVariables false
set_option linter.unusedSimpArgs false

end Go.Proofs.TrydX.X
end

section
-- Written by wip/tools/pr.py (a program of this repo over the kit's print.py).
namespace Go.Proofs.TrydX.X
open Go.RowKit Go.Proofs.YtidnopmjhhmedaaDoorW.PrintWords Go.Proofs.YtidnopmjhhmedaaDoorW.PrintLast Go.Proofs.YtidnopmjhhmedaaDoorW.PrintMore
attribute [local go_sem] max2_int min2_int max_two min_two max_three min_three max_four min_four   -- for this text's walks alone
set_option linter.unusedVariables false
set_option linter.unusedSimpArgs false

end Go.Proofs.TrydX.X
end

section
-- Written by wip/tools/pr.py (a program of this repo over the kit's print.py).
namespace Go.Proofs.TrydX.X
open Go.RowKit Go.Proofs.YtidnopmjhhmedaaDoorW.PrintWords Go.Proofs.YtidnopmjhhmedaaDoorW.PrintLast Go.Proofs.YtidnopmjhhmedaaDoorW.PrintMore
attribute [local go_sem] max2_int min2_int max_two min_two max_three min_three max_four min_four   -- for this text's walks alone
set_option linter.unusedVariables false
set_option linter.unusedSimpArgs false

end Go.Proofs.TrydX.X
end

section
-- Written by wip/tools/pr.py (a program of this repo over the kit's print.py).
namespace Go.Proofs.TrydX.X
open Go.RowKit Go.Proofs.YtidnopmjhhmedaaDoorW.PrintWords Go.Proofs.YtidnopmjhhmedaaDoorW.PrintLast Go.Proofs.YtidnopmjhhmedaaDoorW.PrintMore
attribute [local go_sem] max2_int min2_int max_two min_two max_three min_three max_four min_four   -- for this text's walks alone
set_option linter.unusedVariables false
set_option linter.unusedSimpArgs false

end Go.Proofs.TrydX.X
end

section
-- Written by wip/tools/pr.py (a program of this repo over the kit's print.py).
namespace Go.Proofs.TrydX.X
open Go.RowKit Go.Proofs.YtidnopmjhhmedaaDoorW.PrintWords Go.Proofs.YtidnopmjhhmedaaDoorW.PrintLast Go.Proofs.YtidnopmjhhmedaaDoorW.PrintMore
attribute [local go_sem] max2_int min2_int max_two min_two max_three min_three max_four min_four   -- for this text's walks alone
set_option linter.unusedVariables false
set_option linter.unusedSimpArgs false

end Go.Proofs.TrydX.X
end

section
-- Written by wip/tools/pr.py (a program of this repo over the kit's print.py).
namespace Go.Proofs.TrydX.X
open Go.RowKit Go.Proofs.YtidnopmjhhmedaaDoorW.PrintWords Go.Proofs.YtidnopmjhhmedaaDoorW.PrintLast Go.Proofs.YtidnopmjhhmedaaDoorW.PrintMore
attribute [local go_sem] max2_int min2_int max_two min_two max_three min_three max_four min_four   -- for this text's walks alone
set_option linter.unusedVariables false
set_option linter.unusedSimpArgs false

end Go.Proofs.TrydX.X
end

section
-- Written by wip/tools/pr.py (a program of this repo over the kit's print.py).
namespace Go.Proofs.TrydX.X
open Go.RowKit Go.Proofs.YtidnopmjhhmedaaDoorW.PrintWords Go.Proofs.YtidnopmjhhmedaaDoorW.PrintLast Go.Proofs.YtidnopmjhhmedaaDoorW.PrintMore
attribute [local go_sem] max2_int min2_int max_two min_two max_three min_three max_four min_four   -- for this text's walks alone
set_option linter.unusedVariables false
set_option linter.unusedSimpArgs false

end Go.Proofs.TrydX.X
end

section
-- Written by wip/tools/pr.py (a program of this repo over the kit's print.py).
namespace Go.Proofs.TrydX.X
open Go.RowKit Go.Proofs.YtidnopmjhhmedaaDoorW.PrintWords Go.Proofs.YtidnopmjhhmedaaDoorW.PrintLast Go.Proofs.YtidnopmjhhmedaaDoorW.PrintMore
attribute [local go_sem] max2_int min2_int max_two min_two max_three min_three max_four min_four   -- for this text's walks alone
set_option linter.unusedVariables false
set_option linter.unusedSimpArgs false

end Go.Proofs.TrydX.X
end

section
-- Written by wip/tools/pr.py (a program of this repo over the kit's print.py).
namespace Go.Proofs.TrydX.X
open Go.RowKit Go.Proofs.YtidnopmjhhmedaaDoorW.PrintWords Go.Proofs.YtidnopmjhhmedaaDoorW.PrintLast Go.Proofs.YtidnopmjhhmedaaDoorW.PrintMore
attribute [local go_sem] max2_int min2_int max_two min_two max_three min_three max_four min_four   -- for this text's walks alone
set_option linter.unusedVariables false
set_option linter.unusedSimpArgs false

end Go.Proofs.TrydX.X
end

section
/- Plain: what the reference's functions of chapter 04 tell, in the hand's own words. -/
set_option linter.unusedSimpArgs false
set_option linter.unusedVariables false
namespace Go.Proofs.TrydX.X
open Go.RowKit Go.Proofs.YtidnopmjhhmedaaDoorW.PrintWords Go.Proofs.YtidnopmjhhmedaaDoorW.PrintLast
open Go.Proofs.YtidnopmjhhmedaaDoor

theorem wr {x : Int} (h : -9223372036854775808 ≤ x ∧ x ≤ 9223372036854775807) : wrap64 x = x := IntWalk.wrap64_in x h
theorem lies_f (n a b : Int) : remontoirref00_Lies.f n a b = some (lies n a b) := by
  unfold remontoirref00_Lies.f lies
  by_cases h : a ≤ n <;> simp [h]
theorem valid_f (a b l h : Int) : remontoirref00_Valid.f a b l h = some (decide (a ≤ b) && decide (l ≤ a) && decide (b ≤ h)) := by
  unfold remontoirref00_Valid.f
  by_cases h1 : a ≤ b <;> by_cases h2 : l ≤ a <;> simp [h1, h2]
theorem drop_rd (l : List Int) (i : Nat) (h : i < l.length) : l.drop i = rd l i :: l.drop (i + 1) := by
  rw [List.drop_eq_getElem_cons h]; simp [rd, h]
theorem total_l0 (l : List Int) (hl : l.length ≤ 17592186044416) (d : Nat) : ∀ (k i : Nat) (a : Int), i + d = l.length → d < k →
    remontoirref00_Total.l0 k l a l.length i = some ((l.drop i).foldl (fun a b => wrap64 (a + b)) a) := by
  induction d with
  | zero =>
    intro k i a hi hk
    obtain ⟨k, rfl⟩ : ∃ m, k = m + 1 := ⟨k - 1, by omega⟩
    simp only [remontoirref00_Total.l0]
    rw [if_neg (by omega), List.drop_eq_nil_of_le (by omega)]; rfl
  | succ d ih =>
    intro k i a hi hk
    obtain ⟨k, rfl⟩ : ∃ m, k = m + 1 := ⟨k - 1, by omega⟩
    simp only [remontoirref00_Total.l0]
    rw [if_pos (by omega), if_pos (by omega), if_pos (by omega), drop_rd l i (by omega), wr (x := (i : Int) + 1) (by omega)]
    have := ih k (i + 1) (wrap64 (a + rd l i)) (by omega) (by omega)
    simpa using this
theorem total_f (l : List Int) (hl : l.length ≤ 17592186044416) (k : Nat) (hk : l.length < k) : remontoirref00_Total.f k l = some (total l) := by
  have := total_l0 l hl l.length k 0 0 (by omega) hk
  simpa [remontoirref00_Total.f, total] using this
theorem size_f (n : Int) (h : -9223372036854775807 ≤ n) (h2 : n ≤ 9223372036854775807) : remontoirref00_Size.f n = some (if n < 0 then -n else n) := by
  unfold remontoirref00_Size.f
  by_cases hn : n < 0
  · rw [if_pos hn, if_pos hn, wr (by omega)]
  · rw [if_neg hn, if_neg hn]
theorem has_f (a b n : Int) : remontoirref00_Has.f a b n = some (lies n a b) := by
  unfold remontoirref00_Has.f
  rw [lies_f]; rfl
theorem mn_eq (a b : Int) : mn a b = min a b := by unfold mn; omega
theorem mx_eq (a b : Int) : mx a b = max a b := by unfold mx; omega
/-- A plan that is made is one, as short as it must be. -/
theorem planL_is {F S J L H off : Int} (hr : isRuleB F S J L H = true) (ho : lies off (-20000) 20000 = true) (hf : ¬ fewest F S J off < 0) :
    isPlanB F S J off (planL F S J off).length (planL F S J off) = true ∧ ((planL F S J off).length : Int) = fewest F S J off ∧ (planL F S J off).length ≤ 200 := by
  obtain ⟨hF, hS, hJ, _⟩ := isRuleB_spec hr
  rcases fewest_spec F S J off with ⟨h1, _⟩ | ⟨n, h1, h2, h3, _⟩
  · omega
  · have h3' := lies_iff.1 (show lies (-off) (-(capSum S J n)) (capSum F J n) = true from h3)
    unfold planL
    rw [h1, Int.toNat_natCast]
    split
    · have := plan_is (F := F) (S := S) (J := J) (off := off) (s := -1) (each := S) (want := off) (t := n) hF hS hJ.1 h2 (.inr ⟨rfl, rfl, rfl⟩) (by omega) (by omega)
      exact ⟨this.1, by rw [this.2], by rw [this.2]; exact h2⟩
    · have := plan_is (F := F) (S := S) (J := J) (off := off) (s := 1) (each := F) (want := -off) (t := n) hF hS hJ.1 h2 (.inl ⟨rfl, rfl, rfl⟩) (by omega) (by omega)
      exact ⟨this.1, by rw [this.2], by rw [this.2]; exact h2⟩

end Go.Proofs.TrydX.X
end

section
/- Plain: draws that are steered within a rule. -/
set_option linter.unusedSimpArgs false
set_option linter.unusedVariables false
namespace Go.Proofs.TrydX.X
open Go.RowKit Go.Proofs.YtidnopmjhhmedaaDoorW.PrintWords Go.Proofs.YtidnopmjhhmedaaDoorW.PrintLast
open Go.Proofs.YtidnopmjhhmedaaDoor

theorem isRule_f (F S J L H : Int) : remontoirlaw04_isRule.f F S J L H = some (isRuleB F S J L H) := by
  unfold remontoirlaw04_isRule.f scale_Reach.f
  cases hr : isRuleB F S J L H
  · simp
  · obtain ⟨hF, hS, hJ, hL⟩ := isRuleB_spec hr
    have h0 : lies 0 0 200 = true := by decide
    simp only [if_true, h0, Option.bind_some, lies_f, valid_f, lies_iff.2 hF, lies_iff.2 hS, lies_iff.2 hJ]
    simp; omega
theorem Rest_f (x m : Int) (hm : 0 < m) (hm2 : m ≤ 4611686018427387904) : ∃ r, remontoirref00_Rest.f x m = some r ∧ 0 ≤ r ∧ r < m := by
  unfold remontoirref00_Rest.f
  rw [if_neg (by omega)]
  have h1 := Int.tmod_lt_of_pos x hm
  have h2 := Int.lt_tmod_of_pos x hm
  split
  · rename_i h
    rw [wr (by omega)]
    exact ⟨_, rfl, by omega, by omega⟩
  · exact ⟨_, rfl, by omega, h1⟩
theorem At_f (l : List Int) (i : Int) (hl : l.length ≤ 17592186044416) : ∃ v, remontoirref00_At.f l i = some v := by
  unfold remontoirref00_At.f
  split
  · exact ⟨_, rfl⟩
  · obtain ⟨r, h1, h2, h3⟩ := Rest_f i l.length (by omega) (by omega)
    rw [h1]
    simp only [Option.bind_some]
    rw [if_pos h2, if_pos h3]
    exact ⟨_, rfl⟩
theorem From_f (a b v : Int) (ha : -1000000000 ≤ a ∧ a ≤ 1000000000) (hb : -1000000000 ≤ b ∧ b ≤ 1000000000) : ∃ r, remontoirref00_From.f a b v = some r ∧ (a ≤ b → a ≤ r ∧ r ≤ b) := by
  unfold remontoirref00_From.f
  split
  · exact ⟨_, rfl, fun _ => by omega⟩
  · rw [wr (x := b - a) (by omega), wr (x := b - a + 1) (by omega), if_neg (by omega)]
    obtain ⟨r, h1, h2, h3⟩ := Rest_f v (b - a + 1) (by omega) (by omega)
    rw [h1]
    simp only [Option.bind_some]
    rw [wr (x := a + r) (by omega)]
    exact ⟨_, rfl, fun _ => by omega⟩
theorem mul_small {J : Int} {d : Nat} (hJ : 0 ≤ J ∧ J ≤ 500) (hd : d ≤ 1000) : 0 ≤ J * d ∧ J * d ≤ 500000 := by
  have h1 : 0 ≤ J * d := Int.mul_nonneg hJ.1 (by omega)
  have h2 : J * d ≤ 500 * 1000 := Int.mul_le_mul hJ.2 (by omega) (by omega) (by omega)
  omega
theorem steered_l0 {F S J L H : Int} (hr : isRuleB F S J L H = true) (l : List Int) (hl : l.length ≤ 17592186044416) (sm : Bool) {n : Nat} (hn : n ≤ 100) (d : Nat) : ∀ (k i : Nat) (last : Int) (x9 : List Int), i + d = n → d < k → x9.length = i → -S ≤ last ∧ last ≤ F →
    (sm = true → -(J * i) ≤ last ∧ last ≤ J * i ∧ -(J * (d + 1 : Nat)) ≤ last ∧ last ≤ J * (d + 1 : Nat)) →
    ∃ tl, remontoirlaw04_steered.l0 k n l sm x9 last i F S J L H = some (x9 ++ tl) ∧ tl.length = d ∧ keepsB F S J last tl = true ∧
      (sm = true → ∀ (m : Nat) x, tl[m]? = some x → -(capAt S J n (i + m)) ≤ x ∧ x ≤ capAt F J n (i + m)) := by
  obtain ⟨hF, hS, hJ, _⟩ := isRuleB_spec hr
  induction d with
  | zero =>
    intro k i last x9 hi hk hx hla hsm
    obtain ⟨k, rfl⟩ : ∃ m, k = m + 1 := ⟨k - 1, by omega⟩
    simp only [remontoirlaw04_steered.l0]
    rw [if_neg (by omega)]
    exact ⟨[], by simp, rfl, rfl, fun _ m x h => by simp at h⟩
  | succ d ih =>
    intro k i last x9 hi hk hx hla hsm
    obtain ⟨k, rfl⟩ : ∃ m, k = m + 1 := ⟨k - 1, by omega⟩
    simp only [remontoirlaw04_steered.l0, remontoirref00_To.f, Option.bind_some, remontoirref00_Both.f, mx_eq, mn_eq]
    obtain ⟨v, hv⟩ := At_f l i hl
    have hd1 := mul_small (J := J) (d := d + 1) (by omega) (by omega)
    have hd0 := mul_small (J := J) (d := d) (by omega) (by omega)
    have hi1 := mul_small (J := J) (d := i + 1) (by omega) (by omega)
    have hi0 := mul_small (J := J) (d := i) (by omega) (by omega)
    have ed : J * ((d + 1 + 1 : Nat) : Int) = J * ((d + 1 : Nat) : Int) + J := by rw [show ((d + 1 + 1 : Nat) : Int) = ((d + 1 : Nat) : Int) + 1 by omega, Int.mul_add, Int.mul_one]
    have ei : J * ((i + 1 : Nat) : Int) = J * (i : Int) + J := by rw [show ((i + 1 : Nat) : Int) = (i : Int) + 1 by omega, Int.mul_add, Int.mul_one]
    rw [if_pos (by omega), hv]
    simp only [Option.bind_some]
    rw [wr (x := -S) (by omega), wr (x := last - J) (by omega), wr (x := last + J) (by omega), wr (x := (n : Int) - i) (by omega), show (n : Int) - i = ((d + 1 : Nat) : Int) by omega,
      wr (x := J * ((d + 1 : Nat) : Int)) (by omega), wr (x := -(J * ((d + 1 : Nat) : Int))) (by omega), wr (x := (i : Int) + 1) (by omega), show (i : Int) + 1 = ((i + 1 : Nat) : Int) by omega]
    have fin : ∀ r, max (-S) (last - J) ≤ r ∧ r ≤ min F (last + J) → (sm = true → -(J * ((d + 1 : Nat) : Int)) ≤ r ∧ r ≤ J * ((d + 1 : Nat) : Int)) →
        ∃ tl, remontoirlaw04_steered.l0 k n l sm (x9 ++ [r]) r ((i + 1 : Nat) : Int) F S J L H = some (x9 ++ tl) ∧ tl.length = d + 1 ∧ keepsB F S J last tl = true ∧
          (sm = true → ∀ (m : Nat) x, tl[m]? = some x → -(capAt S J n (i + m)) ≤ x ∧ x ≤ capAt F J n (i + m)) := by
      intro r hr1 hr2
      obtain ⟨tl, g1, g2, g3, g4⟩ := ih k (i + 1) r (x9 ++ [r]) (by omega) (by omega) (by simp [hx]) (by omega) (fun h => by
        have a1 := hsm h
        have a2 := hr2 h
        exact ⟨by omega, by omega, by omega, by omega⟩)
      refine ⟨r :: tl, by rw [g1, List.append_assoc]; rfl, by simp [g2], ?_, ?_⟩
      · simp only [keepsB, Bool.and_eq_true]
        exact ⟨⟨lies_iff.2 (by omega), lies_iff.2 (by omega)⟩, g3⟩
      · intro h m x hm
        cases m with
        | zero =>
          simp at hm
          subst hm
          have a1 := hsm h
          have a2 := hr2 h
          have e1 : J * ((i : Int) + 1) = J * (i : Int) + J := by rw [Int.mul_add, Int.mul_one]
          have e2 : (n : Int) - i = ((d + 1 : Nat) : Int) := by omega
          simp only [capAt, Nat.add_zero, e1, e2]
          omega
        | succ m =>
          have := g4 h m x (by simpa using hm)
          rwa [show i + 1 + m = i + (m + 1) by omega] at this
    cases sm
    · rw [if_neg (show ¬ (false = true) by decide)]
      obtain ⟨r, h1, h2⟩ := From_f (max (-S) (last - J)) (min F (last + J)) v (by omega) (by omega)
      rw [h1]
      simp only [Option.bind_some]
      rw [if_pos (by omega)]
      exact fin r (by have := h2 (by omega); omega) (fun h => by cases h)
    · rw [if_pos rfl]
      have a1 := hsm rfl
      obtain ⟨r, h1, h2⟩ := From_f (max (max (-S) (last - J)) (-(J * ((d + 1 : Nat) : Int)))) (min (min F (last + J)) (J * ((d + 1 : Nat) : Int))) v (by omega) (by omega)
      rw [h1]
      simp only [Option.bind_some]
      rw [if_pos (by omega)]
      have := h2 (by omega)
      exact (fin r (by omega) (fun _ => by omega)).imp fun tl h => ⟨h.1, h.2.1, h.2.2.1, fun _ => h.2.2.2 rfl⟩
theorem steered_f {F S J L H : Int} (hr : isRuleB F S J L H = true) (l : List Int) (hl : l.length ≤ 17592186044416) (sm : Bool) {n : Nat} (hn : n ≤ 100) (k : Nat) (hk : n < k) :
    ∃ tl, remontoirlaw04_steered.f k F S J L H n l sm = some tl ∧ tl.length = n ∧ keepsB F S J 0 tl = true ∧ (sm = true → ∀ (m : Nat) x, tl[m]? = some x → -(capAt S J n m) ≤ x ∧ x ≤ capAt F J n m) := by
  obtain ⟨hF, hS, hJ, _⟩ := isRuleB_spec hr
  have h1 := mul_small (J := J) (d := n + 1) (by omega) (by omega)
  obtain ⟨tl, g1, g2, g3, g4⟩ := steered_l0 hr l hl sm hn n k 0 0 [] (by omega) hk rfl (by omega) (fun _ => ⟨by simp, by simp, by omega, by omega⟩)
  refine ⟨tl, by unfold remontoirlaw04_steered.f; simpa using g1, g2, g3, fun h m x hm => ?_⟩
  have := g4 h m x hm
  simpa using this
theorem sumL_le : ∀ (l m : List Int), l.length = m.length → (∀ (k : Nat) x y, l[k]? = some x → m[k]? = some y → x ≤ y) → sumL l ≤ sumL m
  | [], [], _, _ => Int.le_refl _
  | x :: l, y :: m, h, hp => by
    have h1 := hp 0 x y rfl rfl
    have h2 := sumL_le l m (by simpa using h) (fun k a b ha hb => hp (k + 1) a b (by simpa using ha) (by simpa using hb))
    rw [sumL_cons, sumL_cons]; omega
  | [], _ :: _, h, _ => by simp at h
  | _ :: _, [], h, _ => by simp at h
theorem sumL_neg (l : List Int) : sumL (l.map fun x => -x) = -(sumL l) := by
  induction l with
  | nil => rfl
  | cons x l ih => rw [List.map_cons, sumL_cons, sumL_cons, ih]; omega
theorem caps_len (each J : Int) (n : Nat) : (caps each J n).length = n := by simp [caps]
/-- What lies within the caps lies in reach. -/
theorem sum_within {F S J : Int} {n : Nat} (tl : List Int) (hl : tl.length = n) (h : ∀ (m : Nat) x, tl[m]? = some x → -(capAt S J n m) ≤ x ∧ x ≤ capAt F J n m) : -(capSum S J n) ≤ sumL tl ∧ sumL tl ≤ capSum F J n := by
  unfold capSum
  constructor
  · rw [← sumL_neg]
    refine sumL_le _ _ (by simp [caps_len, hl]) ?_
    intro k x y hx hy
    have hk : k < n := by
      rcases Nat.lt_or_ge k n with h | h
      · exact h
      · rw [List.getElem?_eq_none (by omega)] at hy; cases hy
    rw [List.getElem?_map, caps_get _ _ _ _ hk] at hx
    simp at hx
    have := h k y hy
    omega
  · refine sumL_le _ _ (by simp [caps_len, hl]) ?_
    intro k x y hx hy
    have hk : k < n := by
      rcases Nat.lt_or_ge k n with h | h
      · exact h
      · rw [List.getElem?_eq_none (by omega)] at hx; cases hx
    rw [caps_get _ _ _ _ hk] at hy
    cases hy
    exact (h k x hx).2
end Go.Proofs.TrydX.X
end

section
/- The plain law of ScaleMet. -/
set_option linter.unusedSimpArgs false
set_option linter.unusedVariables false
namespace Go.Proofs.YtidnopmjhhmedaaDoor
open Go.RowKit Go.Proofs.YtidnopmjhhmedaaDoorW.PrintWords Go.Proofs.YtidnopmjhhmedaaDoorW.PrintLast TrydX.X
theorem kept_l0 {F S J L H : Int} (hr : isRuleB F S J L H = true) {l : List Int} (hl : l.length ≤ 200) (hsm : smoothB J l.length l = true) (d : Nat) : ∀ (k i : Nat) (last : Int), i + d = l.length → d < k →
    keepsB F S J last (l.drop i) = true → (0 < i → l[i - 1]? = some last) → (i = 0 → last = 0) → -500 ≤ last ∧ last ≤ 500 → remontoirlaw04_kept.l0 k l last i F S J L H = some true := by
  obtain ⟨hF, hS, hJ, _⟩ := isRuleB_spec hr
  induction d with
  | zero =>
    intro k i last hi hk hkp h1 h0 hla
    obtain ⟨k, rfl⟩ : ∃ m, k = m + 1 := ⟨k - 1, by omega⟩
    simp only [remontoirlaw04_kept.l0]
    have hb : -J ≤ last ∧ last ≤ J := by
      rcases Nat.eq_zero_or_pos i with h | h
      · have := h0 h; omega
      · have hg := h1 h
        unfold smoothB at hsm
        rw [show l.length - 1 = i - 1 by omega, hg] at hsm
        simp only [Option.getD_some, Bool.or_eq_true, decide_eq_true_eq] at hsm
        rcases hsm with h2 | h2
        · omega
        · exact lies_iff.1 h2
    rw [if_neg (by omega), size_f _ (by omega) (by omega)]
    simp only [Option.bind_some, Option.some.injEq, decide_eq_true_eq]
    split <;> omega
  | succ d ih =>
    intro k i last hi hk hkp h1 h0 hla
    obtain ⟨k, rfl⟩ : ∃ m, k = m + 1 := ⟨k - 1, by omega⟩
    simp only [remontoirlaw04_kept.l0]
    have hil : i < l.length := by omega
    rw [drop_rd l i hil] at hkp
    simp only [keepsB, Bool.and_eq_true] at hkp
    obtain ⟨⟨k1, k2⟩, k3⟩ := hkp
    have k1' := lies_iff.1 k1
    have k2' := lies_iff.1 k2
    have hrd : l[i]? = some (rd l i) := by simp [rd, List.getD_eq_getElem?_getD, hil]
    rw [if_pos (by omega), if_pos (by omega), wr (x := -S) (by omega), lies_f, k1]
    simp only [Option.bind_some, if_true]
    rw [wr (x := rd l i - last) (by omega), size_f _ (by omega) (by omega), wr (x := (i : Int) + 1) (by omega), show (i : Int) + 1 = ((i + 1 : Nat) : Int) by omega]
    simp only [Option.bind_some]
    rw [if_neg (by split <;> omega)]
    exact ih k (i + 1) (rd l i) (by omega) (by omega) k3 (fun _ => by rw [Nat.add_sub_cancel]; exact hrd) (fun h => by omega) (by omega)
theorem kept_f {F S J L H : Int} (hr : isRuleB F S J L H = true) {l : List Int} (hl : l.length ≤ 200) (hk : keepsB F S J 0 l = true) (hsm : smoothB J l.length l = true) (k : Nat) (h : l.length < k) : remontoirlaw04_kept.f k F S J L H l = some true := by
  unfold remontoirlaw04_kept.f
  have := kept_l0 (L := L) (H := H) hr hl hsm l.length k 0 0 (by omega) h (by simpa using hk) (fun h => by omega) (fun _ => rfl) (by omega)
  rw [show ((0 : Nat) : Int) = 0 from rfl] at this
  exact this
theorem isPlan_parts {F S J off : Int} {n : Nat} {l : List Int} (h : isPlanB F S J off n l = true) : n ≤ 200 ∧ keepsB F S J 0 l = true ∧ smoothB J n l = true ∧ total l = -off := by
  unfold isPlanB at h
  simp only [Bool.and_eq_true, decide_eq_true_eq] at h
  exact ⟨h.1.1.1, h.1.1.2, h.1.2, h.2⟩
theorem capSum_zero (each J : Int) : capSum each J 0 = 0 := rfl
theorem met_j2 {F S J L H off : Int} {l : List Int} (hl : l.length ≤ 17592186044416) {n : Nat} (hr : isRuleB F S J L H = true) (ho : lies off (-20000) 20000 = true) (hn : 0 < n ∧ n ≤ 200) (hmin : ∀ s, s < n → enoughB F S J off s = false) (K : Nat) (hK : 100 < K) :
    remontoirlaw04_ScaleMet.j2 (K + 1) off l n false F S J L H = some true := by
  simp only [remontoirlaw04_ScaleMet.j2]
  obtain ⟨v, e1⟩ := At_f l 0 hl
  rw [if_neg (by decide), e1, mn_eq]
  simp only [Option.bind_some]
  obtain ⟨m0, e2, g1, g2⟩ := Rest_f v (min (n : Int) 60) (by omega) (by omega)
  obtain ⟨m, rfl⟩ : ∃ m : Nat, m0 = m := ⟨m0.toNat, by omega⟩
  obtain ⟨tl, e3, g3, g4, g5⟩ := steered_f hr l hl true (n := m) (by omega) K (by omega)
  rw [e2]
  simp only [Option.bind_some, e3]
  obtain ⟨hF, hS, hJ, _⟩ := isRuleB_spec hr
  have hw := sum_within tl g3 (g5 rfl)
  have hb := (of_keeps tl 0 g4).1
  have htot : total tl = sumL tl := total_is tl (fun z hz => by have := hb z hz; omega) (by omega)
  have hf : isPlanB F S J off tl.length tl = false := by
    cases hp : isPlanB F S J off tl.length tl
    · rfl
    · have hq := (isPlan_parts hp).2.2.2
      have he : enoughB F S J off m = true := lies_iff.2 (by omega)
      rw [hmin m (by omega)] at he
      cases he
  have e4 : scale_IsPlan.f F S J L H off tl = some (false, 0) := by
    unfold scale_IsPlan.f
    rw [if_pos (by omega), if_pos hr, if_pos ho, hf]
  rw [e4, Option.bind_some]
  rfl
theorem scaleMet_pure (F S J L H off : Int) (l : List Int) (wf : W64 F ∧ W64 S ∧ W64 J ∧ W64 L ∧ W64 H) (wa : W64 off) (wl : ∀ z ∈ l, W64 z) (hl : l.length ≤ 17592186044416) :
    ∃ k, remontoirlaw04_ScaleMet.f k F S J L H off l = some true := by
  obtain ⟨K, hK⟩ : ∃ K : Nat, K = 500 := ⟨_, rfl⟩
  refine ⟨K + 1 + 1 + 1, ?_⟩
  unfold remontoirlaw04_ScaleMet.f
  rw [isRule_f, lies_f]
  unfold scale_Plan.f scale_Fewest.f
  cases hr : isRuleB F S J L H
  · simp [remontoirlaw04_works.f, remontoirlaw04_ScaleMet.j0]
  · cases ho : lies off (-20000) 20000
    · simp [remontoirlaw04_works.f, remontoirlaw04_ScaleMet.j0]
    · have ho' := lies_iff.1 ho
      obtain ⟨hF, hS, hJ, _⟩ := isRuleB_spec hr
      have eR : ∀ m : Nat, m ≤ 200 → scale_Reach.f F S J L H m = some (-(capSum S J m), capSum F J m, 0) := by
        intro m hm
        unfold scale_Reach.f
        rw [if_pos hr, if_pos (lies_iff.2 (by omega)), Int.toNat_natCast]
      rcases fewest_spec F S J off with ⟨h1, h2⟩ | ⟨n, h1, h2, h3, h4⟩
      · have e9 := eR 200 (by omega)
        have h200 : lies (-off) (-(capSum S J 200)) (capSum F J 200) = false := h2 200 (by omega)
        rw [h1]
        generalize capSum S J 200 = cs at e9 h200
        generalize capSum F J 200 = cf at e9 h200
        rw [show ((200 : Nat) : Int) = 200 from rfl] at e9
        simp [remontoirlaw04_works.f, remontoirlaw04_ScaleMet.j0, e9, has_f, wr (x := -off) (by omega), h200]
      · have hnl : ¬ fewest F S J off < 0 := by omega
        obtain ⟨p1, p2, p3⟩ := planL_is hr ho hnl
        generalize planL F S J off = pl at p1 p2 p3
        obtain ⟨q1, q2, q3, q4⟩ := isPlan_parts p1
        have e1 : scale_IsPlan.f F S J L H off pl = some (true, 0) := by
          unfold scale_IsPlan.f
          rw [if_pos (by omega), if_pos hr, if_pos ho, p1]
        rw [h1] at p2 hnl
        simp only [if_true, h1, hnl, if_false, Option.bind_some, Bool.not_true]
        rw [show K + 1 + 1 + 1 = (K + 1 + 1) + 1 from rfl]
        simp only [remontoirlaw04_ScaleMet.j0]
        rw [if_neg (by decide), if_pos trivial, if_pos trivial, e1]
        simp only [Option.bind_some, if_true]
        rw [if_pos p2, if_neg (by omega), kept_f hr q1 q2 q3 _ (by omega)]
        simp only [Option.bind_some, if_true]
        rw [total_f pl (by omega) _ (by omega), q4]
        simp only [Option.bind_some]
        rw [wr (x := -off) (by omega), if_pos rfl]
        have hz : (((n : Int) == 0) != (off == 0)) = false := by
          have hh : n = 0 ↔ off = 0 := by
            constructor
            · intro h
              subst h
              have := lies_iff.1 (show lies (-off) (-(capSum S J 0)) (capSum F J 0) = true from h3)
              rw [capSum_zero, capSum_zero] at this
              omega
            · intro h
              rcases Nat.eq_zero_or_pos n with hn | hn
              · exact hn
              · have hc : enoughB F S J off 0 = true := lies_iff.2 (by rw [capSum_zero, capSum_zero]; omega)
                rw [h4 0 hn] at hc; cases hc
          by_cases h : n = 0
          · have := hh.1 h; subst h; subst this; rfl
          · have h5 : ¬ off = 0 := fun e => h (hh.2 e)
            have h6 : ((n : Int) == 0) = false := beq_eq_false_iff_ne.2 (by omega)
            have h7 : (off == 0) = false := beq_eq_false_iff_ne.2 h5
            rw [h6, h7]; rfl
        rw [hz]
        simp only [remontoirlaw04_ScaleMet.j1]
        rw [if_neg (by decide)]
        rcases Nat.eq_zero_or_pos n with hn | hn
        · rw [if_pos (by omega)]; rfl
        · rw [if_neg (by omega), wr (x := (n : Int) - 1) (by omega), show (n : Int) - 1 = ((n - 1 : Nat) : Int) by omega, eR n (by omega), eR (n - 1) (by omega)]
          simp only [Option.bind_some, if_true]
          have t1 : lies (-off) (-(capSum S J n)) (capSum F J n) = true := h3
          have t2 : lies (-off) (-(capSum S J (n - 1))) (capSum F J (n - 1)) = false := h4 (n - 1) (by omega)
          rw [has_f, has_f, wr (x := -off) (by omega), t1, t2]
          simp only [Option.bind_some, if_true]
          exact met_j2 hl hr ho ⟨hn, h2⟩ h4 K (by omega)
end Go.Proofs.YtidnopmjhhmedaaDoor
end

section
/- The row and the card of ScaleMet. Written by wip/tools/mkRow.py. -/
set_option linter.unusedVariables false
set_option linter.unusedSimpArgs false
namespace Go.Proofs.YtidnopmjhhmedaaDoor
open Go.ChangeShapes Go.WideShapes Go.ChangeAt Go.RowKit TrydX.X

set_option maxRecDepth 100000 in
theorem scaleMet_lifted (os : Os) (started : os.Started) (H : Type) (enc : TypeId × Value → H) :
    ReturnsInHanded {} Tryd.checked os 8 .any (fun w args => (Rows.scaleMetSpec.pre enc Tryd.prog Tryd.f8 [] false w args ∧ laidMetH Tryd.prog laid1 w) ∧ sizedMet enc Tryd.prog Tryd.f8 (OpenSpec.ofChange Rows.scaleMetSpec) false w args)
      (Rows.scaleMetSpec.post enc Tryd.prog Tryd.f8 false true false false) := by
  refine returnsInHanded_of_change_and (C := Tryd.checked) (X := fun w _ => laidMetH Tryd.prog laid1 w) (fun _ _ _ hh h => h.of_heap hh) own started (by kernel_rfl) Tryd.func8
    (ChangeSpec.witness_shaped (enc := enc) (C := Tryd.checked) (os := os) (X := fun w _ => laidMetH Tryd.prog laid1 w) false (World.doorLaid Tryd.prog 400 os) #[.agg #[.int .i64 0, .int .i64 0, .int .i64 0, .int .i64 0, .int .i64 0], .int .i64 0, .slice none 0 0] 8 rfl (World.shaped_of_RefB (by kernel_rfl) (by kernel_rfl)) (by kernel_rfl) (by kernel_rfl) (by kernel_rfl) (door_met os _)) ?_
  intro W base args ds gs before hval0 hW hcnd hsz0 hL _
  have hsz : (DataW.weightsEach Tryd.prog (Tryd.f8.params.toList ++ Rows.scaleMetSpec.plain.varTypes Tryd.prog) (ds ++ gs)).all (· ≤ reachBytes) = true := hsz0
  have hval : ∀ (j : Nat) t v, Tryd.f8.params[j]? = some t → args[j]? = some v → Value.okWide Tryd.prog W .any base t v := hval0
  have hW' := hW
  obtain ⟨p, q, hA0, hV, rfl, hfz, hnd⟩ := hW
  have hA : DataW.TrodAll enc Tryd.prog W 0 (fun _ => true) true Tryd.f8.params.toList args.toList ds p := hA0
  rw [Tryd.params8] at hA hval hsz
  obtain ⟨v0, vs0, d0, ds0, p0, q0, hargs, rfl, rfl, h0, r0⟩ := trodAll_cons hA
  obtain ⟨v1, vs1, d1, ds1, p1, q1, rfl, rfl, rfl, h1, r1⟩ := trodAll_cons r0
  obtain ⟨v2, vs2, d2, ds2, p2, q2, rfl, rfl, rfl, h2, r2⟩ := trodAll_cons r1
  obtain ⟨rfl, rfl, rfl⟩ := trodAll_nil r2
  obtain rfl : args = #[v0, v1, v2] := by cases args; simp_all
  obtain ⟨rfl, rfl⟩ := trodVars_none hV
  have lt0 : ∀ x ∈ p0, x.block < W.heap.size := by obtain ⟨m, hm⟩ := h0; exact DataW.trod_lt m _ _ _ hm
  have k0 := h0
  obtain ⟨cs0, rfl, hcs0⟩ := agg_of Tryd.underlying25 (hval 0 25 v0 rfl rfl)
  obtain ⟨m0, hm0⟩ := h0
  rw [hcs0] at hm0
  obtain ⟨a_0, b_0, c_0, d_0, e_0, rfl, wf0⟩ := op25 hm0
  have lt1 : ∀ x ∈ p1, x.block < W.heap.size := by obtain ⟨m, hm⟩ := h1; exact DataW.trod_lt m _ _ _ hm
  have k1 := h1
  obtain ⟨n_1, rfl, rfl, rfl, wf1⟩ := open_int Tryd.underlying3 (hval 1 3 v1 rfl rfl) h1
  have lt2 : ∀ x ∈ p2, x.block < W.heap.size := by obtain ⟨m, hm⟩ := h2; exact DataW.trod_lt m _ _ _ hm
  have k2 := h2
  obtain ⟨A_2, len2, cap2, rfl⟩ := okWide_slice Tryd.underlying26 (hval 2 26 v2 rfl rfl)
  obtain ⟨m2, hm2⟩ := h2
  obtain ⟨B_2, c_2, l_2, e2, rd2, hc2, wf2, hs2⟩ := op26 hm2
  have z2 := hs2 (weights_at hsz (j := 2) (t := 26) (d := d2) rfl rfl)
  simp [Value.cells] at e2
  obtain ⟨rfl, rfl, rfl⟩ := e2
  obtain ⟨k, hk⟩ := scaleMet_pure a_0 b_0 c_0 d_0 e_0 n_1 l_2 wf0 wf1 wf2 z2
  clear hA0 hval0 hsz0 hsz
  refine (remontoirlaw04_ScaleMet.calls k a_0 b_0 c_0 d_0 e_0 n_1 A_2 cap2 l_2 true W rd2 hc2 (ways_of_laid hL) hk).mono fun e W' ⟨he, bel⟩ => ?_
  subst he
  exact ⟨_, rfl, _, _, _, [], _, [], hW', trodAll_mk1 (shut_bool Tryd.underlying4 _), (trodAll_cons_mk (Below.trod laidOut (by kernel_rfl) (of_decide_eq_true (by kernel_rfl)) k0 bel lt0) (trodAll_cons_mk (Below.trod laidOut (by kernel_rfl) (of_decide_eq_true (by kernel_rfl)) k1 bel lt1) (trodAll_cons_mk (Below.trod laidOut (by kernel_rfl) (of_decide_eq_true (by kernel_rfl)) k2 bel lt2) trodAll_mk0))), rfl, bel.frame _, fun h => by cases h⟩

theorem scaleMet_row : Rows.ScaleMetSaid :=
  OpenClaim.holds_of_wide 8 Tryd.f8 rfl rfl rfl rfl rfl rfl rfl ⟨rfl, rfl, rfl, rfl, rfl⟩ rfl rfl rfl rfl rfl (by kernel_rfl) Tryd.func8 (by kernel_rfl)
    (of_decide_eq_true (by kernel_rfl)) (by unfold Func.isWrapper; first | (rw [if_pos (by decide +kernel)]; kernel_rfl) | (rw [if_neg (by decide +kernel)]; exact ⟨rfl, rfl⟩))
    (fun os started H enc _ => scaleMet_lifted os started H enc)

/-- THE CARD. -/
theorem scaleMet_holds : Rows.ScaleMetCardSaid :=
  Claim7.holds_tied_plain_at .later [] [.funcs] true (true, "42c157d2a2e9e6c40d73358f232322a0bd5e742c3af8e9a8c48de9150ba4d318") false
    scaleMet_row (fun _ h => by cases h) (by kernel_rfl) (fun _ h => by cases h) scaleMet_row_tie rfl ⟨rfl, rfl⟩ (by kernel_rfl) rfl
    (fun f fn hf hfn => by
      obtain rfl : f = 8 := Option.some.inj ((show Tryd.prog.funcNamed "remontoir/remontoirlaw04.ScaleMet" = some 8 by kernel_rfl).symm.trans hf) |>.symm
      obtain rfl : fn = Tryd.f8 := (Option.some.inj (Tryd.func8.symm.trans hfn)).symm
      exact ⟨by kernel_rfl, fun j t ht => by
        rw [Tryd.params8] at ht
        have h3 : t ∈ [(25 : TypeId), (3 : TypeId), (26 : TypeId)] := by
          obtain ⟨hj, e⟩ := Array.getElem?_eq_some_iff.1 ht
          rw [← e]
          exact Array.getElem_mem_toList hj
        simp only [List.mem_cons, List.not_mem_nil, or_false] at h3
        rcases h3 with rfl | rfl | rfl
        · exact (show Tryd.prog.wantsStandIn 25 = false by kernel_rfl)
        · exact (show Tryd.prog.wantsStandIn 3 = false by kernel_rfl)
        · exact (show Tryd.prog.wantsStandIn 26 = false by kernel_rfl)⟩)
    (by kernel_rfl)
#print axioms scaleMet_holds
end Go.Proofs.YtidnopmjhhmedaaDoor
end
