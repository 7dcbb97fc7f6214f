/- PROVED: ScaleEndsCardSaid, for every input, where the listed variable reads as the program's text lays it. Part 5 of 5: of this session; merged by wip/tools/mkClaim.py. -/
import Derived.Test.YtidnopmjhhmedaaDoorMEndsb
import Derived.Test.YtidnopmjhhmedaaDoorMEndsd
import Derived.Test.YtidnopmjhhmedaaDoorMEndsc
import Derived.Test.YtidnopmjhhmedaaDoorCards
import Derived.Test.YtidnopmjhhmedaaDoorTie
import Derived.WalkKit
import Derived.Below
import Derived.Carry
import Derived.SevenTiedAt
section
-- Written by wip/tools/pr.py (a program of this repo over the kit's print.py).
namespace Go.Proofs.TrydX.X
open Go.RowKit Go.Proofs.YtidnopmjhhmedaaDoorW.PrintWords Go.Proofs.YtidnopmjhhmedaaDoorW.PrintLast Go.Proofs.YtidnopmjhhmedaaDoorW.PrintMore
attribute [local go_sem] max2_int min2_int max_two min_two max_three min_three max_four min_four   -- for this text's walks alone
set_option linter.unusedVariables false
set_option linter.unusedSimpArgs false

attribute [local go_sem high] eqA23
/-! ### remontoirlaw04_ScaleEnds: function 12 -/
mutual
def remontoirlaw04_ScaleEnds.j0 : Nat → Int → Bool → Int → Int → Int → Int → Int → Int → List Int → List (S71) → Option (Bool)
 | 0, _, _, _, _, _, _, _, _, _, _ => none
 | k + 1, x1, x21, x571000, x571001, x571002, x571003, x571004, x571005, x571006, x571007 => if x21 = true then ((remontoirlaw04_works.f).bind fun t572 => (some t572)) else ((remontoirref00_Rest.f x1 (wrap64 (x571005 + 1))).bind fun t573 => ((scale_Error.f x571000 x571001 x571002 x571003 x571004 x571005 x571006 x571007 t573).bind fun bt574 => (if bt574.2.2 = 0 then (remontoirlaw04_ScaleEnds.l0 k t573 (([bt574.1, bt574.2.1, wrap64 (bt574.1 - 1), wrap64 (bt574.2.1 + 1)] : List Int)) 0 x571000 x571001 x571002 x571003 x571004 x571005 x571006 x571007) else (if bt574.2.2 = 42 then (if (bt574.1 == 0 && (bt574.2.1 == 0)) = true then ((remontoirlaw04_works.f).bind fun t578 => (some t578)) else (some false)) else (some false)))))
def remontoirlaw04_ScaleEnds.l0 : Nat → Int → List Int → Int → Int → Int → Int → Int → Int → Int → List Int → List (S71) → Option (Bool)
 | 0, _, _, _, _, _, _, _, _, _, _, _ => none
 | k + 1, x5, x8, x9, x571000, x571001, x571002, x571003, x571004, x571005, x571006, x571007 => if x9 < 4 then (if 0 ≤ x9 then (if x9 < (x8.length : Int) then ((remontoirref00_Lies.f (rd x8 x9) (-20000) 20000).bind fun t584 => (if t584 = true then ((some (([] : List (S71)) : List (S71))).bind fun y586 => (if y586.length + x571007.length < 5864062014805 then ((some (y586 ++ x571007 : List (S71))).bind fun y589 => ((remontoirref00_To.f (rd x8 x9) (rd x8 x9)).bind fun bt594 => (if y589.length < 5864062014805 then ((scale_Error.f x571000 x571001 x571002 x571003 x571004 x571005 x571006 (y589 ++ [(⟨x5, (⟨bt594.1, bt594.2⟩ : S23)⟩ : S71)]) x5).bind fun bt599 => (if x9 < 2 then (if bt599.2.2 = 0 then ((remontoirref00_To.f (rd x8 x9) (rd x8 x9)).bind fun bt605 => (if (!(bt599.1 == bt605.1) || (!(bt599.2.1 == bt605.2))) = true then (remontoirlaw04_ScaleEnds.j2 k x5 x8 x9 true x571000 x571001 x571002 x571003 x571004 x571005 x571006 x571007) else (if x9 ≥ 2 then (remontoirlaw04_ScaleEnds.j2 k x5 x8 x9 (bt599.2.2 != 42) x571000 x571001 x571002 x571003 x571004 x571005 x571006 x571007) else (remontoirlaw04_ScaleEnds.j2 k x5 x8 x9 false x571000 x571001 x571002 x571003 x571004 x571005 x571006 x571007)))) else (remontoirlaw04_ScaleEnds.j2 k x5 x8 x9 true x571000 x571001 x571002 x571003 x571004 x571005 x571006 x571007)) else (if x9 ≥ 2 then (remontoirlaw04_ScaleEnds.j2 k x5 x8 x9 (bt599.2.2 != 42) x571000 x571001 x571002 x571003 x571004 x571005 x571006 x571007) else (remontoirlaw04_ScaleEnds.j2 k x5 x8 x9 false x571000 x571001 x571002 x571003 x571004 x571005 x571006 x571007)))) else (none)))) else (none))) else (if x9 < 2 then (some false) else (remontoirlaw04_ScaleEnds.l0 k x5 x8 (wrap64 (x9 + 1)) x571000 x571001 x571002 x571003 x571004 x571005 x571006 x571007)))) else (none)) else (none)) else ((remontoirlaw04_works.f).bind fun t582 => (some t582))
def remontoirlaw04_ScaleEnds.j2 : Nat → Int → List Int → Int → Bool → Int → Int → Int → Int → Int → Int → List Int → List (S71) → Option (Bool)
 | 0, _, _, _, _, _, _, _, _, _, _, _, _ => none
 | k + 1, x5, x8, x9, x120, x571000, x571001, x571002, x571003, x571004, x571005, x571006, x571007 => if x120 = true then (some false) else (remontoirlaw04_ScaleEnds.l0 k x5 x8 (wrap64 (x9 + 1)) x571000 x571001 x571002 x571003 x571004 x571005 x571006 x571007)
end
def remontoirlaw04_ScaleEnds.f (k : Nat) (a0_0 : Int) (a0_1 : Int) (a0_2 : Int) (a0_3 : Int) (a0_4 : Int) (a0_5 : Int) (l0_6 : List Int) (l0_7 : List (S71)) (a1 : Int) : Option (Bool) := (remontoirlaw04_sound.f k a0_0 a0_1 a0_2 a0_3 a0_4 a0_5 l0_6 l0_7).bind fun t571 => (if t571 = true then (remontoirlaw04_ScaleEnds.j0 k a1 ((l0_7.length : Int) == 10) a0_0 a0_1 a0_2 a0_3 a0_4 a0_5 l0_6 l0_7) else (remontoirlaw04_ScaleEnds.j0 k a1 true a0_0 a0_1 a0_2 a0_3 a0_4 a0_5 l0_6 l0_7))
def remontoirlaw04_ScaleEnds.T15 : Bool × List (List Nat × List Nat) := (true, [([], []), ([], []), ([1], [1]), ([0, 2], [0, 2]), ([], []), ([], []), ([], []), ([5, 6], [5, 6]), ([7], [7]), ([], []), ([], []), ([9, 10], [9, 10]), ([11], [11]), ([8, 12, 3], [8, 12]), ([4, 13], [4, 13]), ([14], [14]), ([3, 15, 13], [3, 15]), ([0, 1, 2, 3, 4, 5, 6, 7, 8, 9, 10, 11, 12, 13, 14, 15, 16], []), ([17, 16, 16, 0, 1, 2, 3, 4, 5, 6, 7, 8, 9, 10, 11, 12, 13, 14, 15, 16], [16, 17])])
def remontoirlaw04_ScaleEnds.B15 : List Nat := [0, 0, 2, 7, 0, 0, 0, 96, 224, 0, 0, 1536, 3584, 8175, 16383, 32767, 65535, 131071, 262143]
theorem remontoirlaw04_ScaleEnds.tab15 : rtab .any (opsOf Tryd.f12 15) = remontoirlaw04_ScaleEnds.T15 := by kernel_rfl
theorem remontoirlaw04_ScaleEnds.bits15 : waitsOk remontoirlaw04_ScaleEnds.T15.2 remontoirlaw04_ScaleEnds.B15 = true := by kernel_rfl
def remontoirlaw04_ScaleEnds.T17 : Bool × List (List Nat × List Nat) := (true, [([], []), ([0], [0]), ([1], [1]), ([2], [2]), ([3, 2], [2, 3]), ([4, 2, 2], [2, 4]), ([5], [5]), ([5], [5]), ([5], [5]), ([7, 8, 5], [5, 7, 8]), ([9, 5], [5, 9]), ([5], [5]), ([5], [5]), ([11, 12, 5], [5, 11, 12]), ([13, 5], [5, 13]), ([10, 14, 5, 5], [5, 10, 14]), ([6, 15, 5], [5, 6, 15]), ([5, 16, 2], [2, 5, 16]), ([2, 17], [2, 17]), ([18, 15], [18]), ([19], [19]), ([20, 19], [19, 20]), ([21, 19, 19], [19, 21]), ([22], [22]), ([23, 22], [22, 23]), ([22, 24, 19], [19, 22, 24]), ([19, 25], [19, 25])])
def remontoirlaw04_ScaleEnds.B17 : List Nat := [0, 1, 3, 7, 15, 31, 63, 63, 63, 447, 959, 63, 63, 6207, 14399, 32703, 65535, 131071, 262143, 524287, 1048575, 2097151, 4194303, 8388607, 16777215, 33554431, 67108863]
theorem remontoirlaw04_ScaleEnds.tab17 : rtab .any (opsOf Tryd.f12 17) = remontoirlaw04_ScaleEnds.T17 := by kernel_rfl
theorem remontoirlaw04_ScaleEnds.bits17 : waitsOk remontoirlaw04_ScaleEnds.T17.2 remontoirlaw04_ScaleEnds.B17 = true := by kernel_rfl
set_option maxHeartbeats 8000000 in
set_option maxRecDepth 100000 in
theorem remontoirlaw04_ScaleEnds.calls (k : Nat) (a0_0 : Int) (a0_1 : Int) (a0_2 : Int) (a0_3 : Int) (a0_4 : Int) (a0_5 : Int) (A0_6 : Option Addr) (c0_6 : Nat) (l0_6 : List Int) (A0_7 : Option Addr) (c0_7 : Nat) (l0_7 : List (S71)) (a1 : Int) (r : Bool) (w : World) (hr0_6 : Kd.C (Kd.int .i64) w A0_6 l0_6.length l0_6) (hc0_6 : l0_6.length ≤ c0_6) (hr0_7 : Kd.C k71 w A0_7 l0_7.length l0_7) (hc0_7 : l0_7.length ≤ c0_7) (hWays : Go.Proofs.YtidnopmjhhmedaaDoor.Ways w) (h : remontoirlaw04_ScaleEnds.f k a0_0 a0_1 a0_2 a0_3 a0_4 a0_5 l0_6 l0_7 a1 = some r) :
  Calls Tryd.prog 12 #[.agg #[.int .i64 a0_0, .int .i64 a0_1, .int .i64 a0_2, .int .i64 a0_3, .int .i64 a0_4, .int .i64 a0_5, .slice A0_6 l0_6.length c0_6, .slice A0_7 l0_7.length c0_7], .int .i64 a1] w fun e w' => e = .returned (.bool r) ∧ Below w.heap.size w w' := by
 have hu44 := Tryd.underlying44
 have hu23 := Tryd.underlying23
 have hu71 := Tryd.underlying71
 have HR0_6 := Aside0.mk hr0_6
 have HC0_6 := Aside0.mk hc0_6
 clear hr0_6 hc0_6
 have HR0_7 := Aside0.mk hr0_7
 have HC0_7 := Aside0.mk hc0_7
 clear hr0_7 hc0_7
 have HB := Aside0.mk (Below.refl w.heap.size w)
 have HWays := Aside0.mk hWays
 clear hWays
 have H : ((remontoirlaw04_sound.f k a0_0 a0_1 a0_2 a0_3 a0_4 a0_5 l0_6 l0_7).bind fun t571 => (if t571 = true then (remontoirlaw04_ScaleEnds.j0 k a1 ((l0_7.length : Int) == 10) a0_0 a0_1 a0_2 a0_3 a0_4 a0_5 l0_6 l0_7) else (remontoirlaw04_ScaleEnds.j0 k a1 true a0_0 a0_1 a0_2 a0_3 a0_4 a0_5 l0_6 l0_7))) = some r := h
 clear h
 have HC3 := Aside0.mk H
 clear H
 go_enter Tryd.func12, Tryd.ntmps12
 go_upto_region 1 with (first | ((with_reducible refine gate_dst (N := 2) rfl ?_); (try (refine gate_guard (by rfl) ?_; dsimp only)); refine box_event ?hg (N := 2) ?hd (cs := #[.int .i64 a0_0, .int .i64 a0_1, .int .i64 a0_2, .int .i64 a0_3, .int .i64 a0_4, .int .i64 a0_5, .slice A0_6 l0_6.length c0_6, .slice A0_7 l0_7.length c0_7]) (t := 44) ?hr ?_; (case hd => rfl); (case hg => rfl); (case hr => first | (go_simp; done) | (go_simp; rfl)); intro gb570 hg w4 hbox hb; have BK570 := Aside0.mk (hbox); have GW570 := geB hg (bl HB); have GE570 := geB hg (bl HB); replace HB := Aside0.mk (below_step (bl HB) hb); clear hb hbox hg))
 (try simp only [Act.put, List.setIfInBounds_toArray, List.set_cons_zero, List.set_cons_succ])
 go_cut [21] (fun v21 wc => ∃ (kq : Nat) (x21_2 : Bool), v21 = .bool x21_2 ∧ Aside0 (remontoirlaw04_ScaleEnds.j0 kq a1 x21_2 a0_0 a0_1 a0_2 a0_3 a0_4 a0_5 l0_6 l0_7 = some r) ∧ Aside0 (kq ≤ k) ∧ Aside0 (wc.heap[gb570]? = some (.cells #[.int .i64 a0_0, .int .i64 a0_1, .int .i64 a0_2, .int .i64 a0_3, .int .i64 a0_4, .int .i64 a0_5, (.slice A0_6 l0_6.length c0_6), (.slice A0_7 l0_7.length c0_7)] 44 (0, 0))) ∧ Aside0 (Below w.heap.size w wc))
 case first =>
  have H := HC3.out
  clear HC3
  replace H := Option.bind_eq_some_iff.mp H
  obtain ⟨t571, A50, H⟩ := H
  replace H : (if t571 = true then (remontoirlaw04_ScaleEnds.j0 k a1 ((l0_7.length : Int) == 10) a0_0 a0_1 a0_2 a0_3 a0_4 a0_5 l0_6 l0_7) else (remontoirlaw04_ScaleEnds.j0 k a1 true a0_0 a0_1 a0_2 a0_3 a0_4 a0_5 l0_6 l0_7)) = some r := H
  have A5 := Aside0.mk A50
  clear A50
  by_cases c6 : t571 = true
  ·
   subst c6
   have H1 : (remontoirlaw04_ScaleEnds.j0 k a1 ((l0_7.length : Int) == 10) a0_0 a0_1 a0_2 a0_3 a0_4 a0_5 l0_6 l0_7) = some r := by rw [if_pos rfl] at H; exact H
   clear H
   have H := H1
   clear H1
   have H' := Aside0.mk H
   clear H
   have hcz7_0 : w4.cell? ⟨gb570, 0, none⟩ = some (.int .i64 a0_0) := bc BK570 0
   have hcz7_1 : w4.cell? ⟨gb570, 1, none⟩ = some (.int .i64 a0_1) := bc BK570 1
   have hcz7_2 : w4.cell? ⟨gb570, 2, none⟩ = some (.int .i64 a0_2) := bc BK570 2
   have hcz7_3 : w4.cell? ⟨gb570, 3, none⟩ = some (.int .i64 a0_3) := bc BK570 3
   have hcz7_4 : w4.cell? ⟨gb570, 4, none⟩ = some (.int .i64 a0_4) := bc BK570 4
   have hcz7_5 : w4.cell? ⟨gb570, 5, none⟩ = some (.int .i64 a0_5) := bc BK570 5
   have hcz7_6 : w4.cell? ⟨gb570, 6, none⟩ = some (.slice A0_6 l0_6.length c0_6) := bc BK570 6
   have hcz7_7 : w4.cell? ⟨gb570, 7, none⟩ = some (.slice A0_7 l0_7.length c0_7) := bc BK570 7
   have hfz7_0 := blk_frozen BK570.out 0
   have hfz7_1 := blk_frozen BK570.out 1
   have hfz7_2 := blk_frozen BK570.out 2
   have hfz7_3 := blk_frozen BK570.out 3
   have hfz7_4 := blk_frozen BK570.out 4
   have hfz7_5 := blk_frozen BK570.out 5
   have hfz7_6 := blk_frozen BK570.out 6
   have hfz7_7 := blk_frozen BK570.out 7
   go_wp2_with (first | ((with_reducible refine gate_callee (f := 50) rfl ?_); refine goesL_ (some 14) rfl rfl Tryd.func50 (by kernel_rfl) rfl #[.agg #[.int .i64 a0_0, .int .i64 a0_1, .int .i64 a0_2, .int .i64 a0_3, .int .i64 a0_4, .int .i64 a0_5, .slice A0_6 l0_6.length c0_6, .slice A0_7 l0_7.length c0_7]] rfl (by (try simp only [List.map_toArray, List.map_cons, List.map_nil]); first | done | rfl | (simp only [List.length_drop, List.length_take]; rfl)) ?_; (with_reducible refine (remontoirlaw04_sound.calls k a0_0 a0_1 a0_2 a0_3 a0_4 a0_5 _ _ l0_6 _ _ l0_7 true _ ?side1 ?side2 ?side3 ?side4 ?side5 A5.out).mono ?_); (case side1 => repeat (first | exact (Kd.C_below HR0_6.out HB.out) | (with_reducible refine Kd.C_alloc ?_ _) | (with_reducible refine Kd.C_drewN ?_ _) | (with_reducible refine Kd.C_drew ?_))); (case side2 => exact HC0_6.out); (case side3 => repeat (first | exact (Kd.C_below HR0_7.out HB.out) | (with_reducible refine Kd.C_alloc ?_ _) | (with_reducible refine Kd.C_drewN ?_ _) | (with_reducible refine Kd.C_drew ?_))); (case side4 => exact HC0_7.out); (case side5 => exact Go.Proofs.YtidnopmjhhmedaaDoor.Ways.below HWays.out (bl HB)); rintro e w8 ⟨rfl, hb⟩; refine ⟨_, rfl, ?_⟩; replace BK570 := Aside0.mk (blk_below (bk BK570) hb); replace HB := Aside0.mk (below_step (bl HB) hb); (try clear hb); (try clear hb2); (try clear hk); (try clear hi); have hcz9_0 : w8.cell? ⟨gb570, 0, none⟩ = some (.int .i64 a0_0) := bc BK570 0; have hcz9_1 : w8.cell? ⟨gb570, 1, none⟩ = some (.int .i64 a0_1) := bc BK570 1; have hcz9_2 : w8.cell? ⟨gb570, 2, none⟩ = some (.int .i64 a0_2) := bc BK570 2; have hcz9_3 : w8.cell? ⟨gb570, 3, none⟩ = some (.int .i64 a0_3) := bc BK570 3; have hcz9_4 : w8.cell? ⟨gb570, 4, none⟩ = some (.int .i64 a0_4) := bc BK570 4; have hcz9_5 : w8.cell? ⟨gb570, 5, none⟩ = some (.int .i64 a0_5) := bc BK570 5; have hcz9_6 : w8.cell? ⟨gb570, 6, none⟩ = some (.slice A0_6 l0_6.length c0_6) := bc BK570 6; have hcz9_7 : w8.cell? ⟨gb570, 7, none⟩ = some (.slice A0_7 l0_7.length c0_7) := bc BK570 7; have hfz9_0 := blk_frozen BK570.out 0; have hfz9_1 := blk_frozen BK570.out 1; have hfz9_2 := blk_frozen BK570.out 2; have hfz9_3 := blk_frozen BK570.out 3; have hfz9_4 := blk_frozen BK570.out 4; have hfz9_5 := blk_frozen BK570.out 5; have hfz9_6 := blk_frozen BK570.out 6; have hfz9_7 := blk_frozen BK570.out 7))
   go_meet
   case rel => exact ⟨_, (((l0_7.length : Int) == 10)), (by first | rfl | (simp; done) | (simp [*]; done)), H', ⟨by first | omega | exact Nat.le_refl _⟩, ⟨bk BK570⟩, ⟨bl HB⟩⟩
  ·
   replace c6 := Bool.eq_false_iff.mpr c6
   subst c6
   have H1 : (remontoirlaw04_ScaleEnds.j0 k a1 true a0_0 a0_1 a0_2 a0_3 a0_4 a0_5 l0_6 l0_7) = some r := by rw [if_neg (show ¬ (false = true) by decide)] at H; exact H
   clear H
   have H := H1
   clear H1
   have H' := Aside0.mk H
   clear H
   have hcz10_0 : w4.cell? ⟨gb570, 0, none⟩ = some (.int .i64 a0_0) := bc BK570 0
   have hcz10_1 : w4.cell? ⟨gb570, 1, none⟩ = some (.int .i64 a0_1) := bc BK570 1
   have hcz10_2 : w4.cell? ⟨gb570, 2, none⟩ = some (.int .i64 a0_2) := bc BK570 2
   have hcz10_3 : w4.cell? ⟨gb570, 3, none⟩ = some (.int .i64 a0_3) := bc BK570 3
   have hcz10_4 : w4.cell? ⟨gb570, 4, none⟩ = some (.int .i64 a0_4) := bc BK570 4
   have hcz10_5 : w4.cell? ⟨gb570, 5, none⟩ = some (.int .i64 a0_5) := bc BK570 5
   have hcz10_6 : w4.cell? ⟨gb570, 6, none⟩ = some (.slice A0_6 l0_6.length c0_6) := bc BK570 6
   have hcz10_7 : w4.cell? ⟨gb570, 7, none⟩ = some (.slice A0_7 l0_7.length c0_7) := bc BK570 7
   have hfz10_0 := blk_frozen BK570.out 0
   have hfz10_1 := blk_frozen BK570.out 1
   have hfz10_2 := blk_frozen BK570.out 2
   have hfz10_3 := blk_frozen BK570.out 3
   have hfz10_4 := blk_frozen BK570.out 4
   have hfz10_5 := blk_frozen BK570.out 5
   have hfz10_6 := blk_frozen BK570.out 6
   have hfz10_7 := blk_frozen BK570.out 7
   go_wp2_with (first | ((with_reducible refine gate_callee (f := 50) rfl ?_); refine goesL_ (some 14) rfl rfl Tryd.func50 (by kernel_rfl) rfl #[.agg #[.int .i64 a0_0, .int .i64 a0_1, .int .i64 a0_2, .int .i64 a0_3, .int .i64 a0_4, .int .i64 a0_5, .slice A0_6 l0_6.length c0_6, .slice A0_7 l0_7.length c0_7]] rfl (by (try simp only [List.map_toArray, List.map_cons, List.map_nil]); first | done | rfl | (simp only [List.length_drop, List.length_take]; rfl)) ?_; (with_reducible refine (remontoirlaw04_sound.calls k a0_0 a0_1 a0_2 a0_3 a0_4 a0_5 _ _ l0_6 _ _ l0_7 false _ ?side1 ?side2 ?side3 ?side4 ?side5 A5.out).mono ?_); (case side1 => repeat (first | exact (Kd.C_below HR0_6.out HB.out) | (with_reducible refine Kd.C_alloc ?_ _) | (with_reducible refine Kd.C_drewN ?_ _) | (with_reducible refine Kd.C_drew ?_))); (case side2 => exact HC0_6.out); (case side3 => repeat (first | exact (Kd.C_below HR0_7.out HB.out) | (with_reducible refine Kd.C_alloc ?_ _) | (with_reducible refine Kd.C_drewN ?_ _) | (with_reducible refine Kd.C_drew ?_))); (case side4 => exact HC0_7.out); (case side5 => exact Go.Proofs.YtidnopmjhhmedaaDoor.Ways.below HWays.out (bl HB)); rintro e w11 ⟨rfl, hb⟩; refine ⟨_, rfl, ?_⟩; replace BK570 := Aside0.mk (blk_below (bk BK570) hb); replace HB := Aside0.mk (below_step (bl HB) hb); (try clear hb); (try clear hb2); (try clear hk); (try clear hi)))
   go_meet
   case rel => exact ⟨_, (true), (by first | rfl | (simp; done) | (simp [*]; done)), H', ⟨by first | omega | exact Nat.le_refl _⟩, ⟨bk BK570⟩, ⟨bl HB⟩⟩
 case rest =>
  clear HC3
  try clear c1; try clear p2; try clear c5; try clear c6; try clear hcz10_0; try clear hcz10_1; try clear hcz10_2; try clear hcz10_3; try clear hcz10_4; try clear hcz10_5; try clear hcz10_6; try clear hcz10_7; try clear hcz7_0; try clear hcz7_1; try clear hcz7_2; try clear hcz7_3; try clear hcz7_4; try clear hcz7_5; try clear hcz7_6; try clear hcz7_7; try clear hcz9_0; try clear hcz9_1; try clear hcz9_2; try clear hcz9_3; try clear hcz9_4; try clear hcz9_5; try clear hcz9_6; try clear hcz9_7; try clear hfz10_0; try clear hfz10_1; try clear hfz10_2; try clear hfz10_3; try clear hfz10_4; try clear hfz10_5; try clear hfz10_6; try clear hfz10_7; try clear hfz7_0; try clear hfz7_1; try clear hfz7_2; try clear hfz7_3; try clear hfz7_4; try clear hfz7_5; try clear hfz7_6; try clear hfz7_7; try clear hfz9_0; try clear hfz9_1; try clear hfz9_2; try clear hfz9_3; try clear hfz9_4; try clear hfz9_5; try clear hfz9_6; try clear hfz9_7
  try clear BK570; try clear HB
  obtain ⟨kq, x21_2, rfl, HA, HJ2, BK570, HB⟩ := hcut
  cases kq with
  | zero => exact absurd HA.out (by simp [remontoirlaw04_ScaleEnds.j0])
  | succ kj2 =>
   have H := HA.out
   clear HA
   simp only [remontoirlaw04_ScaleEnds.j0] at H
   by_cases c12 : x21_2 = true
   ·
    subst c12
    have H1 : ((remontoirlaw04_works.f).bind fun t572 => (some t572)) = some r := by rw [if_pos rfl] at H; exact H
    clear H
    have H := H1
    clear H1
    replace H := Option.bind_eq_some_iff.mp H
    obtain ⟨t572, A130, H⟩ := H
    replace H : (some t572) = some r := H
    have A13 := Aside0.mk A130
    clear A130
    obtain rfl := Option.some.inj H
    go_wp2_with (first | ((with_reducible refine gate_callee (f := 21) rfl ?_); refine goesL_ (some 22) rfl rfl Tryd.func21 (by kernel_rfl) rfl #[] rfl (by (try simp only [List.map_toArray, List.map_cons, List.map_nil]); first | done | rfl | (simp only [List.length_drop, List.length_take]; rfl)) ?_; (with_reducible refine (remontoirlaw04_works.calls  t572 _ ?side1 A13.out).mono ?_); (case side1 => exact Go.Proofs.YtidnopmjhhmedaaDoor.Ways.below HWays.out (bl HB)); rintro e w14 ⟨rfl, hb⟩; refine ⟨_, rfl, ?_⟩; replace BK570 := Aside0.mk (blk_below (bk BK570) hb); replace HB := Aside0.mk (below_step (bl HB) hb); (try clear hb); (try clear hb2); (try clear hk); (try clear hi)))
    go_ret
    exact ⟨by first | rfl | (simp [errW_none, errW_some] <;> rfl) | (simp [*, errW_none, errW_some] <;> rfl), by repeat (first | (with_reducible first | exact HB.out | apply below_alloc | apply pw_below_drewN | apply below_drew1 | refine below_set ?_ GE570.out) | exact HB.out)⟩
   ·
    replace c12 := Bool.eq_false_iff.mpr c12
    subst c12
    have H1 : ((remontoirref00_Rest.f a1 (wrap64 (a0_5 + 1))).bind fun t573 => ((scale_Error.f a0_0 a0_1 a0_2 a0_3 a0_4 a0_5 l0_6 l0_7 t573).bind fun bt574 => (if bt574.2.2 = 0 then (remontoirlaw04_ScaleEnds.l0 kj2 t573 (([bt574.1, bt574.2.1, wrap64 (bt574.1 - 1), wrap64 (bt574.2.1 + 1)] : List Int)) 0 a0_0 a0_1 a0_2 a0_3 a0_4 a0_5 l0_6 l0_7) else (if bt574.2.2 = 42 then (if (bt574.1 == 0 && (bt574.2.1 == 0)) = true then ((remontoirlaw04_works.f).bind fun t578 => (some t578)) else (some false)) else (some false))))) = some r := by rw [if_neg (show ¬ (false = true) by decide)] at H; exact H
    clear H
    have H := H1
    clear H1
    replace H := Option.bind_eq_some_iff.mp H
    obtain ⟨t573, A150, H⟩ := H
    replace H : ((scale_Error.f a0_0 a0_1 a0_2 a0_3 a0_4 a0_5 l0_6 l0_7 t573).bind fun bt574 => (if bt574.2.2 = 0 then (remontoirlaw04_ScaleEnds.l0 kj2 t573 (([bt574.1, bt574.2.1, wrap64 (bt574.1 - 1), wrap64 (bt574.2.1 + 1)] : List Int)) 0 a0_0 a0_1 a0_2 a0_3 a0_4 a0_5 l0_6 l0_7) else (if bt574.2.2 = 42 then (if (bt574.1 == 0 && (bt574.2.1 == 0)) = true then ((remontoirlaw04_works.f).bind fun t578 => (some t578)) else (some false)) else (some false)))) = some r := H
    have A15 := Aside0.mk A150
    clear A150
    replace H := Option.bind_eq_some_iff.mp H
    obtain ⟨⟨t574, t575, t576⟩, A160, H⟩ := H
    replace H : (if t576 = 0 then (remontoirlaw04_ScaleEnds.l0 kj2 t573 (([t574, t575, wrap64 (t574 - 1), wrap64 (t575 + 1)] : List Int)) 0 a0_0 a0_1 a0_2 a0_3 a0_4 a0_5 l0_6 l0_7) else (if t576 = 42 then (if (t574 == 0 && (t575 == 0)) = true then ((remontoirlaw04_works.f).bind fun t578 => (some t578)) else (some false)) else (some false))) = some r := H
    have A16 := Aside0.mk A160
    clear A160
    by_cases c17 : t576 = 0
    ·
     rw [if_pos c17] at H
     have c17b0 : (t576 == 0) = true := beq_iff_eq.mpr c17
     have c17b1 : (t576 != 0) = false := bne_eq_false_iff_eq.mpr c17
     clear c17
     obtain ⟨y579, hy579⟩ : ∃ y_ : List Int, y_ = (([t574, t575, wrap64 (t574 - 1), wrap64 (t575 + 1)] : List Int)) := ⟨_, rfl⟩
     replace H : (remontoirlaw04_ScaleEnds.l0 kj2 t573 y579 0 a0_0 a0_1 a0_2 a0_3 a0_4 a0_5 l0_6 l0_7) = some r := by first | (rw [hy579]; with_reducible exact H) | (have H2_ := (Option.bind_some _ _).symm.trans H; rw [hy579]; with_reducible exact H2_) | (have H2_ := (Option.bind_some _ _).symm.trans H; with_reducible exact H2_) | with_reducible exact H | (rw [hy579]; exact H) | exact H
     have Ny579 := Aside0.mk hy579
     clear hy579
     have H' := Aside0.mk H
     clear H
     have hcz18_0 : wc.cell? ⟨gb570, 0, none⟩ = some (.int .i64 a0_0) := bc BK570 0
     have hcz18_1 : wc.cell? ⟨gb570, 1, none⟩ = some (.int .i64 a0_1) := bc BK570 1
     have hcz18_2 : wc.cell? ⟨gb570, 2, none⟩ = some (.int .i64 a0_2) := bc BK570 2
     have hcz18_3 : wc.cell? ⟨gb570, 3, none⟩ = some (.int .i64 a0_3) := bc BK570 3
     have hcz18_4 : wc.cell? ⟨gb570, 4, none⟩ = some (.int .i64 a0_4) := bc BK570 4
     have hcz18_5 : wc.cell? ⟨gb570, 5, none⟩ = some (.int .i64 a0_5) := bc BK570 5
     have hcz18_6 : wc.cell? ⟨gb570, 6, none⟩ = some (.slice A0_6 l0_6.length c0_6) := bc BK570 6
     have hcz18_7 : wc.cell? ⟨gb570, 7, none⟩ = some (.slice A0_7 l0_7.length c0_7) := bc BK570 7
     have hfz18_0 := blk_frozen BK570.out 0
     have hfz18_1 := blk_frozen BK570.out 1
     have hfz18_2 := blk_frozen BK570.out 2
     have hfz18_3 := blk_frozen BK570.out 3
     have hfz18_4 := blk_frozen BK570.out 4
     have hfz18_5 := blk_frozen BK570.out 5
     have hfz18_6 := blk_frozen BK570.out 6
     have hfz18_7 := blk_frozen BK570.out 7
     go_wp2_with (first | ((with_reducible refine gate_callee (f := 38) rfl ?_); refine goesL_ (some 27) rfl rfl Tryd.func38 (by kernel_rfl) rfl #[.int .i64 a1, .int .i64 (wrap64 (a0_5 + 1))] rfl (by (try simp only [List.map_toArray, List.map_cons, List.map_nil]); first | done | rfl | (simp only [List.length_drop, List.length_take]; rfl)) ?_; (with_reducible refine (remontoirref00_Rest.calls a1 (wrap64 (a0_5 + 1)) t573 _ A15.out).mono ?_); rintro e w' ⟨rfl, ⟨nd, rfl⟩⟩; refine ⟨_, rfl, ?_⟩) | ((with_reducible refine gate_callee (f := 27) rfl ?_); refine goesL_ (some 31) rfl rfl Tryd.func27 (by kernel_rfl) rfl #[.agg #[.int .i64 a0_0, .int .i64 a0_1, .int .i64 a0_2, .int .i64 a0_3, .int .i64 a0_4, .int .i64 a0_5, .slice A0_6 l0_6.length c0_6, .slice A0_7 l0_7.length c0_7], .int .i64 t573] rfl (by (try simp only [List.map_toArray, List.map_cons, List.map_nil]); first | done | rfl | (simp only [List.length_drop, List.length_take]; rfl)) ?_; (with_reducible refine (scale_Error.calls a0_0 a0_1 a0_2 a0_3 a0_4 a0_5 _ _ l0_6 _ _ l0_7 t573 t574 t575 t576 _ ?side1 ?side2 ?side3 ?side4 ?side5 A16.out).mono ?_); (case side1 => repeat (first | exact (Kd.C_below HR0_6.out HB.out) | (with_reducible refine Kd.C_alloc ?_ _) | (with_reducible refine Kd.C_drewN ?_ _) | (with_reducible refine Kd.C_drew ?_))); (case side2 => exact HC0_6.out); (case side3 => repeat (first | exact (Kd.C_below HR0_7.out HB.out) | (with_reducible refine Kd.C_alloc ?_ _) | (with_reducible refine Kd.C_drewN ?_ _) | (with_reducible refine Kd.C_drew ?_))); (case side4 => exact HC0_7.out); (case side5 => exact Go.Proofs.YtidnopmjhhmedaaDoor.Ways.below HWays.out (bl HB)); rintro e w19 ⟨rfl, hb⟩; refine ⟨_, rfl, ?_⟩; replace BK570 := Aside0.mk (blk_below (bk BK570) hb); replace HB := Aside0.mk (below_step (bl HB) hb); (try clear hb); (try clear hb2); (try clear hk); (try clear hi)) | ((with_reducible refine gate_dst (N := 6) rfl ?_); (try (refine gate_guard (by rfl) ?_; dsimp only)); refine box_event ?hg (N := 6) ?hd (cs := #[.int .i64 0, .int .i64 0]) (t := 23) ?hr ?_; (case hd => rfl); (case hg => rfl); (case hr => first | (go_simp; done) | (go_simp; rfl)); intro gb577 hg w20 hbox hb; have BK577 := Aside0.mk (hbox); have GW577 := geB hg (bl HB); have GE577 := geB hg (bl HB); replace HB := Aside0.mk (below_step (bl HB) hb); have NB570_577 := nlt hg (bk BK570); have NB577_570 := ngt hg (bk BK570); replace BK570 := Aside0.mk (blk_below (bk BK570) hb); clear hb hbox hg; have hnb21 := NB577_570.out; have hnc21 := NB570_577.out; have hcz22_0 : w20.cell? ⟨gb577, 0, none⟩ = some (.int .i64 0) := bc BK577 0; have hcz22_1 : w20.cell? ⟨gb577, 1, none⟩ = some (.int .i64 0) := bc BK577 1; have hfz22_0 := blk_frozen BK577.out 0; have hfz22_1 := blk_frozen BK577.out 1) | ((with_reducible refine gate_dst (N := 56) rfl ?_); (try (refine gate_guard (by rfl) ?_; dsimp only)); refine Kd.R_lit (Kd.int .i64) _ 3 ?hg (N := 56) ?hd (xs := ([t574, t575, wrap64 (t574 - 1), wrap64 (t575 + 1)] : List Int)) (inner := [.int .i64 t574, .int .i64 t575, .int .i64 (wrap64 (t574 - 1)), .int .i64 (wrap64 (t575 + 1))]) (ok := fun _ => True) (okp := fun _ => True) ?hr ?hp (fun _ hk => hk) trivial (Below.refl _ _) (Nat.le_refl _) (by simp) ?_; (case hd => rfl); (case hg => rfl); (case hr => first | (go_simp; done) | (go_simp; rfl)); (case hp => exact (Reps.one (show Kd.M (Kd.int .i64) _ _ _ t574 [.int .i64 t574] from rfl) (Reps.one (show Kd.M (Kd.int .i64) _ _ _ t575 [.int .i64 t575] from rfl) (Reps.one (show Kd.M (Kd.int .i64) _ _ _ (wrap64 (t574 - 1)) [.int .i64 (wrap64 (t574 - 1))] from rfl) (Reps.one (show Kd.M (Kd.int .i64) _ _ _ (wrap64 (t575 + 1)) [.int .i64 (wrap64 (t575 + 1))] from rfl) (Reps.none _ _)))))); intro v580 w23 ho24 hb hg_ hnew_; clear hg_ hnew_; (first | rw [← Ny579.out] at ho24 | (simp only [Int.reduceToNat] at ho24; rw [← Ny579.out] at ho24)); have HO581 := Aside0.mk (Kd.R_lower ho24 (below_size (bl HB))); replace BK570 := Aside0.mk (blk_below (bk BK570) hb); replace BK577 := Aside0.mk (blk_below (g := gb577) (o := .cells #[.int .i64 t574, .int .i64 t575] 23 (0, 0)) (by (with_reducible repeat (first | refine blk_drewN ?_ _ | refine blk_drew ?_ | refine blk_alloc ?_ _)); refine blk_put (cs := #[.int .i64 t574, .int .i64 0]) ?_ 1 _ rfl; (with_reducible repeat (first | refine blk_drewN ?_ _ | refine blk_drew ?_ | refine blk_alloc ?_ _)); refine blk_put (cs := #[.int .i64 0, .int .i64 0]) ?_ 0 _ rfl; (with_reducible repeat (first | refine blk_drewN ?_ _ | refine blk_drew ?_ | refine blk_alloc ?_ _)); exact BK577.out) hb); replace HB := Aside0.mk (below_step (bl HB) hb); clear hb ho24))
     go_loopg [9] kj2 (fun kq v9 w' => ∃ (x9_2 : Int), v9 = .int .i64 x9_2 ∧ Aside0 (remontoirlaw04_ScaleEnds.l0 kq t573 y579 x9_2 a0_0 a0_1 a0_2 a0_3 a0_4 a0_5 l0_6 l0_7 = some r) ∧ Aside0 (kq ≤ kj2) ∧ Aside0 (Kd.R (Kd.int .i64) 3 w' w.heap.size (fun _ => True) v580 y579) ∧ Aside0 (w'.heap[gb570]? = some (.cells #[.int .i64 a0_0, .int .i64 a0_1, .int .i64 a0_2, .int .i64 a0_3, .int .i64 a0_4, .int .i64 a0_5, (.slice A0_6 l0_6.length c0_6), (.slice A0_7 l0_7.length c0_7)] 44 (0, 0))) ∧ Aside0 (w'.heap[gb577]? = some (.cells #[.int .i64 t574, .int .i64 t575] 23 (0, 0))) ∧ Aside0 (Below w.heap.size w w'))
     case atStart => exact ⟨(0), (by first | rfl | (simp; done) | (simp [*]; done)), H', ⟨Nat.le_refl _⟩, ⟨by (with_reducible repeat (first | apply Kd.R_alloc | apply Kd.R_drewN | apply Kd.R_drew)); exact HO581.out⟩, ⟨bk BK570⟩, ⟨bk BK577⟩, ⟨bl HB⟩⟩
     case round =>
      clear H'
      try clear c1; try clear c2; try clear p2; try clear c3; try clear c5; try clear c6; try clear p6; try clear c12; try clear c17; try clear c17b0; try clear c17b1; try clear c21; try clear hcz10_0; try clear hcz10_1; try clear hcz10_2; try clear hcz10_3; try clear hcz10_4; try clear hcz10_5; try clear hcz10_6; try clear hcz10_7; try clear hcz18_0; try clear hcz18_1; try clear hcz18_2; try clear hcz18_3; try clear hcz18_4; try clear hcz18_5; try clear hcz18_6; try clear hcz18_7; try clear hcz22_0; try clear hcz22_1; try clear hcz7_0; try clear hcz7_1; try clear hcz7_2; try clear hcz7_3; try clear hcz7_4; try clear hcz7_5; try clear hcz7_6; try clear hcz7_7; try clear hcz9_0; try clear hcz9_1; try clear hcz9_2; try clear hcz9_3; try clear hcz9_4; try clear hcz9_5; try clear hcz9_6; try clear hcz9_7; try clear hfz10_0; try clear hfz10_1; try clear hfz10_2; try clear hfz10_3; try clear hfz10_4; try clear hfz10_5; try clear hfz10_6; try clear hfz10_7; try clear hfz18_0; try clear hfz18_1; try clear hfz18_2; try clear hfz18_3; try clear hfz18_4; try clear hfz18_5; try clear hfz18_6; try clear hfz18_7; try clear hfz22_0; try clear hfz22_1; try clear hfz7_0; try clear hfz7_1; try clear hfz7_2; try clear hfz7_3; try clear hfz7_4; try clear hfz7_5; try clear hfz7_6; try clear hfz7_7; try clear hfz9_0; try clear hfz9_1; try clear hfz9_2; try clear hfz9_3; try clear hfz9_4; try clear hfz9_5; try clear hfz9_6; try clear hfz9_7; try clear p2
      try clear HO_8; try clear BK570; try clear BK577; try clear HB
      obtain ⟨x9_2, rfl, HA, HK2, HO_8, BK570, BK577, HB⟩ := hrel
      cases gk with
      | zero => exact absurd HA.out (by simp [remontoirlaw04_ScaleEnds.l0])
      | succ k2 =>
       have H := HA.out
       clear HA
       simp only [remontoirlaw04_ScaleEnds.l0] at H
       by_cases c25 : x9_2 < 4
       ·
        rw [if_pos c25] at H
        have c25b0 : decide (x9_2 < 4) = true := decide_eq_true c25
        clear c25
        by_cases c26 : 0 ≤ x9_2
        ·
         rw [if_pos c26] at H
         have c26b0 : decide (0 ≤ x9_2) = true := decide_eq_true c26
         clear c26
         by_cases c27 : x9_2 < (y579.length : Int)
         ·
          rw [if_pos c27] at H
          have c27b0 : decide (x9_2 < (y579.length : Int)) = true := decide_eq_true c27
          clear c27
          replace H := Option.bind_eq_some_iff.mp H
          obtain ⟨t584, A280, H⟩ := H
          replace H : (if t584 = true then ((some (([] : List (S71)) : List (S71))).bind fun y586 => (if y586.length + l0_7.length < 5864062014805 then ((some (y586 ++ l0_7 : List (S71))).bind fun y589 => ((remontoirref00_To.f (rd y579 x9_2) (rd y579 x9_2)).bind fun bt594 => (if y589.length < 5864062014805 then ((scale_Error.f a0_0 a0_1 a0_2 a0_3 a0_4 a0_5 l0_6 (y589 ++ [(⟨t573, (⟨bt594.1, bt594.2⟩ : S23)⟩ : S71)]) t573).bind fun bt599 => (if x9_2 < 2 then (if bt599.2.2 = 0 then ((remontoirref00_To.f (rd y579 x9_2) (rd y579 x9_2)).bind fun bt605 => (if (!(bt599.1 == bt605.1) || (!(bt599.2.1 == bt605.2))) = true then (remontoirlaw04_ScaleEnds.j2 k2 t573 y579 x9_2 true a0_0 a0_1 a0_2 a0_3 a0_4 a0_5 l0_6 l0_7) else (if x9_2 ≥ 2 then (remontoirlaw04_ScaleEnds.j2 k2 t573 y579 x9_2 (bt599.2.2 != 42) a0_0 a0_1 a0_2 a0_3 a0_4 a0_5 l0_6 l0_7) else (remontoirlaw04_ScaleEnds.j2 k2 t573 y579 x9_2 false a0_0 a0_1 a0_2 a0_3 a0_4 a0_5 l0_6 l0_7)))) else (remontoirlaw04_ScaleEnds.j2 k2 t573 y579 x9_2 true a0_0 a0_1 a0_2 a0_3 a0_4 a0_5 l0_6 l0_7)) else (if x9_2 ≥ 2 then (remontoirlaw04_ScaleEnds.j2 k2 t573 y579 x9_2 (bt599.2.2 != 42) a0_0 a0_1 a0_2 a0_3 a0_4 a0_5 l0_6 l0_7) else (remontoirlaw04_ScaleEnds.j2 k2 t573 y579 x9_2 false a0_0 a0_1 a0_2 a0_3 a0_4 a0_5 l0_6 l0_7)))) else (none)))) else (none))) else (if x9_2 < 2 then (some false) else (remontoirlaw04_ScaleEnds.l0 k2 t573 y579 (wrap64 (x9_2 + 1)) a0_0 a0_1 a0_2 a0_3 a0_4 a0_5 l0_6 l0_7))) = some r := H
          have A28 := Aside0.mk A280
          clear A280
          by_cases c29 : t584 = true
          ·
           subst c29
           have H1 : ((some (([] : List (S71)) : List (S71))).bind fun y586 => (if y586.length + l0_7.length < 5864062014805 then ((some (y586 ++ l0_7 : List (S71))).bind fun y589 => ((remontoirref00_To.f (rd y579 x9_2) (rd y579 x9_2)).bind fun bt594 => (if y589.length < 5864062014805 then ((scale_Error.f a0_0 a0_1 a0_2 a0_3 a0_4 a0_5 l0_6 (y589 ++ [(⟨t573, (⟨bt594.1, bt594.2⟩ : S23)⟩ : S71)]) t573).bind fun bt599 => (if x9_2 < 2 then (if bt599.2.2 = 0 then ((remontoirref00_To.f (rd y579 x9_2) (rd y579 x9_2)).bind fun bt605 => (if (!(bt599.1 == bt605.1) || (!(bt599.2.1 == bt605.2))) = true then (remontoirlaw04_ScaleEnds.j2 k2 t573 y579 x9_2 true a0_0 a0_1 a0_2 a0_3 a0_4 a0_5 l0_6 l0_7) else (if x9_2 ≥ 2 then (remontoirlaw04_ScaleEnds.j2 k2 t573 y579 x9_2 (bt599.2.2 != 42) a0_0 a0_1 a0_2 a0_3 a0_4 a0_5 l0_6 l0_7) else (remontoirlaw04_ScaleEnds.j2 k2 t573 y579 x9_2 false a0_0 a0_1 a0_2 a0_3 a0_4 a0_5 l0_6 l0_7)))) else (remontoirlaw04_ScaleEnds.j2 k2 t573 y579 x9_2 true a0_0 a0_1 a0_2 a0_3 a0_4 a0_5 l0_6 l0_7)) else (if x9_2 ≥ 2 then (remontoirlaw04_ScaleEnds.j2 k2 t573 y579 x9_2 (bt599.2.2 != 42) a0_0 a0_1 a0_2 a0_3 a0_4 a0_5 l0_6 l0_7) else (remontoirlaw04_ScaleEnds.j2 k2 t573 y579 x9_2 false a0_0 a0_1 a0_2 a0_3 a0_4 a0_5 l0_6 l0_7)))) else (none)))) else (none))) = some r := by rw [if_pos rfl] at H; exact H
           clear H
           have H := H1
           clear H1
           obtain ⟨y586, hy586⟩ : ∃ y_ : List (S71), y_ = (([] : List (S71))) := ⟨_, rfl⟩
           replace H : (if y586.length + l0_7.length < 5864062014805 then ((some (y586 ++ l0_7 : List (S71))).bind fun y589 => ((remontoirref00_To.f (rd y579 x9_2) (rd y579 x9_2)).bind fun bt594 => (if y589.length < 5864062014805 then ((scale_Error.f a0_0 a0_1 a0_2 a0_3 a0_4 a0_5 l0_6 (y589 ++ [(⟨t573, (⟨bt594.1, bt594.2⟩ : S23)⟩ : S71)]) t573).bind fun bt599 => (if x9_2 < 2 then (if bt599.2.2 = 0 then ((remontoirref00_To.f (rd y579 x9_2) (rd y579 x9_2)).bind fun bt605 => (if (!(bt599.1 == bt605.1) || (!(bt599.2.1 == bt605.2))) = true then (remontoirlaw04_ScaleEnds.j2 k2 t573 y579 x9_2 true a0_0 a0_1 a0_2 a0_3 a0_4 a0_5 l0_6 l0_7) else (if x9_2 ≥ 2 then (remontoirlaw04_ScaleEnds.j2 k2 t573 y579 x9_2 (bt599.2.2 != 42) a0_0 a0_1 a0_2 a0_3 a0_4 a0_5 l0_6 l0_7) else (remontoirlaw04_ScaleEnds.j2 k2 t573 y579 x9_2 false a0_0 a0_1 a0_2 a0_3 a0_4 a0_5 l0_6 l0_7)))) else (remontoirlaw04_ScaleEnds.j2 k2 t573 y579 x9_2 true a0_0 a0_1 a0_2 a0_3 a0_4 a0_5 l0_6 l0_7)) else (if x9_2 ≥ 2 then (remontoirlaw04_ScaleEnds.j2 k2 t573 y579 x9_2 (bt599.2.2 != 42) a0_0 a0_1 a0_2 a0_3 a0_4 a0_5 l0_6 l0_7) else (remontoirlaw04_ScaleEnds.j2 k2 t573 y579 x9_2 false a0_0 a0_1 a0_2 a0_3 a0_4 a0_5 l0_6 l0_7)))) else (none)))) else (none)) = some r := by first | (rw [hy586]; with_reducible exact H) | (have H2_ := (Option.bind_some _ _).symm.trans H; rw [hy586]; with_reducible exact H2_) | (have H2_ := (Option.bind_some _ _).symm.trans H; with_reducible exact H2_) | with_reducible exact H | (rw [hy586]; exact H) | exact H
           have Ny586 := Aside0.mk hy586
           clear hy586
           by_cases c30 : y586.length + l0_7.length < 5864062014805
           ·
            rw [if_pos c30] at H
            have LMc30 := Aside0.mk c30
            clear c30
            obtain ⟨y589, hy589⟩ : ∃ y_ : List (S71), y_ = (y586 ++ l0_7) := ⟨_, rfl⟩
            replace H : ((remontoirref00_To.f (rd y579 x9_2) (rd y579 x9_2)).bind fun bt594 => (if y589.length < 5864062014805 then ((scale_Error.f a0_0 a0_1 a0_2 a0_3 a0_4 a0_5 l0_6 (y589 ++ [(⟨t573, (⟨bt594.1, bt594.2⟩ : S23)⟩ : S71)]) t573).bind fun bt599 => (if x9_2 < 2 then (if bt599.2.2 = 0 then ((remontoirref00_To.f (rd y579 x9_2) (rd y579 x9_2)).bind fun bt605 => (if (!(bt599.1 == bt605.1) || (!(bt599.2.1 == bt605.2))) = true then (remontoirlaw04_ScaleEnds.j2 k2 t573 y579 x9_2 true a0_0 a0_1 a0_2 a0_3 a0_4 a0_5 l0_6 l0_7) else (if x9_2 ≥ 2 then (remontoirlaw04_ScaleEnds.j2 k2 t573 y579 x9_2 (bt599.2.2 != 42) a0_0 a0_1 a0_2 a0_3 a0_4 a0_5 l0_6 l0_7) else (remontoirlaw04_ScaleEnds.j2 k2 t573 y579 x9_2 false a0_0 a0_1 a0_2 a0_3 a0_4 a0_5 l0_6 l0_7)))) else (remontoirlaw04_ScaleEnds.j2 k2 t573 y579 x9_2 true a0_0 a0_1 a0_2 a0_3 a0_4 a0_5 l0_6 l0_7)) else (if x9_2 ≥ 2 then (remontoirlaw04_ScaleEnds.j2 k2 t573 y579 x9_2 (bt599.2.2 != 42) a0_0 a0_1 a0_2 a0_3 a0_4 a0_5 l0_6 l0_7) else (remontoirlaw04_ScaleEnds.j2 k2 t573 y579 x9_2 false a0_0 a0_1 a0_2 a0_3 a0_4 a0_5 l0_6 l0_7)))) else (none))) = some r := by first | (rw [hy589]; with_reducible exact H) | (have H2_ := (Option.bind_some _ _).symm.trans H; rw [hy589]; with_reducible exact H2_) | (have H2_ := (Option.bind_some _ _).symm.trans H; with_reducible exact H2_) | with_reducible exact H | (rw [hy589]; exact H) | exact H
            have Ny589 := Aside0.mk hy589
            clear hy589
            replace H := Option.bind_eq_some_iff.mp H
            obtain ⟨⟨t594, t595⟩, A310, H⟩ := H
            replace H : (if y589.length < 5864062014805 then ((scale_Error.f a0_0 a0_1 a0_2 a0_3 a0_4 a0_5 l0_6 (y589 ++ [(⟨t573, (⟨t594, t595⟩ : S23)⟩ : S71)]) t573).bind fun bt599 => (if x9_2 < 2 then (if bt599.2.2 = 0 then ((remontoirref00_To.f (rd y579 x9_2) (rd y579 x9_2)).bind fun bt605 => (if (!(bt599.1 == bt605.1) || (!(bt599.2.1 == bt605.2))) = true then (remontoirlaw04_ScaleEnds.j2 k2 t573 y579 x9_2 true a0_0 a0_1 a0_2 a0_3 a0_4 a0_5 l0_6 l0_7) else (if x9_2 ≥ 2 then (remontoirlaw04_ScaleEnds.j2 k2 t573 y579 x9_2 (bt599.2.2 != 42) a0_0 a0_1 a0_2 a0_3 a0_4 a0_5 l0_6 l0_7) else (remontoirlaw04_ScaleEnds.j2 k2 t573 y579 x9_2 false a0_0 a0_1 a0_2 a0_3 a0_4 a0_5 l0_6 l0_7)))) else (remontoirlaw04_ScaleEnds.j2 k2 t573 y579 x9_2 true a0_0 a0_1 a0_2 a0_3 a0_4 a0_5 l0_6 l0_7)) else (if x9_2 ≥ 2 then (remontoirlaw04_ScaleEnds.j2 k2 t573 y579 x9_2 (bt599.2.2 != 42) a0_0 a0_1 a0_2 a0_3 a0_4 a0_5 l0_6 l0_7) else (remontoirlaw04_ScaleEnds.j2 k2 t573 y579 x9_2 false a0_0 a0_1 a0_2 a0_3 a0_4 a0_5 l0_6 l0_7)))) else (none)) = some r := H
            have A31 := Aside0.mk A310
            clear A310
            by_cases c32 : y589.length < 5864062014805
            ·
             rw [if_pos c32] at H
             have LMc32 := Aside0.mk c32
             clear c32
             obtain ⟨y596, hy596⟩ : ∃ y_ : List (S71), y_ = (y589 ++ [(⟨t573, (⟨t594, t595⟩ : S23)⟩ : S71)]) := ⟨_, rfl⟩
             replace H : ((scale_Error.f a0_0 a0_1 a0_2 a0_3 a0_4 a0_5 l0_6 y596 t573).bind fun bt599 => (if x9_2 < 2 then (if bt599.2.2 = 0 then ((remontoirref00_To.f (rd y579 x9_2) (rd y579 x9_2)).bind fun bt605 => (if (!(bt599.1 == bt605.1) || (!(bt599.2.1 == bt605.2))) = true then (remontoirlaw04_ScaleEnds.j2 k2 t573 y579 x9_2 true a0_0 a0_1 a0_2 a0_3 a0_4 a0_5 l0_6 l0_7) else (if x9_2 ≥ 2 then (remontoirlaw04_ScaleEnds.j2 k2 t573 y579 x9_2 (bt599.2.2 != 42) a0_0 a0_1 a0_2 a0_3 a0_4 a0_5 l0_6 l0_7) else (remontoirlaw04_ScaleEnds.j2 k2 t573 y579 x9_2 false a0_0 a0_1 a0_2 a0_3 a0_4 a0_5 l0_6 l0_7)))) else (remontoirlaw04_ScaleEnds.j2 k2 t573 y579 x9_2 true a0_0 a0_1 a0_2 a0_3 a0_4 a0_5 l0_6 l0_7)) else (if x9_2 ≥ 2 then (remontoirlaw04_ScaleEnds.j2 k2 t573 y579 x9_2 (bt599.2.2 != 42) a0_0 a0_1 a0_2 a0_3 a0_4 a0_5 l0_6 l0_7) else (remontoirlaw04_ScaleEnds.j2 k2 t573 y579 x9_2 false a0_0 a0_1 a0_2 a0_3 a0_4 a0_5 l0_6 l0_7)))) = some r := by first | (rw [hy596]; with_reducible exact H) | (have H2_ := (Option.bind_some _ _).symm.trans H; rw [hy596]; with_reducible exact H2_) | (have H2_ := (Option.bind_some _ _).symm.trans H; with_reducible exact H2_) | with_reducible exact H | (rw [hy596]; exact H) | exact H
             have Ny596 := Aside0.mk hy596
             clear hy596
             replace H := Option.bind_eq_some_iff.mp H
             obtain ⟨⟨t599, t600, t601⟩, A330, H⟩ := H
             replace H : (if x9_2 < 2 then (if t601 = 0 then ((remontoirref00_To.f (rd y579 x9_2) (rd y579 x9_2)).bind fun bt605 => (if (!(t599 == bt605.1) || (!(t600 == bt605.2))) = true then (remontoirlaw04_ScaleEnds.j2 k2 t573 y579 x9_2 true a0_0 a0_1 a0_2 a0_3 a0_4 a0_5 l0_6 l0_7) else (if x9_2 ≥ 2 then (remontoirlaw04_ScaleEnds.j2 k2 t573 y579 x9_2 (t601 != 42) a0_0 a0_1 a0_2 a0_3 a0_4 a0_5 l0_6 l0_7) else (remontoirlaw04_ScaleEnds.j2 k2 t573 y579 x9_2 false a0_0 a0_1 a0_2 a0_3 a0_4 a0_5 l0_6 l0_7)))) else (remontoirlaw04_ScaleEnds.j2 k2 t573 y579 x9_2 true a0_0 a0_1 a0_2 a0_3 a0_4 a0_5 l0_6 l0_7)) else (if x9_2 ≥ 2 then (remontoirlaw04_ScaleEnds.j2 k2 t573 y579 x9_2 (t601 != 42) a0_0 a0_1 a0_2 a0_3 a0_4 a0_5 l0_6 l0_7) else (remontoirlaw04_ScaleEnds.j2 k2 t573 y579 x9_2 false a0_0 a0_1 a0_2 a0_3 a0_4 a0_5 l0_6 l0_7))) = some r := H
             have A33 := Aside0.mk A330
             clear A330
             have HC34 := Aside0.mk H
             clear H
             obtain ⟨Ao35, co35, eo35⟩ := Kd.R_slice HO_8.out
             subst eo35
             have p583 : 0 ≤ (x9_2 : Int) := of_decide_eq_true (by first | (with_reducible assumption) | assumption)
             have q583 : x9_2 < (y579.length : Int) := of_decide_eq_true (by first | (with_reducible assumption) | assumption)
             obtain ⟨ad583, e583, hx583_0⟩ := Kd.at_int (Kd.R_reads' HO_8.out).2.2 x9_2 p583 q583
             cases e583
             replace p583 := eq_true p583
             replace q583 := eq_true q583
             try go_wp2_with (first | ((with_reducible refine gate_callee (f := 42) rfl ?_); refine goesL_ (some 65) rfl rfl Tryd.func42 (by kernel_rfl) rfl #[.int .i64 (rd y579 x9_2), .int .i64 (-20000), .int .i64 20000] rfl (by (try simp only [List.map_toArray, List.map_cons, List.map_nil]); first | done | rfl | (simp only [List.length_drop, List.length_take]; rfl)) ?_; (with_reducible refine (remontoirref00_Lies.calls (rd y579 x9_2) (-20000) 20000 true _ A28.out).mono ?_); rintro e w' ⟨rfl, ⟨nd, rfl⟩⟩; refine ⟨_, rfl, ?_⟩; have hnb36 := NB570_577.out; have hnc36 := NB577_570.out; have hcz37_0 : wr.cell? ⟨gb570, 0, none⟩ = some (.int .i64 a0_0) := bc BK570 0; have hcz37_1 : wr.cell? ⟨gb570, 1, none⟩ = some (.int .i64 a0_1) := bc BK570 1; have hcz37_2 : wr.cell? ⟨gb570, 2, none⟩ = some (.int .i64 a0_2) := bc BK570 2; have hcz37_3 : wr.cell? ⟨gb570, 3, none⟩ = some (.int .i64 a0_3) := bc BK570 3; have hcz37_4 : wr.cell? ⟨gb570, 4, none⟩ = some (.int .i64 a0_4) := bc BK570 4; have hcz37_5 : wr.cell? ⟨gb570, 5, none⟩ = some (.int .i64 a0_5) := bc BK570 5; have hcz37_6 : wr.cell? ⟨gb570, 6, none⟩ = some (.slice A0_6 l0_6.length c0_6) := bc BK570 6; have hcz37_7 : wr.cell? ⟨gb570, 7, none⟩ = some (.slice A0_7 l0_7.length c0_7) := bc BK570 7; have hfz37_0 := blk_frozen BK570.out 0; have hfz37_1 := blk_frozen BK570.out 1; have hfz37_2 := blk_frozen BK570.out 2; have hfz37_3 := blk_frozen BK570.out 3; have hfz37_4 := blk_frozen BK570.out 4; have hfz37_5 := blk_frozen BK570.out 5; have hfz37_6 := blk_frozen BK570.out 6; have hfz37_7 := blk_frozen BK570.out 7) | ((with_reducible refine gate_dst (N := 10) rfl ?_); (try (refine gate_guard (by rfl) ?_; dsimp only)); refine box_event ?hg (N := 10) ?hd (cs := #[.int .i64 0, .int .i64 0, .int .i64 0, .int .i64 0, .int .i64 0, .int .i64 0, .slice none 0 0, .slice none 0 0]) (t := 44) ?hr ?_; (case hd => rfl); (case hg => rfl); (case hr => first | (go_simp; done) | (go_simp; rfl)); intro gb585 hg w38 hbox hb; replace HO_8 := Aside0.mk (Kd.R_below (rk HO_8) hb); have BK585 := Aside0.mk (hbox); have GW585 := geB hg (bl HB); have GE585 := geB hg (bl HB); replace HB := Aside0.mk (below_step (bl HB) hb); have NB570_585 := nlt hg (bk BK570); have NB585_570 := ngt hg (bk BK570); replace BK570 := Aside0.mk (blk_below (bk BK570) hb); have NB577_585 := nlt hg (bk BK577); have NB585_577 := ngt hg (bk BK577); replace BK577 := Aside0.mk (blk_below (bk BK577) hb); clear hb hbox hg; have hnb39 := NB585_570.out; have hnc39 := NB570_585.out; have hnb40 := NB585_577.out; have hnc40 := NB577_585.out; have hcz41_0 : w38.cell? ⟨gb585, 0, none⟩ = some (.int .i64 0) := bc BK585 0; have hcz41_1 : w38.cell? ⟨gb585, 1, none⟩ = some (.int .i64 0) := bc BK585 1; have hcz41_2 : w38.cell? ⟨gb585, 2, none⟩ = some (.int .i64 0) := bc BK585 2; have hcz41_3 : w38.cell? ⟨gb585, 3, none⟩ = some (.int .i64 0) := bc BK585 3; have hcz41_4 : w38.cell? ⟨gb585, 4, none⟩ = some (.int .i64 0) := bc BK585 4; have hcz41_5 : w38.cell? ⟨gb585, 5, none⟩ = some (.int .i64 0) := bc BK585 5; have hcz41_6 : w38.cell? ⟨gb585, 6, none⟩ = some (.slice none 0 0) := bc BK585 6; have hcz41_7 : w38.cell? ⟨gb585, 7, none⟩ = some (.slice none 0 0) := bc BK585 7; have hfz41_0 := blk_frozen BK585.out 0; have hfz41_1 := blk_frozen BK585.out 1; have hfz41_2 := blk_frozen BK585.out 2; have hfz41_3 := blk_frozen BK585.out 3; have hfz41_4 := blk_frozen BK585.out 4; have hfz41_5 := blk_frozen BK585.out 5; have hfz41_6 := blk_frozen BK585.out 6; have hfz41_7 := blk_frozen BK585.out 7))
             have n0_ : Aside0 (Kd.R (Kd.int .i64) 3 ((((((((w38.setCell ⟨gb585, 0, none⟩ (.int .i64 a0_0)).setCell ⟨gb585, 1, none⟩ (.int .i64 a0_1)).setCell ⟨gb585, 2, none⟩ (.int .i64 a0_2)).setCell ⟨gb585, 3, none⟩ (.int .i64 a0_3)).setCell ⟨gb585, 4, none⟩ (.int .i64 a0_4)).setCell ⟨gb585, 5, none⟩ (.int .i64 a0_5)).setCell ⟨gb585, 6, none⟩ (.slice A0_6 l0_6.length c0_6)).setCell ⟨gb585, 7, none⟩ (.slice A0_7 l0_7.length c0_7)) w.heap.size (fun _ => True) (.slice (some ad583) y579.length co35) y579) := ⟨by (with_reducible repeat (first | apply Kd.R_alloc | apply Kd.R_drewN | apply Kd.R_drew)); exact Kd.R_mono (Kd.R_far (p := ⟨gb585, 7, none⟩) (Kd.R_far (p := ⟨gb585, 6, none⟩) (Kd.R_far (p := ⟨gb585, 5, none⟩) (Kd.R_far (p := ⟨gb585, 4, none⟩) (Kd.R_far (p := ⟨gb585, 3, none⟩) (Kd.R_far (p := ⟨gb585, 2, none⟩) (Kd.R_far (p := ⟨gb585, 1, none⟩) (Kd.R_far (p := ⟨gb585, 0, none⟩) (Kd.R_types HO_8.out BK585.out (by decide)) (fun _ hk => hk.2) (.int .i64 a0_0)) (fun _ hk => hk.2) (.int .i64 a0_1)) (fun _ hk => hk.2) (.int .i64 a0_2)) (fun _ hk => hk.2) (.int .i64 a0_3)) (fun _ hk => hk.2) (.int .i64 a0_4)) (fun _ hk => hk.2) (.int .i64 a0_5)) (fun _ hk => hk.2) (.slice A0_6 l0_6.length c0_6)) (fun _ hk => hk.2) (.slice A0_7 l0_7.length c0_7)) (fun _ hk => trivial)⟩
             have n1_ : Aside0 (((((((((w38.setCell ⟨gb585, 0, none⟩ (.int .i64 a0_0)).setCell ⟨gb585, 1, none⟩ (.int .i64 a0_1)).setCell ⟨gb585, 2, none⟩ (.int .i64 a0_2)).setCell ⟨gb585, 3, none⟩ (.int .i64 a0_3)).setCell ⟨gb585, 4, none⟩ (.int .i64 a0_4)).setCell ⟨gb585, 5, none⟩ (.int .i64 a0_5)).setCell ⟨gb585, 6, none⟩ (.slice A0_6 l0_6.length c0_6)).setCell ⟨gb585, 7, none⟩ (.slice A0_7 l0_7.length c0_7)).heap[gb570]? = some (.cells #[.int .i64 a0_0, .int .i64 a0_1, .int .i64 a0_2, .int .i64 a0_3, .int .i64 a0_4, .int .i64 a0_5, .slice A0_6 l0_6.length c0_6, .slice A0_7 l0_7.length c0_7] 44 (0, 0))) := ⟨bk BK570⟩
             have n2_ : Aside0 (((((((((w38.setCell ⟨gb585, 0, none⟩ (.int .i64 a0_0)).setCell ⟨gb585, 1, none⟩ (.int .i64 a0_1)).setCell ⟨gb585, 2, none⟩ (.int .i64 a0_2)).setCell ⟨gb585, 3, none⟩ (.int .i64 a0_3)).setCell ⟨gb585, 4, none⟩ (.int .i64 a0_4)).setCell ⟨gb585, 5, none⟩ (.int .i64 a0_5)).setCell ⟨gb585, 6, none⟩ (.slice A0_6 l0_6.length c0_6)).setCell ⟨gb585, 7, none⟩ (.slice A0_7 l0_7.length c0_7)).heap[gb577]? = some (.cells #[.int .i64 t574, .int .i64 t575] 23 (0, 0))) := ⟨bk BK577⟩
             have n3_ : Aside0 (((((((((w38.setCell ⟨gb585, 0, none⟩ (.int .i64 a0_0)).setCell ⟨gb585, 1, none⟩ (.int .i64 a0_1)).setCell ⟨gb585, 2, none⟩ (.int .i64 a0_2)).setCell ⟨gb585, 3, none⟩ (.int .i64 a0_3)).setCell ⟨gb585, 4, none⟩ (.int .i64 a0_4)).setCell ⟨gb585, 5, none⟩ (.int .i64 a0_5)).setCell ⟨gb585, 6, none⟩ (.slice A0_6 l0_6.length c0_6)).setCell ⟨gb585, 7, none⟩ (.slice A0_7 l0_7.length c0_7)).heap[gb585]? = some (.cells #[.int .i64 a0_0, .int .i64 a0_1, .int .i64 a0_2, .int .i64 a0_3, .int .i64 a0_4, .int .i64 a0_5, .slice A0_6 l0_6.length c0_6, .slice A0_7 l0_7.length c0_7] 44 (0, 0))) := ⟨by (with_reducible repeat (first | refine blk_drewN ?_ _ | refine blk_drew ?_ | refine blk_alloc ?_ _)); refine blk_put (cs := #[.int .i64 a0_0, .int .i64 a0_1, .int .i64 a0_2, .int .i64 a0_3, .int .i64 a0_4, .int .i64 a0_5, .slice A0_6 l0_6.length c0_6, .slice none 0 0]) ?_ 7 _ rfl; (with_reducible repeat (first | refine blk_drewN ?_ _ | refine blk_drew ?_ | refine blk_alloc ?_ _)); refine blk_put (cs := #[.int .i64 a0_0, .int .i64 a0_1, .int .i64 a0_2, .int .i64 a0_3, .int .i64 a0_4, .int .i64 a0_5, .slice none 0 0, .slice none 0 0]) ?_ 6 _ rfl; (with_reducible repeat (first | refine blk_drewN ?_ _ | refine blk_drew ?_ | refine blk_alloc ?_ _)); refine blk_put (cs := #[.int .i64 a0_0, .int .i64 a0_1, .int .i64 a0_2, .int .i64 a0_3, .int .i64 a0_4, .int .i64 0, .slice none 0 0, .slice none 0 0]) ?_ 5 _ rfl; (with_reducible repeat (first | refine blk_drewN ?_ _ | refine blk_drew ?_ | refine blk_alloc ?_ _)); refine blk_put (cs := #[.int .i64 a0_0, .int .i64 a0_1, .int .i64 a0_2, .int .i64 a0_3, .int .i64 0, .int .i64 0, .slice none 0 0, .slice none 0 0]) ?_ 4 _ rfl; (with_reducible repeat (first | refine blk_drewN ?_ _ | refine blk_drew ?_ | refine blk_alloc ?_ _)); refine blk_put (cs := #[.int .i64 a0_0, .int .i64 a0_1, .int .i64 a0_2, .int .i64 0, .int .i64 0, .int .i64 0, .slice none 0 0, .slice none 0 0]) ?_ 3 _ rfl; (with_reducible repeat (first | refine blk_drewN ?_ _ | refine blk_drew ?_ | refine blk_alloc ?_ _)); refine blk_put (cs := #[.int .i64 a0_0, .int .i64 a0_1, .int .i64 0, .int .i64 0, .int .i64 0, .int .i64 0, .slice none 0 0, .slice none 0 0]) ?_ 2 _ rfl; (with_reducible repeat (first | refine blk_drewN ?_ _ | refine blk_drew ?_ | refine blk_alloc ?_ _)); refine blk_put (cs := #[.int .i64 a0_0, .int .i64 0, .int .i64 0, .int .i64 0, .int .i64 0, .int .i64 0, .slice none 0 0, .slice none 0 0]) ?_ 1 _ rfl; (with_reducible repeat (first | refine blk_drewN ?_ _ | refine blk_drew ?_ | refine blk_alloc ?_ _)); refine blk_put (cs := #[.int .i64 0, .int .i64 0, .int .i64 0, .int .i64 0, .int .i64 0, .int .i64 0, .slice none 0 0, .slice none 0 0]) ?_ 0 _ rfl; (with_reducible repeat (first | refine blk_drewN ?_ _ | refine blk_drew ?_ | refine blk_alloc ?_ _)); exact BK585.out⟩
             have n4_ : Aside0 (Below w.heap.size w ((((((((w38.setCell ⟨gb585, 0, none⟩ (.int .i64 a0_0)).setCell ⟨gb585, 1, none⟩ (.int .i64 a0_1)).setCell ⟨gb585, 2, none⟩ (.int .i64 a0_2)).setCell ⟨gb585, 3, none⟩ (.int .i64 a0_3)).setCell ⟨gb585, 4, none⟩ (.int .i64 a0_4)).setCell ⟨gb585, 5, none⟩ (.int .i64 a0_5)).setCell ⟨gb585, 6, none⟩ (.slice A0_6 l0_6.length c0_6)).setCell ⟨gb585, 7, none⟩ (.slice A0_7 l0_7.length c0_7))) := ⟨bl HB⟩
             (try clear HO_8)
             (try clear BK570)
             (try clear BK577)
             (try clear BK585)
             (try clear HB)
             generalize ((((((((w38.setCell ⟨gb585, 0, none⟩ (.int .i64 a0_0)).setCell ⟨gb585, 1, none⟩ (.int .i64 a0_1)).setCell ⟨gb585, 2, none⟩ (.int .i64 a0_2)).setCell ⟨gb585, 3, none⟩ (.int .i64 a0_3)).setCell ⟨gb585, 4, none⟩ (.int .i64 a0_4)).setCell ⟨gb585, 5, none⟩ (.int .i64 a0_5)).setCell ⟨gb585, 6, none⟩ (.slice A0_6 l0_6.length c0_6)).setCell ⟨gb585, 7, none⟩ (.slice A0_7 l0_7.length c0_7)) = w42 at n0_ n1_ n2_ n3_ n4_ ⊢
             have HO_8 := n0_
             have BK570 := n1_
             have BK577 := n2_
             have BK585 := n3_
             have HB := n4_
             clear n0_ n1_ n2_ n3_ n4_
             replace HO_8 := Aside0.mk (Kd.R_drew HO_8.out)
             replace BK570 := Aside0.mk (blk_drew BK570.out)
             replace BK577 := Aside0.mk (blk_drew BK577.out)
             replace BK585 := Aside0.mk (blk_drew BK585.out)
             replace HB := Aside0.mk (below_drew1 HB.out)
             have p592 : 0 ≤ (x9_2 : Int) := of_decide_eq_true (by first | (with_reducible assumption) | assumption)
             have q592 : x9_2 < (y579.length : Int) := of_decide_eq_true (by first | (with_reducible assumption) | assumption)
             obtain ⟨ad592, e592, hx592_0⟩ := Kd.at_int (Kd.R_reads' HO_8.out).2.2 x9_2 p592 q592
             obtain rfl : ad583 = ad592 := (by injection e592)
             replace p592 := eq_true p592
             replace q592 := eq_true q592
             have p593 : 0 ≤ (x9_2 : Int) := of_decide_eq_true (by first | (with_reducible assumption) | assumption)
             have q593 : x9_2 < (y579.length : Int) := of_decide_eq_true (by first | (with_reducible assumption) | assumption)
             obtain ⟨ad593, e593, hx593_0⟩ := Kd.at_int (Kd.R_reads' HO_8.out).2.2 x9_2 p593 q593
             obtain rfl : ad583 = ad593 := (by injection e593)
             replace p593 := eq_true p593
             replace q593 := eq_true q593
             refine start_ (n := 19) (S := fun w' => w'.cell? ⟨gb570, 0, none⟩ = some (.int .i64 a0_0) ∧ w'.cell? ⟨gb570, 1, none⟩ = some (.int .i64 a0_1) ∧ w'.cell? ⟨gb570, 2, none⟩ = some (.int .i64 a0_2) ∧ w'.cell? ⟨gb570, 3, none⟩ = some (.int .i64 a0_3) ∧ w'.cell? ⟨gb570, 4, none⟩ = some (.int .i64 a0_4) ∧ w'.cell? ⟨gb570, 5, none⟩ = some (.int .i64 a0_5) ∧ w'.cell? ⟨gb570, 6, none⟩ = some (.slice A0_6 l0_6.length c0_6) ∧ w'.cell? ⟨gb570, 7, none⟩ = some (.slice A0_7 l0_7.length c0_7) ∧ w'.cell? (ad583.add (x9_2).toNat) = some (.int .i64 (rd y579 x9_2)) ∧ w'.cell? (ad583.add (x9_2).toNat) = some (.int .i64 (rd y579 x9_2))) (ds := [15, 16, 18]) #[false, false, false, false, false, false, false, false, false, false, false, false, false, false, false, false, false, false, false] (by kernel_rfl) rfl rfl ⟨bc BK570 0, bc BK570 1, bc BK570 2, bc BK570 3, bc BK570 4, bc BK570 5, bc BK570 6, bc BK570 7, hx592_0, hx593_0⟩ (fun hHeld => ?_); refine with_tabW remontoirlaw04_ScaleEnds.tab15 remontoirlaw04_ScaleEnds.bits15 (fun HT_ HW_ => ?_)
             generalize w42.drew = w43 at HO_8 BK570 BK577 BK585 HB hx592_0 hx593_0 hHeld ⊢
             refine pureA 1 71 ?_
             refine pureA 4 74 ?_
             refine pureA 5 75 ?_
             refine pureA 6 76 ?_
             refine pureA 7 77 ?_
             refine pureA 9 79 ?_
             refine pureA 10 80 ?_
             refine pureA 11 81 ?_
             refine takeA 2 72 rfl rfl (by rintro w' ⟨s0, s1, s2, s3, s4, s5, s6, s7, s8, s9⟩; go_simp; with_reducible rfl) ?_
             refine takeA 8 78 rfl rfl (by rintro w' ⟨s0, s1, s2, s3, s4, s5, s6, s7, s8, s9⟩; go_simp; with_reducible rfl) ?_
             refine takeA 12 82 rfl rfl (by rintro w' ⟨s0, s1, s2, s3, s4, s5, s6, s7, s8, s9⟩; go_simp; with_reducible rfl) ?_
             refine oneA 0 (some 70) (fun K hK => ?_)
             refine Kd.R_lit_step k71 _ 71 ?hg (N := 70) ?hd (xs := ([] : List (S71))) (inner := []) (ok := fun _ => True) (okp := fun _ => True) ?hr ?hp (fun _ hk => hk) trivial (Below.refl _ _) (Nat.le_refl _) (by simp) ?_; (case hd => rfl); (case hg => rfl); (case hr => first | (go_simp; done) | (go_simp; rfl)); (case hp => exact (Reps.none _ _))
             intro v587 w44 ho45 hb hg_ hnew_
             have HS8_ := (hb.cell (World.block_lt_of_cell? _ _ (hHeld.2.2.2.2.2.2.2.2.1))).trans (hHeld.2.2.2.2.2.2.2.2.1)
             have HS9_ := (hb.cell (World.block_lt_of_cell? _ _ (hHeld.2.2.2.2.2.2.2.2.2))).trans (hHeld.2.2.2.2.2.2.2.2.2)
             clear hg_ hnew_
             (first | rw [← Ny586.out] at ho45 | (simp only [Int.reduceToNat] at ho45; rw [← Ny586.out] at ho45))
             replace HO_8 := Aside0.mk (Kd.R_below (rk HO_8) hb)
             have HO588 := Aside0.mk (Kd.R_lower ho45 (below_size (bl HB)))
             replace BK570 := Aside0.mk (blk_below (bk BK570) hb)
             replace BK577 := Aside0.mk (blk_below (bk BK577) hb)
             replace BK585 := Aside0.mk (blk_below (bk BK585) hb)
             replace HB := Aside0.mk (below_step (bl HB) hb)
             clear hb ho45
             refine hK.out _ _ ⟨bc BK570 0, bc BK570 1, bc BK570 2, bc BK570 3, bc BK570 4, bc BK570 5, bc BK570 6, bc BK570 7, HS8_, HS9_⟩ (fun hHeld => ?_)
             clear hK K
             refine normA 70 ?_
             refine oneA 3 (some 73) (fun K hK => ?_)
             refine Kd.R_append_rows_step k71 (w0 := w) w.heap.size (by rfl) (.tmp 70) (.tmp 72) 42 71 (.agg #[(.int .i64 0), (.int .i64 0), (.int .i64 0)]) 24 rfl Tryd.underlying42 info71 rfl (by decide) (by omega) v587 y586 l0_7 _ _ _ (fun _ => True) (fun _ => False) rfl rfl ?aO ?aR (fun _ _ h => h) (fun _ h => h.elim) ?aF ?aB ?aS ?aL ?_
             (case aR => repeat (first | exact (Kd.C_below HR0_7.out HB.out) | (with_reducible refine Kd.C_alloc ?_ _) | (with_reducible refine Kd.C_drewN ?_ _) | (with_reducible refine Kd.C_drew ?_)))
             (case aB => exact (bl HB))
             (case aF => exact (fun _ _ => trivial))
             (case aO => exact (rk HO588))
             (case aS => exact (below_size (bl HB)))
             (case aL => have := LMc30.out; omega)
             intro v590 w46 ho hb hg hat
             have HS8_ := cell_over (rk HO_8) (rk HO588) (by decide) hg (hHeld.2.2.2.2.2.2.2.2.1)
             have HS9_ := cell_over (rk HO_8) (rk HO588) (by decide) hg (hHeld.2.2.2.2.2.2.2.2.2)
             rw [← Ny589.out] at ho
             have n0_ := Aside0.mk (Kd.R_over' (rk HO_8) (Kd.R_typed (rk HO588)) (by decide) hg)
             have n1_ := Aside0.mk (blk_grown (bk BK570) hg (Kd.R_ne HO588.out BK570.out (by decide)))
             have n2_ := Aside0.mk (blk_grown (bk BK577) hg (Kd.R_ne HO588.out BK577.out (by decide)))
             have n3_ := Aside0.mk (blk_grown (bk BK585) hg (Kd.R_ne HO588.out BK585.out (by decide)))
             have n4_ := Aside0.mk (hb)
             have n5_ := Aside0.mk (ho)
             clear HO_8
             clear BK570
             clear BK577
             clear BK585
             clear HB
             clear HO588
             have HO_8 := n0_
             have BK570 := n1_
             have BK577 := n2_
             have BK585 := n3_
             have HB := n4_
             have HO591 := n5_
             clear n0_ n1_ n2_ n3_ n4_ n5_
             clear ho hb hg hat
             refine hK.out _ _ ⟨bc BK570 0, bc BK570 1, bc BK570 2, bc BK570 3, bc BK570 4, bc BK570 5, bc BK570 6, bc BK570 7, HS8_, HS9_⟩ (fun hHeld => ?_)
             clear hK K
             refine normA 73 ?_
             refine oneA 13 (some 83) (fun K hK => ?_)
             refine goes_ Tryd.func49 (by kernel_rfl) rfl #[.int .i64 (rd y579 x9_2), .int .i64 (rd y579 x9_2)] (by rfl) rfl rfl (by (try simp only [List.map_toArray, List.map_cons, List.map_nil]); first | done | rfl | (simp only [List.length_drop, List.length_take]; rfl)) ?_
             with_reducible refine (remontoirref00_To.calls (rd y579 x9_2) (rd y579 x9_2) t594 t595 _ A31.out).mono ?_
             rintro e w47 ⟨rfl, hb⟩
             have HS8_ := (hb.cell (World.block_lt_of_cell? _ _ (hHeld.2.2.2.2.2.2.2.2.1))).trans (hHeld.2.2.2.2.2.2.2.2.1)
             have HS9_ := (hb.cell (World.block_lt_of_cell? _ _ (hHeld.2.2.2.2.2.2.2.2.2))).trans (hHeld.2.2.2.2.2.2.2.2.2)
             refine ⟨_, rfl, ?_⟩
             replace HO_8 := Aside0.mk (Kd.R_below (rk HO_8) hb)
             replace HO591 := Aside0.mk (Kd.R_below (rk HO591) hb)
             replace BK570 := Aside0.mk (blk_below (bk BK570) hb)
             replace BK577 := Aside0.mk (blk_below (bk BK577) hb)
             replace BK585 := Aside0.mk (blk_below (bk BK585) hb)
             replace HB := Aside0.mk (below_step (bl HB) hb)
             (try clear hb)
             (try clear hb2)
             (try clear hk)
             (try clear hi)
             refine hK.out _ _ ⟨bc BK570 0, bc BK570 1, bc BK570 2, bc BK570 3, bc BK570 4, bc BK570 5, bc BK570 6, bc BK570 7, HS8_, HS9_⟩ (fun hHeld => ?_)
             clear hK K
             refine normA 83 ?_
             refine pureA 14 84 ?_
             refine last_ (i := 15) (N := some 85) #[true, true, true, true, true, true, true, true, true, true, true, true, true, true, true, true, false, false, false] rfl rfl (one_of HT_.out (by kernel_rfl)) (by decide) (fun K hK => ?_)
             refine value_ (w1 := ?_) (v := ?_) (by rfl) rfl ?_ ?_
             rotate_left 2
             ·
              go_simp
              constructor
              · rfl
              · rfl
             refine hK.out _ _ ?_
             clear hK K
             refine normA 85 ?_
             refine last_ (i := 16) (N := some 86) #[true, true, true, true, true, true, true, true, true, true, true, true, true, true, true, true, true, false, false] rfl rfl (one_of HT_.out (by kernel_rfl)) (by decide) (fun K hK => ?_)
             refine Kd.R_append_step k71 (w0 := w) w.heap.size (by rfl) (.tmp 73) (.tmp 85) 42 71 (.agg #[(.int .i64 0), (.int .i64 0), (.int .i64 0)]) 24 rfl Tryd.underlying42 info71 rfl (by decide) (by omega) v590 y589 (⟨t573, (⟨t594, t595⟩ : S23)⟩ : S71) [.int .i64 t573, .int .i64 t594, .int .i64 t595] (fun _ => True) (fun _ => False) rfl rfl ?aP (fun _ hk => hk.elim) ?aF ?aO ?aB ?aS ?aL ?_
             (case aP => exact k71_mkM _ _ _ (⟨t573, (⟨t594, t595⟩ : S23)⟩ : S71))
             (case aB => exact (bl HB))
             (case aF => exact (fun _ _ => trivial))
             (case aO => exact (rk HO591))
             (case aS => exact (below_size (bl HB)))
             (case aL => have := LMc32.out; omega)
             intro v597 w48 ho hb hg hat
             rw [← Ny596.out] at ho
             have n0_ := Aside0.mk (Kd.R_over' (rk HO_8) (Kd.R_typed (rk HO591)) (by decide) hg)
             have n1_ := Aside0.mk (blk_grown (bk BK570) hg (Kd.R_ne HO591.out BK570.out (by decide)))
             have n2_ := Aside0.mk (blk_grown (bk BK577) hg (Kd.R_ne HO591.out BK577.out (by decide)))
             have n3_ := Aside0.mk (blk_grown (bk BK585) hg (Kd.R_ne HO591.out BK585.out (by decide)))
             have n4_ := Aside0.mk (hb)
             have n5_ := Aside0.mk (ho)
             clear HO_8
             clear BK570
             clear BK577
             clear BK585
             clear HB
             clear HO591
             have HO_8 := n0_
             have BK570 := n1_
             have BK577 := n2_
             have BK585 := n3_
             have HB := n4_
             have HO598 := n5_
             clear n0_ n1_ n2_ n3_ n4_ n5_
             clear ho hb hg hat
             obtain ⟨Ao49, co49, eo49⟩ := Kd.R_slice HO598.out
             (first | subst eo49 | (injection eo49 with f1_ f2_ f3_; have f4_ := f1_.symm; have f5_ := f3_.symm; clear f1_ f2_ f3_; subst f4_; subst f5_))
             refine hK.out _ _ ?_
             clear hK K
             refine normA 86 ?_
             refine pureA 17 87 ?_
             refine lastA 18 none (fun K hK => ?_)
             have hs50 : w48.cell? ⟨gb585, 7, none⟩ = some (.slice A0_7 l0_7.length c0_7) := bc BK585 7
             have hfs50 := blk_frozen BK585.out 7
             have hns50_0 := NB570_585.out
             have hns50_1 := NB577_585.out
             have hms50_0 := NB585_570.out
             have hms50_1 := NB585_577.out
             refine skip_ (w1 := ?_) (by rfl) rfl ?_ ?_
             rotate_left
             ·
              go_simp
              rfl
             refine hK.out _ _ ?_
             clear hK K
             refine done_ (done_of HT_.out (by kernel_rfl)) ?_
             have hcz51_0 : w48.cell? ⟨gb585, 0, none⟩ = some (.int .i64 a0_0) := bc BK585 0
             have hcz51_1 : w48.cell? ⟨gb585, 1, none⟩ = some (.int .i64 a0_1) := bc BK585 1
             have hcz51_2 : w48.cell? ⟨gb585, 2, none⟩ = some (.int .i64 a0_2) := bc BK585 2
             have hcz51_3 : w48.cell? ⟨gb585, 3, none⟩ = some (.int .i64 a0_3) := bc BK585 3
             have hcz51_4 : w48.cell? ⟨gb585, 4, none⟩ = some (.int .i64 a0_4) := bc BK585 4
             have hcz51_5 : w48.cell? ⟨gb585, 5, none⟩ = some (.int .i64 a0_5) := bc BK585 5
             have hcz51_6 : w48.cell? ⟨gb585, 6, none⟩ = some (.slice A0_6 l0_6.length c0_6) := bc BK585 6
             have hcz51_7 : w48.cell? ⟨gb585, 7, none⟩ = some (.slice A0_7 l0_7.length c0_7) := bc BK585 7
             have hfz51_0 := blk_frozen BK585.out 0
             have hfz51_1 := blk_frozen BK585.out 1
             have hfz51_2 := blk_frozen BK585.out 2
             have hfz51_3 := blk_frozen BK585.out 3
             have hfz51_4 := blk_frozen BK585.out 4
             have hfz51_5 := blk_frozen BK585.out 5
             have hfz51_6 := blk_frozen BK585.out 6
             have hfz51_7 := blk_frozen BK585.out 7
             go_upto_region 17 with (first | ((with_reducible refine gate_callee (f := 27) rfl ?_); refine goesL_ (some 91) rfl rfl Tryd.func27 (by kernel_rfl) rfl #[.agg #[.int .i64 a0_0, .int .i64 a0_1, .int .i64 a0_2, .int .i64 a0_3, .int .i64 a0_4, .int .i64 a0_5, .slice A0_6 l0_6.length c0_6, .slice Ao49 y596.length co49], .int .i64 t573] rfl (by (try simp only [List.map_toArray, List.map_cons, List.map_nil]); first | done | rfl | (simp only [List.length_drop, List.length_take]; rfl)) ?_; (with_reducible refine (scale_Error.calls a0_0 a0_1 a0_2 a0_3 a0_4 a0_5 _ _ l0_6 _ _ y596 t573 t599 t600 t601 _ ?side1 ?side2 ?side3 ?side4 ?side5 A33.out).mono ?_); (case side1 => exact Kd.C_below HR0_6.out (bl HB)); (case side2 => exact HC0_6.out); (case side3 => refine (Kd.R_reads' (e := 71) (base := w.heap.size) (ok := fun k_ => True) (n := y596.length) (c := co49) ?_).2.2; exact (by (with_reducible repeat (first | apply Kd.R_alloc | apply Kd.R_drewN | apply Kd.R_drew)); exact (Kd.R_mono (Kd.R_far (p := ⟨gb585, 7, none⟩) (Kd.R_types HO598.out BK585.out (by decide)) (fun _ hk => hk.2) (.slice Ao49 y596.length co49)) (fun _ h_ => h_.1)))); (case side4 => exact (Kd.R_reads' HO598.out).2.1); (case side5 => exact Go.Proofs.YtidnopmjhhmedaaDoor.Ways.below HWays.out (bl HB)); rintro e w52 ⟨rfl, hb⟩; refine ⟨_, rfl, ?_⟩; replace HO_8 := Aside0.mk (Kd.R_below (by (with_reducible repeat (first | apply Kd.R_alloc | apply Kd.R_drewN | apply Kd.R_drew)); exact (Kd.R_mono (Kd.R_far (p := ⟨gb585, 7, none⟩) (Kd.R_types HO_8.out BK585.out (by decide)) (fun _ hk => hk.2) (.slice Ao49 y596.length co49)) (fun _ h_ => h_.1))) hb); replace HO598 := Aside0.mk (Kd.R_below (by (with_reducible repeat (first | apply Kd.R_alloc | apply Kd.R_drewN | apply Kd.R_drew)); exact (Kd.R_mono (Kd.R_far (p := ⟨gb585, 7, none⟩) (Kd.R_types HO598.out BK585.out (by decide)) (fun _ hk => hk.2) (.slice Ao49 y596.length co49)) (fun _ h_ => h_.1))) hb); replace BK570 := Aside0.mk (blk_below (bk BK570) hb); replace BK577 := Aside0.mk (blk_below (bk BK577) hb); replace BK585 := Aside0.mk (blk_below (g := gb585) (o := .cells #[.int .i64 a0_0, .int .i64 a0_1, .int .i64 a0_2, .int .i64 a0_3, .int .i64 a0_4, .int .i64 a0_5, .slice A0_6 l0_6.length c0_6, .slice Ao49 y596.length co49] 44 (0, 0)) (by (with_reducible repeat (first | refine blk_drewN ?_ _ | refine blk_drew ?_ | refine blk_alloc ?_ _)); refine blk_put (cs := #[.int .i64 a0_0, .int .i64 a0_1, .int .i64 a0_2, .int .i64 a0_3, .int .i64 a0_4, .int .i64 a0_5, .slice A0_6 l0_6.length c0_6, .slice A0_7 l0_7.length c0_7]) ?_ 7 _ rfl; (with_reducible repeat (first | refine blk_drewN ?_ _ | refine blk_drew ?_ | refine blk_alloc ?_ _)); exact BK585.out) hb); replace HB := Aside0.mk (below_step (bl HB) hb); (try clear hb); (try clear hb2); (try clear hk); (try clear hi)) | ((with_reducible refine gate_dst (N := 11) rfl ?_); (try (refine gate_guard (by rfl) ?_; dsimp only)); refine box_event ?hg (N := 11) ?hd (cs := #[.int .i64 0, .int .i64 0]) (t := 23) ?hr ?_; (case hd => rfl); (case hg => rfl); (case hr => first | (go_simp; done) | (go_simp; rfl)); intro gb602 hg w53 hbox hb; replace HO_8 := Aside0.mk (Kd.R_below (rk HO_8) hb); replace HO598 := Aside0.mk (Kd.R_below (rk HO598) hb); have BK602 := Aside0.mk (hbox); have GW602 := geB hg (bl HB); have GE602 := geB hg (bl HB); replace HB := Aside0.mk (below_step (bl HB) hb); have NB570_602 := nlt hg (bk BK570); have NB602_570 := ngt hg (bk BK570); replace BK570 := Aside0.mk (blk_below (bk BK570) hb); have NB577_602 := nlt hg (bk BK577); have NB602_577 := ngt hg (bk BK577); replace BK577 := Aside0.mk (blk_below (bk BK577) hb); have NB585_602 := nlt hg (bk BK585); have NB602_585 := ngt hg (bk BK585); replace BK585 := Aside0.mk (blk_below (bk BK585) hb); clear hb hbox hg; have hnb54 := NB602_570.out; have hnc54 := NB570_602.out; have hnb55 := NB602_577.out; have hnc55 := NB577_602.out; have hnb56 := NB602_585.out; have hnc56 := NB585_602.out; have hcz57_0 : w53.cell? ⟨gb602, 0, none⟩ = some (.int .i64 0) := bc BK602 0; have hcz57_1 : w53.cell? ⟨gb602, 1, none⟩ = some (.int .i64 0) := bc BK602 1; have hfz57_0 := blk_frozen BK602.out 0; have hfz57_1 := blk_frozen BK602.out 1))
             (try simp only [Act.put, List.setIfInBounds_toArray, List.set_cons_zero, List.set_cons_succ])
             go_cut [120] (fun v120 wc => ∃ (kq : Nat) (x120_33 : Bool), v120 = .bool x120_33 ∧ Aside0 (remontoirlaw04_ScaleEnds.j2 kq t573 y579 x9_2 x120_33 a0_0 a0_1 a0_2 a0_3 a0_4 a0_5 l0_6 l0_7 = some r) ∧ Aside0 (kq ≤ k2) ∧ Aside0 (Kd.R (Kd.int .i64) 3 wc w.heap.size (fun _ => True) (.slice (some ad583) y579.length co35) y579) ∧ Aside0 (Kd.R k71 71 wc w.heap.size (fun _ => True) (.slice Ao49 y596.length co49) y596) ∧ Aside0 (wc.heap[gb570]? = some (.cells #[.int .i64 a0_0, .int .i64 a0_1, .int .i64 a0_2, .int .i64 a0_3, .int .i64 a0_4, .int .i64 a0_5, (.slice A0_6 l0_6.length c0_6), (.slice A0_7 l0_7.length c0_7)] 44 (0, 0))) ∧ Aside0 (wc.heap[gb577]? = some (.cells #[.int .i64 t574, .int .i64 t575] 23 (0, 0))) ∧ Aside0 (wc.heap[gb585]? = some (.cells #[.int .i64 a0_0, .int .i64 a0_1, .int .i64 a0_2, .int .i64 a0_3, .int .i64 a0_4, .int .i64 a0_5, (.slice A0_6 l0_6.length c0_6), (.slice Ao49 y596.length co49)] 44 (0, 0))) ∧ Aside0 (wc.heap[gb602]? = some (.cells #[.int .i64 t599, .int .i64 t600] 23 (0, 0))) ∧ Aside0 (Below w.heap.size w wc))
             case first =>
              have H := HC34.out
              clear HC34
              by_cases c58 : x9_2 < 2
              ·
               rw [if_pos c58] at H
               have c58b0 : decide (x9_2 < 2) = true := decide_eq_true c58
               clear c58
               (first | rw [c58b0] | (simp only [i64_w, i32_w]; rw [c58b0]) | skip)
               by_cases c59 : t601 = 0
               ·
                rw [if_pos c59] at H
                have c59b0 : (t601 == 0) = true := beq_iff_eq.mpr c59
                have c59b1 : (t601 != 0) = false := bne_eq_false_iff_eq.mpr c59
                clear c59
                replace H := Option.bind_eq_some_iff.mp H
                obtain ⟨⟨t605, t606⟩, A600, H⟩ := H
                replace H : (if (!(t599 == t605) || (!(t600 == t606))) = true then (remontoirlaw04_ScaleEnds.j2 k2 t573 y579 x9_2 true a0_0 a0_1 a0_2 a0_3 a0_4 a0_5 l0_6 l0_7) else (if x9_2 ≥ 2 then (remontoirlaw04_ScaleEnds.j2 k2 t573 y579 x9_2 (t601 != 42) a0_0 a0_1 a0_2 a0_3 a0_4 a0_5 l0_6 l0_7) else (remontoirlaw04_ScaleEnds.j2 k2 t573 y579 x9_2 false a0_0 a0_1 a0_2 a0_3 a0_4 a0_5 l0_6 l0_7))) = some r := H
                have A60 := Aside0.mk A600
                clear A600
                by_cases c61 : (!(t599 == t605) || (!(t600 == t606))) = true
                ·
                 rw [if_pos c61] at H
                 have c61b0 : (!(t599 == t605) || (!(t600 == t606))) = true := c61
                 clear c61
                 have H' := Aside0.mk H
                 clear H
                 try go_wp2
                 have n0_ : Aside0 (Kd.R (Kd.int .i64) 3 ((w53.setCell ⟨gb602, 0, none⟩ (.int .i64 t599)).setCell ⟨gb602, 1, none⟩ (.int .i64 t600)) w.heap.size (fun _ => True) (.slice (some ad583) y579.length co35) y579) := ⟨by (with_reducible repeat (first | apply Kd.R_alloc | apply Kd.R_drewN | apply Kd.R_drew)); exact Kd.R_mono (Kd.R_far (p := ⟨gb602, 1, none⟩) (Kd.R_far (p := ⟨gb602, 0, none⟩) (Kd.R_types HO_8.out BK602.out (by decide)) (fun _ hk => hk.2) (.int .i64 t599)) (fun _ hk => hk.2) (.int .i64 t600)) (fun _ hk => trivial)⟩
                 have n1_ : Aside0 (Kd.R k71 71 ((w53.setCell ⟨gb602, 0, none⟩ (.int .i64 t599)).setCell ⟨gb602, 1, none⟩ (.int .i64 t600)) w.heap.size (fun _ => True) (.slice Ao49 y596.length co49) y596) := ⟨by (with_reducible repeat (first | apply Kd.R_alloc | apply Kd.R_drewN | apply Kd.R_drew)); exact Kd.R_mono (Kd.R_far (p := ⟨gb602, 1, none⟩) (Kd.R_far (p := ⟨gb602, 0, none⟩) (Kd.R_types HO598.out BK602.out (by decide)) (fun _ hk => hk.2) (.int .i64 t599)) (fun _ hk => hk.2) (.int .i64 t600)) (fun _ hk => trivial)⟩
                 have n2_ : Aside0 (((w53.setCell ⟨gb602, 0, none⟩ (.int .i64 t599)).setCell ⟨gb602, 1, none⟩ (.int .i64 t600)).heap[gb570]? = some (.cells #[.int .i64 a0_0, .int .i64 a0_1, .int .i64 a0_2, .int .i64 a0_3, .int .i64 a0_4, .int .i64 a0_5, .slice A0_6 l0_6.length c0_6, .slice A0_7 l0_7.length c0_7] 44 (0, 0))) := ⟨bk BK570⟩
                 have n3_ : Aside0 (((w53.setCell ⟨gb602, 0, none⟩ (.int .i64 t599)).setCell ⟨gb602, 1, none⟩ (.int .i64 t600)).heap[gb577]? = some (.cells #[.int .i64 t574, .int .i64 t575] 23 (0, 0))) := ⟨bk BK577⟩
                 have n4_ : Aside0 (((w53.setCell ⟨gb602, 0, none⟩ (.int .i64 t599)).setCell ⟨gb602, 1, none⟩ (.int .i64 t600)).heap[gb585]? = some (.cells #[.int .i64 a0_0, .int .i64 a0_1, .int .i64 a0_2, .int .i64 a0_3, .int .i64 a0_4, .int .i64 a0_5, .slice A0_6 l0_6.length c0_6, .slice Ao49 y596.length co49] 44 (0, 0))) := ⟨bk BK585⟩
                 have n5_ : Aside0 (((w53.setCell ⟨gb602, 0, none⟩ (.int .i64 t599)).setCell ⟨gb602, 1, none⟩ (.int .i64 t600)).heap[gb602]? = some (.cells #[.int .i64 t599, .int .i64 t600] 23 (0, 0))) := ⟨by (with_reducible repeat (first | refine blk_drewN ?_ _ | refine blk_drew ?_ | refine blk_alloc ?_ _)); refine blk_put (cs := #[.int .i64 t599, .int .i64 0]) ?_ 1 _ rfl; (with_reducible repeat (first | refine blk_drewN ?_ _ | refine blk_drew ?_ | refine blk_alloc ?_ _)); refine blk_put (cs := #[.int .i64 0, .int .i64 0]) ?_ 0 _ rfl; (with_reducible repeat (first | refine blk_drewN ?_ _ | refine blk_drew ?_ | refine blk_alloc ?_ _)); exact BK602.out⟩
                 have n6_ : Aside0 (Below w.heap.size w ((w53.setCell ⟨gb602, 0, none⟩ (.int .i64 t599)).setCell ⟨gb602, 1, none⟩ (.int .i64 t600))) := ⟨bl HB⟩
                 (try clear HO_8)
                 (try clear HO598)
                 (try clear BK570)
                 (try clear BK577)
                 (try clear BK585)
                 (try clear BK602)
                 (try clear HB)
                 generalize ((w53.setCell ⟨gb602, 0, none⟩ (.int .i64 t599)).setCell ⟨gb602, 1, none⟩ (.int .i64 t600)) = w62 at n0_ n1_ n2_ n3_ n4_ n5_ n6_ ⊢
                 have HO_8 := n0_
                 have HO598 := n1_
                 have BK570 := n2_
                 have BK577 := n3_
                 have BK585 := n4_
                 have BK602 := n5_
                 have HB := n6_
                 clear n0_ n1_ n2_ n3_ n4_ n5_ n6_
                 replace HO_8 := Aside0.mk (Kd.R_drew HO_8.out)
                 replace HO598 := Aside0.mk (Kd.R_drew HO598.out)
                 replace BK570 := Aside0.mk (blk_drew BK570.out)
                 replace BK577 := Aside0.mk (blk_drew BK577.out)
                 replace BK585 := Aside0.mk (blk_drew BK585.out)
                 replace BK602 := Aside0.mk (blk_drew BK602.out)
                 replace HB := Aside0.mk (below_drew1 HB.out)
                 have p603 : 0 ≤ (x9_2 : Int) := of_decide_eq_true (by first | (with_reducible assumption) | assumption)
                 have q603 : x9_2 < (y579.length : Int) := of_decide_eq_true (by first | (with_reducible assumption) | assumption)
                 obtain ⟨ad603, e603, hx603_0⟩ := Kd.at_int (Kd.R_reads' HO_8.out).2.2 x9_2 p603 q603
                 obtain rfl : ad583 = ad603 := (by injection e603)
                 replace p603 := eq_true p603
                 replace q603 := eq_true q603
                 have p604 : 0 ≤ (x9_2 : Int) := of_decide_eq_true (by first | (with_reducible assumption) | assumption)
                 have q604 : x9_2 < (y579.length : Int) := of_decide_eq_true (by first | (with_reducible assumption) | assumption)
                 obtain ⟨ad604, e604, hx604_0⟩ := Kd.at_int (Kd.R_reads' HO_8.out).2.2 x9_2 p604 q604
                 obtain rfl : ad583 = ad604 := (by injection e604)
                 replace p604 := eq_true p604
                 replace q604 := eq_true q604
                 refine start_ (n := 27) (S := fun w' => w'.cell? ⟨gb602, 0, none⟩ = some (.int .i64 t599) ∧ w'.cell? ⟨gb602, 1, none⟩ = some (.int .i64 t600) ∧ w'.cell? (ad583.add (x9_2).toNat) = some (.int .i64 (rd y579 x9_2)) ∧ w'.cell? (ad583.add (x9_2).toNat) = some (.int .i64 (rd y579 x9_2))) (ds := []) #[false, false, false, false, false, false, false, false, false, false, false, false, false, false, false, false, false, false, false, false, false, false, false, false, false, false, false] (by kernel_rfl) rfl rfl ⟨bc BK602 0, bc BK602 1, hx603_0, hx604_0⟩ (fun hHeld => ?_); refine with_tabW remontoirlaw04_ScaleEnds.tab17 remontoirlaw04_ScaleEnds.bits17 (fun HT_ HW_ => ?_)
                 generalize w62.drew = w63 at HO_8 HO598 BK570 BK577 BK585 BK602 HB hx603_0 hx604_0 hHeld ⊢
                 refine pureA 0 94 ?_
                 refine pureA 1 95 ?_
                 refine pureA 2 96 ?_
                 refine pureA 3 97 ?_
                 refine pureA 4 98 ?_
                 refine pureA 5 99 ?_
                 refine pureA 7 101 ?_
                 refine pureA 8 102 ?_
                 refine pureA 9 103 ?_
                 refine pureA 11 105 ?_
                 refine pureA 12 106 ?_
                 refine pureA 13 107 ?_
                 refine takeA 6 100 rfl rfl (by rintro w' ⟨s0, s1, s2, s3⟩; go_simp; with_reducible rfl) ?_
                 refine takeA 10 104 rfl rfl (by rintro w' ⟨s0, s1, s2, s3⟩; go_simp; with_reducible rfl) ?_
                 refine takeA 14 108 rfl rfl (by rintro w' ⟨s0, s1, s2, s3⟩; go_simp; with_reducible rfl) ?_
                 refine oneA 15 (some 109) (fun K hK => ?_)
                 refine goes_ Tryd.func49 (by kernel_rfl) rfl #[.int .i64 (rd y579 x9_2), .int .i64 (rd y579 x9_2)] (by rfl) rfl rfl (by (try simp only [List.map_toArray, List.map_cons, List.map_nil]); first | done | rfl | (simp only [List.length_drop, List.length_take]; rfl)) ?_
                 with_reducible refine (remontoirref00_To.calls (rd y579 x9_2) (rd y579 x9_2) t605 t606 _ A60.out).mono ?_
                 rintro e w64 ⟨rfl, hb⟩
                 have HS2_ := (hb.cell (World.block_lt_of_cell? _ _ (hHeld.2.2.1))).trans (hHeld.2.2.1)
                 have HS3_ := (hb.cell (World.block_lt_of_cell? _ _ (hHeld.2.2.2))).trans (hHeld.2.2.2)
                 refine ⟨_, rfl, ?_⟩
                 replace HO_8 := Aside0.mk (Kd.R_below (rk HO_8) hb)
                 replace HO598 := Aside0.mk (Kd.R_below (rk HO598) hb)
                 replace BK570 := Aside0.mk (blk_below (bk BK570) hb)
                 replace BK577 := Aside0.mk (blk_below (bk BK577) hb)
                 replace BK585 := Aside0.mk (blk_below (bk BK585) hb)
                 replace BK602 := Aside0.mk (blk_below (bk BK602) hb)
                 replace HB := Aside0.mk (below_step (bl HB) hb)
                 (try clear hb)
                 (try clear hb2)
                 (try clear hk)
                 (try clear hi)
                 refine hK.out _ _ ⟨bc BK602 0, bc BK602 1, HS2_, HS3_⟩ (fun hHeld => ?_)
                 clear hK K
                 refine normA 109 ?_
                 refine pureA 16 110 ?_
                 refine pureA 17 111 ?_
                 refine pureA 18 112 ?_
                 refine pureA 19 113 ?_
                 refine pureU 20 114 ?_
                 refine pureU 21 115 ?_
                 refine pureU 22 116 ?_
                 refine pureU 23 117 ?_
                 refine pureU 24 118 ?_
                 refine pureU 25 119 ?_
                 refine pureA 26 120 ?_
                 refine done_ (done_of HT_.out (by kernel_rfl)) ?_
                 try go_wp2
                 go_meet
                 case rel => exact ⟨_, (true), (by first | rfl | (simp; done) | (simp [*]; done)), H', ⟨by have := HJ2.out; have := HK2.out; first | omega | exact Nat.le_refl _⟩, ⟨by (with_reducible repeat (first | apply Kd.R_alloc | apply Kd.R_drewN | apply Kd.R_drew)); exact HO_8.out⟩, ⟨by (with_reducible repeat (first | apply Kd.R_alloc | apply Kd.R_drewN | apply Kd.R_drew)); exact HO598.out⟩, ⟨bk BK570⟩, ⟨bk BK577⟩, ⟨bk BK585⟩, ⟨bk BK602⟩, ⟨bl HB⟩⟩
                ·
                 rw [if_neg c61] at H
                 have c61b0 : (!(t599 == t605) || (!(t600 == t606))) = false := by simpa using c61
                 clear c61
                 by_cases c65 : x9_2 ≥ 2
                 ·
                  rw [if_pos c65] at H
                  have c65b0 : decide (2 ≤ x9_2) = true := decide_eq_true c65
                  clear c65
                  have H' := Aside0.mk H
                  clear H
                  try go_wp2
                  have n0_ : Aside0 (Kd.R (Kd.int .i64) 3 ((w53.setCell ⟨gb602, 0, none⟩ (.int .i64 t599)).setCell ⟨gb602, 1, none⟩ (.int .i64 t600)) w.heap.size (fun _ => True) (.slice (some ad583) y579.length co35) y579) := ⟨by (with_reducible repeat (first | apply Kd.R_alloc | apply Kd.R_drewN | apply Kd.R_drew)); exact Kd.R_mono (Kd.R_far (p := ⟨gb602, 1, none⟩) (Kd.R_far (p := ⟨gb602, 0, none⟩) (Kd.R_types HO_8.out BK602.out (by decide)) (fun _ hk => hk.2) (.int .i64 t599)) (fun _ hk => hk.2) (.int .i64 t600)) (fun _ hk => trivial)⟩
                  have n1_ : Aside0 (Kd.R k71 71 ((w53.setCell ⟨gb602, 0, none⟩ (.int .i64 t599)).setCell ⟨gb602, 1, none⟩ (.int .i64 t600)) w.heap.size (fun _ => True) (.slice Ao49 y596.length co49) y596) := ⟨by (with_reducible repeat (first | apply Kd.R_alloc | apply Kd.R_drewN | apply Kd.R_drew)); exact Kd.R_mono (Kd.R_far (p := ⟨gb602, 1, none⟩) (Kd.R_far (p := ⟨gb602, 0, none⟩) (Kd.R_types HO598.out BK602.out (by decide)) (fun _ hk => hk.2) (.int .i64 t599)) (fun _ hk => hk.2) (.int .i64 t600)) (fun _ hk => trivial)⟩
                  have n2_ : Aside0 (((w53.setCell ⟨gb602, 0, none⟩ (.int .i64 t599)).setCell ⟨gb602, 1, none⟩ (.int .i64 t600)).heap[gb570]? = some (.cells #[.int .i64 a0_0, .int .i64 a0_1, .int .i64 a0_2, .int .i64 a0_3, .int .i64 a0_4, .int .i64 a0_5, .slice A0_6 l0_6.length c0_6, .slice A0_7 l0_7.length c0_7] 44 (0, 0))) := ⟨bk BK570⟩
                  have n3_ : Aside0 (((w53.setCell ⟨gb602, 0, none⟩ (.int .i64 t599)).setCell ⟨gb602, 1, none⟩ (.int .i64 t600)).heap[gb577]? = some (.cells #[.int .i64 t574, .int .i64 t575] 23 (0, 0))) := ⟨bk BK577⟩
                  have n4_ : Aside0 (((w53.setCell ⟨gb602, 0, none⟩ (.int .i64 t599)).setCell ⟨gb602, 1, none⟩ (.int .i64 t600)).heap[gb585]? = some (.cells #[.int .i64 a0_0, .int .i64 a0_1, .int .i64 a0_2, .int .i64 a0_3, .int .i64 a0_4, .int .i64 a0_5, .slice A0_6 l0_6.length c0_6, .slice Ao49 y596.length co49] 44 (0, 0))) := ⟨bk BK585⟩
                  have n5_ : Aside0 (((w53.setCell ⟨gb602, 0, none⟩ (.int .i64 t599)).setCell ⟨gb602, 1, none⟩ (.int .i64 t600)).heap[gb602]? = some (.cells #[.int .i64 t599, .int .i64 t600] 23 (0, 0))) := ⟨by (with_reducible repeat (first | refine blk_drewN ?_ _ | refine blk_drew ?_ | refine blk_alloc ?_ _)); refine blk_put (cs := #[.int .i64 t599, .int .i64 0]) ?_ 1 _ rfl; (with_reducible repeat (first | refine blk_drewN ?_ _ | refine blk_drew ?_ | refine blk_alloc ?_ _)); refine blk_put (cs := #[.int .i64 0, .int .i64 0]) ?_ 0 _ rfl; (with_reducible repeat (first | refine blk_drewN ?_ _ | refine blk_drew ?_ | refine blk_alloc ?_ _)); exact BK602.out⟩
                  have n6_ : Aside0 (Below w.heap.size w ((w53.setCell ⟨gb602, 0, none⟩ (.int .i64 t599)).setCell ⟨gb602, 1, none⟩ (.int .i64 t600))) := ⟨bl HB⟩
                  (try clear HO_8)
                  (try clear HO598)
                  (try clear BK570)
                  (try clear BK577)
                  (try clear BK585)
                  (try clear BK602)
                  (try clear HB)
                  generalize ((w53.setCell ⟨gb602, 0, none⟩ (.int .i64 t599)).setCell ⟨gb602, 1, none⟩ (.int .i64 t600)) = w66 at n0_ n1_ n2_ n3_ n4_ n5_ n6_ ⊢
                  have HO_8 := n0_
                  have HO598 := n1_
                  have BK570 := n2_
                  have BK577 := n3_
                  have BK585 := n4_
                  have BK602 := n5_
                  have HB := n6_
                  clear n0_ n1_ n2_ n3_ n4_ n5_ n6_
                  replace HO_8 := Aside0.mk (Kd.R_drew HO_8.out)
                  replace HO598 := Aside0.mk (Kd.R_drew HO598.out)
                  replace BK570 := Aside0.mk (blk_drew BK570.out)
                  replace BK577 := Aside0.mk (blk_drew BK577.out)
                  replace BK585 := Aside0.mk (blk_drew BK585.out)
                  replace BK602 := Aside0.mk (blk_drew BK602.out)
                  replace HB := Aside0.mk (below_drew1 HB.out)
                  have p603 : 0 ≤ (x9_2 : Int) := of_decide_eq_true (by first | (with_reducible assumption) | assumption)
                  have q603 : x9_2 < (y579.length : Int) := of_decide_eq_true (by first | (with_reducible assumption) | assumption)
                  obtain ⟨ad603, e603, hx603_0⟩ := Kd.at_int (Kd.R_reads' HO_8.out).2.2 x9_2 p603 q603
                  obtain rfl : ad583 = ad603 := (by injection e603)
                  replace p603 := eq_true p603
                  replace q603 := eq_true q603
                  have p604 : 0 ≤ (x9_2 : Int) := of_decide_eq_true (by first | (with_reducible assumption) | assumption)
                  have q604 : x9_2 < (y579.length : Int) := of_decide_eq_true (by first | (with_reducible assumption) | assumption)
                  obtain ⟨ad604, e604, hx604_0⟩ := Kd.at_int (Kd.R_reads' HO_8.out).2.2 x9_2 p604 q604
                  obtain rfl : ad583 = ad604 := (by injection e604)
                  replace p604 := eq_true p604
                  replace q604 := eq_true q604
                  refine start_ (n := 27) (S := fun w' => w'.cell? ⟨gb602, 0, none⟩ = some (.int .i64 t599) ∧ w'.cell? ⟨gb602, 1, none⟩ = some (.int .i64 t600) ∧ w'.cell? (ad583.add (x9_2).toNat) = some (.int .i64 (rd y579 x9_2)) ∧ w'.cell? (ad583.add (x9_2).toNat) = some (.int .i64 (rd y579 x9_2))) (ds := []) #[false, false, false, false, false, false, false, false, false, false, false, false, false, false, false, false, false, false, false, false, false, false, false, false, false, false, false] (by kernel_rfl) rfl rfl ⟨bc BK602 0, bc BK602 1, hx603_0, hx604_0⟩ (fun hHeld => ?_); refine with_tabW remontoirlaw04_ScaleEnds.tab17 remontoirlaw04_ScaleEnds.bits17 (fun HT_ HW_ => ?_)
                  generalize w66.drew = w67 at HO_8 HO598 BK570 BK577 BK585 BK602 HB hx603_0 hx604_0 hHeld ⊢
                  refine pureA 0 94 ?_
                  refine pureA 1 95 ?_
                  refine pureA 2 96 ?_
                  refine pureA 3 97 ?_
                  refine pureA 4 98 ?_
                  refine pureA 5 99 ?_
                  refine pureA 7 101 ?_
                  refine pureA 8 102 ?_
                  refine pureA 9 103 ?_
                  refine pureA 11 105 ?_
                  refine pureA 12 106 ?_
                  refine pureA 13 107 ?_
                  refine takeA 6 100 rfl rfl (by rintro w' ⟨s0, s1, s2, s3⟩; go_simp; with_reducible rfl) ?_
                  refine takeA 10 104 rfl rfl (by rintro w' ⟨s0, s1, s2, s3⟩; go_simp; with_reducible rfl) ?_
                  refine takeA 14 108 rfl rfl (by rintro w' ⟨s0, s1, s2, s3⟩; go_simp; with_reducible rfl) ?_
                  refine oneA 15 (some 109) (fun K hK => ?_)
                  refine goes_ Tryd.func49 (by kernel_rfl) rfl #[.int .i64 (rd y579 x9_2), .int .i64 (rd y579 x9_2)] (by rfl) rfl rfl (by (try simp only [List.map_toArray, List.map_cons, List.map_nil]); first | done | rfl | (simp only [List.length_drop, List.length_take]; rfl)) ?_
                  with_reducible refine (remontoirref00_To.calls (rd y579 x9_2) (rd y579 x9_2) t605 t606 _ A60.out).mono ?_
                  rintro e w68 ⟨rfl, hb⟩
                  have HS2_ := (hb.cell (World.block_lt_of_cell? _ _ (hHeld.2.2.1))).trans (hHeld.2.2.1)
                  have HS3_ := (hb.cell (World.block_lt_of_cell? _ _ (hHeld.2.2.2))).trans (hHeld.2.2.2)
                  refine ⟨_, rfl, ?_⟩
                  replace HO_8 := Aside0.mk (Kd.R_below (rk HO_8) hb)
                  replace HO598 := Aside0.mk (Kd.R_below (rk HO598) hb)
                  replace BK570 := Aside0.mk (blk_below (bk BK570) hb)
                  replace BK577 := Aside0.mk (blk_below (bk BK577) hb)
                  replace BK585 := Aside0.mk (blk_below (bk BK585) hb)
                  replace BK602 := Aside0.mk (blk_below (bk BK602) hb)
                  replace HB := Aside0.mk (below_step (bl HB) hb)
                  (try clear hb)
                  (try clear hb2)
                  (try clear hk)
                  (try clear hi)
                  refine hK.out _ _ ⟨bc BK602 0, bc BK602 1, HS2_, HS3_⟩ (fun hHeld => ?_)
                  clear hK K
                  refine normA 109 ?_
                  refine pureA 16 110 ?_
                  refine pureA 17 111 ?_
                  refine pureA 18 112 ?_
                  refine pureA 19 113 ?_
                  refine pureA 20 114 ?_
                  refine pureA 21 115 ?_
                  refine pureA 22 116 ?_
                  refine pureA 23 117 ?_
                  refine pureA 24 118 ?_
                  refine pureA 25 119 ?_
                  refine pureA 26 120 ?_
                  refine done_ (done_of HT_.out (by kernel_rfl)) ?_
                  try go_wp2
                  go_meet
                  case rel => exact ⟨_, ((t601 != 42)), (by first | rfl | (simp; done) | (simp [*]; done)), H', ⟨by have := HJ2.out; have := HK2.out; first | omega | exact Nat.le_refl _⟩, ⟨by (with_reducible repeat (first | apply Kd.R_alloc | apply Kd.R_drewN | apply Kd.R_drew)); exact HO_8.out⟩, ⟨by (with_reducible repeat (first | apply Kd.R_alloc | apply Kd.R_drewN | apply Kd.R_drew)); exact HO598.out⟩, ⟨bk BK570⟩, ⟨bk BK577⟩, ⟨bk BK585⟩, ⟨bk BK602⟩, ⟨bl HB⟩⟩
                 ·
                  rw [if_neg c65] at H
                  have c65b0 : decide (2 ≤ x9_2) = false := decide_eq_false c65
                  clear c65
                  have H' := Aside0.mk H
                  clear H
                  try go_wp2
                  have n0_ : Aside0 (Kd.R (Kd.int .i64) 3 ((w53.setCell ⟨gb602, 0, none⟩ (.int .i64 t599)).setCell ⟨gb602, 1, none⟩ (.int .i64 t600)) w.heap.size (fun _ => True) (.slice (some ad583) y579.length co35) y579) := ⟨by (with_reducible repeat (first | apply Kd.R_alloc | apply Kd.R_drewN | apply Kd.R_drew)); exact Kd.R_mono (Kd.R_far (p := ⟨gb602, 1, none⟩) (Kd.R_far (p := ⟨gb602, 0, none⟩) (Kd.R_types HO_8.out BK602.out (by decide)) (fun _ hk => hk.2) (.int .i64 t599)) (fun _ hk => hk.2) (.int .i64 t600)) (fun _ hk => trivial)⟩
                  have n1_ : Aside0 (Kd.R k71 71 ((w53.setCell ⟨gb602, 0, none⟩ (.int .i64 t599)).setCell ⟨gb602, 1, none⟩ (.int .i64 t600)) w.heap.size (fun _ => True) (.slice Ao49 y596.length co49) y596) := ⟨by (with_reducible repeat (first | apply Kd.R_alloc | apply Kd.R_drewN | apply Kd.R_drew)); exact Kd.R_mono (Kd.R_far (p := ⟨gb602, 1, none⟩) (Kd.R_far (p := ⟨gb602, 0, none⟩) (Kd.R_types HO598.out BK602.out (by decide)) (fun _ hk => hk.2) (.int .i64 t599)) (fun _ hk => hk.2) (.int .i64 t600)) (fun _ hk => trivial)⟩
                  have n2_ : Aside0 (((w53.setCell ⟨gb602, 0, none⟩ (.int .i64 t599)).setCell ⟨gb602, 1, none⟩ (.int .i64 t600)).heap[gb570]? = some (.cells #[.int .i64 a0_0, .int .i64 a0_1, .int .i64 a0_2, .int .i64 a0_3, .int .i64 a0_4, .int .i64 a0_5, .slice A0_6 l0_6.length c0_6, .slice A0_7 l0_7.length c0_7] 44 (0, 0))) := ⟨bk BK570⟩
                  have n3_ : Aside0 (((w53.setCell ⟨gb602, 0, none⟩ (.int .i64 t599)).setCell ⟨gb602, 1, none⟩ (.int .i64 t600)).heap[gb577]? = some (.cells #[.int .i64 t574, .int .i64 t575] 23 (0, 0))) := ⟨bk BK577⟩
                  have n4_ : Aside0 (((w53.setCell ⟨gb602, 0, none⟩ (.int .i64 t599)).setCell ⟨gb602, 1, none⟩ (.int .i64 t600)).heap[gb585]? = some (.cells #[.int .i64 a0_0, .int .i64 a0_1, .int .i64 a0_2, .int .i64 a0_3, .int .i64 a0_4, .int .i64 a0_5, .slice A0_6 l0_6.length c0_6, .slice Ao49 y596.length co49] 44 (0, 0))) := ⟨bk BK585⟩
                  have n5_ : Aside0 (((w53.setCell ⟨gb602, 0, none⟩ (.int .i64 t599)).setCell ⟨gb602, 1, none⟩ (.int .i64 t600)).heap[gb602]? = some (.cells #[.int .i64 t599, .int .i64 t600] 23 (0, 0))) := ⟨by (with_reducible repeat (first | refine blk_drewN ?_ _ | refine blk_drew ?_ | refine blk_alloc ?_ _)); refine blk_put (cs := #[.int .i64 t599, .int .i64 0]) ?_ 1 _ rfl; (with_reducible repeat (first | refine blk_drewN ?_ _ | refine blk_drew ?_ | refine blk_alloc ?_ _)); refine blk_put (cs := #[.int .i64 0, .int .i64 0]) ?_ 0 _ rfl; (with_reducible repeat (first | refine blk_drewN ?_ _ | refine blk_drew ?_ | refine blk_alloc ?_ _)); exact BK602.out⟩
                  have n6_ : Aside0 (Below w.heap.size w ((w53.setCell ⟨gb602, 0, none⟩ (.int .i64 t599)).setCell ⟨gb602, 1, none⟩ (.int .i64 t600))) := ⟨bl HB⟩
                  (try clear HO_8)
                  (try clear HO598)
                  (try clear BK570)
                  (try clear BK577)
                  (try clear BK585)
                  (try clear BK602)
                  (try clear HB)
                  generalize ((w53.setCell ⟨gb602, 0, none⟩ (.int .i64 t599)).setCell ⟨gb602, 1, none⟩ (.int .i64 t600)) = w69 at n0_ n1_ n2_ n3_ n4_ n5_ n6_ ⊢
                  have HO_8 := n0_
                  have HO598 := n1_
                  have BK570 := n2_
                  have BK577 := n3_
                  have BK585 := n4_
                  have BK602 := n5_
                  have HB := n6_
                  clear n0_ n1_ n2_ n3_ n4_ n5_ n6_
                  replace HO_8 := Aside0.mk (Kd.R_drew HO_8.out)
                  replace HO598 := Aside0.mk (Kd.R_drew HO598.out)
                  replace BK570 := Aside0.mk (blk_drew BK570.out)
                  replace BK577 := Aside0.mk (blk_drew BK577.out)
                  replace BK585 := Aside0.mk (blk_drew BK585.out)
                  replace BK602 := Aside0.mk (blk_drew BK602.out)
                  replace HB := Aside0.mk (below_drew1 HB.out)
                  have p603 : 0 ≤ (x9_2 : Int) := of_decide_eq_true (by first | (with_reducible assumption) | assumption)
                  have q603 : x9_2 < (y579.length : Int) := of_decide_eq_true (by first | (with_reducible assumption) | assumption)
                  obtain ⟨ad603, e603, hx603_0⟩ := Kd.at_int (Kd.R_reads' HO_8.out).2.2 x9_2 p603 q603
                  obtain rfl : ad583 = ad603 := (by injection e603)
                  replace p603 := eq_true p603
                  replace q603 := eq_true q603
                  have p604 : 0 ≤ (x9_2 : Int) := of_decide_eq_true (by first | (with_reducible assumption) | assumption)
                  have q604 : x9_2 < (y579.length : Int) := of_decide_eq_true (by first | (with_reducible assumption) | assumption)
                  obtain ⟨ad604, e604, hx604_0⟩ := Kd.at_int (Kd.R_reads' HO_8.out).2.2 x9_2 p604 q604
                  obtain rfl : ad583 = ad604 := (by injection e604)
                  replace p604 := eq_true p604
                  replace q604 := eq_true q604
                  refine start_ (n := 27) (S := fun w' => w'.cell? ⟨gb602, 0, none⟩ = some (.int .i64 t599) ∧ w'.cell? ⟨gb602, 1, none⟩ = some (.int .i64 t600) ∧ w'.cell? (ad583.add (x9_2).toNat) = some (.int .i64 (rd y579 x9_2)) ∧ w'.cell? (ad583.add (x9_2).toNat) = some (.int .i64 (rd y579 x9_2))) (ds := []) #[false, false, false, false, false, false, false, false, false, false, false, false, false, false, false, false, false, false, false, false, false, false, false, false, false, false, false] (by kernel_rfl) rfl rfl ⟨bc BK602 0, bc BK602 1, hx603_0, hx604_0⟩ (fun hHeld => ?_); refine with_tabW remontoirlaw04_ScaleEnds.tab17 remontoirlaw04_ScaleEnds.bits17 (fun HT_ HW_ => ?_)
                  generalize w69.drew = w70 at HO_8 HO598 BK570 BK577 BK585 BK602 HB hx603_0 hx604_0 hHeld ⊢
                  refine pureA 0 94 ?_
                  refine pureA 1 95 ?_
                  refine pureA 2 96 ?_
                  refine pureA 3 97 ?_
                  refine pureA 4 98 ?_
                  refine pureA 5 99 ?_
                  refine pureA 7 101 ?_
                  refine pureA 8 102 ?_
                  refine pureA 9 103 ?_
                  refine pureA 11 105 ?_
                  refine pureA 12 106 ?_
                  refine pureA 13 107 ?_
                  refine takeA 6 100 rfl rfl (by rintro w' ⟨s0, s1, s2, s3⟩; go_simp; with_reducible rfl) ?_
                  refine takeA 10 104 rfl rfl (by rintro w' ⟨s0, s1, s2, s3⟩; go_simp; with_reducible rfl) ?_
                  refine takeA 14 108 rfl rfl (by rintro w' ⟨s0, s1, s2, s3⟩; go_simp; with_reducible rfl) ?_
                  refine oneA 15 (some 109) (fun K hK => ?_)
                  refine goes_ Tryd.func49 (by kernel_rfl) rfl #[.int .i64 (rd y579 x9_2), .int .i64 (rd y579 x9_2)] (by rfl) rfl rfl (by (try simp only [List.map_toArray, List.map_cons, List.map_nil]); first | done | rfl | (simp only [List.length_drop, List.length_take]; rfl)) ?_
                  with_reducible refine (remontoirref00_To.calls (rd y579 x9_2) (rd y579 x9_2) t605 t606 _ A60.out).mono ?_
                  rintro e w71 ⟨rfl, hb⟩
                  have HS2_ := (hb.cell (World.block_lt_of_cell? _ _ (hHeld.2.2.1))).trans (hHeld.2.2.1)
                  have HS3_ := (hb.cell (World.block_lt_of_cell? _ _ (hHeld.2.2.2))).trans (hHeld.2.2.2)
                  refine ⟨_, rfl, ?_⟩
                  replace HO_8 := Aside0.mk (Kd.R_below (rk HO_8) hb)
                  replace HO598 := Aside0.mk (Kd.R_below (rk HO598) hb)
                  replace BK570 := Aside0.mk (blk_below (bk BK570) hb)
                  replace BK577 := Aside0.mk (blk_below (bk BK577) hb)
                  replace BK585 := Aside0.mk (blk_below (bk BK585) hb)
                  replace BK602 := Aside0.mk (blk_below (bk BK602) hb)
                  replace HB := Aside0.mk (below_step (bl HB) hb)
                  (try clear hb)
                  (try clear hb2)
                  (try clear hk)
                  (try clear hi)
                  refine hK.out _ _ ⟨bc BK602 0, bc BK602 1, HS2_, HS3_⟩ (fun hHeld => ?_)
                  clear hK K
                  refine normA 109 ?_
                  refine pureA 16 110 ?_
                  refine pureA 17 111 ?_
                  refine pureA 18 112 ?_
                  refine pureA 19 113 ?_
                  refine pureA 20 114 ?_
                  refine pureA 21 115 ?_
                  refine pureA 22 116 ?_
                  refine pureU 23 117 ?_
                  refine pureU 24 118 ?_
                  refine pureA 25 119 ?_
                  refine pureA 26 120 ?_
                  refine done_ (done_of HT_.out (by kernel_rfl)) ?_
                  try go_wp2
                  go_meet
                  case rel => exact ⟨_, (false), (by first | rfl | (simp; done) | (simp [*]; done)), H', ⟨by have := HJ2.out; have := HK2.out; first | omega | exact Nat.le_refl _⟩, ⟨by (with_reducible repeat (first | apply Kd.R_alloc | apply Kd.R_drewN | apply Kd.R_drew)); exact HO_8.out⟩, ⟨by (with_reducible repeat (first | apply Kd.R_alloc | apply Kd.R_drewN | apply Kd.R_drew)); exact HO598.out⟩, ⟨bk BK570⟩, ⟨bk BK577⟩, ⟨bk BK585⟩, ⟨bk BK602⟩, ⟨bl HB⟩⟩
               ·
                rw [if_neg c59] at H
                have c59b0 : (t601 == 0) = false := beq_eq_false_iff_ne.mpr c59
                have c59b1 : (t601 != 0) = true := bne_iff_ne.mpr c59
                have H' := Aside0.mk H
                clear H
                try go_wp2
                have n0_ : Aside0 (Kd.R (Kd.int .i64) 3 ((w53.setCell ⟨gb602, 0, none⟩ (.int .i64 t599)).setCell ⟨gb602, 1, none⟩ (.int .i64 t600)) w.heap.size (fun _ => True) (.slice (some ad583) y579.length co35) y579) := ⟨by (with_reducible repeat (first | apply Kd.R_alloc | apply Kd.R_drewN | apply Kd.R_drew)); exact Kd.R_mono (Kd.R_far (p := ⟨gb602, 1, none⟩) (Kd.R_far (p := ⟨gb602, 0, none⟩) (Kd.R_types HO_8.out BK602.out (by decide)) (fun _ hk => hk.2) (.int .i64 t599)) (fun _ hk => hk.2) (.int .i64 t600)) (fun _ hk => trivial)⟩
                have n1_ : Aside0 (Kd.R k71 71 ((w53.setCell ⟨gb602, 0, none⟩ (.int .i64 t599)).setCell ⟨gb602, 1, none⟩ (.int .i64 t600)) w.heap.size (fun _ => True) (.slice Ao49 y596.length co49) y596) := ⟨by (with_reducible repeat (first | apply Kd.R_alloc | apply Kd.R_drewN | apply Kd.R_drew)); exact Kd.R_mono (Kd.R_far (p := ⟨gb602, 1, none⟩) (Kd.R_far (p := ⟨gb602, 0, none⟩) (Kd.R_types HO598.out BK602.out (by decide)) (fun _ hk => hk.2) (.int .i64 t599)) (fun _ hk => hk.2) (.int .i64 t600)) (fun _ hk => trivial)⟩
                have n2_ : Aside0 (((w53.setCell ⟨gb602, 0, none⟩ (.int .i64 t599)).setCell ⟨gb602, 1, none⟩ (.int .i64 t600)).heap[gb570]? = some (.cells #[.int .i64 a0_0, .int .i64 a0_1, .int .i64 a0_2, .int .i64 a0_3, .int .i64 a0_4, .int .i64 a0_5, .slice A0_6 l0_6.length c0_6, .slice A0_7 l0_7.length c0_7] 44 (0, 0))) := ⟨bk BK570⟩
                have n3_ : Aside0 (((w53.setCell ⟨gb602, 0, none⟩ (.int .i64 t599)).setCell ⟨gb602, 1, none⟩ (.int .i64 t600)).heap[gb577]? = some (.cells #[.int .i64 t574, .int .i64 t575] 23 (0, 0))) := ⟨bk BK577⟩
                have n4_ : Aside0 (((w53.setCell ⟨gb602, 0, none⟩ (.int .i64 t599)).setCell ⟨gb602, 1, none⟩ (.int .i64 t600)).heap[gb585]? = some (.cells #[.int .i64 a0_0, .int .i64 a0_1, .int .i64 a0_2, .int .i64 a0_3, .int .i64 a0_4, .int .i64 a0_5, .slice A0_6 l0_6.length c0_6, .slice Ao49 y596.length co49] 44 (0, 0))) := ⟨bk BK585⟩
                have n5_ : Aside0 (((w53.setCell ⟨gb602, 0, none⟩ (.int .i64 t599)).setCell ⟨gb602, 1, none⟩ (.int .i64 t600)).heap[gb602]? = some (.cells #[.int .i64 t599, .int .i64 t600] 23 (0, 0))) := ⟨by (with_reducible repeat (first | refine blk_drewN ?_ _ | refine blk_drew ?_ | refine blk_alloc ?_ _)); refine blk_put (cs := #[.int .i64 t599, .int .i64 0]) ?_ 1 _ rfl; (with_reducible repeat (first | refine blk_drewN ?_ _ | refine blk_drew ?_ | refine blk_alloc ?_ _)); refine blk_put (cs := #[.int .i64 0, .int .i64 0]) ?_ 0 _ rfl; (with_reducible repeat (first | refine blk_drewN ?_ _ | refine blk_drew ?_ | refine blk_alloc ?_ _)); exact BK602.out⟩
                have n6_ : Aside0 (Below w.heap.size w ((w53.setCell ⟨gb602, 0, none⟩ (.int .i64 t599)).setCell ⟨gb602, 1, none⟩ (.int .i64 t600))) := ⟨bl HB⟩
                (try clear HO_8)
                (try clear HO598)
                (try clear BK570)
                (try clear BK577)
                (try clear BK585)
                (try clear BK602)
                (try clear HB)
                generalize ((w53.setCell ⟨gb602, 0, none⟩ (.int .i64 t599)).setCell ⟨gb602, 1, none⟩ (.int .i64 t600)) = w72 at n0_ n1_ n2_ n3_ n4_ n5_ n6_ ⊢
                have HO_8 := n0_
                have HO598 := n1_
                have BK570 := n2_
                have BK577 := n3_
                have BK585 := n4_
                have BK602 := n5_
                have HB := n6_
                clear n0_ n1_ n2_ n3_ n4_ n5_ n6_
                replace HO_8 := Aside0.mk (Kd.R_drew HO_8.out)
                replace HO598 := Aside0.mk (Kd.R_drew HO598.out)
                replace BK570 := Aside0.mk (blk_drew BK570.out)
                replace BK577 := Aside0.mk (blk_drew BK577.out)
                replace BK585 := Aside0.mk (blk_drew BK585.out)
                replace BK602 := Aside0.mk (blk_drew BK602.out)
                replace HB := Aside0.mk (below_drew1 HB.out)
                refine start_ (n := 27) (S := fun w' => True) (ds := []) #[false, false, false, false, false, false, false, false, false, false, false, false, false, false, false, false, false, false, false, false, false, false, false, false, false, false, false] (by kernel_rfl) rfl rfl trivial (fun hHeld => ?_); refine with_tabW remontoirlaw04_ScaleEnds.tab17 remontoirlaw04_ScaleEnds.bits17 (fun HT_ HW_ => ?_)
                generalize w72.drew = w73 at HO_8 HO598 BK570 BK577 BK585 BK602 HB hHeld ⊢
                refine pureA 0 94 ?_
                refine pureA 1 95 ?_
                refine pureA 2 96 ?_
                refine pureA 3 97 ?_
                refine pureA 4 98 ?_
                refine pureA 5 99 ?_
                refine pureU 6 100 ?_
                refine pureU 7 101 ?_
                refine pureU 8 102 ?_
                refine pureU 9 103 ?_
                refine pureU 10 104 ?_
                refine pureU 11 105 ?_
                refine pureU 12 106 ?_
                refine pureU 13 107 ?_
                refine pureU 14 108 ?_
                refine pureU 15 109 ?_
                refine pureU 16 110 ?_
                refine pureA 17 111 ?_
                refine pureA 18 112 ?_
                refine pureA 19 113 ?_
                refine pureU 20 114 ?_
                refine pureU 21 115 ?_
                refine pureU 22 116 ?_
                refine pureU 23 117 ?_
                refine pureU 24 118 ?_
                refine pureU 25 119 ?_
                refine pureA 26 120 ?_
                refine done_ (done_of HT_.out (by kernel_rfl)) ?_
                try go_wp2
                go_meet
                case rel => exact ⟨_, (true), (by first | rfl | (simp; done) | (simp [*]; done)), H', ⟨by have := HJ2.out; have := HK2.out; first | omega | exact Nat.le_refl _⟩, ⟨by (with_reducible repeat (first | apply Kd.R_alloc | apply Kd.R_drewN | apply Kd.R_drew)); exact HO_8.out⟩, ⟨by (with_reducible repeat (first | apply Kd.R_alloc | apply Kd.R_drewN | apply Kd.R_drew)); exact HO598.out⟩, ⟨bk BK570⟩, ⟨bk BK577⟩, ⟨bk BK585⟩, ⟨bk BK602⟩, ⟨bl HB⟩⟩
              ·
               rw [if_neg c58] at H
               have c58b0 : decide (x9_2 < 2) = false := decide_eq_false c58
               clear c58
               (first | rw [c58b0] | (simp only [i64_w, i32_w]; rw [c58b0]) | skip)
               by_cases c74 : x9_2 ≥ 2
               ·
                rw [if_pos c74] at H
                have c74b0 : decide (2 ≤ x9_2) = true := decide_eq_true c74
                clear c74
                have H' := Aside0.mk H
                clear H
                try go_wp2
                have n0_ : Aside0 (Kd.R (Kd.int .i64) 3 ((w53.setCell ⟨gb602, 0, none⟩ (.int .i64 t599)).setCell ⟨gb602, 1, none⟩ (.int .i64 t600)) w.heap.size (fun _ => True) (.slice (some ad583) y579.length co35) y579) := ⟨by (with_reducible repeat (first | apply Kd.R_alloc | apply Kd.R_drewN | apply Kd.R_drew)); exact Kd.R_mono (Kd.R_far (p := ⟨gb602, 1, none⟩) (Kd.R_far (p := ⟨gb602, 0, none⟩) (Kd.R_types HO_8.out BK602.out (by decide)) (fun _ hk => hk.2) (.int .i64 t599)) (fun _ hk => hk.2) (.int .i64 t600)) (fun _ hk => trivial)⟩
                have n1_ : Aside0 (Kd.R k71 71 ((w53.setCell ⟨gb602, 0, none⟩ (.int .i64 t599)).setCell ⟨gb602, 1, none⟩ (.int .i64 t600)) w.heap.size (fun _ => True) (.slice Ao49 y596.length co49) y596) := ⟨by (with_reducible repeat (first | apply Kd.R_alloc | apply Kd.R_drewN | apply Kd.R_drew)); exact Kd.R_mono (Kd.R_far (p := ⟨gb602, 1, none⟩) (Kd.R_far (p := ⟨gb602, 0, none⟩) (Kd.R_types HO598.out BK602.out (by decide)) (fun _ hk => hk.2) (.int .i64 t599)) (fun _ hk => hk.2) (.int .i64 t600)) (fun _ hk => trivial)⟩
                have n2_ : Aside0 (((w53.setCell ⟨gb602, 0, none⟩ (.int .i64 t599)).setCell ⟨gb602, 1, none⟩ (.int .i64 t600)).heap[gb570]? = some (.cells #[.int .i64 a0_0, .int .i64 a0_1, .int .i64 a0_2, .int .i64 a0_3, .int .i64 a0_4, .int .i64 a0_5, .slice A0_6 l0_6.length c0_6, .slice A0_7 l0_7.length c0_7] 44 (0, 0))) := ⟨bk BK570⟩
                have n3_ : Aside0 (((w53.setCell ⟨gb602, 0, none⟩ (.int .i64 t599)).setCell ⟨gb602, 1, none⟩ (.int .i64 t600)).heap[gb577]? = some (.cells #[.int .i64 t574, .int .i64 t575] 23 (0, 0))) := ⟨bk BK577⟩
                have n4_ : Aside0 (((w53.setCell ⟨gb602, 0, none⟩ (.int .i64 t599)).setCell ⟨gb602, 1, none⟩ (.int .i64 t600)).heap[gb585]? = some (.cells #[.int .i64 a0_0, .int .i64 a0_1, .int .i64 a0_2, .int .i64 a0_3, .int .i64 a0_4, .int .i64 a0_5, .slice A0_6 l0_6.length c0_6, .slice Ao49 y596.length co49] 44 (0, 0))) := ⟨bk BK585⟩
                have n5_ : Aside0 (((w53.setCell ⟨gb602, 0, none⟩ (.int .i64 t599)).setCell ⟨gb602, 1, none⟩ (.int .i64 t600)).heap[gb602]? = some (.cells #[.int .i64 t599, .int .i64 t600] 23 (0, 0))) := ⟨by (with_reducible repeat (first | refine blk_drewN ?_ _ | refine blk_drew ?_ | refine blk_alloc ?_ _)); refine blk_put (cs := #[.int .i64 t599, .int .i64 0]) ?_ 1 _ rfl; (with_reducible repeat (first | refine blk_drewN ?_ _ | refine blk_drew ?_ | refine blk_alloc ?_ _)); refine blk_put (cs := #[.int .i64 0, .int .i64 0]) ?_ 0 _ rfl; (with_reducible repeat (first | refine blk_drewN ?_ _ | refine blk_drew ?_ | refine blk_alloc ?_ _)); exact BK602.out⟩
                have n6_ : Aside0 (Below w.heap.size w ((w53.setCell ⟨gb602, 0, none⟩ (.int .i64 t599)).setCell ⟨gb602, 1, none⟩ (.int .i64 t600))) := ⟨bl HB⟩
                (try clear HO_8)
                (try clear HO598)
                (try clear BK570)
                (try clear BK577)
                (try clear BK585)
                (try clear BK602)
                (try clear HB)
                generalize ((w53.setCell ⟨gb602, 0, none⟩ (.int .i64 t599)).setCell ⟨gb602, 1, none⟩ (.int .i64 t600)) = w75 at n0_ n1_ n2_ n3_ n4_ n5_ n6_ ⊢
                have HO_8 := n0_
                have HO598 := n1_
                have BK570 := n2_
                have BK577 := n3_
                have BK585 := n4_
                have BK602 := n5_
                have HB := n6_
                clear n0_ n1_ n2_ n3_ n4_ n5_ n6_
                replace HO_8 := Aside0.mk (Kd.R_drew HO_8.out)
                replace HO598 := Aside0.mk (Kd.R_drew HO598.out)
                replace BK570 := Aside0.mk (blk_drew BK570.out)
                replace BK577 := Aside0.mk (blk_drew BK577.out)
                replace BK585 := Aside0.mk (blk_drew BK585.out)
                replace BK602 := Aside0.mk (blk_drew BK602.out)
                replace HB := Aside0.mk (below_drew1 HB.out)
                refine start_ (n := 27) (S := fun w' => True) (ds := []) #[false, false, false, false, false, false, false, false, false, false, false, false, false, false, false, false, false, false, false, false, false, false, false, false, false, false, false] (by kernel_rfl) rfl rfl trivial (fun hHeld => ?_); refine with_tabW remontoirlaw04_ScaleEnds.tab17 remontoirlaw04_ScaleEnds.bits17 (fun HT_ HW_ => ?_)
                generalize w75.drew = w76 at HO_8 HO598 BK570 BK577 BK585 BK602 HB hHeld ⊢
                refine pureA 0 94 ?_
                refine pureA 1 95 ?_
                refine pureA 2 96 ?_
                refine pureU 3 97 ?_
                refine pureU 4 98 ?_
                refine pureU 5 99 ?_
                refine pureU 6 100 ?_
                refine pureU 7 101 ?_
                refine pureU 8 102 ?_
                refine pureU 9 103 ?_
                refine pureU 10 104 ?_
                refine pureU 11 105 ?_
                refine pureU 12 106 ?_
                refine pureU 13 107 ?_
                refine pureU 14 108 ?_
                refine pureU 15 109 ?_
                refine pureU 16 110 ?_
                refine pureU 17 111 ?_
                refine pureA 18 112 ?_
                refine pureA 19 113 ?_
                refine pureA 20 114 ?_
                refine pureA 21 115 ?_
                refine pureA 22 116 ?_
                refine pureA 23 117 ?_
                refine pureA 24 118 ?_
                refine pureA 25 119 ?_
                refine pureA 26 120 ?_
                refine done_ (done_of HT_.out (by kernel_rfl)) ?_
                try go_wp2
                go_meet
                case rel => exact ⟨_, ((t601 != 42)), (by first | rfl | (simp; done) | (simp [*]; done)), H', ⟨by have := HJ2.out; have := HK2.out; first | omega | exact Nat.le_refl _⟩, ⟨by (with_reducible repeat (first | apply Kd.R_alloc | apply Kd.R_drewN | apply Kd.R_drew)); exact HO_8.out⟩, ⟨by (with_reducible repeat (first | apply Kd.R_alloc | apply Kd.R_drewN | apply Kd.R_drew)); exact HO598.out⟩, ⟨bk BK570⟩, ⟨bk BK577⟩, ⟨bk BK585⟩, ⟨bk BK602⟩, ⟨bl HB⟩⟩
               ·
                rw [if_neg c74] at H
                have c74b0 : decide (2 ≤ x9_2) = false := decide_eq_false c74
                clear c74
                have H' := Aside0.mk H
                clear H
                try go_wp2
                have n0_ : Aside0 (Kd.R (Kd.int .i64) 3 ((w53.setCell ⟨gb602, 0, none⟩ (.int .i64 t599)).setCell ⟨gb602, 1, none⟩ (.int .i64 t600)) w.heap.size (fun _ => True) (.slice (some ad583) y579.length co35) y579) := ⟨by (with_reducible repeat (first | apply Kd.R_alloc | apply Kd.R_drewN | apply Kd.R_drew)); exact Kd.R_mono (Kd.R_far (p := ⟨gb602, 1, none⟩) (Kd.R_far (p := ⟨gb602, 0, none⟩) (Kd.R_types HO_8.out BK602.out (by decide)) (fun _ hk => hk.2) (.int .i64 t599)) (fun _ hk => hk.2) (.int .i64 t600)) (fun _ hk => trivial)⟩
                have n1_ : Aside0 (Kd.R k71 71 ((w53.setCell ⟨gb602, 0, none⟩ (.int .i64 t599)).setCell ⟨gb602, 1, none⟩ (.int .i64 t600)) w.heap.size (fun _ => True) (.slice Ao49 y596.length co49) y596) := ⟨by (with_reducible repeat (first | apply Kd.R_alloc | apply Kd.R_drewN | apply Kd.R_drew)); exact Kd.R_mono (Kd.R_far (p := ⟨gb602, 1, none⟩) (Kd.R_far (p := ⟨gb602, 0, none⟩) (Kd.R_types HO598.out BK602.out (by decide)) (fun _ hk => hk.2) (.int .i64 t599)) (fun _ hk => hk.2) (.int .i64 t600)) (fun _ hk => trivial)⟩
                have n2_ : Aside0 (((w53.setCell ⟨gb602, 0, none⟩ (.int .i64 t599)).setCell ⟨gb602, 1, none⟩ (.int .i64 t600)).heap[gb570]? = some (.cells #[.int .i64 a0_0, .int .i64 a0_1, .int .i64 a0_2, .int .i64 a0_3, .int .i64 a0_4, .int .i64 a0_5, .slice A0_6 l0_6.length c0_6, .slice A0_7 l0_7.length c0_7] 44 (0, 0))) := ⟨bk BK570⟩
                have n3_ : Aside0 (((w53.setCell ⟨gb602, 0, none⟩ (.int .i64 t599)).setCell ⟨gb602, 1, none⟩ (.int .i64 t600)).heap[gb577]? = some (.cells #[.int .i64 t574, .int .i64 t575] 23 (0, 0))) := ⟨bk BK577⟩
                have n4_ : Aside0 (((w53.setCell ⟨gb602, 0, none⟩ (.int .i64 t599)).setCell ⟨gb602, 1, none⟩ (.int .i64 t600)).heap[gb585]? = some (.cells #[.int .i64 a0_0, .int .i64 a0_1, .int .i64 a0_2, .int .i64 a0_3, .int .i64 a0_4, .int .i64 a0_5, .slice A0_6 l0_6.length c0_6, .slice Ao49 y596.length co49] 44 (0, 0))) := ⟨bk BK585⟩
                have n5_ : Aside0 (((w53.setCell ⟨gb602, 0, none⟩ (.int .i64 t599)).setCell ⟨gb602, 1, none⟩ (.int .i64 t600)).heap[gb602]? = some (.cells #[.int .i64 t599, .int .i64 t600] 23 (0, 0))) := ⟨by (with_reducible repeat (first | refine blk_drewN ?_ _ | refine blk_drew ?_ | refine blk_alloc ?_ _)); refine blk_put (cs := #[.int .i64 t599, .int .i64 0]) ?_ 1 _ rfl; (with_reducible repeat (first | refine blk_drewN ?_ _ | refine blk_drew ?_ | refine blk_alloc ?_ _)); refine blk_put (cs := #[.int .i64 0, .int .i64 0]) ?_ 0 _ rfl; (with_reducible repeat (first | refine blk_drewN ?_ _ | refine blk_drew ?_ | refine blk_alloc ?_ _)); exact BK602.out⟩
                have n6_ : Aside0 (Below w.heap.size w ((w53.setCell ⟨gb602, 0, none⟩ (.int .i64 t599)).setCell ⟨gb602, 1, none⟩ (.int .i64 t600))) := ⟨bl HB⟩
                (try clear HO_8)
                (try clear HO598)
                (try clear BK570)
                (try clear BK577)
                (try clear BK585)
                (try clear BK602)
                (try clear HB)
                generalize ((w53.setCell ⟨gb602, 0, none⟩ (.int .i64 t599)).setCell ⟨gb602, 1, none⟩ (.int .i64 t600)) = w77 at n0_ n1_ n2_ n3_ n4_ n5_ n6_ ⊢
                have HO_8 := n0_
                have HO598 := n1_
                have BK570 := n2_
                have BK577 := n3_
                have BK585 := n4_
                have BK602 := n5_
                have HB := n6_
                clear n0_ n1_ n2_ n3_ n4_ n5_ n6_
                replace HO_8 := Aside0.mk (Kd.R_drew HO_8.out)
                replace HO598 := Aside0.mk (Kd.R_drew HO598.out)
                replace BK570 := Aside0.mk (blk_drew BK570.out)
                replace BK577 := Aside0.mk (blk_drew BK577.out)
                replace BK585 := Aside0.mk (blk_drew BK585.out)
                replace BK602 := Aside0.mk (blk_drew BK602.out)
                replace HB := Aside0.mk (below_drew1 HB.out)
                refine start_ (n := 27) (S := fun w' => True) (ds := []) #[false, false, false, false, false, false, false, false, false, false, false, false, false, false, false, false, false, false, false, false, false, false, false, false, false, false, false] (by kernel_rfl) rfl rfl trivial (fun hHeld => ?_); refine with_tabW remontoirlaw04_ScaleEnds.tab17 remontoirlaw04_ScaleEnds.bits17 (fun HT_ HW_ => ?_)
                generalize w77.drew = w78 at HO_8 HO598 BK570 BK577 BK585 BK602 HB hHeld ⊢
                refine pureA 0 94 ?_
                refine pureA 1 95 ?_
                refine pureA 2 96 ?_
                refine pureU 3 97 ?_
                refine pureU 4 98 ?_
                refine pureU 5 99 ?_
                refine pureU 6 100 ?_
                refine pureU 7 101 ?_
                refine pureU 8 102 ?_
                refine pureU 9 103 ?_
                refine pureU 10 104 ?_
                refine pureU 11 105 ?_
                refine pureU 12 106 ?_
                refine pureU 13 107 ?_
                refine pureU 14 108 ?_
                refine pureU 15 109 ?_
                refine pureU 16 110 ?_
                refine pureU 17 111 ?_
                refine pureA 18 112 ?_
                refine pureA 19 113 ?_
                refine pureA 20 114 ?_
                refine pureA 21 115 ?_
                refine pureA 22 116 ?_
                refine pureU 23 117 ?_
                refine pureU 24 118 ?_
                refine pureA 25 119 ?_
                refine pureA 26 120 ?_
                refine done_ (done_of HT_.out (by kernel_rfl)) ?_
                try go_wp2
                go_meet
                case rel => exact ⟨_, (false), (by first | rfl | (simp; done) | (simp [*]; done)), H', ⟨by have := HJ2.out; have := HK2.out; first | omega | exact Nat.le_refl _⟩, ⟨by (with_reducible repeat (first | apply Kd.R_alloc | apply Kd.R_drewN | apply Kd.R_drew)); exact HO_8.out⟩, ⟨by (with_reducible repeat (first | apply Kd.R_alloc | apply Kd.R_drewN | apply Kd.R_drew)); exact HO598.out⟩, ⟨bk BK570⟩, ⟨bk BK577⟩, ⟨bk BK585⟩, ⟨bk BK602⟩, ⟨bl HB⟩⟩
             case rest =>
              clear HC34
              try clear p2; try clear c5; try clear c7; try clear c58; try clear c58b0; try clear c74; try clear c74b0
              try clear HO_8; try clear HO_586007; try clear BK570; try clear BK577; try clear BK585; try clear BK602; try clear HB
              obtain ⟨kq, x120_33, rfl, HA, HJ33, HO_8, HO_586007, BK570, BK577, BK585, BK602, HB⟩ := hcut
              cases kq with
              | zero => exact absurd HA.out (by simp [remontoirlaw04_ScaleEnds.j2])
              | succ kj33 =>
               have H := HA.out
               clear HA
               simp only [remontoirlaw04_ScaleEnds.j2] at H
               by_cases c79 : x120_33 = true
               ·
                subst c79
                have H1 : (some false) = some r := by rw [if_pos rfl] at H; exact H
                clear H
                have H := H1
                clear H1
                obtain rfl := Option.some.inj H
                go_wp2
                go_ret
                exact ⟨by first | rfl | (simp [errW_none, errW_some] <;> rfl) | (simp [*, errW_none, errW_some] <;> rfl), by repeat (first | (with_reducible first | exact HB.out | apply below_alloc | apply pw_below_drewN | apply below_drew1 | refine below_set ?_ GE570.out | refine below_set ?_ GE577.out | refine below_set ?_ GE585.out | refine below_set ?_ GE602.out) | exact HB.out)⟩
               ·
                replace c79 := Bool.eq_false_iff.mpr c79
                subst c79
                have H1 : (remontoirlaw04_ScaleEnds.l0 kj33 t573 y579 (wrap64 (x9_2 + 1)) a0_0 a0_1 a0_2 a0_3 a0_4 a0_5 l0_6 l0_7) = some r := by rw [if_neg (show ¬ (false = true) by decide)] at H; exact H
                clear H
                have H := H1
                clear H1
                have H' := Aside0.mk H
                clear H
                go_wp2
                go_roundg kj33
                case measure => have := HJ2.out; have := HK2.out; have := HJ33.out; omega
                case rel => exact ⟨(wrap64 (x9_2 + 1)), (by first | rfl | (simp; done) | (simp [*]; done)), H', ⟨by have := HJ2.out; have := HK2.out; have := HJ33.out; omega⟩, ⟨by (with_reducible repeat (first | apply Kd.R_alloc | apply Kd.R_drewN | apply Kd.R_drew)); exact HO_8.out⟩, ⟨bk BK570⟩, ⟨bk BK577⟩, ⟨bl HB⟩⟩
            ·
             rw [if_neg c32] at H
             exact absurd H (by simp)
           ·
            rw [if_neg c30] at H
            exact absurd H (by simp)
          ·
           replace c29 := Bool.eq_false_iff.mpr c29
           subst c29
           have H1 : (if x9_2 < 2 then (some false) else (remontoirlaw04_ScaleEnds.l0 k2 t573 y579 (wrap64 (x9_2 + 1)) a0_0 a0_1 a0_2 a0_3 a0_4 a0_5 l0_6 l0_7)) = some r := by rw [if_neg (show ¬ (false = true) by decide)] at H; exact H
           clear H
           have H := H1
           clear H1
           by_cases c80 : x9_2 < 2
           ·
            rw [if_pos c80] at H
            have c80b0 : decide (x9_2 < 2) = true := decide_eq_true c80
            clear c80
            obtain rfl := Option.some.inj H
            obtain ⟨Ao81, co81, eo81⟩ := Kd.R_slice HO_8.out
            subst eo81
            have p583 : 0 ≤ (x9_2 : Int) := of_decide_eq_true (by first | (with_reducible assumption) | assumption)
            have q583 : x9_2 < (y579.length : Int) := of_decide_eq_true (by first | (with_reducible assumption) | assumption)
            obtain ⟨ad583, e583, hx583_0⟩ := Kd.at_int (Kd.R_reads' HO_8.out).2.2 x9_2 p583 q583
            cases e583
            replace p583 := eq_true p583
            replace q583 := eq_true q583
            go_wp2_with (first | ((with_reducible refine gate_callee (f := 42) rfl ?_); refine goesL_ (some 65) rfl rfl Tryd.func42 (by kernel_rfl) rfl #[.int .i64 (rd y579 x9_2), .int .i64 (-20000), .int .i64 20000] rfl (by (try simp only [List.map_toArray, List.map_cons, List.map_nil]); first | done | rfl | (simp only [List.length_drop, List.length_take]; rfl)) ?_; (with_reducible refine (remontoirref00_Lies.calls (rd y579 x9_2) (-20000) 20000 false _ A28.out).mono ?_); rintro e w' ⟨rfl, ⟨nd, rfl⟩⟩; refine ⟨_, rfl, ?_⟩))
            go_ret
            exact ⟨by first | rfl | (simp [errW_none, errW_some] <;> rfl) | (simp [*, errW_none, errW_some] <;> rfl), by repeat (first | (with_reducible first | exact HB.out | apply below_alloc | apply pw_below_drewN | apply below_drew1 | refine below_set ?_ GE570.out | refine below_set ?_ GE577.out) | exact HB.out)⟩
           ·
            rw [if_neg c80] at H
            have c80b0 : decide (x9_2 < 2) = false := decide_eq_false c80
            clear c80
            have H' := Aside0.mk H
            clear H
            obtain ⟨Ao82, co82, eo82⟩ := Kd.R_slice HO_8.out
            subst eo82
            have p583 : 0 ≤ (x9_2 : Int) := of_decide_eq_true (by first | (with_reducible assumption) | assumption)
            have q583 : x9_2 < (y579.length : Int) := of_decide_eq_true (by first | (with_reducible assumption) | assumption)
            obtain ⟨ad583, e583, hx583_0⟩ := Kd.at_int (Kd.R_reads' HO_8.out).2.2 x9_2 p583 q583
            cases e583
            replace p583 := eq_true p583
            replace q583 := eq_true q583
            go_wp2_with (first | ((with_reducible refine gate_callee (f := 42) rfl ?_); refine goesL_ (some 65) rfl rfl Tryd.func42 (by kernel_rfl) rfl #[.int .i64 (rd y579 x9_2), .int .i64 (-20000), .int .i64 20000] rfl (by (try simp only [List.map_toArray, List.map_cons, List.map_nil]); first | done | rfl | (simp only [List.length_drop, List.length_take]; rfl)) ?_; (with_reducible refine (remontoirref00_Lies.calls (rd y579 x9_2) (-20000) 20000 false _ A28.out).mono ?_); rintro e w' ⟨rfl, ⟨nd, rfl⟩⟩; refine ⟨_, rfl, ?_⟩))
            go_roundg k2
            case measure => have := HJ2.out; have := HK2.out; omega
            case rel => exact ⟨(wrap64 (x9_2 + 1)), (by first | rfl | (simp; done) | (simp [*]; done)), H', ⟨by have := HJ2.out; have := HK2.out; omega⟩, ⟨by (with_reducible repeat (first | apply Kd.R_alloc | apply Kd.R_drewN | apply Kd.R_drew)); exact HO_8.out⟩, ⟨bk BK570⟩, ⟨bk BK577⟩, ⟨bl HB⟩⟩
         ·
          rw [if_neg c27] at H
          exact absurd H (by simp)
        ·
         rw [if_neg c26] at H
         exact absurd H (by simp)
       ·
        rw [if_neg c25] at H
        have c25b0 : decide (x9_2 < 4) = false := decide_eq_false c25
        clear c25
        replace H := Option.bind_eq_some_iff.mp H
        obtain ⟨t582, A830, H⟩ := H
        replace H : (some t582) = some r := H
        have A83 := Aside0.mk A830
        clear A830
        obtain rfl := Option.some.inj H
        go_wp2_with (first | ((with_reducible refine gate_callee (f := 21) rfl ?_); refine goesL_ (some 121) rfl rfl Tryd.func21 (by kernel_rfl) rfl #[] rfl (by (try simp only [List.map_toArray, List.map_cons, List.map_nil]); first | done | rfl | (simp only [List.length_drop, List.length_take]; rfl)) ?_; (with_reducible refine (remontoirlaw04_works.calls  t582 _ ?side1 A83.out).mono ?_); (case side1 => exact Go.Proofs.YtidnopmjhhmedaaDoor.Ways.below HWays.out (bl HB)); rintro e w84 ⟨rfl, hb⟩; refine ⟨_, rfl, ?_⟩; replace HO_8 := Aside0.mk (Kd.R_below (rk HO_8) hb); replace BK570 := Aside0.mk (blk_below (bk BK570) hb); replace BK577 := Aside0.mk (blk_below (bk BK577) hb); replace HB := Aside0.mk (below_step (bl HB) hb); (try clear hb); (try clear hb2); (try clear hk); (try clear hi)))
        go_ret
        exact ⟨by first | rfl | (simp [errW_none, errW_some] <;> rfl) | (simp [*, errW_none, errW_some] <;> rfl), by repeat (first | (with_reducible first | exact HB.out | apply below_alloc | apply pw_below_drewN | apply below_drew1 | refine below_set ?_ GE570.out | refine below_set ?_ GE577.out) | exact HB.out)⟩
    ·
     rw [if_neg c17] at H
     have c17b0 : (t576 == 0) = false := beq_eq_false_iff_ne.mpr c17
     have c17b1 : (t576 != 0) = true := bne_iff_ne.mpr c17
     by_cases c85 : t576 = 42
     ·
      rw [if_pos c85] at H
      have c85b0 : (t576 == 42) = true := beq_iff_eq.mpr c85
      have c85b1 : (t576 != 42) = false := bne_eq_false_iff_eq.mpr c85
      clear c85
      by_cases c86 : (t574 == 0 && (t575 == 0)) = true
      ·
       rw [if_pos c86] at H
       have c86b0 : (t574 == 0 && (t575 == 0)) = true := c86
       (try (have c86b1 : decide (t574 = 0 && (t575 == 0)) = true := by simpa using c86))
       (try (have c86b2 : (t574 == 0 && (t575 == 0)) = true := by simpa using c86))
       clear c86
       replace H := Option.bind_eq_some_iff.mp H
       obtain ⟨t578, A870, H⟩ := H
       replace H : (some t578) = some r := H
       have A87 := Aside0.mk A870
       clear A870
       obtain rfl := Option.some.inj H
       have hcz88_0 : wc.cell? ⟨gb570, 0, none⟩ = some (.int .i64 a0_0) := bc BK570 0
       have hcz88_1 : wc.cell? ⟨gb570, 1, none⟩ = some (.int .i64 a0_1) := bc BK570 1
       have hcz88_2 : wc.cell? ⟨gb570, 2, none⟩ = some (.int .i64 a0_2) := bc BK570 2
       have hcz88_3 : wc.cell? ⟨gb570, 3, none⟩ = some (.int .i64 a0_3) := bc BK570 3
       have hcz88_4 : wc.cell? ⟨gb570, 4, none⟩ = some (.int .i64 a0_4) := bc BK570 4
       have hcz88_5 : wc.cell? ⟨gb570, 5, none⟩ = some (.int .i64 a0_5) := bc BK570 5
       have hcz88_6 : wc.cell? ⟨gb570, 6, none⟩ = some (.slice A0_6 l0_6.length c0_6) := bc BK570 6
       have hcz88_7 : wc.cell? ⟨gb570, 7, none⟩ = some (.slice A0_7 l0_7.length c0_7) := bc BK570 7
       have hfz88_0 := blk_frozen BK570.out 0
       have hfz88_1 := blk_frozen BK570.out 1
       have hfz88_2 := blk_frozen BK570.out 2
       have hfz88_3 := blk_frozen BK570.out 3
       have hfz88_4 := blk_frozen BK570.out 4
       have hfz88_5 := blk_frozen BK570.out 5
       have hfz88_6 := blk_frozen BK570.out 6
       have hfz88_7 := blk_frozen BK570.out 7
       go_wp2_with (first | ((with_reducible refine gate_callee (f := 38) rfl ?_); refine goesL_ (some 27) rfl rfl Tryd.func38 (by kernel_rfl) rfl #[.int .i64 a1, .int .i64 (wrap64 (a0_5 + 1))] rfl (by (try simp only [List.map_toArray, List.map_cons, List.map_nil]); first | done | rfl | (simp only [List.length_drop, List.length_take]; rfl)) ?_; (with_reducible refine (remontoirref00_Rest.calls a1 (wrap64 (a0_5 + 1)) t573 _ A15.out).mono ?_); rintro e w' ⟨rfl, ⟨nd, rfl⟩⟩; refine ⟨_, rfl, ?_⟩) | ((with_reducible refine gate_callee (f := 27) rfl ?_); refine goesL_ (some 31) rfl rfl Tryd.func27 (by kernel_rfl) rfl #[.agg #[.int .i64 a0_0, .int .i64 a0_1, .int .i64 a0_2, .int .i64 a0_3, .int .i64 a0_4, .int .i64 a0_5, .slice A0_6 l0_6.length c0_6, .slice A0_7 l0_7.length c0_7], .int .i64 t573] rfl (by (try simp only [List.map_toArray, List.map_cons, List.map_nil]); first | done | rfl | (simp only [List.length_drop, List.length_take]; rfl)) ?_; (with_reducible refine (scale_Error.calls a0_0 a0_1 a0_2 a0_3 a0_4 a0_5 _ _ l0_6 _ _ l0_7 t573 t574 t575 t576 _ ?side1 ?side2 ?side3 ?side4 ?side5 A16.out).mono ?_); (case side1 => repeat (first | exact (Kd.C_below HR0_6.out HB.out) | (with_reducible refine Kd.C_alloc ?_ _) | (with_reducible refine Kd.C_drewN ?_ _) | (with_reducible refine Kd.C_drew ?_))); (case side2 => exact HC0_6.out); (case side3 => repeat (first | exact (Kd.C_below HR0_7.out HB.out) | (with_reducible refine Kd.C_alloc ?_ _) | (with_reducible refine Kd.C_drewN ?_ _) | (with_reducible refine Kd.C_drew ?_))); (case side4 => exact HC0_7.out); (case side5 => exact Go.Proofs.YtidnopmjhhmedaaDoor.Ways.below HWays.out (bl HB)); rintro e w89 ⟨rfl, hb⟩; refine ⟨_, rfl, ?_⟩; replace BK570 := Aside0.mk (blk_below (bk BK570) hb); replace HB := Aside0.mk (below_step (bl HB) hb); (try clear hb); (try clear hb2); (try clear hk); (try clear hi)) | ((with_reducible refine gate_dst (N := 6) rfl ?_); (try (refine gate_guard (by rfl) ?_; dsimp only)); refine box_event ?hg (N := 6) ?hd (cs := #[.int .i64 0, .int .i64 0]) (t := 23) ?hr ?_; (case hd => rfl); (case hg => rfl); (case hr => first | (go_simp; done) | (go_simp; rfl)); intro gb577 hg w90 hbox hb; have BK577 := Aside0.mk (hbox); have GW577 := geB hg (bl HB); have GE577 := geB hg (bl HB); replace HB := Aside0.mk (below_step (bl HB) hb); have NB570_577 := nlt hg (bk BK570); have NB577_570 := ngt hg (bk BK570); replace BK570 := Aside0.mk (blk_below (bk BK570) hb); clear hb hbox hg; have hnb91 := NB577_570.out; have hnc91 := NB570_577.out; have hcz92_0 : w90.cell? ⟨gb577, 0, none⟩ = some (.int .i64 0) := bc BK577 0; have hcz92_1 : w90.cell? ⟨gb577, 1, none⟩ = some (.int .i64 0) := bc BK577 1; have hfz92_0 := blk_frozen BK577.out 0; have hfz92_1 := blk_frozen BK577.out 1) | (go_at_call 21; (with_reducible refine (remontoirlaw04_works.calls  t578 _ ?side1 A87.out).mono ?_); (case side1 => exact Go.Proofs.YtidnopmjhhmedaaDoor.Ways.below HWays.out (bl HB)); rintro e w93 ⟨rfl, hb⟩; replace BK570 := Aside0.mk (blk_below (bk BK570) hb); replace BK577 := Aside0.mk (blk_below (g := gb577) (o := .cells #[.int .i64 t574, .int .i64 t575] 23 (0, 0)) (by (with_reducible repeat (first | refine blk_drewN ?_ _ | refine blk_drew ?_ | refine blk_alloc ?_ _)); refine blk_put (cs := #[.int .i64 t574, .int .i64 0]) ?_ 1 _ rfl; (with_reducible repeat (first | refine blk_drewN ?_ _ | refine blk_drew ?_ | refine blk_alloc ?_ _)); refine blk_put (cs := #[.int .i64 0, .int .i64 0]) ?_ 0 _ rfl; (with_reducible repeat (first | refine blk_drewN ?_ _ | refine blk_drew ?_ | refine blk_alloc ?_ _)); exact BK577.out) hb); replace HB := Aside0.mk (below_step (bl HB) hb); (try clear hb); (try clear hb2); (try clear hk); (try clear hi)))
       go_ret
       exact ⟨by first | rfl | (simp [errW_none, errW_some] <;> rfl) | (simp [*, errW_none, errW_some] <;> rfl), by repeat (first | (with_reducible first | exact HB.out | apply below_alloc | apply pw_below_drewN | apply below_drew1 | refine below_set ?_ GE570.out | refine below_set ?_ GE577.out) | exact HB.out)⟩
      ·
       rw [if_neg c86] at H
       have c86b0 : (t574 == 0 && (t575 == 0)) = false := by simpa using c86
       (try (have c86b1 : decide (t574 = 0 && (t575 == 0)) = false := by simpa using c86))
       (try (have c86b2 : (t574 == 0 && (t575 == 0)) = false := by simpa using c86))
       (try (have c86b3 : ¬ (t574 = 0 && (t575 == 0)) := by simpa using c86))
       clear c86
       obtain rfl := Option.some.inj H
       have hcz94_0 : wc.cell? ⟨gb570, 0, none⟩ = some (.int .i64 a0_0) := bc BK570 0
       have hcz94_1 : wc.cell? ⟨gb570, 1, none⟩ = some (.int .i64 a0_1) := bc BK570 1
       have hcz94_2 : wc.cell? ⟨gb570, 2, none⟩ = some (.int .i64 a0_2) := bc BK570 2
       have hcz94_3 : wc.cell? ⟨gb570, 3, none⟩ = some (.int .i64 a0_3) := bc BK570 3
       have hcz94_4 : wc.cell? ⟨gb570, 4, none⟩ = some (.int .i64 a0_4) := bc BK570 4
       have hcz94_5 : wc.cell? ⟨gb570, 5, none⟩ = some (.int .i64 a0_5) := bc BK570 5
       have hcz94_6 : wc.cell? ⟨gb570, 6, none⟩ = some (.slice A0_6 l0_6.length c0_6) := bc BK570 6
       have hcz94_7 : wc.cell? ⟨gb570, 7, none⟩ = some (.slice A0_7 l0_7.length c0_7) := bc BK570 7
       have hfz94_0 := blk_frozen BK570.out 0
       have hfz94_1 := blk_frozen BK570.out 1
       have hfz94_2 := blk_frozen BK570.out 2
       have hfz94_3 := blk_frozen BK570.out 3
       have hfz94_4 := blk_frozen BK570.out 4
       have hfz94_5 := blk_frozen BK570.out 5
       have hfz94_6 := blk_frozen BK570.out 6
       have hfz94_7 := blk_frozen BK570.out 7
       go_wp2_with (first | ((with_reducible refine gate_callee (f := 38) rfl ?_); refine goesL_ (some 27) rfl rfl Tryd.func38 (by kernel_rfl) rfl #[.int .i64 a1, .int .i64 (wrap64 (a0_5 + 1))] rfl (by (try simp only [List.map_toArray, List.map_cons, List.map_nil]); first | done | rfl | (simp only [List.length_drop, List.length_take]; rfl)) ?_; (with_reducible refine (remontoirref00_Rest.calls a1 (wrap64 (a0_5 + 1)) t573 _ A15.out).mono ?_); rintro e w' ⟨rfl, ⟨nd, rfl⟩⟩; refine ⟨_, rfl, ?_⟩) | ((with_reducible refine gate_callee (f := 27) rfl ?_); refine goesL_ (some 31) rfl rfl Tryd.func27 (by kernel_rfl) rfl #[.agg #[.int .i64 a0_0, .int .i64 a0_1, .int .i64 a0_2, .int .i64 a0_3, .int .i64 a0_4, .int .i64 a0_5, .slice A0_6 l0_6.length c0_6, .slice A0_7 l0_7.length c0_7], .int .i64 t573] rfl (by (try simp only [List.map_toArray, List.map_cons, List.map_nil]); first | done | rfl | (simp only [List.length_drop, List.length_take]; rfl)) ?_; (with_reducible refine (scale_Error.calls a0_0 a0_1 a0_2 a0_3 a0_4 a0_5 _ _ l0_6 _ _ l0_7 t573 t574 t575 t576 _ ?side1 ?side2 ?side3 ?side4 ?side5 A16.out).mono ?_); (case side1 => repeat (first | exact (Kd.C_below HR0_6.out HB.out) | (with_reducible refine Kd.C_alloc ?_ _) | (with_reducible refine Kd.C_drewN ?_ _) | (with_reducible refine Kd.C_drew ?_))); (case side2 => exact HC0_6.out); (case side3 => repeat (first | exact (Kd.C_below HR0_7.out HB.out) | (with_reducible refine Kd.C_alloc ?_ _) | (with_reducible refine Kd.C_drewN ?_ _) | (with_reducible refine Kd.C_drew ?_))); (case side4 => exact HC0_7.out); (case side5 => exact Go.Proofs.YtidnopmjhhmedaaDoor.Ways.below HWays.out (bl HB)); rintro e w95 ⟨rfl, hb⟩; refine ⟨_, rfl, ?_⟩; replace BK570 := Aside0.mk (blk_below (bk BK570) hb); replace HB := Aside0.mk (below_step (bl HB) hb); (try clear hb); (try clear hb2); (try clear hk); (try clear hi)) | ((with_reducible refine gate_dst (N := 6) rfl ?_); (try (refine gate_guard (by rfl) ?_; dsimp only)); refine box_event ?hg (N := 6) ?hd (cs := #[.int .i64 0, .int .i64 0]) (t := 23) ?hr ?_; (case hd => rfl); (case hg => rfl); (case hr => first | (go_simp; done) | (go_simp; rfl)); intro gb577 hg w96 hbox hb; have BK577 := Aside0.mk (hbox); have GW577 := geB hg (bl HB); have GE577 := geB hg (bl HB); replace HB := Aside0.mk (below_step (bl HB) hb); have NB570_577 := nlt hg (bk BK570); have NB577_570 := ngt hg (bk BK570); replace BK570 := Aside0.mk (blk_below (bk BK570) hb); clear hb hbox hg; have hnb97 := NB577_570.out; have hnc97 := NB570_577.out; have hcz98_0 : w96.cell? ⟨gb577, 0, none⟩ = some (.int .i64 0) := bc BK577 0; have hcz98_1 : w96.cell? ⟨gb577, 1, none⟩ = some (.int .i64 0) := bc BK577 1; have hfz98_0 := blk_frozen BK577.out 0; have hfz98_1 := blk_frozen BK577.out 1))
       go_ret
       exact ⟨by first | rfl | (simp [errW_none, errW_some] <;> rfl) | (simp [*, errW_none, errW_some] <;> rfl), by repeat (first | (with_reducible first | exact HB.out | apply below_alloc | apply pw_below_drewN | apply below_drew1 | refine below_set ?_ GE570.out | refine below_set ?_ GE577.out) | exact HB.out)⟩
     ·
      rw [if_neg c85] at H
      have c85b0 : (t576 == 42) = false := beq_eq_false_iff_ne.mpr c85
      have c85b1 : (t576 != 42) = true := bne_iff_ne.mpr c85
      obtain rfl := Option.some.inj H
      have hcz99_0 : wc.cell? ⟨gb570, 0, none⟩ = some (.int .i64 a0_0) := bc BK570 0
      have hcz99_1 : wc.cell? ⟨gb570, 1, none⟩ = some (.int .i64 a0_1) := bc BK570 1
      have hcz99_2 : wc.cell? ⟨gb570, 2, none⟩ = some (.int .i64 a0_2) := bc BK570 2
      have hcz99_3 : wc.cell? ⟨gb570, 3, none⟩ = some (.int .i64 a0_3) := bc BK570 3
      have hcz99_4 : wc.cell? ⟨gb570, 4, none⟩ = some (.int .i64 a0_4) := bc BK570 4
      have hcz99_5 : wc.cell? ⟨gb570, 5, none⟩ = some (.int .i64 a0_5) := bc BK570 5
      have hcz99_6 : wc.cell? ⟨gb570, 6, none⟩ = some (.slice A0_6 l0_6.length c0_6) := bc BK570 6
      have hcz99_7 : wc.cell? ⟨gb570, 7, none⟩ = some (.slice A0_7 l0_7.length c0_7) := bc BK570 7
      have hfz99_0 := blk_frozen BK570.out 0
      have hfz99_1 := blk_frozen BK570.out 1
      have hfz99_2 := blk_frozen BK570.out 2
      have hfz99_3 := blk_frozen BK570.out 3
      have hfz99_4 := blk_frozen BK570.out 4
      have hfz99_5 := blk_frozen BK570.out 5
      have hfz99_6 := blk_frozen BK570.out 6
      have hfz99_7 := blk_frozen BK570.out 7
      go_wp2_with (first | ((with_reducible refine gate_callee (f := 38) rfl ?_); refine goesL_ (some 27) rfl rfl Tryd.func38 (by kernel_rfl) rfl #[.int .i64 a1, .int .i64 (wrap64 (a0_5 + 1))] rfl (by (try simp only [List.map_toArray, List.map_cons, List.map_nil]); first | done | rfl | (simp only [List.length_drop, List.length_take]; rfl)) ?_; (with_reducible refine (remontoirref00_Rest.calls a1 (wrap64 (a0_5 + 1)) t573 _ A15.out).mono ?_); rintro e w' ⟨rfl, ⟨nd, rfl⟩⟩; refine ⟨_, rfl, ?_⟩) | ((with_reducible refine gate_callee (f := 27) rfl ?_); refine goesL_ (some 31) rfl rfl Tryd.func27 (by kernel_rfl) rfl #[.agg #[.int .i64 a0_0, .int .i64 a0_1, .int .i64 a0_2, .int .i64 a0_3, .int .i64 a0_4, .int .i64 a0_5, .slice A0_6 l0_6.length c0_6, .slice A0_7 l0_7.length c0_7], .int .i64 t573] rfl (by (try simp only [List.map_toArray, List.map_cons, List.map_nil]); first | done | rfl | (simp only [List.length_drop, List.length_take]; rfl)) ?_; (with_reducible refine (scale_Error.calls a0_0 a0_1 a0_2 a0_3 a0_4 a0_5 _ _ l0_6 _ _ l0_7 t573 t574 t575 t576 _ ?side1 ?side2 ?side3 ?side4 ?side5 A16.out).mono ?_); (case side1 => repeat (first | exact (Kd.C_below HR0_6.out HB.out) | (with_reducible refine Kd.C_alloc ?_ _) | (with_reducible refine Kd.C_drewN ?_ _) | (with_reducible refine Kd.C_drew ?_))); (case side2 => exact HC0_6.out); (case side3 => repeat (first | exact (Kd.C_below HR0_7.out HB.out) | (with_reducible refine Kd.C_alloc ?_ _) | (with_reducible refine Kd.C_drewN ?_ _) | (with_reducible refine Kd.C_drew ?_))); (case side4 => exact HC0_7.out); (case side5 => exact Go.Proofs.YtidnopmjhhmedaaDoor.Ways.below HWays.out (bl HB)); rintro e w100 ⟨rfl, hb⟩; refine ⟨_, rfl, ?_⟩; replace BK570 := Aside0.mk (blk_below (bk BK570) hb); replace HB := Aside0.mk (below_step (bl HB) hb); (try clear hb); (try clear hb2); (try clear hk); (try clear hi)) | ((with_reducible refine gate_dst (N := 6) rfl ?_); (try (refine gate_guard (by rfl) ?_; dsimp only)); refine box_event ?hg (N := 6) ?hd (cs := #[.int .i64 0, .int .i64 0]) (t := 23) ?hr ?_; (case hd => rfl); (case hg => rfl); (case hr => first | (go_simp; done) | (go_simp; rfl)); intro gb577 hg w101 hbox hb; have BK577 := Aside0.mk (hbox); have GW577 := geB hg (bl HB); have GE577 := geB hg (bl HB); replace HB := Aside0.mk (below_step (bl HB) hb); have NB570_577 := nlt hg (bk BK570); have NB577_570 := ngt hg (bk BK570); replace BK570 := Aside0.mk (blk_below (bk BK570) hb); clear hb hbox hg; have hnb102 := NB577_570.out; have hnc102 := NB570_577.out; have hcz103_0 : w101.cell? ⟨gb577, 0, none⟩ = some (.int .i64 0) := bc BK577 0; have hcz103_1 : w101.cell? ⟨gb577, 1, none⟩ = some (.int .i64 0) := bc BK577 1; have hfz103_0 := blk_frozen BK577.out 0; have hfz103_1 := blk_frozen BK577.out 1))
      go_ret
      exact ⟨by first | rfl | (simp [errW_none, errW_some] <;> rfl) | (simp [*, errW_none, errW_some] <;> rfl), by repeat (first | (with_reducible first | exact HB.out | apply below_alloc | apply pw_below_drewN | apply below_drew1 | refine below_set ?_ GE570.out | refine below_set ?_ GE577.out) | exact HB.out)⟩

end Go.Proofs.TrydX.X
end

section
/- Plain: a plan that is filled up to a level is a plan. -/
set_option linter.unusedSimpArgs false
set_option linter.unusedVariables false
namespace Go.Proofs.YtidnopmjhhmedaaDoor
open Go.RowKit

/-- Neighbours differ by at most so much; the first one from d. -/
def Steps (J : Int) : Int → List Int → Prop
  | _, [] => True
  | d, x :: l => -J ≤ x - d ∧ x - d ≤ J ∧ Steps J x l
theorem of_keeps {F S J : Int} (l : List Int) : ∀ d, keepsB F S J d l = true → (∀ x ∈ l, -S ≤ x ∧ x ≤ F) ∧ Steps J d l := by
  induction l with
  | nil => intro d _; exact ⟨fun x hx => (List.not_mem_nil hx).elim, trivial⟩
  | cons x l ih =>
    intro d h
    simp only [keepsB, Bool.and_eq_true, lies_iff] at h
    obtain ⟨h1, h2⟩ := ih x h.2
    refine ⟨fun y hy => ?_, h.1.2.1, h.1.2.2, h2⟩
    rcases List.mem_cons.1 hy with e | hy
    · subst e; exact h.1.1
    · exact h1 y hy
end Go.Proofs.YtidnopmjhhmedaaDoor
end

section
-- Written by wip/tools/pr.py (a program of this repo over the kit's print.py).
namespace Go.Proofs.TrydX.X
open Go.RowKit Go.Proofs.YtidnopmjhhmedaaDoorW.PrintWords Go.Proofs.YtidnopmjhhmedaaDoorW.PrintLast Go.Proofs.YtidnopmjhhmedaaDoorW.PrintMore
attribute [local go_sem] max2_int min2_int max_two min_two max_three min_three max_four min_four   -- for this text's walks alone
set_option linter.unusedVariables false
set_option linter.unusedSimpArgs false

end Go.Proofs.TrydX.X
end

section
-- Written by wip/tools/pr.py (a program of this repo over the kit's print.py).
namespace Go.Proofs.TrydX.X
open Go.RowKit Go.Proofs.YtidnopmjhhmedaaDoorW.PrintWords Go.Proofs.YtidnopmjhhmedaaDoorW.PrintLast Go.Proofs.YtidnopmjhhmedaaDoorW.PrintMore
attribute [local go_sem] max2_int min2_int max_two min_two max_three min_three max_four min_four   -- for this text's walks alone
set_option linter.unusedVariables false
set_option linter.unusedSimpArgs false

end Go.Proofs.TrydX.X
end

section
-- Written by wip/tools/pr.py (a program of this repo over the kit's print.py).
namespace Go.Proofs.TrydX.X
open Go.RowKit Go.Proofs.YtidnopmjhhmedaaDoorW.PrintWords Go.Proofs.YtidnopmjhhmedaaDoorW.PrintLast Go.Proofs.YtidnopmjhhmedaaDoorW.PrintMore
attribute [local go_sem] max2_int min2_int max_two min_two max_three min_three max_four min_four   -- for this text's walks alone
set_option linter.unusedVariables false
set_option linter.unusedSimpArgs false

end Go.Proofs.TrydX.X
end

section
-- Written by wip/tools/pr.py (a program of this repo over the kit's print.py).
namespace Go.Proofs.TrydX.X
open Go.RowKit Go.Proofs.YtidnopmjhhmedaaDoorW.PrintWords Go.Proofs.YtidnopmjhhmedaaDoorW.PrintLast Go.Proofs.YtidnopmjhhmedaaDoorW.PrintMore
attribute [local go_sem] max2_int min2_int max_two min_two max_three min_three max_four min_four   -- for this text's walks alone
set_option linter.unusedVariables false
set_option linter.unusedSimpArgs false

end Go.Proofs.TrydX.X
end

section
-- Written by wip/tools/pr.py (a program of this repo over the kit's print.py).
namespace Go.Proofs.TrydX.X
open Go.RowKit Go.Proofs.YtidnopmjhhmedaaDoorW.PrintWords Go.Proofs.YtidnopmjhhmedaaDoorW.PrintLast Go.Proofs.YtidnopmjhhmedaaDoorW.PrintMore
attribute [local go_sem] max2_int min2_int max_two min_two max_three min_three max_four min_four   -- for this text's walks alone
set_option linter.unusedVariables false
set_option linter.unusedSimpArgs false

end Go.Proofs.TrydX.X
end

section
-- Written by wip/tools/pr.py (a program of this repo over the kit's print.py).
namespace Go.Proofs.TrydX.X
open Go.RowKit Go.Proofs.YtidnopmjhhmedaaDoorW.PrintWords Go.Proofs.YtidnopmjhhmedaaDoorW.PrintLast Go.Proofs.YtidnopmjhhmedaaDoorW.PrintMore
attribute [local go_sem] max2_int min2_int max_two min_two max_three min_three max_four min_four   -- for this text's walks alone
set_option linter.unusedVariables false
set_option linter.unusedSimpArgs false

end Go.Proofs.TrydX.X
end

section
-- Written by wip/tools/pr.py (a program of this repo over the kit's print.py).
namespace Go.Proofs.TrydX.X
open Go.RowKit Go.Proofs.YtidnopmjhhmedaaDoorW.PrintWords Go.Proofs.YtidnopmjhhmedaaDoorW.PrintLast Go.Proofs.YtidnopmjhhmedaaDoorW.PrintMore
attribute [local go_sem] max2_int min2_int max_two min_two max_three min_three max_four min_four   -- for this text's walks alone
set_option linter.unusedVariables false
set_option linter.unusedSimpArgs false

end Go.Proofs.TrydX.X
end

section
-- Written by wip/tools/pr.py (a program of this repo over the kit's print.py).
namespace Go.Proofs.TrydX.X
open Go.RowKit Go.Proofs.YtidnopmjhhmedaaDoorW.PrintWords Go.Proofs.YtidnopmjhhmedaaDoorW.PrintLast Go.Proofs.YtidnopmjhhmedaaDoorW.PrintMore
attribute [local go_sem] max2_int min2_int max_two min_two max_three min_three max_four min_four   -- for this text's walks alone
set_option linter.unusedVariables false
set_option linter.unusedSimpArgs false

end Go.Proofs.TrydX.X
end

section
-- Written by wip/tools/pr.py (a program of this repo over the kit's print.py).
namespace Go.Proofs.TrydX.X
open Go.RowKit Go.Proofs.YtidnopmjhhmedaaDoorW.PrintWords Go.Proofs.YtidnopmjhhmedaaDoorW.PrintLast Go.Proofs.YtidnopmjhhmedaaDoorW.PrintMore
attribute [local go_sem] max2_int min2_int max_two min_two max_three min_three max_four min_four   -- for this text's walks alone
set_option linter.unusedVariables false
set_option linter.unusedSimpArgs false

end Go.Proofs.TrydX.X
end

section
-- Written by wip/tools/pr.py (a program of this repo over the kit's print.py).
namespace Go.Proofs.TrydX.X
open Go.RowKit Go.Proofs.YtidnopmjhhmedaaDoorW.PrintWords Go.Proofs.YtidnopmjhhmedaaDoorW.PrintLast Go.Proofs.YtidnopmjhhmedaaDoorW.PrintMore
attribute [local go_sem] max2_int min2_int max_two min_two max_three min_three max_four min_four   -- for this text's walks alone
set_option linter.unusedVariables false
set_option linter.unusedSimpArgs false

end Go.Proofs.TrydX.X
end

section
-- Written by wip/tools/pr.py (a program of this repo over the kit's print.py).
namespace Go.Proofs.TrydX.X
open Go.RowKit Go.Proofs.YtidnopmjhhmedaaDoorW.PrintWords Go.Proofs.YtidnopmjhhmedaaDoorW.PrintLast Go.Proofs.YtidnopmjhhmedaaDoorW.PrintMore
attribute [local go_sem] max2_int min2_int max_two min_two max_three min_three max_four min_four   -- for this text's walks alone
set_option linter.unusedVariables false
set_option linter.unusedSimpArgs false

end Go.Proofs.TrydX.X
end

section
-- Written by wip/tools/pr.py (a program of this repo over the kit's print.py).
namespace Go.Proofs.TrydX.X
open Go.RowKit Go.Proofs.YtidnopmjhhmedaaDoorW.PrintWords Go.Proofs.YtidnopmjhhmedaaDoorW.PrintLast Go.Proofs.YtidnopmjhhmedaaDoorW.PrintMore
attribute [local go_sem] max2_int min2_int max_two min_two max_three min_three max_four min_four   -- for this text's walks alone
set_option linter.unusedVariables false
set_option linter.unusedSimpArgs false

end Go.Proofs.TrydX.X
end

section
-- Written by wip/tools/pr.py (a program of this repo over the kit's print.py).
namespace Go.Proofs.TrydX.X
open Go.RowKit Go.Proofs.YtidnopmjhhmedaaDoorW.PrintWords Go.Proofs.YtidnopmjhhmedaaDoorW.PrintLast Go.Proofs.YtidnopmjhhmedaaDoorW.PrintMore
attribute [local go_sem] max2_int min2_int max_two min_two max_three min_three max_four min_four   -- for this text's walks alone
set_option linter.unusedVariables false
set_option linter.unusedSimpArgs false

end Go.Proofs.TrydX.X
end

section
/- Plain: what the reference's functions of chapter 04 tell, in the hand's own words. -/
set_option linter.unusedSimpArgs false
set_option linter.unusedVariables false
namespace Go.Proofs.TrydX.X
open Go.RowKit Go.Proofs.YtidnopmjhhmedaaDoorW.PrintWords Go.Proofs.YtidnopmjhhmedaaDoorW.PrintLast
open Go.Proofs.YtidnopmjhhmedaaDoor

theorem wr {x : Int} (h : -9223372036854775808 ≤ x ∧ x ≤ 9223372036854775807) : wrap64 x = x := IntWalk.wrap64_in x h
theorem lies_f (n a b : Int) : remontoirref00_Lies.f n a b = some (lies n a b) := by
  unfold remontoirref00_Lies.f lies
  by_cases h : a ≤ n <;> simp [h]
theorem valid_f (a b l h : Int) : remontoirref00_Valid.f a b l h = some (decide (a ≤ b) && decide (l ≤ a) && decide (b ≤ h)) := by
  unfold remontoirref00_Valid.f
  by_cases h1 : a ≤ b <;> by_cases h2 : l ≤ a <;> simp [h1, h2]
end Go.Proofs.TrydX.X
end

section
-- Written by wip/tools/pr.py (a program of this repo over the kit's print.py).
namespace Go.Proofs.TrydX.X
open Go.RowKit Go.Proofs.YtidnopmjhhmedaaDoorW.PrintWords Go.Proofs.YtidnopmjhhmedaaDoorW.PrintLast Go.Proofs.YtidnopmjhhmedaaDoorW.PrintMore
attribute [local go_sem] max2_int min2_int max_two min_two max_three min_three max_four min_four   -- for this text's walks alone
set_option linter.unusedVariables false
set_option linter.unusedSimpArgs false

end Go.Proofs.TrydX.X
end

section
-- Written by wip/tools/pr.py (a program of this repo over the kit's print.py).
namespace Go.Proofs.TrydX.X
open Go.RowKit Go.Proofs.YtidnopmjhhmedaaDoorW.PrintWords Go.Proofs.YtidnopmjhhmedaaDoorW.PrintLast Go.Proofs.YtidnopmjhhmedaaDoorW.PrintMore
attribute [local go_sem] max2_int min2_int max_two min_two max_three min_three max_four min_four   -- for this text's walks alone
set_option linter.unusedVariables false
set_option linter.unusedSimpArgs false

end Go.Proofs.TrydX.X
end

section
-- Written by wip/tools/pr.py (a program of this repo over the kit's print.py).
namespace Go.Proofs.TrydX.X
open Go.RowKit Go.Proofs.YtidnopmjhhmedaaDoorW.PrintWords Go.Proofs.YtidnopmjhhmedaaDoorW.PrintLast Go.Proofs.YtidnopmjhhmedaaDoorW.PrintMore
attribute [local go_sem] max2_int min2_int max_two min_two max_three min_three max_four min_four   -- for this text's walks alone
set_option linter.unusedVariables false
set_option linter.unusedSimpArgs false

end Go.Proofs.TrydX.X
end

section
-- Written by wip/tools/pr.py (a program of this repo over the kit's print.py).
namespace Go.Proofs.TrydX.X
open Go.RowKit Go.Proofs.YtidnopmjhhmedaaDoorW.PrintWords Go.Proofs.YtidnopmjhhmedaaDoorW.PrintLast Go.Proofs.YtidnopmjhhmedaaDoorW.PrintMore
attribute [local go_sem] max2_int min2_int max_two min_two max_three min_three max_four min_four   -- for this text's walks alone
set_option linter.unusedVariables false
set_option linter.unusedSimpArgs false

end Go.Proofs.TrydX.X
end

section
-- Written by wip/tools/pr.py (a program of this repo over the kit's print.py).
namespace Go.Proofs.TrydX.X
open Go.RowKit Go.Proofs.YtidnopmjhhmedaaDoorW.PrintWords Go.Proofs.YtidnopmjhhmedaaDoorW.PrintLast Go.Proofs.YtidnopmjhhmedaaDoorW.PrintMore
attribute [local go_sem] max2_int min2_int max_two min_two max_three min_three max_four min_four   -- for this text's walks alone
set_option linter.unusedVariables false
set_option linter.unusedSimpArgs false

end Go.Proofs.TrydX.X
end

section
-- Written by wip/tools/pr.py (a program of this repo over the kit's print.py).
namespace Go.Proofs.TrydX.X
open Go.RowKit Go.Proofs.YtidnopmjhhmedaaDoorW.PrintWords Go.Proofs.YtidnopmjhhmedaaDoorW.PrintLast Go.Proofs.YtidnopmjhhmedaaDoorW.PrintMore
attribute [local go_sem] max2_int min2_int max_two min_two max_three min_three max_four min_four   -- for this text's walks alone
set_option linter.unusedVariables false
set_option linter.unusedSimpArgs false

end Go.Proofs.TrydX.X
end

section
/- Plain: what the reference's Check, errors, Error and Stated tell, in the hand's own words. -/
set_option linter.unusedSimpArgs false
set_option linter.unusedVariables false
namespace Go.Proofs.TrydX.X
open Go.RowKit Go.Proofs.YtidnopmjhhmedaaDoorW.PrintWords Go.Proofs.YtidnopmjhhmedaaDoorW.PrintLast
open Go.Proofs.YtidnopmjhhmedaaDoor

theorem drop_T71 (l : List S71) (i : Nat) (h : i < l.length) : l.drop i = rd_T71 l i :: l.drop (i + 1) := by
  rw [List.drop_eq_getElem_cons h]; simp [rd_T71, h]
section
variable {F S J L H T : Int} {st : List Int} {l7 : List S71}
end

theorem bwdTo_within (st : List Int) (L H : Int) (t : Nat) (f : Nat → Sp) (i : Nat) : ∀ j, (f i).lo ≤ (bwdTo st L H t f j i).lo ∧ (bwdTo st L H t f j i).hi ≤ (f i).hi
  | 0 => ⟨Int.le_refl _, Int.le_refl _⟩
  | j + 1 => by
    have ih := bwdTo_within st L H t f i j
    rw [bwdTo, bwdS]
    unfold putS
    split
    · rename_i e
      rw [← e]
      simp only [bothS]
      omega
    · exact ih
theorem okF_iff (t : Nat) (f : Nat → Sp) : okF t f = true ↔ ∀ k, k ≤ t → (f k).lo ≤ (f k).hi := by
  unfold okF
  simp only [List.all_eq_true, List.mem_range, decide_eq_true_eq]
  exact ⟨fun h k hk => h k (by omega), fun h k hk => h k (by omega)⟩
section
variable {F S J L H : Int} {st : List Int} {l7 : List S71}
variable (hL : -100 ≤ L ∧ L ≤ H ∧ H ≤ 100) (hst : ∀ k, -500 ≤ stAt st k ∧ stAt st k ≤ 500)
include hL hst
end
theorem check_parts {F S J L H T : Int} {st : List Int} {lk : List Lk} (h : checkB F S J L H T st lk = true) : isRuleB F S J L H = true ∧ 1 ≤ T ∧ T ≤ 60 ∧ lk.length ≤ 10 ∧ lk.all (lookB T) = true := by
  unfold checkB at h
  simp only [Bool.and_eq_true, decide_eq_true_eq, lies_iff] at h
  exact ⟨h.1.1.1.1.1, h.1.1.1.1.2.1, h.1.1.1.1.2.2, h.1.2, h.2⟩
end Go.Proofs.TrydX.X
end

section
-- Written by wip/tools/pr.py (a program of this repo over the kit's print.py).
namespace Go.Proofs.TrydX.X
open Go.RowKit Go.Proofs.YtidnopmjhhmedaaDoorW.PrintWords Go.Proofs.YtidnopmjhhmedaaDoorW.PrintLast Go.Proofs.YtidnopmjhhmedaaDoorW.PrintMore
attribute [local go_sem] max2_int min2_int max_two min_two max_three min_three max_four min_four   -- for this text's walks alone
set_option linter.unusedVariables false
set_option linter.unusedSimpArgs false

end Go.Proofs.TrydX.X
end

section
-- Written by wip/tools/pr.py (a program of this repo over the kit's print.py).
namespace Go.Proofs.TrydX.X
open Go.RowKit Go.Proofs.YtidnopmjhhmedaaDoorW.PrintWords Go.Proofs.YtidnopmjhhmedaaDoorW.PrintLast Go.Proofs.YtidnopmjhhmedaaDoorW.PrintMore
attribute [local go_sem] max2_int min2_int max_two min_two max_three min_three max_four min_four   -- for this text's walks alone
set_option linter.unusedVariables false
set_option linter.unusedSimpArgs false

end Go.Proofs.TrydX.X
end

section
-- Written by wip/tools/pr.py (a program of this repo over the kit's print.py).
namespace Go.Proofs.TrydX.X
open Go.RowKit Go.Proofs.YtidnopmjhhmedaaDoorW.PrintWords Go.Proofs.YtidnopmjhhmedaaDoorW.PrintLast Go.Proofs.YtidnopmjhhmedaaDoorW.PrintMore
attribute [local go_sem] max2_int min2_int max_two min_two max_three min_three max_four min_four   -- for this text's walks alone
set_option linter.unusedVariables false
set_option linter.unusedSimpArgs false

end Go.Proofs.TrydX.X
end

section
/- Plain: draws that are steered within a rule. -/
set_option linter.unusedSimpArgs false
set_option linter.unusedVariables false
namespace Go.Proofs.TrydX.X
open Go.RowKit Go.Proofs.YtidnopmjhhmedaaDoorW.PrintWords Go.Proofs.YtidnopmjhhmedaaDoorW.PrintLast
open Go.Proofs.YtidnopmjhhmedaaDoor

theorem isRule_f (F S J L H : Int) : remontoirlaw04_isRule.f F S J L H = some (isRuleB F S J L H) := by
  unfold remontoirlaw04_isRule.f scale_Reach.f
  cases hr : isRuleB F S J L H
  · simp
  · obtain ⟨hF, hS, hJ, hL⟩ := isRuleB_spec hr
    have h0 : lies 0 0 200 = true := by decide
    simp only [if_true, h0, Option.bind_some, lies_f, valid_f, lies_iff.2 hF, lies_iff.2 hS, lies_iff.2 hJ]
    simp; omega
theorem Rest_f (x m : Int) (hm : 0 < m) (hm2 : m ≤ 4611686018427387904) : ∃ r, remontoirref00_Rest.f x m = some r ∧ 0 ≤ r ∧ r < m := by
  unfold remontoirref00_Rest.f
  rw [if_neg (by omega)]
  have h1 := Int.tmod_lt_of_pos x hm
  have h2 := Int.lt_tmod_of_pos x hm
  split
  · rename_i h
    rw [wr (by omega)]
    exact ⟨_, rfl, by omega, by omega⟩
  · exact ⟨_, rfl, by omega, h1⟩
end Go.Proofs.TrydX.X
end

section
/- Plain: sound; and wider spans: what follows from less follows from more. -/
set_option linter.unusedSimpArgs false
set_option linter.unusedVariables false
namespace Go.Proofs.TrydX.X
open Go.RowKit Go.Proofs.YtidnopmjhhmedaaDoorW.PrintWords Go.Proofs.YtidnopmjhhmedaaDoorW.PrintLast
open Go.Proofs.YtidnopmjhhmedaaDoor

section
variable {F S J L H T : Int} {st : List Int} {l7 : List S71}
theorem sound_l1 (hl : l7.length ≤ 10) (d : Nat) : ∀ (k i : Nat), i + d = l7.length → 2 * d + 1 < k → ((l7.drop i).map toLk).all (lookB T) = true →
    remontoirlaw04_sound.l1 k true i F S J L H T st l7 = some true := by
  induction d with
  | zero =>
    intro k i hi hk _
    obtain ⟨k, rfl⟩ : ∃ m, k = m + 2 := ⟨k - 2, by omega⟩
    have : decide ((i : Int) < (l7.length : Int)) = false := decide_eq_false (by omega)
    simp only [remontoirlaw04_sound.l1, remontoirlaw04_sound.j4, if_true, this, Bool.false_eq_true, if_false]
  | succ d ih =>
    intro k i hi hk ha
    obtain ⟨k, rfl⟩ : ∃ m, k = m + 2 := ⟨k - 2, by omega⟩
    have hd : decide ((i : Int) < (l7.length : Int)) = true := decide_eq_true (by omega)
    simp only [remontoirlaw04_sound.l1, remontoirlaw04_sound.j4, if_true, hd]
    rw [drop_T71 l7 i (by omega), List.map_cons, List.all_cons, Bool.and_eq_true] at ha
    obtain ⟨h1, h2⟩ := ha
    simp only [lookB, toLk, Bool.and_eq_true, decide_eq_true_eq] at h1
    rw [if_pos (by omega), if_pos (by omega), lies_f, h1.1.1.1, wr (x := (i : Int) + 1) (by omega), show (i : Int) + 1 = ((i + 1 : Nat) : Int) by omega, valid_f]
    simp only [Option.bind_some, if_true]
    have e : (decide ((rd_T71 l7 i).f1.f0 ≤ (rd_T71 l7 i).f1.f1) && decide (-20000 ≤ (rd_T71 l7 i).f1.f0) && decide ((rd_T71 l7 i).f1.f1 ≤ 20000)) = true := by
      simp only [Bool.and_eq_true, decide_eq_true_eq]
      exact ⟨⟨of_decide_eq_true h1.1.2, of_decide_eq_true h1.1.1.2⟩, of_decide_eq_true h1.2⟩
    rw [e]
    exact ih k (i + 1) (by omega) (by omega) h2
theorem sound_l0 (hS : 0 ≤ S ∧ S ≤ 500) (hl : l7.length ≤ 10) (hs : st.length ≤ 60) (hb : ∀ x ∈ st, -S ≤ x ∧ x ≤ F) (ha : (l7.map toLk).all (lookB T) = true) (d : Nat) : ∀ (k i : Nat), i + d = st.length → d + 50 < k →
    remontoirlaw04_sound.l0 k true i F S J L H T st l7 = some true := by
  induction d with
  | zero =>
    intro k i hi hk
    obtain ⟨k, rfl⟩ : ∃ m, k = m + 2 := ⟨k - 2, by omega⟩
    simp only [remontoirlaw04_sound.l0, remontoirlaw04_sound.j2, if_true]
    rw [if_neg (by omega)]
    have := sound_l1 (F := F) (S := S) (J := J) (L := L) (H := H) (T := T) (st := st) hl l7.length k 0 (by omega) (by omega) (by simpa using ha)
    rw [show ((0 : Nat) : Int) = 0 from rfl] at this
    exact this
  | succ d ih =>
    intro k i hi hk
    obtain ⟨k, rfl⟩ : ∃ m, k = m + 1 := ⟨k - 1, by omega⟩
    have hil : i < st.length := by omega
    have hx := hb st[i] (List.getElem_mem hil)
    have hrd : rd st i = st[i] := by simp [rd, List.getD_eq_getElem?_getD, hil]
    simp only [remontoirlaw04_sound.l0, if_true]
    rw [if_pos (by omega), if_pos (by omega), hrd, wr (x := -S) (by omega), lies_f, lies_iff.2 hx, wr (x := (i : Int) + 1) (by omega), show (i : Int) + 1 = ((i + 1 : Nat) : Int) by omega]
    exact ih k (i + 1) (by omega) (by omega)
theorem sound_no (k : Nat) : remontoirlaw04_sound.j0 (k + 5) false F S J L H T st l7 = some false := by
  simp only [remontoirlaw04_sound.j0, remontoirlaw04_sound.l0, remontoirlaw04_sound.j2, remontoirlaw04_sound.l1, remontoirlaw04_sound.j4, Bool.false_eq_true, if_false]
theorem sound_f (h6 : st.length ≤ 17592186044416) (h7 : l7.length ≤ 17592186044416) (k : Nat) (hk : 200 < k) : remontoirlaw04_sound.f k F S J L H T st l7 = some (checkB F S J L H T st (l7.map toLk)) := by
  obtain ⟨k, rfl⟩ : ∃ m, k = m + 5 := ⟨k - 5, by omega⟩
  unfold remontoirlaw04_sound.f scale_Check.f
  rw [if_pos (show st.length ≤ 17592186044416 ∧ l7.length ≤ 17592186044416 from ⟨h6, h7⟩), isRule_f, lies_f]
  simp only [Option.bind_some, sound_no]
  cases hc : checkB F S J L H T st (l7.map toLk)
  · simp
  · obtain ⟨hr, hT1, hT2, hl, hlk⟩ := check_parts hc
    obtain ⟨hF, hS, hJ, _⟩ := isRuleB_spec hr
    have hc2 := hc
    unfold checkB at hc2
    simp only [Bool.and_eq_true, decide_eq_true_eq] at hc2
    have hs : (st.length : Int) ≤ T := hc2.1.1.1.2
    have hkp := hc2.1.1.2
    have hl' : l7.length ≤ 10 := by simpa using hl
    have hdl : decide ((l7.length : Int) ≤ 10) = true := decide_eq_true (by omega)
    rw [hr, lies_iff.2 ⟨hT1, hT2⟩, hdl]
    simp only [if_true, hs]
    rw [show k + 5 = (k + 4) + 1 from rfl]
    simp only [remontoirlaw04_sound.j0]
    have := sound_l0 (F := F) (S := S) (J := J) (L := L) (H := H) (T := T) (st := st) (l7 := l7) hS hl' (by omega) (of_keeps st 0 hkp).1 hlk st.length (k + 4) 0 (by omega) (by omega)
    rw [show ((0 : Nat) : Int) = 0 from rfl] at this
    exact this
end

/-! ### Wider. -/
def Sub (f g : Nat → Sp) : Prop := ∀ k, (g k).lo ≤ (f k).lo ∧ (f k).hi ≤ (g k).hi
theorem Sub.put {f g : Nat → Sp} (h : Sub f g) (k : Nat) (s t : Sp) (hs : t.lo ≤ s.lo ∧ s.hi ≤ t.hi) : Sub (putS f k s) (putS g k t) := by
  intro j
  unfold putS
  split
  · exact hs
  · exact h j
section
variable (st : List Int) {L H L' H' : Int} (hL : L' ≤ L) (hH : H ≤ H')
include hL hH
theorem fwdTo_sub {f g : Nat → Sp} (h : Sub f g) : ∀ j, Sub (fwdTo st L H f j) (fwdTo st L' H' g j)
  | 0 => h
  | j + 1 => by
    have ih := fwdTo_sub h j
    rw [fwdTo, fwdTo, fwdS, fwdS]
    refine ih.put _ _ _ ?_
    have h1 := ih j
    have h2 := ih (j + 1)
    simp only [bothS]
    omega
theorem bwdTo_sub {f g : Nat → Sp} (t : Nat) (h : Sub f g) : ∀ j, Sub (bwdTo st L H t f j) (bwdTo st L' H' t g j)
  | 0 => h
  | j + 1 => by
    have ih := bwdTo_sub t h j
    rw [bwdTo, bwdTo, bwdS, bwdS]
    refine ih.put _ _ _ ?_
    have h1 := ih (t - (j + 1))
    have h2 := ih (t - (j + 1) + 1)
    simp only [bothS]
    omega
theorem roundF_sub {f g : Nat → Sp} (t : Nat) (h : Sub f g) : Sub (roundF st L H t f) (roundF st L' H' t g) :=
  bwdTo_sub st hL hH t (fwdTo_sub st hL hH h t) t
end
theorem Sub.refl (f : Nat → Sp) : Sub f f := fun k => ⟨Int.le_refl _, Int.le_refl _⟩
end Go.Proofs.TrydX.X
end

section
-- Written by wip/tools/pr.py (a program of this repo over the kit's print.py).
namespace Go.Proofs.TrydX.X
open Go.RowKit Go.Proofs.YtidnopmjhhmedaaDoorW.PrintWords Go.Proofs.YtidnopmjhhmedaaDoorW.PrintLast Go.Proofs.YtidnopmjhhmedaaDoorW.PrintMore
attribute [local go_sem] max2_int min2_int max_two min_two max_three min_three max_four min_four   -- for this text's walks alone
set_option linter.unusedVariables false
set_option linter.unusedSimpArgs false

end Go.Proofs.TrydX.X
end

section
-- Written by wip/tools/pr.py (a program of this repo over the kit's print.py).
namespace Go.Proofs.TrydX.X
open Go.RowKit Go.Proofs.YtidnopmjhhmedaaDoorW.PrintWords Go.Proofs.YtidnopmjhhmedaaDoorW.PrintLast Go.Proofs.YtidnopmjhhmedaaDoorW.PrintMore
attribute [local go_sem] max2_int min2_int max_two min_two max_three min_three max_four min_four   -- for this text's walks alone
set_option linter.unusedVariables false
set_option linter.unusedSimpArgs false

end Go.Proofs.TrydX.X
end

section
/- The plain law of ScaleWider. -/
set_option linter.unusedSimpArgs false
set_option linter.unusedVariables false
namespace Go.Proofs.YtidnopmjhhmedaaDoor
open Go.RowKit Go.Proofs.YtidnopmjhhmedaaDoorW.PrintWords Go.Proofs.YtidnopmjhhmedaaDoorW.PrintLast TrydX.X
theorem checkB_iff {F S J L H T : Int} {st : List Int} {lk : List Lk} : checkB F S J L H T st lk = true ↔ isRuleB F S J L H = true ∧ lies T 1 60 = true ∧ (st.length : Int) ≤ T ∧ keepsB F S J 0 st = true ∧ lk.length ≤ 10 ∧ lk.all (lookB T) = true := by
  unfold checkB
  simp only [Bool.and_eq_true, decide_eq_true_eq, and_assoc]
end Go.Proofs.YtidnopmjhhmedaaDoor
end

section
/- Plain: the order of looks, and how often each is told, change nothing; what Error tells. -/
set_option linter.unusedSimpArgs false
set_option linter.unusedVariables false
namespace Go.Proofs.YtidnopmjhhmedaaDoor
open Go.RowKit Go.Proofs.YtidnopmjhhmedaaDoorW.PrintWords Go.Proofs.YtidnopmjhhmedaaDoorW.PrintLast TrydX.X

/-! ### The order of looks, and how often each is told, change nothing. -/
theorem looks_lo (z : Int) (n : Nat) : ∀ (lk : List Lk) (f : Nat → Sp), ((lk.foldl lookS f) n).lo ≤ z ↔ (f n).lo ≤ z ∧ ∀ l ∈ lk, l.t.toNat = n → l.lo ≤ z
  | [], f => by simp
  | x :: lk, f => by
    rw [List.foldl_cons, looks_lo z n lk]
    simp only [List.mem_cons, forall_eq_or_imp, lookS]
    by_cases h : n = x.t.toNat
    · subst h
      rw [putS_self]
      simp only [bothS, forall_const, Int.max_le, and_assoc]
    · rw [putS_ne _ _ h]
      have : ¬ x.t.toNat = n := fun e => h e.symm
      simp only [this, false_implies, true_and]
theorem looks_hi (z : Int) (n : Nat) : ∀ (lk : List Lk) (f : Nat → Sp), z ≤ ((lk.foldl lookS f) n).hi ↔ z ≤ (f n).hi ∧ ∀ l ∈ lk, l.t.toNat = n → z ≤ l.hi
  | [], f => by simp
  | x :: lk, f => by
    rw [List.foldl_cons, looks_hi z n lk]
    simp only [List.mem_cons, forall_eq_or_imp, lookS]
    by_cases h : n = x.t.toNat
    · subst h
      rw [putS_self]
      simp only [bothS, forall_const, Int.le_min, and_assoc]
    · rw [putS_ne _ _ h]
      have : ¬ x.t.toNat = n := fun e => h e.symm
      simp only [this, false_implies, true_and]
theorem looksF_more (l : List Lk) (x : Lk) : Sub (looksF (l ++ [x])) (looksF l) := by
  intro n
  have h1 := (looks_lo _ n (l ++ [x]) wideF).1 (Int.le_refl _)
  have h2 := (looks_hi _ n (l ++ [x]) wideF).1 (Int.le_refl _)
  have g1 := (looks_lo ((looksF (l ++ [x]) n).lo) n l wideF).2 ⟨h1.1, fun y hy => h1.2 y (List.mem_append_left _ hy)⟩
  have g2 := (looks_hi ((looksF (l ++ [x]) n).hi) n l wideF).2 ⟨h2.1, fun y hy => h2.2 y (List.mem_append_left _ hy)⟩
  exact ⟨g1, g2⟩
theorem err_all {F S J L H T : Int} {st : List Int} {lk : List S71} (h6 : st.length ≤ 17592186044416) (h7 : lk.length ≤ 17592186044416) (hc : checkB F S J L H T st (lk.map toLk) = true) (t : Int) (ht : lies t 0 T = true) :
    scale_Error.f F S J L H T st lk t = some (if okF T.toNat (solF F S J L H T st (lk.map toLk)) = true then ((solF F S J L H T st (lk.map toLk) t.toNat).lo, (solF F S J L H T st (lk.map toLk) t.toNat).hi, 0) else (0, 0, 42)) := by
  unfold scale_Error.f
  rw [if_pos (show st.length ≤ 17592186044416 ∧ lk.length ≤ 17592186044416 from ⟨h6, h7⟩)]
  unfold askE
  rw [hc, ht]
  generalize solF F S J L H T st (lk.map toLk) = g
  simp only [if_true]
  cases okF T.toNat g <;> rfl
end Go.Proofs.YtidnopmjhhmedaaDoor
end

section
/- Plain: what truly was so lies within what follows; each number between the ends is so in a truth. -/
set_option linter.unusedSimpArgs false
set_option linter.unusedVariables false
namespace Go.Proofs.YtidnopmjhhmedaaDoor
open Go.RowKit Go.Proofs.YtidnopmjhhmedaaDoorW.PrintWords Go.Proofs.YtidnopmjhhmedaaDoorW.PrintLast TrydX.X

/-! ### What truly was so lies within what follows. -/
def InF (o : List Int) (T : Nat) (f : Nat → Sp) : Prop := ∀ k, k ≤ T → (f k).lo ≤ stAt o k ∧ stAt o k ≤ (f k).hi
def TrueO (st : List Int) (L H : Int) (n : Nat) (o : List Int) : Prop :=
  o.length = n + 1 ∧ (∀ k, k ≤ n → -20000 ≤ stAt o k ∧ stAt o k ≤ 20000) ∧ ∀ k, k < n → stAt o k + stAt st k + L ≤ stAt o (k + 1) ∧ stAt o (k + 1) ≤ stAt o k + stAt st k + H
theorem InF.put {o : List Int} {T : Nat} {f : Nat → Sp} (h : InF o T f) (k : Nat) (s : Sp) (hs : k ≤ T → s.lo ≤ stAt o k ∧ stAt o k ≤ s.hi) : InF o T (putS f k s) := by
  intro j hj
  by_cases e : j = k
  · subst e; rw [putS_self]; exact hs hj
  · rw [putS_ne _ _ e]; exact h j hj
section
variable {st : List Int} {L H : Int} {T : Nat} {o : List Int} (ho : TrueO st L H T o)
include ho
theorem in_fwd {f : Nat → Sp} (h : InF o T f) : ∀ j, InF o T (fwdTo st L H f j)
  | 0 => h
  | j + 1 => by
    have ih := in_fwd h j
    refine ih.put _ _ fun hj => ?_
    have h1 := ih j (by omega)
    have h2 := ih (j + 1) hj
    have h3 := ho.2.2 j (by omega)
    simp only [bothS]
    omega
theorem in_bwd {f : Nat → Sp} (h : InF o T f) : ∀ j, j ≤ T → InF o T (bwdTo st L H T f j)
  | 0, _ => h
  | j + 1, hj => by
    have ih := in_bwd h j (by omega)
    refine ih.put _ _ fun _ => ?_
    have h1 := ih (T - (j + 1)) (by omega)
    have h2 := ih (T - (j + 1) + 1) (by omega)
    have h3 := ho.2.2 (T - (j + 1)) (by omega)
    simp only [bothS]
    omega
theorem in_sol {lk : List Lk} (hl : ∀ l ∈ lk, l.lo ≤ stAt o l.t.toNat ∧ stAt o l.t.toNat ≤ l.hi) : InF o T (roundF st L H T (looksF lk)) := by
  refine in_bwd ho (in_fwd ho ?_ T) T (Nat.le_refl _)
  intro k hk
  have hb := ho.2.1 k hk
  exact ⟨(looks_lo _ k lk wideF).2 ⟨hb.1, fun l h e => e ▸ (hl l h).1⟩, (looks_hi _ k lk wideF).2 ⟨hb.2, fun l h e => e ▸ (hl l h).2⟩⟩
end
theorem stAt_app (o : List Int) (x : Int) {k : Nat} (h : k < o.length) : stAt (o ++ [x]) k = stAt o k := by
  unfold stAt; rw [List.getElem?_append_left h]
theorem stAt_end (o : List Int) (x : Int) : stAt (o ++ [x]) o.length = x := by
  unfold stAt; rw [List.getElem?_append_right (Nat.le_refl _)]; simp
theorem TrueO.push {st : List Int} {L H : Int} {n : Nat} {o : List Int} (h : TrueO st L H n o) (x : Int) (hx : -20000 ≤ x ∧ x ≤ 20000) (hs : stAt o n + stAt st n + L ≤ x ∧ x ≤ stAt o n + stAt st n + H) : TrueO st L H (n + 1) (o ++ [x]) := by
  obtain ⟨h1, h2, h3⟩ := h
  refine ⟨by simp [h1], ?_, ?_⟩
  · intro k hk
    rcases Nat.lt_or_ge n k with hn | hn
    · obtain rfl : k = o.length := by omega
      rw [stAt_end]; exact hx
    · rw [stAt_app _ _ (by omega)]; exact h2 k hn
  · intro k hk
    rcases Nat.lt_or_ge k n with hn | hn
    · rw [stAt_app _ _ (by omega), stAt_app _ _ (by omega)]; exact h3 k hn
    · obtain rfl : k = n := by omega
      rw [stAt_app _ _ (by omega), show k + 1 = o.length by omega, stAt_end]
      exact hs
/-! ### Each number between the ends is so in a truth. -/
section
variable {st : List Int} {L H : Int} {T : Nat}
theorem fwdTo_within (f : Nat → Sp) (i : Nat) : ∀ j, (f i).lo ≤ (fwdTo st L H f j i).lo ∧ (fwdTo st L H f j i).hi ≤ (f i).hi
  | 0 => ⟨Int.le_refl _, Int.le_refl _⟩
  | j + 1 => by
    have ih := fwdTo_within f i j
    rw [fwdTo, fwdS]
    unfold putS
    split
    · rename_i e
      rw [← e]
      simp only [bothS]
      omega
    · exact ih
theorem roundF_within (f : Nat → Sp) (i : Nat) : (f i).lo ≤ (roundF st L H T f i).lo ∧ (roundF st L H T f i).hi ≤ (f i).hi := by
  have h1 := fwdTo_within (st := st) (L := L) (H := H) f i T
  have h2 := bwdTo_within st L H T (fwdTo st L H f T) i T
  unfold roundF
  omega
def StepsT (st : List Int) (L H : Int) (s : Nat → Sp) (a b : Nat) (o : Nat → Int) : Prop :=
  (∀ k, a ≤ k → k ≤ b → (s k).lo ≤ o k ∧ o k ≤ (s k).hi) ∧ ∀ k, a ≤ k → k < b → o k + stAt st k + L ≤ o (k + 1) ∧ o (k + 1) ≤ o k + stAt st k + H
theorem steps_on (hL : L ≤ H) {s : Nat → Sp} (hn : ∀ k, k ≤ T → (s k).lo ≤ (s k).hi) (hb : Bwd st L H T s) {t : Nat} {v : Int} (hv : (s t).lo ≤ v ∧ v ≤ (s t).hi) : ∀ d, t + d ≤ T → ∃ o, o t = v ∧ StepsT st L H s t (t + d) o
  | 0, _ => ⟨fun _ => v, rfl, fun k h1 h2 => by obtain rfl : k = t := by omega
                                                exact hv, fun k h1 h2 => by omega⟩
  | d + 1, hd => by
    obtain ⟨o, ho, h1, h2⟩ := steps_on hL hn hb hv d (by omega)
    have a1 := h1 (t + d) (by omega) (by omega)
    have a2 := hb (t + d) (by omega)
    have a3 := hn (t + d + 1) (by omega)
    refine ⟨fun k => if k = t + d + 1 then max (o (t + d) + stAt st (t + d) + L) (s (t + d + 1)).lo else o k, by dsimp only; rw [if_neg (by omega)]; exact ho, ?_, ?_⟩
    · intro k k1 k2
      dsimp only
      by_cases e : k = t + d + 1
      · rw [if_pos e, e]; omega
      · rw [if_neg e]; exact h1 k k1 (by omega)
    · intro k k1 k2
      dsimp only
      by_cases e : k = t + d
      · subst e
        rw [if_pos rfl, if_neg (by omega)]; omega
      · rw [if_neg (by omega), if_neg (by omega)]; exact h2 k k1 (by omega)
theorem steps_back (hL : L ≤ H) {s : Nat → Sp} (hn : ∀ k, k ≤ T → (s k).lo ≤ (s k).hi) (hf : Fwd st L H T s) {t : Nat} (ht : t ≤ T) {o0 : Nat → Int} (h0 : StepsT st L H s t T o0) : ∀ d, d ≤ t → ∃ o, o t = o0 t ∧ StepsT st L H s (t - d) T o
  | 0, _ => ⟨o0, rfl, h0⟩
  | d + 1, hd => by
    obtain ⟨o, ho, h1, h2⟩ := steps_back hL hn hf ht h0 d (by omega)
    obtain ⟨m, hm⟩ : ∃ m, t - (d + 1) = m := ⟨_, rfl⟩
    have hm2 : t - d = m + 1 := by omega
    rw [hm2] at h1 h2
    rw [hm]
    have a1 := h1 (m + 1) (by omega) (by omega)
    have a2 := hf m (by omega)
    have a3 := hn m (by omega)
    refine ⟨fun k => if k = m then max (o (m + 1) - stAt st m - H) (s m).lo else o k, by dsimp only; rw [if_neg (by omega)]; exact ho, ?_, ?_⟩
    · intro k k1 k2
      dsimp only
      by_cases e : k = m
      · rw [if_pos e, e]; omega
      · rw [if_neg e]; exact h1 k (by omega) k2
    · intro k k1 k2
      dsimp only
      by_cases e : k = m
      · subst e
        rw [if_pos rfl, if_neg (by omega)]; omega
      · rw [if_neg e, if_neg (by omega)]; exact h2 k (by omega) k2
theorem truth_at (hL : L ≤ H) {lk : List Lk} (hok : okF T (roundF st L H T (looksF lk)) = true) {t : Nat} (ht : t ≤ T) {v : Int} (hv : (roundF st L H T (looksF lk) t).lo ≤ v ∧ v ≤ (roundF st L H T (looksF lk) t).hi) :
    ∃ o, TrueO st L H T o ∧ stAt o t = v ∧ ∀ l ∈ lk, l.t.toNat ≤ T → l.lo ≤ stAt o l.t.toNat ∧ stAt o l.t.toNat ≤ l.hi := by
  have hn := (okF_iff T _).1 hok
  obtain ⟨o0, e0, h0⟩ := steps_on hL hn (roundF_bwd st L H T _) hv (T - t) (by omega)
  rw [show t + (T - t) = T by omega] at h0
  obtain ⟨o, e1, h1⟩ := steps_back hL hn (roundF_fwd st hL T _) ht h0 t (Nat.le_refl _)
  rw [Nat.sub_self] at h1
  have hst : ∀ k, k ≤ T → stAt ((List.range (T + 1)).map o) k = o k := by
    intro k hk
    unfold stAt
    rw [List.getElem?_map, List.getElem?_range (by omega)]
    rfl
  have hin : ∀ k, k ≤ T → (looksF lk k).lo ≤ o k ∧ o k ≤ (looksF lk k).hi := by
    intro k hk
    have a1 := h1.1 k (by omega) hk
    have a2 := roundF_within (st := st) (L := L) (H := H) (T := T) (looksF lk) k
    omega
  refine ⟨(List.range (T + 1)).map o, ⟨by simp, ?_, ?_⟩, ?_, ?_⟩
  · intro k hk
    rw [hst k hk]
    have a1 := (looks_lo (o k) k lk wideF).1 (hin k hk).1
    have a2 := (looks_hi (o k) k lk wideF).1 (hin k hk).2
    exact ⟨a1.1, a2.1⟩
  · intro k hk
    rw [hst k (by omega), hst (k + 1) (by omega)]
    exact h1.2 k (by omega) hk
  · rw [hst t ht, e1, e0]
  · intro l hl hk
    rw [hst _ hk]
    exact ⟨((looks_lo _ _ lk wideF).1 (hin _ hk).1).2 l hl rfl, ((looks_hi _ _ lk wideF).1 (hin _ hk).2).2 l hl rfl⟩
end
end Go.Proofs.YtidnopmjhhmedaaDoor
end

section
/- The plain law of ScaleEnds. -/
set_option linter.unusedSimpArgs false
set_option linter.unusedVariables false
namespace Go.Proofs.YtidnopmjhhmedaaDoor
open Go.RowKit Go.Proofs.YtidnopmjhhmedaaDoorW.PrintWords Go.Proofs.YtidnopmjhhmedaaDoorW.PrintLast TrydX.X

section
variable {F S J L H : Int} {T : Nat} {st : List Int} {lk : List S71}
/-- With a look more that sees just v. -/
theorem err_seen (h6 : st.length ≤ 17592186044416) (h9 : lk.length ≤ 9) (hc : checkB F S J L H T st (lk.map toLk) = true) (hok : okF T (solF F S J L H T st (lk.map toLk)) = true) {t : Nat} (ht : t ≤ T) (v : Int) (hv : -20000 ≤ v ∧ v ≤ 20000) :
    scale_Error.f F S J L H T st (lk ++ [(⟨(t : Int), ⟨v, v⟩⟩ : S71)]) t = some (if (solF F S J L H T st (lk.map toLk) t).lo ≤ v ∧ v ≤ (solF F S J L H T st (lk.map toLk) t).hi then (v, v, 0) else (0, 0, 42)) := by
  obtain ⟨c1, c2, c3, c4, c5, c6⟩ := checkB_iff.1 hc
  obtain ⟨hF, hS, hJ, hL⟩ := isRuleB_spec c1
  have hT := lies_iff.1 c2
  have hcx : checkB F S J L H T st ((lk ++ [(⟨(t : Int), ⟨v, v⟩⟩ : S71)]).map toLk) = true := by
    refine checkB_iff.2 ⟨c1, c2, c3, c4, by simp; omega, ?_⟩
    rw [List.map_append, List.all_append, c6]
    simp only [List.map_cons, List.map_nil, List.all_cons, List.all_nil, Bool.and_true, Bool.true_and, toLk, lookB, Bool.and_eq_true, decide_eq_true_eq, lies_iff]
    exact ⟨⟨⟨by omega, by first | omega | exact decide_eq_true (by omega)⟩, by first | omega | exact decide_eq_true (by omega)⟩, by first | omega | exact decide_eq_true (by omega)⟩
  rw [err_all h6 (by simp; omega) hcx t (lies_iff.2 (by omega))]
  unfold solF at *
  simp only [Int.toNat_natCast] at *
  rw [List.map_append]
  have hsub := roundF_sub st (Int.le_refl L) (Int.le_refl H) T (looksF_more (lk.map toLk) (toLk (⟨(t : Int), ⟨v, v⟩⟩ : S71))) t
  have hw := roundF_within (st := st) (L := L) (H := H) (T := T) (looksF (lk.map toLk ++ [toLk (⟨(t : Int), ⟨v, v⟩⟩ : S71)])) t
  have hlo : v ≤ (looksF (lk.map toLk ++ [toLk (⟨(t : Int), ⟨v, v⟩⟩ : S71)]) t).lo :=
    ((looks_lo _ t (lk.map toLk ++ [toLk (⟨(t : Int), ⟨v, v⟩⟩ : S71)]) wideF).1 (Int.le_refl _)).2 _ (List.mem_append_right _ (List.mem_singleton.2 rfl)) (by simp [toLk])
  have hhi : (looksF (lk.map toLk ++ [toLk (⟨(t : Int), ⟨v, v⟩⟩ : S71)]) t).hi ≤ v :=
    ((looks_hi _ t (lk.map toLk ++ [toLk (⟨(t : Int), ⟨v, v⟩⟩ : S71)]) wideF).1 (Int.le_refl _)).2 _ (List.mem_append_right _ (List.mem_singleton.2 rfl)) (by simp [toLk])
  show some _ = some _
  congr 1
  by_cases hb : (roundF st L H T (looksF (lk.map toLk)) t).lo ≤ v ∧ v ≤ (roundF st L H T (looksF (lk.map toLk)) t).hi
  · rw [if_pos hb]
    obtain ⟨o, ho, e, hl⟩ := truth_at hL.2.1 hok ht hb
    have hin := in_sol ho (lk := lk.map toLk ++ [toLk (⟨(t : Int), ⟨v, v⟩⟩ : S71)]) (by
      intro l h
      rcases List.mem_append.1 h with h | h
      · refine hl l h ?_
        have h2 := List.all_eq_true.1 c6 l h
        simp only [lookB, Bool.and_eq_true, lies_iff] at h2
        omega
      · rw [List.mem_singleton.1 h]
        simp only [toLk, Int.toNat_natCast]
        omega)
    have h2 := hin t ht
    have hok' : okF T (roundF st L H T (looksF (lk.map toLk ++ [toLk (⟨(t : Int), ⟨v, v⟩⟩ : S71)]))) = true := by
      rw [okF_iff]
      intro k hk
      have := hin k hk
      omega
    simp only [List.map_cons, List.map_nil]
    rw [hok', if_pos rfl]
    have e1 : (roundF st L H T (looksF (lk.map toLk ++ [toLk (⟨(t : Int), ⟨v, v⟩⟩ : S71)])) t).lo = v := by omega
    have e2 : (roundF st L H T (looksF (lk.map toLk ++ [toLk (⟨(t : Int), ⟨v, v⟩⟩ : S71)])) t).hi = v := by omega
    rw [e1, e2]
  · rw [if_neg hb, if_neg]
    intro hok'
    have := (okF_iff T _).1 hok' t ht
    simp only [List.map_cons, List.map_nil] at this
    omega
theorem ends_l0 (h6 : st.length ≤ 17592186044416) (h9 : lk.length ≤ 9) (hc : checkB F S J L H T st (lk.map toLk) = true) (hok : okF T (solF F S J L H T st (lk.map toLk)) = true) {t : Nat} (ht : t ≤ T) (d : Nat) : ∀ (k i : Nat), i + d = 4 → 2 * d < k →
    remontoirlaw04_ScaleEnds.l0 k t [(solF F S J L H T st (lk.map toLk) t).lo, (solF F S J L H T st (lk.map toLk) t).hi, (solF F S J L H T st (lk.map toLk) t).lo - 1, (solF F S J L H T st (lk.map toLk) t).hi + 1] i F S J L H T st lk = some true := by
  obtain ⟨c1, c2, c3, c4, c5, c6⟩ := checkB_iff.1 hc
  obtain ⟨hF, hS, hJ, hL⟩ := isRuleB_spec c1
  have hT := lies_iff.1 c2
  have hseen := err_seen (F := F) (S := S) (J := J) h6 h9 hc hok ht
  have hbd : -20000 ≤ (solF F S J L H T st (lk.map toLk) t).lo ∧ (solF F S J L H T st (lk.map toLk) t).lo ≤ (solF F S J L H T st (lk.map toLk) t).hi ∧ (solF F S J L H T st (lk.map toLk) t).hi ≤ 20000 := by
    have h1 := (okF_iff T _).1 hok t ht
    have h2 := roundF_within (st := st) (L := L) (H := H) (T := T) (looksF (lk.map toLk)) t
    have h3 := ((looks_lo _ t (lk.map toLk) wideF).1 (Int.le_refl _)).1
    have h4 := ((looks_hi _ t (lk.map toLk) wideF).1 (Int.le_refl _)).1
    simp only [wideF] at h3 h4
    unfold solF at h1 ⊢
    simp only [Int.toNat_natCast] at h1 ⊢
    unfold looksF at h2 ⊢
    unfold looksF at h1
    omega
  generalize solF F S J L H T st (lk.map toLk) = g at *
  induction d with
  | zero =>
    intro k i hi hk
    obtain ⟨k, rfl⟩ : ∃ m, k = m + 1 := ⟨k - 1, by omega⟩
    simp only [remontoirlaw04_ScaleEnds.l0, remontoirlaw04_works.f]
    rw [if_neg (by omega)]
    rfl
  | succ d ih =>
    intro k i hi hk
    obtain ⟨k, rfl⟩ : ∃ m, k = m + 2 := ⟨k - 2, by omega⟩
    have n1 := ih (k + 1) (i + 1) (by omega) (by omega)
    have n0 := ih k (i + 1) (by omega) (by omega)
    have step : ∀ e : Int, rd [(g t).lo, (g t).hi, (g t).lo - 1, (g t).hi + 1] (i : Int) = e → (i < 2 → (g t).lo ≤ e ∧ e ≤ (g t).hi) → (2 ≤ i → ¬ ((g t).lo ≤ e ∧ e ≤ (g t).hi)) →
        remontoirlaw04_ScaleEnds.l0 (k + 2) t [(g t).lo, (g t).hi, (g t).lo - 1, (g t).hi + 1] i F S J L H T st lk = some true := by
      intro e he hlt hge
      simp only [remontoirlaw04_ScaleEnds.l0]
      have hlen : (i : Int) < (([(g t).lo, (g t).hi, (g t).lo - 1, (g t).hi + 1] : List Int).length : Int) := by simp only [List.length_cons, List.length_nil]; omega
      have ha1 : ([] : List S71).length + lk.length < 5864062014805 := by simp only [List.length_nil]; omega
      have ha2 : (([] : List S71) ++ lk).length < 5864062014805 := by simp only [List.nil_append]; omega
      rw [if_pos (by omega), if_pos (by omega), if_pos hlen, he, lies_f, wr (x := (i : Int) + 1) (by omega), show (i : Int) + 1 = ((i + 1 : Nat) : Int) by omega]
      simp only [Option.bind_some, remontoirref00_To.f]
      cases hl : lies e (-20000) 20000
      · rw [if_neg (by decide)]
        have hn := mt lies_iff.2 (by rw [hl]; decide)
        rw [if_neg]
        · exact n1
        · intro h
          have := hlt (by omega)
          omega
      · have hl2 := lies_iff.1 hl
        rw [if_pos rfl, if_pos ha1, if_pos ha2, List.nil_append, hseen e hl2]
        simp only [Option.bind_some]
        have j2 : remontoirlaw04_ScaleEnds.j2 (k + 1) t [(g t).lo, (g t).hi, (g t).lo - 1, (g t).hi + 1] i false F S J L H T st lk = some true := by
          simp only [remontoirlaw04_ScaleEnds.j2]
          rw [if_neg (by decide), wr (x := (i : Int) + 1) (by omega), show (i : Int) + 1 = ((i + 1 : Nat) : Int) by omega]
          exact n0
        by_cases h2 : i < 2
        · rw [if_pos (hlt h2)]
          dsimp only
          rw [if_pos (show (i : Int) < 2 by omega), if_pos rfl]
          simp only [beq_self_eq_true, Bool.not_true, Bool.or_self, Bool.false_eq_true, if_false]
          rw [if_neg (show ¬ (i : Int) ≥ 2 by omega)]
          exact j2
        · rw [if_neg (hge (by omega))]
          dsimp only
          rw [if_neg (show ¬ (i : Int) < 2 by omega), if_pos (show (i : Int) ≥ 2 by omega)]
          exact j2
    have hi4 : i = 0 ∨ i = 1 ∨ i = 2 ∨ i = 3 := by omega
    rcases hi4 with rfl | rfl | rfl | rfl
    · exact step (g t).lo rfl (fun _ => by omega) (fun h => by omega)
    · exact step (g t).hi rfl (fun _ => by omega) (fun h => by omega)
    · exact step ((g t).lo - 1) rfl (fun h => by omega) (fun _ => by omega)
    · exact step ((g t).hi + 1) rfl (fun h => by omega) (fun _ => by omega)
end
theorem scaleEnds_pure (F S J L H T : Int) (st : List Int) (lk : List S71) (n : Int) (wf : W64 F ∧ W64 S ∧ W64 J ∧ W64 L ∧ W64 H ∧ W64 T) (w6 : ∀ z ∈ st, W64 z) (w7 : ∀ z ∈ lk, W64 z.f0 ∧ W64 z.f1.f0 ∧ W64 z.f1.f1) (h6 : st.length ≤ 17592186044416) (h7 : lk.length ≤ 5864062014805) (wn : W64 n) :
    ∃ k, remontoirlaw04_ScaleEnds.f k F S J L H T st lk n = some true := by
  obtain ⟨K, hK⟩ : ∃ K : Nat, K = 500 := ⟨_, rfl⟩
  refine ⟨K + 1, ?_⟩
  unfold remontoirlaw04_ScaleEnds.f
  rw [sound_f h6 (by omega) _ (by omega)]
  simp only [Option.bind_some]
  cases hc : checkB F S J L H T st (lk.map toLk)
  · simp [remontoirlaw04_ScaleEnds.j0, remontoirlaw04_works.f]
  · obtain ⟨c1, c2, c3, c4, c5, c6⟩ := checkB_iff.1 hc
    obtain ⟨hF, hS, hJ, hL⟩ := isRuleB_spec c1
    have hT := lies_iff.1 c2
    have hl10 : lk.length ≤ 10 := by simpa using c5
    obtain ⟨m, rfl⟩ : ∃ m : Nat, T = m := ⟨T.toNat, by omega⟩
    obtain ⟨t0, e1, g1, g2⟩ := Rest_f n ((m : Int) + 1) (by omega) (by omega)
    obtain ⟨t, rfl⟩ : ∃ t : Nat, t0 = t := ⟨t0.toNat, by omega⟩
    have hst : ∀ k, -500 ≤ stAt st k ∧ stAt st k ≤ 500 := by
      intro k
      unfold stAt
      by_cases hk : k < st.length
      · have := (of_keeps st 0 c4).1 st[k] (List.getElem_mem hk)
        rw [List.getElem?_eq_getElem hk]
        simp only [Option.getD_some]
        omega
      · rw [List.getElem?_eq_none (by omega)]
        simp
    have hbd : Bnd 92000 (solF F S J L H m st (lk.map toLk)) := by
      unfold solF
      rw [Int.toNat_natCast]
      exact (roundF_bnd hst hL (by omega) m (by omega) (looksF_bnd m _ c6)).mono (by omega)
    have hb := hbd t
    rw [if_pos rfl]
    simp only [remontoirlaw04_ScaleEnds.j0]
    by_cases h10 : lk.length = 10
    · simp [h10, remontoirlaw04_works.f]
    · rw [show ((lk.length : Int) == 10) = false from beq_eq_false_iff_ne.2 (by omega), if_neg (by decide), wr (x := (m : Int) + 1) (by omega), e1]
      simp only [Option.bind_some]
      rw [err_all h6 (by omega) hc t (lies_iff.2 (by omega)), Int.toNat_natCast, Int.toNat_natCast]
      have fin := fun hok => ends_l0 (F := F) (S := S) (J := J) (L := L) (H := H) h6 (show lk.length ≤ 9 by omega) hc hok (t := t) (by omega) 4 K 0 (by omega) (by omega)
      generalize solF F S J L H m st (lk.map toLk) = g at *
      cases hok : okF m g
      · rfl
      · simp only [if_true, Option.bind_some]
        rw [wr (x := (g t).lo - 1) (by omega), wr (x := (g t).hi + 1) (by omega)]
        exact fin hok
end Go.Proofs.YtidnopmjhhmedaaDoor
end

section
/- The row and the card of ScaleEnds. Written by wip/tools/mkRow.py. -/
set_option linter.unusedVariables false
set_option linter.unusedSimpArgs false
namespace Go.Proofs.YtidnopmjhhmedaaDoor
open Go.ChangeShapes Go.WideShapes Go.ChangeAt Go.RowKit TrydX.X

set_option maxRecDepth 100000 in
theorem scaleEnds_lifted (os : Os) (started : os.Started) (H : Type) (enc : TypeId × Value → H) :
    ReturnsInHanded {} Tryd.checked os 12 .any (fun w args => (Rows.scaleEndsSpec.pre enc Tryd.prog Tryd.f12 [] false w args ∧ laidMetH Tryd.prog laid1 w) ∧ sizedMet enc Tryd.prog Tryd.f12 (OpenSpec.ofChange Rows.scaleEndsSpec) false w args)
      (Rows.scaleEndsSpec.post enc Tryd.prog Tryd.f12 false true false false) := by
  refine returnsInHanded_of_change_and (C := Tryd.checked) (X := fun w _ => laidMetH Tryd.prog laid1 w) (fun _ _ _ hh h => h.of_heap hh) own started (by kernel_rfl) Tryd.func12
    (ChangeSpec.witness_shaped (enc := enc) (C := Tryd.checked) (os := os) (X := fun w _ => laidMetH Tryd.prog laid1 w) false (World.doorLaid Tryd.prog 400 os) #[.agg #[.int .i64 0, .int .i64 0, .int .i64 0, .int .i64 0, .int .i64 0, .int .i64 0, .slice none 0 0, .slice none 0 0], .int .i64 0] 8 rfl (World.shaped_of_RefB (by kernel_rfl) (by kernel_rfl)) (by kernel_rfl) (by kernel_rfl) (by kernel_rfl) (door_met os _)) ?_
  intro W base args ds gs before hval0 hW hcnd hsz0 hL _
  have hsz : (DataW.weightsEach Tryd.prog (Tryd.f12.params.toList ++ Rows.scaleEndsSpec.plain.varTypes Tryd.prog) (ds ++ gs)).all (· ≤ reachBytes) = true := hsz0
  have hval : ∀ (j : Nat) t v, Tryd.f12.params[j]? = some t → args[j]? = some v → Value.okWide Tryd.prog W .any base t v := hval0
  have hW' := hW
  obtain ⟨p, q, hA0, hV, rfl, hfz, hnd⟩ := hW
  have hA : DataW.TrodAll enc Tryd.prog W 0 (fun _ => true) true Tryd.f12.params.toList args.toList ds p := hA0
  rw [Tryd.params12] at hA hval hsz
  obtain ⟨v0, vs0, d0, ds0, p0, q0, hargs, rfl, rfl, h0, r0⟩ := trodAll_cons hA
  obtain ⟨v1, vs1, d1, ds1, p1, q1, rfl, rfl, rfl, h1, r1⟩ := trodAll_cons r0
  obtain ⟨rfl, rfl, rfl⟩ := trodAll_nil r1
  obtain rfl : args = #[v0, v1] := by cases args; simp_all
  obtain ⟨rfl, rfl⟩ := trodVars_none hV
  have lt0 : ∀ x ∈ p0, x.block < W.heap.size := by obtain ⟨m, hm⟩ := h0; exact DataW.trod_lt m _ _ _ hm
  have k0 := h0
  obtain ⟨cs0, rfl, hcs0⟩ := agg_of Tryd.underlying44 (hval 0 44 v0 rfl rfl)
  obtain ⟨m0, hm0⟩ := h0
  rw [hcs0] at hm0
  obtain ⟨a_0, b_0, c_0, d_0, e_0, t_0, A6_0, c6_0, l6_0, A7_0, c7_0, l7_0, hB0, hs0⟩ := op44 hm0
  obtain ⟨z6_0, z7_0⟩ := hs0 (weights_at hsz (j := 0) (t := 44) (d := d0) rfl rfl)
  obtain rfl := hB0.cs
  have lt1 : ∀ x ∈ p1, x.block < W.heap.size := by obtain ⟨m, hm⟩ := h1; exact DataW.trod_lt m _ _ _ hm
  have k1 := h1
  obtain ⟨n_1, rfl, rfl, rfl, wf1⟩ := open_int Tryd.underlying3 (hval 1 3 v1 rfl rfl) h1
  obtain ⟨k, hk⟩ := scaleEnds_pure a_0 b_0 c_0 d_0 e_0 t_0 l6_0 l7_0 n_1 hB0.wf hB0.w6 hB0.w7 z6_0 z7_0 wf1
  clear hA0 hval0 hsz0 hsz
  refine (remontoirlaw04_ScaleEnds.calls k a_0 b_0 c_0 d_0 e_0 t_0 A6_0 c6_0 l6_0 A7_0 c7_0 l7_0 n_1 true W hB0.r6 hB0.h6 hB0.r7 hB0.h7 (ways_of_laid hL) hk).mono fun e W' ⟨he, bel⟩ => ?_
  subst he
  exact ⟨_, rfl, _, _, _, [], _, [], hW', trodAll_mk1 (shut_bool Tryd.underlying4 _), (trodAll_cons_mk (Below.trod laidOut (by kernel_rfl) (of_decide_eq_true (by kernel_rfl)) k0 bel lt0) (trodAll_cons_mk (Below.trod laidOut (by kernel_rfl) (of_decide_eq_true (by kernel_rfl)) k1 bel lt1) trodAll_mk0)), rfl, bel.frame _, fun h => by cases h⟩

theorem scaleEnds_row : Rows.ScaleEndsSaid :=
  OpenClaim.holds_of_wide 12 Tryd.f12 rfl rfl rfl rfl rfl rfl rfl ⟨rfl, rfl, rfl, rfl, rfl⟩ rfl rfl rfl rfl rfl (by kernel_rfl) Tryd.func12 (by kernel_rfl)
    (of_decide_eq_true (by kernel_rfl)) (by unfold Func.isWrapper; first | (rw [if_pos (by decide +kernel)]; kernel_rfl) | (rw [if_neg (by decide +kernel)]; exact ⟨rfl, rfl⟩))
    (fun os started H enc _ => scaleEnds_lifted os started H enc)

/-- THE CARD. -/
theorem scaleEnds_holds : Rows.ScaleEndsCardSaid :=
  Claim7.holds_tied_plain_at .later [] [.funcs] true (true, "42c157d2a2e9e6c40d73358f232322a0bd5e742c3af8e9a8c48de9150ba4d318") false
    scaleEnds_row (fun _ h => by cases h) (by kernel_rfl) (fun _ h => by cases h) scaleEnds_row_tie rfl ⟨rfl, rfl⟩ (by kernel_rfl) rfl
    (fun f fn hf hfn => by
      obtain rfl : f = 12 := Option.some.inj ((show Tryd.prog.funcNamed "remontoir/remontoirlaw04.ScaleEnds" = some 12 by kernel_rfl).symm.trans hf) |>.symm
      obtain rfl : fn = Tryd.f12 := (Option.some.inj (Tryd.func12.symm.trans hfn)).symm
      exact ⟨by kernel_rfl, fun j t ht => by
        rw [Tryd.params12] at ht
        have h3 : t ∈ [(44 : TypeId), (3 : TypeId)] := by
          obtain ⟨hj, e⟩ := Array.getElem?_eq_some_iff.1 ht
          rw [← e]
          exact Array.getElem_mem_toList hj
        simp only [List.mem_cons, List.not_mem_nil, or_false] at h3
        rcases h3 with rfl | rfl
        · exact (show Tryd.prog.wantsStandIn 44 = false by kernel_rfl)
        · exact (show Tryd.prog.wantsStandIn 3 = false by kernel_rfl)⟩)
    (by kernel_rfl)
#print axioms scaleEnds_holds
end Go.Proofs.YtidnopmjhhmedaaDoor
end
