/- PROVED: StarLeftCardSaid, for every input, where the listed variable reads as the program's text lays it. Part 6 of 7: of this session; merged by wip/tools/mkClaim.py. -/
import Derived.Test.YtohbeninpmmmpaaDoorMLeftb
import Derived.Test.YtohbeninpmmmpaaDoorMLeftd
import Derived.Test.YtohbeninpmmmpaaDoorMLefte
section
-- Written by wip/tools/pr.py (a program of this repo over the kit's print.py).
namespace Go.Proofs.TrydX.X
open Go.RowKit Go.Proofs.YtohbeninpmmmpaaDoorW.PrintWords Go.Proofs.YtohbeninpmmmpaaDoorW.PrintLast Go.Proofs.YtohbeninpmmmpaaDoorW.PrintMore
attribute [local go_sem] max2_int min2_int max_two min_two max_three min_three max_four min_four   -- for this text's walks alone
set_option linter.unusedVariables false
set_option linter.unusedSimpArgs false

/-! ### remontoirlaw03_StarLeft: function 13 -/
mutual
def remontoirlaw03_StarLeft.j0 : Nat → Int → List Int → Bool → Int → Int → Int → Int → Int → List (S23) → List (S23) → List (S63) → Option (Bool)
 | 0, _, _, _, _, _, _, _, _, _, _, _ => none
 | k + 1, x1, x5, x63, x611000, x611001, x611002, x611003, x611004, x611005, x611006, x611007 => if x63 = true then (some false) else ((remontoirref00_Rest.f x1 (shl .i64 1 (x611007.length : Int))).bind fun t640 => ((remontoirref00_List.f k t640 (x611007.length : Int)).bind fun t641 => (if (t641.length : Int) > (x5.length : Int) then (remontoirlaw03_StarLeft.j1 k t641 true x611000 x611001 x611002 x611003 x611004 x611005 x611006 x611007) else (if (t641.length : Int) = (x5.length : Int) then ((remontoirref00_Ahead.f k t641 x5).bind fun t644 => (remontoirlaw03_StarLeft.j1 k t641 (!t644) x611000 x611001 x611002 x611003 x611004 x611005 x611006 x611007)) else (remontoirlaw03_StarLeft.j1 k t641 false x611000 x611001 x611002 x611003 x611004 x611005 x611006 x611007)))))
def remontoirlaw03_StarLeft.j1 : Nat → List Int → Bool → Int → Int → Int → Int → Int → List (S23) → List (S23) → List (S63) → Option (Bool)
 | 0, _, _, _, _, _, _, _, _, _, _ => none
 | k + 1, x11, x91, x611000, x611001, x611002, x611003, x611004, x611005, x611006, x611007 => if x91 = true then ((remontoirlaw03_works.f).bind fun t645 => (some t645)) else ((remontoirlaw03_without.f k x611000 x611001 x611002 x611003 x611004 x611005 x611006 x611007 x11).bind fun bt646 => ((star_Offset.f bt646.1 bt646.2.1 bt646.2.2.1 bt646.2.2.2.1 bt646.2.2.2.2.1 bt646.2.2.2.2.2.1 bt646.2.2.2.2.2.2.1 bt646.2.2.2.2.2.2.2 0).bind fun bt660 => (if bt660.2.2 = 32 then ((remontoirlaw03_works.f).bind fun t663 => (some t663)) else (some false))))
end
def remontoirlaw03_StarLeft.f (k : Nat) (a0_0 : Int) (a0_1 : Int) (a0_2 : Int) (a0_3 : Int) (a0_4 : Int) (l0_5 : List (S23)) (l0_6 : List (S23)) (l0_7 : List (S63)) (a1 : Int) : Option (Bool) := (star_Wrong.f a0_0 a0_1 a0_2 a0_3 a0_4 l0_5 l0_6 l0_7).bind fun bt611 => ((remontoirlaw03_sound.f a0_0 a0_1 a0_2 a0_3 a0_4 l0_5 l0_6 l0_7).bind fun t615 => (if t615 = true then ((star_Offset.f a0_0 a0_1 a0_2 a0_3 a0_4 l0_5 l0_6 l0_7 0).bind fun bt617 => ((remontoirlaw03_without.f k a0_0 a0_1 a0_2 a0_3 a0_4 l0_5 l0_6 l0_7 bt611.1).bind fun bt621 => ((star_Offset.f bt621.1 bt621.2.1 bt621.2.2.1 bt621.2.2.2.1 bt621.2.2.2.2.1 bt621.2.2.2.2.2.1 bt621.2.2.2.2.2.2.1 bt621.2.2.2.2.2.2.2 0).bind fun bt635 => (if bt611.2 = 0 then ((remontoirref00_Climbs.f k bt611.1 (l0_7.length : Int)).bind fun t639 => (if t639 = true then (if (((bt611.1.length : Int) == 0) != (bt617.2.2 == 0)) = true then (remontoirlaw03_StarLeft.j0 k a1 bt611.1 true a0_0 a0_1 a0_2 a0_3 a0_4 l0_5 l0_6 l0_7) else (remontoirlaw03_StarLeft.j0 k a1 bt611.1 (bt635.2.2 != 0) a0_0 a0_1 a0_2 a0_3 a0_4 l0_5 l0_6 l0_7)) else (remontoirlaw03_StarLeft.j0 k a1 bt611.1 true a0_0 a0_1 a0_2 a0_3 a0_4 l0_5 l0_6 l0_7))) else (remontoirlaw03_StarLeft.j0 k a1 bt611.1 true a0_0 a0_1 a0_2 a0_3 a0_4 l0_5 l0_6 l0_7))))) else (if bt611.2 = 30 then (if (bt611.1.length : Int) = 0 then ((remontoirlaw03_works.f).bind fun t616 => (some t616)) else (some false)) else (some false))))
def remontoirlaw03_StarLeft.T8 : Bool × List (List Nat × List Nat) := (true, [([], []), ([], []), ([1], [1]), ([2], [2]), ([3], [3]), ([0, 4], [0, 4]), ([], []), ([6], [6]), ([7], [7]), ([5, 8, 5], [5, 8]), ([9, 9, 0, 1, 2, 3, 4, 5, 6, 7, 8, 9], [9])])
def remontoirlaw03_StarLeft.B8 : List Nat := [0, 0, 2, 6, 14, 31, 0, 64, 192, 511, 1023]
theorem remontoirlaw03_StarLeft.tab8 : rtab .any (opsOf Tryd.f13 8) = remontoirlaw03_StarLeft.T8 := by kernel_rfl
theorem remontoirlaw03_StarLeft.bits8 : waitsOk remontoirlaw03_StarLeft.T8.2 remontoirlaw03_StarLeft.B8 = true := by kernel_rfl
set_option maxHeartbeats 8000000 in
set_option maxRecDepth 100000 in
theorem remontoirlaw03_StarLeft.calls (k : Nat) (a0_0 : Int) (a0_1 : Int) (a0_2 : Int) (a0_3 : Int) (a0_4 : Int) (A0_5 : Option Addr) (c0_5 : Nat) (l0_5 : List (S23)) (A0_6 : Option Addr) (c0_6 : Nat) (l0_6 : List (S23)) (A0_7 : Option Addr) (c0_7 : Nat) (l0_7 : List (S63)) (a1 : Int) (r : Bool) (w : World) (hr0_5 : Kd.C k23 w A0_5 l0_5.length l0_5) (hc0_5 : l0_5.length ≤ c0_5) (hr0_6 : Kd.C k23 w A0_6 l0_6.length l0_6) (hc0_6 : l0_6.length ≤ c0_6) (hr0_7 : Kd.C k63 w A0_7 l0_7.length l0_7) (hc0_7 : l0_7.length ≤ c0_7) (hWays : Go.Proofs.YtohbeninpmmmpaaDoor.Ways w) (h : remontoirlaw03_StarLeft.f k a0_0 a0_1 a0_2 a0_3 a0_4 l0_5 l0_6 l0_7 a1 = some r) :
  Calls Tryd.prog 13 #[.agg #[.int .i64 a0_0, .int .i64 a0_1, .int .i64 a0_2, .int .i64 a0_3, .int .i64 a0_4, .slice A0_5 l0_5.length c0_5, .slice A0_6 l0_6.length c0_6, .slice A0_7 l0_7.length c0_7], .int .i64 a1] w fun e w' => e = .returned (.bool r) ∧ Below w.heap.size w w' := by
 have hu27 := Tryd.underlying27
 have hu23 := Tryd.underlying23
 have HR0_5 := Aside0.mk hr0_5
 have HC0_5 := Aside0.mk hc0_5
 clear hr0_5 hc0_5
 have HR0_6 := Aside0.mk hr0_6
 have HC0_6 := Aside0.mk hc0_6
 clear hr0_6 hc0_6
 have HR0_7 := Aside0.mk hr0_7
 have HC0_7 := Aside0.mk hc0_7
 clear hr0_7 hc0_7
 have HB := Aside0.mk (Below.refl w.heap.size w)
 have HWays := Aside0.mk hWays
 clear hWays
 have H : ((star_Wrong.f a0_0 a0_1 a0_2 a0_3 a0_4 l0_5 l0_6 l0_7).bind fun bt611 => ((remontoirlaw03_sound.f a0_0 a0_1 a0_2 a0_3 a0_4 l0_5 l0_6 l0_7).bind fun t615 => (if t615 = true then ((star_Offset.f a0_0 a0_1 a0_2 a0_3 a0_4 l0_5 l0_6 l0_7 0).bind fun bt617 => ((remontoirlaw03_without.f k a0_0 a0_1 a0_2 a0_3 a0_4 l0_5 l0_6 l0_7 bt611.1).bind fun bt621 => ((star_Offset.f bt621.1 bt621.2.1 bt621.2.2.1 bt621.2.2.2.1 bt621.2.2.2.2.1 bt621.2.2.2.2.2.1 bt621.2.2.2.2.2.2.1 bt621.2.2.2.2.2.2.2 0).bind fun bt635 => (if bt611.2 = 0 then ((remontoirref00_Climbs.f k bt611.1 (l0_7.length : Int)).bind fun t639 => (if t639 = true then (if (((bt611.1.length : Int) == 0) != (bt617.2.2 == 0)) = true then (remontoirlaw03_StarLeft.j0 k a1 bt611.1 true a0_0 a0_1 a0_2 a0_3 a0_4 l0_5 l0_6 l0_7) else (remontoirlaw03_StarLeft.j0 k a1 bt611.1 (bt635.2.2 != 0) a0_0 a0_1 a0_2 a0_3 a0_4 l0_5 l0_6 l0_7)) else (remontoirlaw03_StarLeft.j0 k a1 bt611.1 true a0_0 a0_1 a0_2 a0_3 a0_4 l0_5 l0_6 l0_7))) else (remontoirlaw03_StarLeft.j0 k a1 bt611.1 true a0_0 a0_1 a0_2 a0_3 a0_4 l0_5 l0_6 l0_7))))) else (if bt611.2 = 30 then (if (bt611.1.length : Int) = 0 then ((remontoirlaw03_works.f).bind fun t616 => (some t616)) else (some false)) else (some false))))) = some r := h
 clear h
 replace H := Option.bind_eq_some_iff.mp H
 obtain ⟨⟨t611, t614⟩, A30, H⟩ := H
 replace H : ((remontoirlaw03_sound.f a0_0 a0_1 a0_2 a0_3 a0_4 l0_5 l0_6 l0_7).bind fun t615 => (if t615 = true then ((star_Offset.f a0_0 a0_1 a0_2 a0_3 a0_4 l0_5 l0_6 l0_7 0).bind fun bt617 => ((remontoirlaw03_without.f k a0_0 a0_1 a0_2 a0_3 a0_4 l0_5 l0_6 l0_7 t611).bind fun bt621 => ((star_Offset.f bt621.1 bt621.2.1 bt621.2.2.1 bt621.2.2.2.1 bt621.2.2.2.2.1 bt621.2.2.2.2.2.1 bt621.2.2.2.2.2.2.1 bt621.2.2.2.2.2.2.2 0).bind fun bt635 => (if t614 = 0 then ((remontoirref00_Climbs.f k t611 (l0_7.length : Int)).bind fun t639 => (if t639 = true then (if (((t611.length : Int) == 0) != (bt617.2.2 == 0)) = true then (remontoirlaw03_StarLeft.j0 k a1 t611 true a0_0 a0_1 a0_2 a0_3 a0_4 l0_5 l0_6 l0_7) else (remontoirlaw03_StarLeft.j0 k a1 t611 (bt635.2.2 != 0) a0_0 a0_1 a0_2 a0_3 a0_4 l0_5 l0_6 l0_7)) else (remontoirlaw03_StarLeft.j0 k a1 t611 true a0_0 a0_1 a0_2 a0_3 a0_4 l0_5 l0_6 l0_7))) else (remontoirlaw03_StarLeft.j0 k a1 t611 true a0_0 a0_1 a0_2 a0_3 a0_4 l0_5 l0_6 l0_7))))) else (if t614 = 30 then (if (t611.length : Int) = 0 then ((remontoirlaw03_works.f).bind fun t616 => (some t616)) else (some false)) else (some false)))) = some r := H
 have A3 := Aside0.mk A30
 clear A30
 replace H := Option.bind_eq_some_iff.mp H
 obtain ⟨t615, A40, H⟩ := H
 replace H : (if t615 = true then ((star_Offset.f a0_0 a0_1 a0_2 a0_3 a0_4 l0_5 l0_6 l0_7 0).bind fun bt617 => ((remontoirlaw03_without.f k a0_0 a0_1 a0_2 a0_3 a0_4 l0_5 l0_6 l0_7 t611).bind fun bt621 => ((star_Offset.f bt621.1 bt621.2.1 bt621.2.2.1 bt621.2.2.2.1 bt621.2.2.2.2.1 bt621.2.2.2.2.2.1 bt621.2.2.2.2.2.2.1 bt621.2.2.2.2.2.2.2 0).bind fun bt635 => (if t614 = 0 then ((remontoirref00_Climbs.f k t611 (l0_7.length : Int)).bind fun t639 => (if t639 = true then (if (((t611.length : Int) == 0) != (bt617.2.2 == 0)) = true then (remontoirlaw03_StarLeft.j0 k a1 t611 true a0_0 a0_1 a0_2 a0_3 a0_4 l0_5 l0_6 l0_7) else (remontoirlaw03_StarLeft.j0 k a1 t611 (bt635.2.2 != 0) a0_0 a0_1 a0_2 a0_3 a0_4 l0_5 l0_6 l0_7)) else (remontoirlaw03_StarLeft.j0 k a1 t611 true a0_0 a0_1 a0_2 a0_3 a0_4 l0_5 l0_6 l0_7))) else (remontoirlaw03_StarLeft.j0 k a1 t611 true a0_0 a0_1 a0_2 a0_3 a0_4 l0_5 l0_6 l0_7))))) else (if t614 = 30 then (if (t611.length : Int) = 0 then ((remontoirlaw03_works.f).bind fun t616 => (some t616)) else (some false)) else (some false))) = some r := H
 have A4 := Aside0.mk A40
 clear A40
 by_cases c5 : t615 = true
 ·
  subst c5
  have H1 : ((star_Offset.f a0_0 a0_1 a0_2 a0_3 a0_4 l0_5 l0_6 l0_7 0).bind fun bt617 => ((remontoirlaw03_without.f k a0_0 a0_1 a0_2 a0_3 a0_4 l0_5 l0_6 l0_7 t611).bind fun bt621 => ((star_Offset.f bt621.1 bt621.2.1 bt621.2.2.1 bt621.2.2.2.1 bt621.2.2.2.2.1 bt621.2.2.2.2.2.1 bt621.2.2.2.2.2.2.1 bt621.2.2.2.2.2.2.2 0).bind fun bt635 => (if t614 = 0 then ((remontoirref00_Climbs.f k t611 (l0_7.length : Int)).bind fun t639 => (if t639 = true then (if (((t611.length : Int) == 0) != (bt617.2.2 == 0)) = true then (remontoirlaw03_StarLeft.j0 k a1 t611 true a0_0 a0_1 a0_2 a0_3 a0_4 l0_5 l0_6 l0_7) else (remontoirlaw03_StarLeft.j0 k a1 t611 (bt635.2.2 != 0) a0_0 a0_1 a0_2 a0_3 a0_4 l0_5 l0_6 l0_7)) else (remontoirlaw03_StarLeft.j0 k a1 t611 true a0_0 a0_1 a0_2 a0_3 a0_4 l0_5 l0_6 l0_7))) else (remontoirlaw03_StarLeft.j0 k a1 t611 true a0_0 a0_1 a0_2 a0_3 a0_4 l0_5 l0_6 l0_7))))) = some r := by rw [if_pos rfl] at H; exact H
  clear H
  have H := H1
  clear H1
  replace H := Option.bind_eq_some_iff.mp H
  obtain ⟨⟨t617, t618, t619⟩, A60, H⟩ := H
  replace H : ((remontoirlaw03_without.f k a0_0 a0_1 a0_2 a0_3 a0_4 l0_5 l0_6 l0_7 t611).bind fun bt621 => ((star_Offset.f bt621.1 bt621.2.1 bt621.2.2.1 bt621.2.2.2.1 bt621.2.2.2.2.1 bt621.2.2.2.2.2.1 bt621.2.2.2.2.2.2.1 bt621.2.2.2.2.2.2.2 0).bind fun bt635 => (if t614 = 0 then ((remontoirref00_Climbs.f k t611 (l0_7.length : Int)).bind fun t639 => (if t639 = true then (if (((t611.length : Int) == 0) != (t619 == 0)) = true then (remontoirlaw03_StarLeft.j0 k a1 t611 true a0_0 a0_1 a0_2 a0_3 a0_4 l0_5 l0_6 l0_7) else (remontoirlaw03_StarLeft.j0 k a1 t611 (bt635.2.2 != 0) a0_0 a0_1 a0_2 a0_3 a0_4 l0_5 l0_6 l0_7)) else (remontoirlaw03_StarLeft.j0 k a1 t611 true a0_0 a0_1 a0_2 a0_3 a0_4 l0_5 l0_6 l0_7))) else (remontoirlaw03_StarLeft.j0 k a1 t611 true a0_0 a0_1 a0_2 a0_3 a0_4 l0_5 l0_6 l0_7)))) = some r := H
  have A6 := Aside0.mk A60
  clear A60
  replace H := Option.bind_eq_some_iff.mp H
  obtain ⟨⟨t621, t622, t623, t624, t625, t626, t629, t632⟩, A70, H⟩ := H
  replace H : ((star_Offset.f t621 t622 t623 t624 t625 t626 t629 t632 0).bind fun bt635 => (if t614 = 0 then ((remontoirref00_Climbs.f k t611 (l0_7.length : Int)).bind fun t639 => (if t639 = true then (if (((t611.length : Int) == 0) != (t619 == 0)) = true then (remontoirlaw03_StarLeft.j0 k a1 t611 true a0_0 a0_1 a0_2 a0_3 a0_4 l0_5 l0_6 l0_7) else (remontoirlaw03_StarLeft.j0 k a1 t611 (bt635.2.2 != 0) a0_0 a0_1 a0_2 a0_3 a0_4 l0_5 l0_6 l0_7)) else (remontoirlaw03_StarLeft.j0 k a1 t611 true a0_0 a0_1 a0_2 a0_3 a0_4 l0_5 l0_6 l0_7))) else (remontoirlaw03_StarLeft.j0 k a1 t611 true a0_0 a0_1 a0_2 a0_3 a0_4 l0_5 l0_6 l0_7))) = some r := H
  have A7 := Aside0.mk A70
  clear A70
  replace H := Option.bind_eq_some_iff.mp H
  obtain ⟨⟨t635, t636, t637⟩, A80, H⟩ := H
  replace H : (if t614 = 0 then ((remontoirref00_Climbs.f k t611 (l0_7.length : Int)).bind fun t639 => (if t639 = true then (if (((t611.length : Int) == 0) != (t619 == 0)) = true then (remontoirlaw03_StarLeft.j0 k a1 t611 true a0_0 a0_1 a0_2 a0_3 a0_4 l0_5 l0_6 l0_7) else (remontoirlaw03_StarLeft.j0 k a1 t611 (t637 != 0) a0_0 a0_1 a0_2 a0_3 a0_4 l0_5 l0_6 l0_7)) else (remontoirlaw03_StarLeft.j0 k a1 t611 true a0_0 a0_1 a0_2 a0_3 a0_4 l0_5 l0_6 l0_7))) else (remontoirlaw03_StarLeft.j0 k a1 t611 true a0_0 a0_1 a0_2 a0_3 a0_4 l0_5 l0_6 l0_7)) = some r := H
  have A8 := Aside0.mk A80
  clear A80
  have HC9 := Aside0.mk H
  clear H
  go_enter Tryd.func13, Tryd.ntmps13
  go_upto_region 6 with (first | ((with_reducible refine gate_dst (N := 2) rfl ?_); (try (refine gate_guard (by rfl) ?_; dsimp only)); refine box_event ?hg (N := 2) ?hd (cs := #[.int .i64 a0_0, .int .i64 a0_1, .int .i64 a0_2, .int .i64 a0_3, .int .i64 a0_4, .slice A0_5 l0_5.length c0_5, .slice A0_6 l0_6.length c0_6, .slice A0_7 l0_7.length c0_7]) (t := 27) ?hr ?_; (case hd => rfl); (case hg => rfl); (case hr => first | (go_simp; done) | (go_simp; rfl)); intro gb610 hg w10 hbox hb; have BK610 := Aside0.mk (hbox); have GW610 := geB hg (bl HB); have GE610 := geB hg (bl HB); replace HB := Aside0.mk (below_step (bl HB) hb); clear hb hbox hg; have hcz11_0 : w10.cell? ⟨gb610, 0, none⟩ = some (.int .i64 a0_0) := bc BK610 0; have hcz11_1 : w10.cell? ⟨gb610, 1, none⟩ = some (.int .i64 a0_1) := bc BK610 1; have hcz11_2 : w10.cell? ⟨gb610, 2, none⟩ = some (.int .i64 a0_2) := bc BK610 2; have hcz11_3 : w10.cell? ⟨gb610, 3, none⟩ = some (.int .i64 a0_3) := bc BK610 3; have hcz11_4 : w10.cell? ⟨gb610, 4, none⟩ = some (.int .i64 a0_4) := bc BK610 4; have hcz11_5 : w10.cell? ⟨gb610, 5, none⟩ = some (.slice A0_5 l0_5.length c0_5) := bc BK610 5; have hcz11_6 : w10.cell? ⟨gb610, 6, none⟩ = some (.slice A0_6 l0_6.length c0_6) := bc BK610 6; have hcz11_7 : w10.cell? ⟨gb610, 7, none⟩ = some (.slice A0_7 l0_7.length c0_7) := bc BK610 7; have hfz11_0 := blk_frozen BK610.out 0; have hfz11_1 := blk_frozen BK610.out 1; have hfz11_2 := blk_frozen BK610.out 2; have hfz11_3 := blk_frozen BK610.out 3; have hfz11_4 := blk_frozen BK610.out 4; have hfz11_5 := blk_frozen BK610.out 5; have hfz11_6 := blk_frozen BK610.out 6; have hfz11_7 := blk_frozen BK610.out 7) | ((with_reducible refine gate_callee (f := 31) rfl ?_); refine goesL_ (some 14) rfl rfl Tryd.func31 (by kernel_rfl) rfl #[.agg #[.int .i64 a0_0, .int .i64 a0_1, .int .i64 a0_2, .int .i64 a0_3, .int .i64 a0_4, .slice A0_5 l0_5.length c0_5, .slice A0_6 l0_6.length c0_6, .slice A0_7 l0_7.length c0_7]] rfl (by (try simp only [List.map_toArray, List.map_cons, List.map_nil]); first | done | rfl | (simp only [List.length_drop, List.length_take]; rfl)) ?_; (with_reducible refine (star_Wrong.calls a0_0 a0_1 a0_2 a0_3 a0_4 _ _ l0_5 _ _ l0_6 _ _ l0_7 t611 t614 _ ?side1 ?side2 ?side3 ?side4 ?side5 ?side6 ?side7 A3.out).mono ?_); (case side1 => repeat (first | exact (Kd.C_below HR0_5.out HB.out) | (with_reducible refine Kd.C_alloc ?_ _) | (with_reducible refine Kd.C_drewN ?_ _) | (with_reducible refine Kd.C_drew ?_))); (case side2 => exact HC0_5.out); (case side3 => repeat (first | exact (Kd.C_below HR0_6.out HB.out) | (with_reducible refine Kd.C_alloc ?_ _) | (with_reducible refine Kd.C_drewN ?_ _) | (with_reducible refine Kd.C_drew ?_))); (case side4 => exact HC0_6.out); (case side5 => repeat (first | exact (Kd.C_below HR0_7.out HB.out) | (with_reducible refine Kd.C_alloc ?_ _) | (with_reducible refine Kd.C_drewN ?_ _) | (with_reducible refine Kd.C_drew ?_))); (case side6 => exact HC0_7.out); (case side7 => exact Go.Proofs.YtohbeninpmmmpaaDoor.Ways.below HWays.out (bl HB)); rintro e w12 ⟨v612, rfl, ho0, hb⟩; refine ⟨_, rfl, ?_⟩; have HO613 := Aside0.mk (Kd.V_lower (Kd.V_mono (ok' := fun k_ => k_ ≠ gb610) ho0 (fun k_ hk_ => (Kd.freshB (g := gb610) (o := .cells #[.int .i64 a0_0, .int .i64 a0_1, .int .i64 a0_2, .int .i64 a0_3, .int .i64 a0_4, .slice A0_5 l0_5.length c0_5, .slice A0_6 l0_6.length c0_6, .slice A0_7 l0_7.length c0_7] 27 (0, 0)) (bk BK610) k_ hk_))) (below_size (bl HB))); replace BK610 := Aside0.mk (blk_below (bk BK610) hb); replace HB := Aside0.mk (below_step (bl HB) hb); (try clear hb); (try clear hb2); (try clear hk); (try clear hi); (try clear ho0); have hcz13_0 : w12.cell? ⟨gb610, 0, none⟩ = some (.int .i64 a0_0) := bc BK610 0; have hcz13_1 : w12.cell? ⟨gb610, 1, none⟩ = some (.int .i64 a0_1) := bc BK610 1; have hcz13_2 : w12.cell? ⟨gb610, 2, none⟩ = some (.int .i64 a0_2) := bc BK610 2; have hcz13_3 : w12.cell? ⟨gb610, 3, none⟩ = some (.int .i64 a0_3) := bc BK610 3; have hcz13_4 : w12.cell? ⟨gb610, 4, none⟩ = some (.int .i64 a0_4) := bc BK610 4; have hcz13_5 : w12.cell? ⟨gb610, 5, none⟩ = some (.slice A0_5 l0_5.length c0_5) := bc BK610 5; have hcz13_6 : w12.cell? ⟨gb610, 6, none⟩ = some (.slice A0_6 l0_6.length c0_6) := bc BK610 6; have hcz13_7 : w12.cell? ⟨gb610, 7, none⟩ = some (.slice A0_7 l0_7.length c0_7) := bc BK610 7; have hfz13_0 := blk_frozen BK610.out 0; have hfz13_1 := blk_frozen BK610.out 1; have hfz13_2 := blk_frozen BK610.out 2; have hfz13_3 := blk_frozen BK610.out 3; have hfz13_4 := blk_frozen BK610.out 4; have hfz13_5 := blk_frozen BK610.out 5; have hfz13_6 := blk_frozen BK610.out 6; have hfz13_7 := blk_frozen BK610.out 7) | ((with_reducible refine gate_callee (f := 38) rfl ?_); refine goesL_ (some 18) rfl rfl Tryd.func38 (by kernel_rfl) rfl #[.agg #[.int .i64 a0_0, .int .i64 a0_1, .int .i64 a0_2, .int .i64 a0_3, .int .i64 a0_4, .slice A0_5 l0_5.length c0_5, .slice A0_6 l0_6.length c0_6, .slice A0_7 l0_7.length c0_7]] rfl (by (try simp only [List.map_toArray, List.map_cons, List.map_nil]); first | done | rfl | (simp only [List.length_drop, List.length_take]; rfl)) ?_; (with_reducible refine (remontoirlaw03_sound.calls a0_0 a0_1 a0_2 a0_3 a0_4 _ _ l0_5 _ _ l0_6 _ _ l0_7 true _ ?side1 ?side2 ?side3 ?side4 ?side5 ?side6 ?side7 A4.out).mono ?_); (case side1 => repeat (first | exact (Kd.C_below HR0_5.out HB.out) | (with_reducible refine Kd.C_alloc ?_ _) | (with_reducible refine Kd.C_drewN ?_ _) | (with_reducible refine Kd.C_drew ?_))); (case side2 => exact HC0_5.out); (case side3 => repeat (first | exact (Kd.C_below HR0_6.out HB.out) | (with_reducible refine Kd.C_alloc ?_ _) | (with_reducible refine Kd.C_drewN ?_ _) | (with_reducible refine Kd.C_drew ?_))); (case side4 => exact HC0_6.out); (case side5 => repeat (first | exact (Kd.C_below HR0_7.out HB.out) | (with_reducible refine Kd.C_alloc ?_ _) | (with_reducible refine Kd.C_drewN ?_ _) | (with_reducible refine Kd.C_drew ?_))); (case side6 => exact HC0_7.out); (case side7 => exact Go.Proofs.YtohbeninpmmmpaaDoor.Ways.below HWays.out (bl HB)); rintro e w14 ⟨rfl, hb⟩; refine ⟨_, rfl, ?_⟩; replace HO613 := Aside0.mk (Kd.V_below (by (with_reducible repeat (first | apply Kd.V_alloc | apply Kd.V_drewN | apply Kd.V_drew)); exact HO613.out) hb); replace BK610 := Aside0.mk (blk_below (bk BK610) hb); replace HB := Aside0.mk (below_step (bl HB) hb); (try clear hb); (try clear hb2); (try clear hk); (try clear hi); have hcz15_0 : w14.cell? ⟨gb610, 0, none⟩ = some (.int .i64 a0_0) := bc BK610 0; have hcz15_1 : w14.cell? ⟨gb610, 1, none⟩ = some (.int .i64 a0_1) := bc BK610 1; have hcz15_2 : w14.cell? ⟨gb610, 2, none⟩ = some (.int .i64 a0_2) := bc BK610 2; have hcz15_3 : w14.cell? ⟨gb610, 3, none⟩ = some (.int .i64 a0_3) := bc BK610 3; have hcz15_4 : w14.cell? ⟨gb610, 4, none⟩ = some (.int .i64 a0_4) := bc BK610 4; have hcz15_5 : w14.cell? ⟨gb610, 5, none⟩ = some (.slice A0_5 l0_5.length c0_5) := bc BK610 5; have hcz15_6 : w14.cell? ⟨gb610, 6, none⟩ = some (.slice A0_6 l0_6.length c0_6) := bc BK610 6; have hcz15_7 : w14.cell? ⟨gb610, 7, none⟩ = some (.slice A0_7 l0_7.length c0_7) := bc BK610 7; have hfz15_0 := blk_frozen BK610.out 0; have hfz15_1 := blk_frozen BK610.out 1; have hfz15_2 := blk_frozen BK610.out 2; have hfz15_3 := blk_frozen BK610.out 3; have hfz15_4 := blk_frozen BK610.out 4; have hfz15_5 := blk_frozen BK610.out 5; have hfz15_6 := blk_frozen BK610.out 6; have hfz15_7 := blk_frozen BK610.out 7) | ((with_reducible refine gate_callee (f := 24) rfl ?_); refine goesL_ (some 32) rfl rfl Tryd.func24 (by kernel_rfl) rfl #[.agg #[.int .i64 a0_0, .int .i64 a0_1, .int .i64 a0_2, .int .i64 a0_3, .int .i64 a0_4, .slice A0_5 l0_5.length c0_5, .slice A0_6 l0_6.length c0_6, .slice A0_7 l0_7.length c0_7], .int .i64 0] rfl (by (try simp only [List.map_toArray, List.map_cons, List.map_nil]); first | done | rfl | (simp only [List.length_drop, List.length_take]; rfl)) ?_; (with_reducible refine (star_Offset.calls a0_0 a0_1 a0_2 a0_3 a0_4 _ _ l0_5 _ _ l0_6 _ _ l0_7 0 t617 t618 t619 _ ?side1 ?side2 ?side3 ?side4 ?side5 ?side6 ?side7 A6.out).mono ?_); (case side1 => repeat (first | exact (Kd.C_below HR0_5.out HB.out) | (with_reducible refine Kd.C_alloc ?_ _) | (with_reducible refine Kd.C_drewN ?_ _) | (with_reducible refine Kd.C_drew ?_))); (case side2 => exact HC0_5.out); (case side3 => repeat (first | exact (Kd.C_below HR0_6.out HB.out) | (with_reducible refine Kd.C_alloc ?_ _) | (with_reducible refine Kd.C_drewN ?_ _) | (with_reducible refine Kd.C_drew ?_))); (case side4 => exact HC0_6.out); (case side5 => repeat (first | exact (Kd.C_below HR0_7.out HB.out) | (with_reducible refine Kd.C_alloc ?_ _) | (with_reducible refine Kd.C_drewN ?_ _) | (with_reducible refine Kd.C_drew ?_))); (case side6 => exact HC0_7.out); (case side7 => exact Go.Proofs.YtohbeninpmmmpaaDoor.Ways.below HWays.out (bl HB)); rintro e w16 ⟨rfl, hb⟩; refine ⟨_, rfl, ?_⟩; replace HO613 := Aside0.mk (Kd.V_below (by (with_reducible repeat (first | apply Kd.V_alloc | apply Kd.V_drewN | apply Kd.V_drew)); exact HO613.out) hb); replace BK610 := Aside0.mk (blk_below (bk BK610) hb); replace HB := Aside0.mk (below_step (bl HB) hb); (try clear hb); (try clear hb2); (try clear hk); (try clear hi)) | ((with_reducible refine gate_dst (N := 7) rfl ?_); (try (refine gate_guard (by rfl) ?_; dsimp only)); refine box_event ?hg (N := 7) ?hd (cs := #[.int .i64 0, .int .i64 0]) (t := 23) ?hr ?_; (case hd => rfl); (case hg => rfl); (case hr => first | (go_simp; done) | (go_simp; rfl)); intro gb620 hg w17 hbox hb; replace HO613 := Aside0.mk (Kd.V_below (Kd.V_elderB (by (with_reducible repeat (first | apply Kd.V_alloc | apply Kd.V_drewN | apply Kd.V_drew)); exact HO613.out) gb620 (Nat.le_of_eq hg.symm)) hb); have BK620 := Aside0.mk (hbox); have GW620 := geB hg (bl HB); have GE620 := geB hg (bl HB); replace HB := Aside0.mk (below_step (bl HB) hb); have NB610_620 := nlt hg (bk BK610); have NB620_610 := ngt hg (bk BK610); replace BK610 := Aside0.mk (blk_below (bk BK610) hb); clear hb hbox hg; have hnb18 := NB620_610.out; have hnc18 := NB610_620.out; have hcz19_0 : w17.cell? ⟨gb620, 0, none⟩ = some (.int .i64 0) := bc BK620 0; have hcz19_1 : w17.cell? ⟨gb620, 1, none⟩ = some (.int .i64 0) := bc BK620 1; have hfz19_0 := blk_frozen BK620.out 0; have hfz19_1 := blk_frozen BK620.out 1) | ((with_reducible refine gate_store (t := 23) (p := 7) rfl ?_); refine store_event (t := 23) (p := 7) (v := ?vo_w20) (w1 := ((w17.setCell ⟨gb620, 0, none⟩ (.int .i64 t617)).setCell ⟨gb620, 1, none⟩ (.int .i64 t618))) ?hg ?ho ?hn ?hr ?_; (case ho => rfl); (case hg => rfl); (case hn => rfl); (case hr => first | (go_simp; done) | (go_simp; rfl)); intro w20 hw; have n0_ : Aside0 (Kd.V (Kd.int .i64) 3 w20 w.heap.size (fun k_ => k_ ≠ gb610 ∧ k_ ≠ gb620) v612 t611) := ⟨(by rw [hw]; exact (by (with_reducible repeat (first | apply Kd.V_alloc | apply Kd.V_drewN | apply Kd.V_drew)); exact Kd.V_mono (Kd.V_far (p := ⟨gb620, 1, none⟩) (Kd.V_far (p := ⟨gb620, 0, none⟩) (Kd.V_mono HO613.out (fun k_ hk => (⟨hk, hk.2⟩ : _ ∧ k_ ≠ gb620))) (fun _ hk => hk.2) (.int .i64 t617)) (fun _ hk => hk.2) (.int .i64 t618)) (fun _ hk => ⟨hk.1.1, hk.1.2⟩)))⟩; have n1_ : Aside0 (w20.heap[gb610]? = some (.cells #[.int .i64 a0_0, .int .i64 a0_1, .int .i64 a0_2, .int .i64 a0_3, .int .i64 a0_4, .slice A0_5 l0_5.length c0_5, .slice A0_6 l0_6.length c0_6, .slice A0_7 l0_7.length c0_7] 27 (0, 0))) := ⟨(by rw [hw]; exact (bk BK610))⟩; have n2_ : Aside0 (w20.heap[gb620]? = some (.cells #[.int .i64 t617, .int .i64 t618] 23 (0, 0))) := ⟨(by rw [hw]; exact (by (with_reducible repeat (first | refine blk_drewN ?_ _ | refine blk_drew ?_ | refine blk_alloc ?_ _)); refine blk_put (cs := #[.int .i64 t617, .int .i64 0]) ?_ 1 _ rfl; (with_reducible repeat (first | refine blk_drewN ?_ _ | refine blk_drew ?_ | refine blk_alloc ?_ _)); refine blk_put (cs := #[.int .i64 0, .int .i64 0]) ?_ 0 _ rfl; (with_reducible repeat (first | refine blk_drewN ?_ _ | refine blk_drew ?_ | refine blk_alloc ?_ _)); exact BK620.out))⟩; have n3_ : Aside0 (Below w.heap.size w w20) := ⟨(by rw [hw]; exact (bl HB))⟩; clear hw; clear HO613; clear BK610; clear BK620; clear HB; have HO613 := n0_; have BK610 := n1_; have BK620 := n2_; have HB := n3_; clear n0_ n1_ n2_ n3_; have hcz21_0 : w20.cell? ⟨gb610, 0, none⟩ = some (.int .i64 a0_0) := bc BK610 0; have hcz21_1 : w20.cell? ⟨gb610, 1, none⟩ = some (.int .i64 a0_1) := bc BK610 1; have hcz21_2 : w20.cell? ⟨gb610, 2, none⟩ = some (.int .i64 a0_2) := bc BK610 2; have hcz21_3 : w20.cell? ⟨gb610, 3, none⟩ = some (.int .i64 a0_3) := bc BK610 3; have hcz21_4 : w20.cell? ⟨gb610, 4, none⟩ = some (.int .i64 a0_4) := bc BK610 4; have hcz21_5 : w20.cell? ⟨gb610, 5, none⟩ = some (.slice A0_5 l0_5.length c0_5) := bc BK610 5; have hcz21_6 : w20.cell? ⟨gb610, 6, none⟩ = some (.slice A0_6 l0_6.length c0_6) := bc BK610 6; have hcz21_7 : w20.cell? ⟨gb610, 7, none⟩ = some (.slice A0_7 l0_7.length c0_7) := bc BK610 7; have hfz21_0 := blk_frozen BK610.out 0; have hfz21_1 := blk_frozen BK610.out 1; have hfz21_2 := blk_frozen BK610.out 2; have hfz21_3 := blk_frozen BK610.out 3; have hfz21_4 := blk_frozen BK610.out 4; have hfz21_5 := blk_frozen BK610.out 5; have hfz21_6 := blk_frozen BK610.out 6; have hfz21_7 := blk_frozen BK610.out 7; obtain ⟨Ao22, co22, eo22⟩ := Kd.V_slice HO613.out; subst eo22) | ((with_reducible refine gate_callee (f := 47) rfl ?_); refine goesL_ (some 38) rfl rfl Tryd.func47 (by kernel_rfl) rfl #[.agg #[.int .i64 a0_0, .int .i64 a0_1, .int .i64 a0_2, .int .i64 a0_3, .int .i64 a0_4, .slice A0_5 l0_5.length c0_5, .slice A0_6 l0_6.length c0_6, .slice A0_7 l0_7.length c0_7], .slice Ao22 t611.length co22] rfl (by (try simp only [List.map_toArray, List.map_cons, List.map_nil]); first | done | rfl | (simp only [List.length_drop, List.length_take]; rfl)) ?_; (with_reducible refine (remontoirlaw03_without.calls k a0_0 a0_1 a0_2 a0_3 a0_4 (fun k_ => k_ < w.heap.size) _ _ l0_5 (fun k_ => k_ < w.heap.size) _ _ l0_6 _ _ l0_7 _ _ t611 t621 t622 t623 t624 t625 t626 t629 t632 _ ?side1 ?side2 ?side3 ?side4 ?side5 ?side6 A7.out).mono ?_); (case side1 => exact Kd.V_mk HC0_5.out (Kd.F_below (Kd.C_F k23_heap HR0_5.out) (bl HB))); (case side2 => exact Kd.V_mk HC0_6.out (Kd.F_below (Kd.C_F k23_heap HR0_6.out) (bl HB))); (case side3 => repeat (first | exact (Kd.C_below HR0_7.out HB.out) | (with_reducible refine Kd.C_alloc ?_ _) | (with_reducible refine Kd.C_drewN ?_ _) | (with_reducible refine Kd.C_drew ?_))); (case side4 => exact HC0_7.out); (case side5 => repeat (first | exact (Kd.V_reads' HO613.out).2.2 | (with_reducible refine Kd.C_alloc ?_ _) | (with_reducible refine Kd.C_drewN ?_ _) | (with_reducible refine Kd.C_drew ?_))); (case side6 => exact (Kd.V_reads' HO613.out).2.1); rintro e w23 ⟨v627, v630, v633, rfl, ho0, ho1, ho2, hb⟩; refine ⟨_, rfl, ?_⟩; replace HO613 := Aside0.mk (Kd.V_elder' (by (with_reducible repeat (first | apply Kd.V_alloc | apply Kd.V_drewN | apply Kd.V_drew)); exact HO613.out) (Kd.R_base ho2) hb); have HO628 := Aside0.mk (Kd.V_lower (Kd.V_mono (ok' := fun k_ => some k_ ≠ (v633 : Value).ownBlock ∧ k_ ≠ gb610 ∧ k_ ≠ gb620) ho0 (fun k_ hk_ => ⟨hk_.2, Or.elim hk_.1 (fun hs_ => Or.elim hs_ (fun hs_ => fun e_ => Nat.not_le.2 hs_ (by rw [e_]; exact GW610.out)) (fun hs_ => fun e_ => Nat.not_le.2 hs_ (by rw [e_]; exact GW610.out))) (fun hn_ => (Kd.freshB (g := gb610) (o := .cells #[.int .i64 a0_0, .int .i64 a0_1, .int .i64 a0_2, .int .i64 a0_3, .int .i64 a0_4, .slice A0_5 l0_5.length c0_5, .slice A0_6 l0_6.length c0_6, .slice A0_7 l0_7.length c0_7] 27 (0, 0)) (bk BK610) k_ hn_)), Or.elim hk_.1 (fun hs_ => Or.elim hs_ (fun hs_ => fun e_ => Nat.not_le.2 hs_ (by rw [e_]; exact GW620.out)) (fun hs_ => fun e_ => Nat.not_le.2 hs_ (by rw [e_]; exact GW620.out))) (fun hn_ => (Kd.freshB (g := gb620) (o := .cells #[.int .i64 t617, .int .i64 t618] 23 (0, 0)) (bk BK620) k_ hn_))⟩)) (below_size (bl HB))); have HO631 := Aside0.mk (Kd.V_lower (Kd.V_mono (ok' := fun k_ => some k_ ≠ (v633 : Value).ownBlock ∧ k_ ≠ gb610 ∧ k_ ≠ gb620) ho1 (fun k_ hk_ => ⟨hk_.2, Or.elim hk_.1 (fun hs_ => Or.elim hs_ (fun hs_ => fun e_ => Nat.not_le.2 hs_ (by rw [e_]; exact GW610.out)) (fun hs_ => fun e_ => Nat.not_le.2 hs_ (by rw [e_]; exact GW610.out))) (fun hn_ => (Kd.freshB (g := gb610) (o := .cells #[.int .i64 a0_0, .int .i64 a0_1, .int .i64 a0_2, .int .i64 a0_3, .int .i64 a0_4, .slice A0_5 l0_5.length c0_5, .slice A0_6 l0_6.length c0_6, .slice A0_7 l0_7.length c0_7] 27 (0, 0)) (bk BK610) k_ hn_)), Or.elim hk_.1 (fun hs_ => Or.elim hs_ (fun hs_ => fun e_ => Nat.not_le.2 hs_ (by rw [e_]; exact GW620.out)) (fun hs_ => fun e_ => Nat.not_le.2 hs_ (by rw [e_]; exact GW620.out))) (fun hn_ => (Kd.freshB (g := gb620) (o := .cells #[.int .i64 t617, .int .i64 t618] 23 (0, 0)) (bk BK620) k_ hn_))⟩)) (below_size (bl HB))); have HO634 := Aside0.mk (Kd.R_lower (Kd.R_mono (ok' := fun k_ => True) ho2 (fun _ hk_ => trivial)) (below_size (bl HB))); replace BK610 := Aside0.mk (blk_below (bk BK610) hb); replace BK620 := Aside0.mk (blk_below (bk BK620) hb); replace HB := Aside0.mk (below_step (bl HB) hb); (try clear hb); (try clear hb2); (try clear hk); (try clear hi); (try clear ho0); (try clear ho1); (try clear ho2); obtain ⟨Ao24, co24, eo24⟩ := Kd.V_slice HO628.out; subst eo24; obtain ⟨Ao25, co25, eo25⟩ := Kd.V_slice HO631.out; subst eo25; obtain ⟨Ao26, co26, eo26⟩ := Kd.R_slice HO634.out; subst eo26) | ((with_reducible refine gate_callee (f := 24) rfl ?_); refine goesL_ (some 39) rfl rfl Tryd.func24 (by kernel_rfl) rfl #[.agg #[.int .i64 t621, .int .i64 t622, .int .i64 t623, .int .i64 t624, .int .i64 t625, .slice Ao24 t626.length co24, .slice Ao25 t629.length co25, .slice Ao26 t632.length co26], .int .i64 0] rfl (by (try simp only [List.map_toArray, List.map_cons, List.map_nil]); first | done | rfl | (simp only [List.length_drop, List.length_take]; rfl)) ?_; (with_reducible refine (star_Offset.calls t621 t622 t623 t624 t625 _ _ t626 _ _ t629 _ _ t632 0 t635 t636 t637 _ ?side1 ?side2 ?side3 ?side4 ?side5 ?side6 ?side7 A8.out).mono ?_); (case side1 => repeat (first | exact (Kd.V_reads' HO628.out).2.2 | (with_reducible refine Kd.C_alloc ?_ _) | (with_reducible refine Kd.C_drewN ?_ _) | (with_reducible refine Kd.C_drew ?_))); (case side2 => exact (Kd.V_reads' HO628.out).2.1); (case side3 => repeat (first | exact (Kd.V_reads' HO631.out).2.2 | (with_reducible refine Kd.C_alloc ?_ _) | (with_reducible refine Kd.C_drewN ?_ _) | (with_reducible refine Kd.C_drew ?_))); (case side4 => exact (Kd.V_reads' HO631.out).2.1); (case side5 => repeat (first | exact (Kd.R_reads' HO634.out).2.2 | (with_reducible refine Kd.C_alloc ?_ _) | (with_reducible refine Kd.C_drewN ?_ _) | (with_reducible refine Kd.C_drew ?_))); (case side6 => exact (Kd.R_reads' HO634.out).2.1); (case side7 => exact Go.Proofs.YtohbeninpmmmpaaDoor.Ways.below HWays.out (bl HB)); rintro e w27 ⟨rfl, hb⟩; refine ⟨_, rfl, ?_⟩; replace HO613 := Aside0.mk (Kd.V_below (by (with_reducible repeat (first | apply Kd.V_alloc | apply Kd.V_drewN | apply Kd.V_drew)); exact HO613.out) hb); replace HO628 := Aside0.mk (Kd.V_below (by (with_reducible repeat (first | apply Kd.V_alloc | apply Kd.V_drewN | apply Kd.V_drew)); exact HO628.out) hb); replace HO631 := Aside0.mk (Kd.V_below (by (with_reducible repeat (first | apply Kd.V_alloc | apply Kd.V_drewN | apply Kd.V_drew)); exact HO631.out) hb); replace HO634 := Aside0.mk (Kd.R_below (rk HO634) hb); replace BK610 := Aside0.mk (blk_below (bk BK610) hb); replace BK620 := Aside0.mk (blk_below (bk BK620) hb); replace HB := Aside0.mk (below_step (bl HB) hb); (try clear hb); (try clear hb2); (try clear hk); (try clear hi)) | ((with_reducible refine gate_dst (N := 9) rfl ?_); (try (refine gate_guard (by rfl) ?_; dsimp only)); refine box_event ?hg (N := 9) ?hd (cs := #[.int .i64 0, .int .i64 0]) (t := 23) ?hr ?_; (case hd => rfl); (case hg => rfl); (case hr => first | (go_simp; done) | (go_simp; rfl)); intro gb638 hg w28 hbox hb; replace HO613 := Aside0.mk (Kd.V_below (Kd.V_elderB (by (with_reducible repeat (first | apply Kd.V_alloc | apply Kd.V_drewN | apply Kd.V_drew)); exact HO613.out) gb638 (Nat.le_of_eq hg.symm)) hb); replace HO628 := Aside0.mk (Kd.V_below (Kd.V_elderB (by (with_reducible repeat (first | apply Kd.V_alloc | apply Kd.V_drewN | apply Kd.V_drew)); exact HO628.out) gb638 (Nat.le_of_eq hg.symm)) hb); replace HO631 := Aside0.mk (Kd.V_below (Kd.V_elderB (by (with_reducible repeat (first | apply Kd.V_alloc | apply Kd.V_drewN | apply Kd.V_drew)); exact HO631.out) gb638 (Nat.le_of_eq hg.symm)) hb); replace HO634 := Aside0.mk (Kd.R_below (rk HO634) hb); have BK638 := Aside0.mk (hbox); have GW638 := geB hg (bl HB); have GE638 := geB hg (bl HB); replace HB := Aside0.mk (below_step (bl HB) hb); have NB610_638 := nlt hg (bk BK610); have NB638_610 := ngt hg (bk BK610); replace BK610 := Aside0.mk (blk_below (bk BK610) hb); have NB620_638 := nlt hg (bk BK620); have NB638_620 := ngt hg (bk BK620); replace BK620 := Aside0.mk (blk_below (bk BK620) hb); clear hb hbox hg; have hnb29 := NB638_610.out; have hnc29 := NB610_638.out; have hnb30 := NB638_620.out; have hnc30 := NB620_638.out; have hcz31_0 : w28.cell? ⟨gb638, 0, none⟩ = some (.int .i64 0) := bc BK638 0; have hcz31_1 : w28.cell? ⟨gb638, 1, none⟩ = some (.int .i64 0) := bc BK638 1; have hfz31_0 := blk_frozen BK638.out 0; have hfz31_1 := blk_frozen BK638.out 1))
  (try simp only [Act.put, List.setIfInBounds_toArray, List.set_cons_zero, List.set_cons_succ])
  go_cut [63] (fun v63 wc => ∃ (kq : Nat) (x63_8 : Bool), v63 = .bool x63_8 ∧ Aside0 (remontoirlaw03_StarLeft.j0 kq a1 t611 x63_8 a0_0 a0_1 a0_2 a0_3 a0_4 l0_5 l0_6 l0_7 = some r) ∧ Aside0 (kq ≤ k) ∧ Aside0 (Kd.V (Kd.int .i64) 3 wc w.heap.size (fun k_ => k_ ≠ gb610 ∧ k_ ≠ gb620 ∧ k_ ≠ gb638) (.slice Ao22 t611.length co22) t611) ∧ Aside0 (wc.heap[gb610]? = some (.cells #[.int .i64 a0_0, .int .i64 a0_1, .int .i64 a0_2, .int .i64 a0_3, .int .i64 a0_4, (.slice A0_5 l0_5.length c0_5), (.slice A0_6 l0_6.length c0_6), (.slice A0_7 l0_7.length c0_7)] 27 (0, 0))) ∧ Aside0 (wc.heap[gb620]? = some (.cells #[.int .i64 t617, .int .i64 t618] 23 (0, 0))) ∧ Aside0 (wc.heap[gb638]? = some (.cells #[.int .i64 t635, .int .i64 t636] 23 (0, 0))) ∧ Aside0 (Below w.heap.size w wc))
  case first =>
   have H := HC9.out
   clear HC9
   by_cases c32 : t614 = 0
   ·
    rw [if_pos c32] at H
    have c32b0 : (t614 == 0) = true := beq_iff_eq.mpr c32
    have c32b1 : (t614 != 0) = false := bne_eq_false_iff_eq.mpr c32
    clear c32
    (first | rw [c32b0] | rw [c32b1] | (simp only [i64_w, i32_w]; first | rw [c32b0] | rw [c32b1]) | skip)
    replace H := Option.bind_eq_some_iff.mp H
    obtain ⟨t639, A330, H⟩ := H
    replace H : (if t639 = true then (if (((t611.length : Int) == 0) != (t619 == 0)) = true then (remontoirlaw03_StarLeft.j0 k a1 t611 true a0_0 a0_1 a0_2 a0_3 a0_4 l0_5 l0_6 l0_7) else (remontoirlaw03_StarLeft.j0 k a1 t611 (t637 != 0) a0_0 a0_1 a0_2 a0_3 a0_4 l0_5 l0_6 l0_7)) else (remontoirlaw03_StarLeft.j0 k a1 t611 true a0_0 a0_1 a0_2 a0_3 a0_4 l0_5 l0_6 l0_7)) = some r := H
    have A33 := Aside0.mk A330
    clear A330
    by_cases c34 : t639 = true
    ·
     subst c34
     have H1 : (if (((t611.length : Int) == 0) != (t619 == 0)) = true then (remontoirlaw03_StarLeft.j0 k a1 t611 true a0_0 a0_1 a0_2 a0_3 a0_4 l0_5 l0_6 l0_7) else (remontoirlaw03_StarLeft.j0 k a1 t611 (t637 != 0) a0_0 a0_1 a0_2 a0_3 a0_4 l0_5 l0_6 l0_7)) = some r := by rw [if_pos rfl] at H; exact H
     clear H
     have H := H1
     clear H1
     by_cases c35 : (((t611.length : Int) == 0) != (t619 == 0)) = true
     ·
      rw [if_pos c35] at H
      have c35b0 : (((t611.length : Int) == 0) != (t619 == 0)) = true := c35
      (try (have c35b1 : decide (((t611.length : Int) == 0) = (t619 == 0)) = false := by simpa using c35))
      (try (have c35b2 : (((t611.length : Int) == 0) == (t619 == 0)) = false := by simpa using c35))
      (try (have c35b3 : ¬ (((t611.length : Int) == 0) = (t619 == 0)) := by simpa using c35))
      clear c35
      have H' := Aside0.mk H
      clear H
      have hnb36 := NB610_620.out
      have hnc36 := NB620_610.out
      have hnb37 := NB610_638.out
      have hnc37 := NB638_610.out
      have hcz38_0 : w28.cell? ⟨gb610, 0, none⟩ = some (.int .i64 a0_0) := bc BK610 0
      have hcz38_1 : w28.cell? ⟨gb610, 1, none⟩ = some (.int .i64 a0_1) := bc BK610 1
      have hcz38_2 : w28.cell? ⟨gb610, 2, none⟩ = some (.int .i64 a0_2) := bc BK610 2
      have hcz38_3 : w28.cell? ⟨gb610, 3, none⟩ = some (.int .i64 a0_3) := bc BK610 3
      have hcz38_4 : w28.cell? ⟨gb610, 4, none⟩ = some (.int .i64 a0_4) := bc BK610 4
      have hcz38_5 : w28.cell? ⟨gb610, 5, none⟩ = some (.slice A0_5 l0_5.length c0_5) := bc BK610 5
      have hcz38_6 : w28.cell? ⟨gb610, 6, none⟩ = some (.slice A0_6 l0_6.length c0_6) := bc BK610 6
      have hcz38_7 : w28.cell? ⟨gb610, 7, none⟩ = some (.slice A0_7 l0_7.length c0_7) := bc BK610 7
      have hfz38_0 := blk_frozen BK610.out 0
      have hfz38_1 := blk_frozen BK610.out 1
      have hfz38_2 := blk_frozen BK610.out 2
      have hfz38_3 := blk_frozen BK610.out 3
      have hfz38_4 := blk_frozen BK610.out 4
      have hfz38_5 := blk_frozen BK610.out 5
      have hfz38_6 := blk_frozen BK610.out 6
      have hfz38_7 := blk_frozen BK610.out 7
      go_wp2_with (first | (go_at_call 48; (with_reducible refine (remontoirref00_Climbs.calls k _ _ t611 (l0_7.length : Int) true _ ?side1 ?side2 A33.out).mono ?_); (case side1 => refine (Kd.V_reads' (e := 3) (base := w.heap.size) (ok := fun k_ => (((k_ ≠ gb610 ∧ k_ ≠ gb620) ∧ some k_ ≠ (.slice Ao26 t632.length co26 : Value).ownBlock) ∧ k_ ≠ gb638)) (n := t611.length) (c := co22) ?_).2.2; exact (by (with_reducible repeat (first | apply Kd.V_alloc | apply Kd.V_drewN | apply Kd.V_drew)); exact (Kd.V_mono (Kd.V_far (p := ⟨gb638, 1, none⟩) (Kd.V_far (p := ⟨gb638, 0, none⟩) (Kd.V_mono HO613.out (fun k_ hk => (⟨hk, hk.2⟩ : _ ∧ k_ ≠ gb638))) (fun _ hk => hk.2) (.int .i64 t635)) (fun _ hk => hk.2) (.int .i64 t636)) (fun _ h_ => h_.1)))); (case side2 => exact (Kd.V_reads' HO613.out).2.1); rintro e w' ⟨rfl, ⟨nd, rfl⟩⟩))
      go_meet
      case rel => exact ⟨_, (true), (by first | rfl | (simp; done) | (simp [*]; done)), H', ⟨by first | omega | exact Nat.le_refl _⟩, ⟨by (with_reducible repeat (first | apply Kd.V_alloc | apply Kd.V_drewN | apply Kd.V_drew)); exact Kd.V_mono (Kd.V_far (p := ⟨gb638, 1, none⟩) (Kd.V_far (p := ⟨gb638, 0, none⟩) (Kd.V_mono HO613.out (fun k_ hk => (⟨hk, hk.2⟩ : _ ∧ k_ ≠ gb638))) (fun _ hk => hk.2) (.int .i64 t635)) (fun _ hk => hk.2) (.int .i64 t636)) (fun _ hk => ⟨hk.1.1.1.1, ⟨hk.1.1.1.2, hk.1.2⟩⟩)⟩, ⟨bk BK610⟩, ⟨bk BK620⟩, ⟨by (with_reducible repeat (first | refine blk_drewN ?_ _ | refine blk_drew ?_ | refine blk_alloc ?_ _)); refine blk_put (cs := #[.int .i64 t635, .int .i64 0]) ?_ 1 _ rfl; (with_reducible repeat (first | refine blk_drewN ?_ _ | refine blk_drew ?_ | refine blk_alloc ?_ _)); refine blk_put (cs := #[.int .i64 0, .int .i64 0]) ?_ 0 _ rfl; (with_reducible repeat (first | refine blk_drewN ?_ _ | refine blk_drew ?_ | refine blk_alloc ?_ _)); exact BK638.out⟩, ⟨bl HB⟩⟩
     ·
      rw [if_neg c35] at H
      have c35b0 : (((t611.length : Int) == 0) != (t619 == 0)) = false := by simpa using c35
      (try (have c35b1 : decide (((t611.length : Int) == 0) = (t619 == 0)) = true := by simpa using c35))
      (try (have c35b2 : (((t611.length : Int) == 0) == (t619 == 0)) = true := by simpa using c35))
      clear c35
      have H' := Aside0.mk H
      clear H
      have hnb39 := NB610_620.out
      have hnc39 := NB620_610.out
      have hnb40 := NB610_638.out
      have hnc40 := NB638_610.out
      have hcz41_0 : w28.cell? ⟨gb610, 0, none⟩ = some (.int .i64 a0_0) := bc BK610 0
      have hcz41_1 : w28.cell? ⟨gb610, 1, none⟩ = some (.int .i64 a0_1) := bc BK610 1
      have hcz41_2 : w28.cell? ⟨gb610, 2, none⟩ = some (.int .i64 a0_2) := bc BK610 2
      have hcz41_3 : w28.cell? ⟨gb610, 3, none⟩ = some (.int .i64 a0_3) := bc BK610 3
      have hcz41_4 : w28.cell? ⟨gb610, 4, none⟩ = some (.int .i64 a0_4) := bc BK610 4
      have hcz41_5 : w28.cell? ⟨gb610, 5, none⟩ = some (.slice A0_5 l0_5.length c0_5) := bc BK610 5
      have hcz41_6 : w28.cell? ⟨gb610, 6, none⟩ = some (.slice A0_6 l0_6.length c0_6) := bc BK610 6
      have hcz41_7 : w28.cell? ⟨gb610, 7, none⟩ = some (.slice A0_7 l0_7.length c0_7) := bc BK610 7
      have hfz41_0 := blk_frozen BK610.out 0
      have hfz41_1 := blk_frozen BK610.out 1
      have hfz41_2 := blk_frozen BK610.out 2
      have hfz41_3 := blk_frozen BK610.out 3
      have hfz41_4 := blk_frozen BK610.out 4
      have hfz41_5 := blk_frozen BK610.out 5
      have hfz41_6 := blk_frozen BK610.out 6
      have hfz41_7 := blk_frozen BK610.out 7
      go_wp2_with (first | (go_at_call 48; (with_reducible refine (remontoirref00_Climbs.calls k _ _ t611 (l0_7.length : Int) true _ ?side1 ?side2 A33.out).mono ?_); (case side1 => refine (Kd.V_reads' (e := 3) (base := w.heap.size) (ok := fun k_ => (((k_ ≠ gb610 ∧ k_ ≠ gb620) ∧ some k_ ≠ (.slice Ao26 t632.length co26 : Value).ownBlock) ∧ k_ ≠ gb638)) (n := t611.length) (c := co22) ?_).2.2; exact (by (with_reducible repeat (first | apply Kd.V_alloc | apply Kd.V_drewN | apply Kd.V_drew)); exact (Kd.V_mono (Kd.V_far (p := ⟨gb638, 1, none⟩) (Kd.V_far (p := ⟨gb638, 0, none⟩) (Kd.V_mono HO613.out (fun k_ hk => (⟨hk, hk.2⟩ : _ ∧ k_ ≠ gb638))) (fun _ hk => hk.2) (.int .i64 t635)) (fun _ hk => hk.2) (.int .i64 t636)) (fun _ h_ => h_.1)))); (case side2 => exact (Kd.V_reads' HO613.out).2.1); rintro e w' ⟨rfl, ⟨nd, rfl⟩⟩))
      go_meet
      case rel => exact ⟨_, ((t637 != 0)), (by first | rfl | (simp; done) | (simp [*]; done)), H', ⟨by first | omega | exact Nat.le_refl _⟩, ⟨by (with_reducible repeat (first | apply Kd.V_alloc | apply Kd.V_drewN | apply Kd.V_drew)); exact Kd.V_mono (Kd.V_far (p := ⟨gb638, 1, none⟩) (Kd.V_far (p := ⟨gb638, 0, none⟩) (Kd.V_mono HO613.out (fun k_ hk => (⟨hk, hk.2⟩ : _ ∧ k_ ≠ gb638))) (fun _ hk => hk.2) (.int .i64 t635)) (fun _ hk => hk.2) (.int .i64 t636)) (fun _ hk => ⟨hk.1.1.1.1, ⟨hk.1.1.1.2, hk.1.2⟩⟩)⟩, ⟨bk BK610⟩, ⟨bk BK620⟩, ⟨by (with_reducible repeat (first | refine blk_drewN ?_ _ | refine blk_drew ?_ | refine blk_alloc ?_ _)); refine blk_put (cs := #[.int .i64 t635, .int .i64 0]) ?_ 1 _ rfl; (with_reducible repeat (first | refine blk_drewN ?_ _ | refine blk_drew ?_ | refine blk_alloc ?_ _)); refine blk_put (cs := #[.int .i64 0, .int .i64 0]) ?_ 0 _ rfl; (with_reducible repeat (first | refine blk_drewN ?_ _ | refine blk_drew ?_ | refine blk_alloc ?_ _)); exact BK638.out⟩, ⟨bl HB⟩⟩
    ·
     replace c34 := Bool.eq_false_iff.mpr c34
     subst c34
     have H1 : (remontoirlaw03_StarLeft.j0 k a1 t611 true a0_0 a0_1 a0_2 a0_3 a0_4 l0_5 l0_6 l0_7) = some r := by rw [if_neg (show ¬ (false = true) by decide)] at H; exact H
     clear H
     have H := H1
     clear H1
     have H' := Aside0.mk H
     clear H
     have hnb42 := NB610_620.out
     have hnc42 := NB620_610.out
     have hnb43 := NB610_638.out
     have hnc43 := NB638_610.out
     have hcz44_0 : w28.cell? ⟨gb610, 0, none⟩ = some (.int .i64 a0_0) := bc BK610 0
     have hcz44_1 : w28.cell? ⟨gb610, 1, none⟩ = some (.int .i64 a0_1) := bc BK610 1
     have hcz44_2 : w28.cell? ⟨gb610, 2, none⟩ = some (.int .i64 a0_2) := bc BK610 2
     have hcz44_3 : w28.cell? ⟨gb610, 3, none⟩ = some (.int .i64 a0_3) := bc BK610 3
     have hcz44_4 : w28.cell? ⟨gb610, 4, none⟩ = some (.int .i64 a0_4) := bc BK610 4
     have hcz44_5 : w28.cell? ⟨gb610, 5, none⟩ = some (.slice A0_5 l0_5.length c0_5) := bc BK610 5
     have hcz44_6 : w28.cell? ⟨gb610, 6, none⟩ = some (.slice A0_6 l0_6.length c0_6) := bc BK610 6
     have hcz44_7 : w28.cell? ⟨gb610, 7, none⟩ = some (.slice A0_7 l0_7.length c0_7) := bc BK610 7
     have hfz44_0 := blk_frozen BK610.out 0
     have hfz44_1 := blk_frozen BK610.out 1
     have hfz44_2 := blk_frozen BK610.out 2
     have hfz44_3 := blk_frozen BK610.out 3
     have hfz44_4 := blk_frozen BK610.out 4
     have hfz44_5 := blk_frozen BK610.out 5
     have hfz44_6 := blk_frozen BK610.out 6
     have hfz44_7 := blk_frozen BK610.out 7
     go_wp2_with (first | (go_at_call 48; (with_reducible refine (remontoirref00_Climbs.calls k _ _ t611 (l0_7.length : Int) false _ ?side1 ?side2 A33.out).mono ?_); (case side1 => refine (Kd.V_reads' (e := 3) (base := w.heap.size) (ok := fun k_ => (((k_ ≠ gb610 ∧ k_ ≠ gb620) ∧ some k_ ≠ (.slice Ao26 t632.length co26 : Value).ownBlock) ∧ k_ ≠ gb638)) (n := t611.length) (c := co22) ?_).2.2; exact (by (with_reducible repeat (first | apply Kd.V_alloc | apply Kd.V_drewN | apply Kd.V_drew)); exact (Kd.V_mono (Kd.V_far (p := ⟨gb638, 1, none⟩) (Kd.V_far (p := ⟨gb638, 0, none⟩) (Kd.V_mono HO613.out (fun k_ hk => (⟨hk, hk.2⟩ : _ ∧ k_ ≠ gb638))) (fun _ hk => hk.2) (.int .i64 t635)) (fun _ hk => hk.2) (.int .i64 t636)) (fun _ h_ => h_.1)))); (case side2 => exact (Kd.V_reads' HO613.out).2.1); rintro e w' ⟨rfl, ⟨nd, rfl⟩⟩))
     go_meet
     case rel => exact ⟨_, (true), (by first | rfl | (simp; done) | (simp [*]; done)), H', ⟨by first | omega | exact Nat.le_refl _⟩, ⟨by (with_reducible repeat (first | apply Kd.V_alloc | apply Kd.V_drewN | apply Kd.V_drew)); exact Kd.V_mono (Kd.V_far (p := ⟨gb638, 1, none⟩) (Kd.V_far (p := ⟨gb638, 0, none⟩) (Kd.V_mono HO613.out (fun k_ hk => (⟨hk, hk.2⟩ : _ ∧ k_ ≠ gb638))) (fun _ hk => hk.2) (.int .i64 t635)) (fun _ hk => hk.2) (.int .i64 t636)) (fun _ hk => ⟨hk.1.1.1.1, ⟨hk.1.1.1.2, hk.1.2⟩⟩)⟩, ⟨bk BK610⟩, ⟨bk BK620⟩, ⟨by (with_reducible repeat (first | refine blk_drewN ?_ _ | refine blk_drew ?_ | refine blk_alloc ?_ _)); refine blk_put (cs := #[.int .i64 t635, .int .i64 0]) ?_ 1 _ rfl; (with_reducible repeat (first | refine blk_drewN ?_ _ | refine blk_drew ?_ | refine blk_alloc ?_ _)); refine blk_put (cs := #[.int .i64 0, .int .i64 0]) ?_ 0 _ rfl; (with_reducible repeat (first | refine blk_drewN ?_ _ | refine blk_drew ?_ | refine blk_alloc ?_ _)); exact BK638.out⟩, ⟨bl HB⟩⟩
   ·
    rw [if_neg c32] at H
    have c32b0 : (t614 == 0) = false := beq_eq_false_iff_ne.mpr c32
    have c32b1 : (t614 != 0) = true := bne_iff_ne.mpr c32
    (first | rw [c32b0] | rw [c32b1] | (simp only [i64_w, i32_w]; first | rw [c32b0] | rw [c32b1]) | skip)
    have H' := Aside0.mk H
    clear H
    go_wp2
    go_meet
    case rel => exact ⟨_, (true), (by first | rfl | (simp; done) | (simp [*]; done)), H', ⟨by first | omega | exact Nat.le_refl _⟩, ⟨by (with_reducible repeat (first | apply Kd.V_alloc | apply Kd.V_drewN | apply Kd.V_drew)); exact Kd.V_mono (Kd.V_far (p := ⟨gb638, 1, none⟩) (Kd.V_far (p := ⟨gb638, 0, none⟩) (Kd.V_mono HO613.out (fun k_ hk => (⟨hk, hk.2⟩ : _ ∧ k_ ≠ gb638))) (fun _ hk => hk.2) (.int .i64 t635)) (fun _ hk => hk.2) (.int .i64 t636)) (fun _ hk => ⟨hk.1.1.1.1, ⟨hk.1.1.1.2, hk.1.2⟩⟩)⟩, ⟨bk BK610⟩, ⟨bk BK620⟩, ⟨by (with_reducible repeat (first | refine blk_drewN ?_ _ | refine blk_drew ?_ | refine blk_alloc ?_ _)); refine blk_put (cs := #[.int .i64 t635, .int .i64 0]) ?_ 1 _ rfl; (with_reducible repeat (first | refine blk_drewN ?_ _ | refine blk_drew ?_ | refine blk_alloc ?_ _)); refine blk_put (cs := #[.int .i64 0, .int .i64 0]) ?_ 0 _ rfl; (with_reducible repeat (first | refine blk_drewN ?_ _ | refine blk_drew ?_ | refine blk_alloc ?_ _)); exact BK638.out⟩, ⟨bl HB⟩⟩
  case rest =>
   clear HC9
   (try clear c1); (try clear c2); (try clear p2); (try clear c3); (try clear c4); (try clear c5); (try clear c13); (try clear c18); (try clear c24); (try clear c29); (try clear c30); (try clear c31); (try clear c32); (try clear c32b0); (try clear c32b1); (try clear c34); (try clear c35); (try clear c35b0); (try clear c35b1); (try clear c35b2); (try clear c36); (try clear c37); (try clear c38); (try clear c39); (try clear c40); (try clear c42); (try clear c43); (try clear hcz11_0); (try clear hcz11_1); (try clear hcz11_2); (try clear hcz11_3); (try clear hcz11_4); (try clear hcz11_5); (try clear hcz11_6); (try clear hcz11_7); (try clear hcz13_0); (try clear hcz13_1); (try clear hcz13_2); (try clear hcz13_3); (try clear hcz13_4); (try clear hcz13_5); (try clear hcz13_6); (try clear hcz13_7); (try clear hcz15_0); (try clear hcz15_1); (try clear hcz15_2); (try clear hcz15_3); (try clear hcz15_4); (try clear hcz15_5); (try clear hcz15_6); (try clear hcz15_7); (try clear hcz19_0); (try clear hcz19_1); (try clear hcz21_0); (try clear hcz21_1); (try clear hcz21_2); (try clear hcz21_3); (try clear hcz21_4); (try clear hcz21_5); (try clear hcz21_6); (try clear hcz21_7); (try clear hcz31_0); (try clear hcz31_1); (try clear hcz38_0); (try clear hcz38_1); (try clear hcz38_2); (try clear hcz38_3); (try clear hcz38_4); (try clear hcz38_5); (try clear hcz38_6); (try clear hcz38_7); (try clear hcz41_0); (try clear hcz41_1); (try clear hcz41_2); (try clear hcz41_3); (try clear hcz41_4); (try clear hcz41_5); (try clear hcz41_6); (try clear hcz41_7); (try clear hcz44_0); (try clear hcz44_1); (try clear hcz44_2); (try clear hcz44_3); (try clear hcz44_4); (try clear hcz44_5); (try clear hcz44_6); (try clear hcz44_7); (try clear hfz11_0); (try clear hfz11_1); (try clear hfz11_2); (try clear hfz11_3); (try clear hfz11_4); (try clear hfz11_5); (try clear hfz11_6); (try clear hfz11_7); (try clear hfz13_0); (try clear hfz13_1); (try clear hfz13_2); (try clear hfz13_3); (try clear hfz13_4); (try clear hfz13_5)
   (try clear hfz13_6); (try clear hfz13_7); (try clear hfz15_0); (try clear hfz15_1); (try clear hfz15_2); (try clear hfz15_3); (try clear hfz15_4); (try clear hfz15_5); (try clear hfz15_6); (try clear hfz15_7); (try clear hfz19_0); (try clear hfz19_1); (try clear hfz21_0); (try clear hfz21_1); (try clear hfz21_2); (try clear hfz21_3); (try clear hfz21_4); (try clear hfz21_5); (try clear hfz21_6); (try clear hfz21_7); (try clear hfz31_0); (try clear hfz31_1); (try clear hfz38_0); (try clear hfz38_1); (try clear hfz38_2); (try clear hfz38_3); (try clear hfz38_4); (try clear hfz38_5); (try clear hfz38_6); (try clear hfz38_7); (try clear hfz41_0); (try clear hfz41_1); (try clear hfz41_2); (try clear hfz41_3); (try clear hfz41_4); (try clear hfz41_5); (try clear hfz41_6); (try clear hfz41_7); (try clear hfz44_0); (try clear hfz44_1); (try clear hfz44_2); (try clear hfz44_3); (try clear hfz44_4); (try clear hfz44_5); (try clear hfz44_6); (try clear hfz44_7)
   (try clear HO_5); (try clear BK610); (try clear BK620); (try clear BK638); (try clear HB)
   obtain ⟨kq, x63_8, rfl, HA, HJ8, HO_5, BK610, BK620, BK638, HB⟩ := hcut
   cases kq with
   | zero => exact absurd HA.out (by simp [remontoirlaw03_StarLeft.j0])
   | succ kj8 =>
    have H := HA.out
    clear HA
    simp only [remontoirlaw03_StarLeft.j0] at H
    by_cases c45 : x63_8 = true
    ·
     subst c45
     have H1 : (some false) = some r := by rw [if_pos rfl] at H; exact H
     clear H
     have H := H1
     clear H1
     obtain rfl := Option.some.inj H
     go_wp2
     go_ret
     exact ⟨by first | rfl | (simp [errW_none, errW_some] <;> rfl) | (simp [*, errW_none, errW_some] <;> rfl), by repeat (first | (with_reducible first | exact HB.out | apply below_alloc | apply pw_below_drewN | apply below_drew1 | refine below_set ?_ GE610.out | refine below_set ?_ GE620.out | refine below_set ?_ GE638.out) | exact HB.out)⟩
    ·
     replace c45 := Bool.eq_false_iff.mpr c45
     subst c45
     have H1 : ((remontoirref00_Rest.f a1 (shl .i64 1 (l0_7.length : Int))).bind fun t640 => ((remontoirref00_List.f kj8 t640 (l0_7.length : Int)).bind fun t641 => (if (t641.length : Int) > (t611.length : Int) then (remontoirlaw03_StarLeft.j1 kj8 t641 true a0_0 a0_1 a0_2 a0_3 a0_4 l0_5 l0_6 l0_7) else (if (t641.length : Int) = (t611.length : Int) then ((remontoirref00_Ahead.f kj8 t641 t611).bind fun t644 => (remontoirlaw03_StarLeft.j1 kj8 t641 (!t644) a0_0 a0_1 a0_2 a0_3 a0_4 l0_5 l0_6 l0_7)) else (remontoirlaw03_StarLeft.j1 kj8 t641 false a0_0 a0_1 a0_2 a0_3 a0_4 l0_5 l0_6 l0_7))))) = some r := by rw [if_neg (show ¬ (false = true) by decide)] at H; exact H
     clear H
     have H := H1
     clear H1
     obtain ⟨ji46, hji46⟩ : ∃ j_ : Int, (shl .i64 1 (l0_7.length : Int)) = j_ := ⟨_, rfl⟩
     replace H : ((remontoirref00_Rest.f a1 (ji46)).bind fun t640 => ((remontoirref00_List.f kj8 t640 (l0_7.length : Int)).bind fun t641 => (if (t641.length : Int) > (t611.length : Int) then (remontoirlaw03_StarLeft.j1 kj8 t641 true a0_0 a0_1 a0_2 a0_3 a0_4 l0_5 l0_6 l0_7) else (if (t641.length : Int) = (t611.length : Int) then ((remontoirref00_Ahead.f kj8 t641 t611).bind fun t644 => (remontoirlaw03_StarLeft.j1 kj8 t641 (!t644) a0_0 a0_1 a0_2 a0_3 a0_4 l0_5 l0_6 l0_7)) else (remontoirlaw03_StarLeft.j1 kj8 t641 false a0_0 a0_1 a0_2 a0_3 a0_4 l0_5 l0_6 l0_7))))) = some r := by first | (rw [hji46] at H; exact H) | (simp only [hji46] at H ⊢; exact H)
     have hji46_ : (IntKind.i64.wrap (1 * 2 ^ min (l0_7.length : Int).toNat 64)) = ji46 := hji46
     have hji46z : (l0_7.length : Int) ≤ 64 → (IntKind.i64.wrap (1 * 2 ^ (l0_7.length : Int).toNat)) = ji46 := shl_small hji46
     have hji46p : (IntKind.i64.wrap (1 * 2 ^ min l0_7.length 64)) = ji46 := hji46_
     have hji46q : (l0_7.length : Int) ≤ 64 → (IntKind.i64.wrap (1 * 2 ^ l0_7.length)) = ji46 := hji46z
     have hji46r : (IntKind.i64.wrap (2 ^ min l0_7.length 64)) = ji46 := by have h_ := hji46p; rw [Int.one_mul] at h_; exact h_
     have hji46s : (l0_7.length : Int) ≤ 64 → (IntKind.i64.wrap (2 ^ l0_7.length)) = ji46 := fun hle_ => by have h_ := hji46q hle_; rw [Int.one_mul] at h_; exact h_
     have hji46u : (IntKind.i64.wrap (2 ^ min (l0_7.length : Int).toNat 64)) = ji46 := by have h_ := hji46_; rw [Int.one_mul] at h_; exact h_
     have hji46v : (l0_7.length : Int) ≤ 64 → (IntKind.i64.wrap (2 ^ (l0_7.length : Int).toNat)) = ji46 := fun hle_ => by have h_ := hji46z hle_; rw [Int.one_mul] at h_; exact h_
     have hji46y : (wrap64 (1 * 2 ^ min (l0_7.length : Int).toNat 64)) = ji46 := (i64_w _).symm.trans hji46_
     have hji46x : (l0_7.length : Int) ≤ 64 → (wrap64 (1 * 2 ^ (l0_7.length : Int).toNat)) = ji46 := fun h_ => (i64_w _).symm.trans (hji46z h_)
     replace H := Option.bind_eq_some_iff.mp H
     obtain ⟨t640, A470, H⟩ := H
     replace H : ((remontoirref00_List.f kj8 t640 (l0_7.length : Int)).bind fun t641 => (if (t641.length : Int) > (t611.length : Int) then (remontoirlaw03_StarLeft.j1 kj8 t641 true a0_0 a0_1 a0_2 a0_3 a0_4 l0_5 l0_6 l0_7) else (if (t641.length : Int) = (t611.length : Int) then ((remontoirref00_Ahead.f kj8 t641 t611).bind fun t644 => (remontoirlaw03_StarLeft.j1 kj8 t641 (!t644) a0_0 a0_1 a0_2 a0_3 a0_4 l0_5 l0_6 l0_7)) else (remontoirlaw03_StarLeft.j1 kj8 t641 false a0_0 a0_1 a0_2 a0_3 a0_4 l0_5 l0_6 l0_7)))) = some r := H
     have A47 := Aside0.mk A470
     clear A470
     replace H := Option.bind_eq_some_iff.mp H
     obtain ⟨t641, A480, H⟩ := H
     replace H : (if (t641.length : Int) > (t611.length : Int) then (remontoirlaw03_StarLeft.j1 kj8 t641 true a0_0 a0_1 a0_2 a0_3 a0_4 l0_5 l0_6 l0_7) else (if (t641.length : Int) = (t611.length : Int) then ((remontoirref00_Ahead.f kj8 t641 t611).bind fun t644 => (remontoirlaw03_StarLeft.j1 kj8 t641 (!t644) a0_0 a0_1 a0_2 a0_3 a0_4 l0_5 l0_6 l0_7)) else (remontoirlaw03_StarLeft.j1 kj8 t641 false a0_0 a0_1 a0_2 a0_3 a0_4 l0_5 l0_6 l0_7))) = some r := H
     have A48 := Aside0.mk A480
     clear A480
     have HC49 := Aside0.mk H
     clear H
     try go_wp2
     replace HO_5 := Aside0.mk (Kd.V_drew HO_5.out)
     replace BK610 := Aside0.mk (blk_drew BK610.out)
     replace BK620 := Aside0.mk (blk_drew BK620.out)
     replace BK638 := Aside0.mk (blk_drew BK638.out)
     replace HB := Aside0.mk (below_drew1 HB.out)
     refine start_ (n := 11) (S := fun w' => w'.cell? ⟨gb610, 0, none⟩ = some (.int .i64 a0_0) ∧ w'.cell? ⟨gb610, 1, none⟩ = some (.int .i64 a0_1) ∧ w'.cell? ⟨gb610, 2, none⟩ = some (.int .i64 a0_2) ∧ w'.cell? ⟨gb610, 3, none⟩ = some (.int .i64 a0_3) ∧ w'.cell? ⟨gb610, 4, none⟩ = some (.int .i64 a0_4) ∧ w'.cell? ⟨gb610, 5, none⟩ = some (.slice A0_5 l0_5.length c0_5) ∧ w'.cell? ⟨gb610, 6, none⟩ = some (.slice A0_6 l0_6.length c0_6) ∧ w'.cell? ⟨gb610, 7, none⟩ = some (.slice A0_7 l0_7.length c0_7)) (ds := []) #[false, false, false, false, false, false, false, false, false, false, false] (by kernel_rfl) rfl rfl ⟨bc BK610 0, bc BK610 1, bc BK610 2, bc BK610 3, bc BK610 4, bc BK610 5, bc BK610 6, bc BK610 7⟩ (fun hHeld => ?_); refine with_tabW remontoirlaw03_StarLeft.tab8 remontoirlaw03_StarLeft.bits8 (fun HT_ HW_ => ?_)
     generalize wc.drew = w50 at HO_5 BK610 BK620 BK638 HB hHeld ⊢
     refine pureA 0 64 ?_
     refine pureA 1 65 ?_
     refine pureA 6 70 ?_
     refine takeA 2 66 rfl rfl (by rintro w' ⟨s0, s1, s2, s3, s4, s5, s6, s7⟩; go_simp; with_reducible rfl) ?_
     refine pureA 3 67 ?_
     refine pureA 4 68 ?_
     refine takeA 7 71 rfl rfl (by rintro w' ⟨s0, s1, s2, s3, s4, s5, s6, s7⟩; go_simp; with_reducible rfl) ?_
     refine pureA 8 72 ?_
     refine oneA 5 (some 69) (fun K hK => ?_)
     refine goes_ Tryd.func42 (by kernel_rfl) rfl #[.int .i64 a1, .int .i64 ji46] (by rfl) rfl rfl (by (try simp only [List.map_toArray, List.map_cons, List.map_nil]); first | done | (simp only [hji46]; rfl) | rfl | (simp only [List.length_drop, List.length_take]; rfl)) ?_
     with_reducible refine (remontoirref00_Rest.calls a1 ji46 t640 _ A47.out).mono ?_
     rintro e w' ⟨rfl, ⟨nd, rfl⟩⟩
     refine ⟨_, rfl, ?_⟩
     refine hK.out _ _ ⟨bc BK610 0, bc BK610 1, bc BK610 2, bc BK610 3, bc BK610 4, bc BK610 5, bc BK610 6, bc BK610 7⟩ (fun hHeld => ?_)
     clear hK K
     refine normA 69 ?_
     refine oneA 9 (some 73) (fun K hK => ?_)
     refine goes_ Tryd.func49 (by kernel_rfl) rfl #[.int .i64 t640, .int .i64 (l0_7.length : Int)] (by rfl) rfl rfl (by (try simp only [List.map_toArray, List.map_cons, List.map_nil]); first | done | rfl | (simp only [List.length_drop, List.length_take]; rfl)) ?_
     with_reducible refine (remontoirref00_List.calls kj8 t640 (l0_7.length : Int) t641 _ A48.out).mono ?_
     rintro e w51 ⟨v642, rfl, ho0, hb⟩
     refine ⟨_, rfl, ?_⟩
     replace HO_5 := Aside0.mk (Kd.V_elder' (by (with_reducible repeat (first | apply Kd.V_alloc | apply Kd.V_drewN | apply Kd.V_drew)); exact HO_5.out) (Kd.R_base ho0) hb)
     have HO643 := Aside0.mk (Kd.R_lower ho0 (below_size (bl HB)))
     replace BK610 := Aside0.mk (blk_below (bk BK610) hb)
     replace BK620 := Aside0.mk (blk_below (bk BK620) hb)
     replace BK638 := Aside0.mk (blk_below (bk BK638) hb)
     replace HB := Aside0.mk (below_step (bl HB) hb)
     (try clear hb)
     (try clear hb2)
     (try clear hk)
     (try clear hi)
     (try clear ho0)
     refine hK.out _ _ ⟨bc BK610 0, bc BK610 1, bc BK610 2, bc BK610 3, bc BK610 4, bc BK610 5, bc BK610 6, bc BK610 7⟩ (fun hHeld => ?_)
     clear hK K
     refine normA 73 ?_
     refine pureA 10 11 ?_
     refine done_ (done_of HT_.out (by kernel_rfl)) ?_
     go_upto_region 9 with (fail)
     go_cut [91] (fun v91 wc => ∃ (kq : Nat) (x91_48 : Bool), v91 = .bool x91_48 ∧ Aside0 (remontoirlaw03_StarLeft.j1 kq t641 x91_48 a0_0 a0_1 a0_2 a0_3 a0_4 l0_5 l0_6 l0_7 = some r) ∧ Aside0 (kq ≤ kj8) ∧ Aside0 (Kd.R (Kd.int .i64) 3 wc w.heap.size (fun _ => True) v642 t641) ∧ Aside0 (wc.heap[gb610]? = some (.cells #[.int .i64 a0_0, .int .i64 a0_1, .int .i64 a0_2, .int .i64 a0_3, .int .i64 a0_4, (.slice A0_5 l0_5.length c0_5), (.slice A0_6 l0_6.length c0_6), (.slice A0_7 l0_7.length c0_7)] 27 (0, 0))) ∧ Aside0 (wc.heap[gb620]? = some (.cells #[.int .i64 t617, .int .i64 t618] 23 (0, 0))) ∧ Aside0 (wc.heap[gb638]? = some (.cells #[.int .i64 t635, .int .i64 t636] 23 (0, 0))) ∧ Aside0 (Below w.heap.size w wc))
     case first =>
      have H := HC49.out
      clear HC49
      by_cases c52 : (t641.length : Int) > (t611.length : Int)
      ·
       rw [if_pos c52] at H
       have c52b0 : decide ((t611.length : Int) < (t641.length : Int)) = true := decide_eq_true c52
       have c52b1 : decide (t611.length < t641.length) = true := decide_eq_true (Int.ofNat_lt.mp c52)
       clear c52
       (first | rw [c52b0] | rw [c52b1] | (simp only [i64_w, i32_w]; first | rw [c52b0] | rw [c52b1]) | skip)
       have H' := Aside0.mk H
       clear H
       obtain ⟨Ao53, co53, eo53⟩ := Kd.R_slice HO643.out
       subst eo53
       go_wp2
       go_meet
       case rel => exact ⟨_, (true), (by first | rfl | (simp; done) | (simp [*]; done)), H', ⟨by have := HJ8.out; first | omega | exact Nat.le_refl _⟩, ⟨by (with_reducible repeat (first | apply Kd.R_alloc | apply Kd.R_drewN | apply Kd.R_drew)); exact HO643.out⟩, ⟨bk BK610⟩, ⟨bk BK620⟩, ⟨bk BK638⟩, ⟨bl HB⟩⟩
      ·
       rw [if_neg c52] at H
       have c52b0 : decide ((t611.length : Int) < (t641.length : Int)) = false := decide_eq_false c52
       have c52b1 : decide (t611.length < t641.length) = false := decide_eq_false (fun h => c52 (Int.ofNat_lt.mpr h))
       clear c52
       (first | rw [c52b0] | rw [c52b1] | (simp only [i64_w, i32_w]; first | rw [c52b0] | rw [c52b1]) | skip)
       by_cases c54 : (t641.length : Int) = (t611.length : Int)
       ·
        rw [if_pos c54] at H
        have c54b0 : ((t641.length : Int) == (t611.length : Int)) = true := beq_iff_eq.mpr c54
        have c54b1 : ((t641.length : Int) != (t611.length : Int)) = false := bne_eq_false_iff_eq.mpr c54
        have c54b2 : (t641.length == t611.length) = true := by first | simpa using c54 | (simp at c54 ⊢; omega)
        clear c54
        replace H := Option.bind_eq_some_iff.mp H
        obtain ⟨t644, A550, H⟩ := H
        replace H : (remontoirlaw03_StarLeft.j1 kj8 t641 (!t644) a0_0 a0_1 a0_2 a0_3 a0_4 l0_5 l0_6 l0_7) = some r := H
        have A55 := Aside0.mk A550
        clear A550
        have H' := Aside0.mk H
        clear H
        obtain ⟨Ao56, co56, eo56⟩ := Kd.R_slice HO643.out
        subst eo56
        go_wp2_with (first | (go_at_call 50; (with_reducible refine (remontoirref00_Ahead.calls kj8 _ _ t641 _ _ t611 t644 _ ?side1 ?side2 ?side3 ?side4 A55.out).mono ?_); (case side1 => repeat (first | exact (Kd.R_reads' HO643.out).2.2 | (with_reducible refine Kd.C_alloc ?_ _) | (with_reducible refine Kd.C_drewN ?_ _) | (with_reducible refine Kd.C_drew ?_))); (case side2 => exact (Kd.R_reads' HO643.out).2.1); (case side3 => repeat (first | exact (Kd.V_reads' HO_5.out).2.2 | (with_reducible refine Kd.C_alloc ?_ _) | (with_reducible refine Kd.C_drewN ?_ _) | (with_reducible refine Kd.C_drew ?_))); (case side4 => exact (Kd.V_reads' HO_5.out).2.1); rintro e w' ⟨rfl, ⟨nd, rfl⟩⟩))
        go_meet
        case rel => exact ⟨_, (!t644), (by first | rfl | (simp; done) | (simp [*]; done)), H', ⟨by have := HJ8.out; first | omega | exact Nat.le_refl _⟩, ⟨by (with_reducible repeat (first | apply Kd.R_alloc | apply Kd.R_drewN | apply Kd.R_drew)); exact HO643.out⟩, ⟨bk BK610⟩, ⟨bk BK620⟩, ⟨bk BK638⟩, ⟨bl HB⟩⟩
       ·
        rw [if_neg c54] at H
        have c54b0 : ((t641.length : Int) == (t611.length : Int)) = false := beq_eq_false_iff_ne.mpr c54
        have c54b1 : ((t641.length : Int) != (t611.length : Int)) = true := bne_iff_ne.mpr c54
        have c54b2 : (t641.length == t611.length) = false := by first | simpa using c54 | (simp at c54 ⊢; omega)
        have H' := Aside0.mk H
        clear H
        obtain ⟨Ao57, co57, eo57⟩ := Kd.R_slice HO643.out
        subst eo57
        go_wp2
        go_meet
        case rel => exact ⟨_, (false), (by first | rfl | (simp; done) | (simp [*]; done)), H', ⟨by have := HJ8.out; first | omega | exact Nat.le_refl _⟩, ⟨by (with_reducible repeat (first | apply Kd.R_alloc | apply Kd.R_drewN | apply Kd.R_drew)); exact HO643.out⟩, ⟨bk BK610⟩, ⟨bk BK620⟩, ⟨bk BK638⟩, ⟨bl HB⟩⟩
     case rest =>
      clear HC49
      (try clear c1); (try clear c2); (try clear p2); (try clear c3); (try clear c4); (try clear c5); (try clear p6); (try clear c13); (try clear c18); (try clear c24); (try clear c29); (try clear c30); (try clear c31); (try clear c32); (try clear c32b0); (try clear c32b1); (try clear c34); (try clear c35); (try clear c35b0); (try clear c35b1); (try clear c35b2); (try clear c36); (try clear c37); (try clear c38); (try clear c39); (try clear c40); (try clear c42); (try clear c43); (try clear c45); (try clear c47); (try clear c49); (try clear c52); (try clear c52b0); (try clear c52b1); (try clear c54); (try clear c54b0); (try clear c54b1); (try clear c54b2); (try clear hcz11_0); (try clear hcz11_1); (try clear hcz11_2); (try clear hcz11_3); (try clear hcz11_4); (try clear hcz11_5); (try clear hcz11_6); (try clear hcz11_7); (try clear hcz13_0); (try clear hcz13_1); (try clear hcz13_2); (try clear hcz13_3); (try clear hcz13_4); (try clear hcz13_5); (try clear hcz13_6); (try clear hcz13_7); (try clear hcz15_0); (try clear hcz15_1); (try clear hcz15_2); (try clear hcz15_3); (try clear hcz15_4); (try clear hcz15_5); (try clear hcz15_6); (try clear hcz15_7); (try clear hcz19_0); (try clear hcz19_1); (try clear hcz21_0); (try clear hcz21_1); (try clear hcz21_2); (try clear hcz21_3); (try clear hcz21_4); (try clear hcz21_5); (try clear hcz21_6); (try clear hcz21_7); (try clear hcz31_0); (try clear hcz31_1); (try clear hcz38_0); (try clear hcz38_1); (try clear hcz38_2); (try clear hcz38_3); (try clear hcz38_4); (try clear hcz38_5); (try clear hcz38_6); (try clear hcz38_7); (try clear hcz41_0); (try clear hcz41_1); (try clear hcz41_2); (try clear hcz41_3); (try clear hcz41_4); (try clear hcz41_5); (try clear hcz41_6); (try clear hcz41_7); (try clear hcz44_0); (try clear hcz44_1); (try clear hcz44_2); (try clear hcz44_3); (try clear hcz44_4); (try clear hcz44_5); (try clear hcz44_6); (try clear hcz44_7); (try clear hfz11_0); (try clear hfz11_1); (try clear hfz11_2); (try clear hfz11_3)
      (try clear hfz11_4); (try clear hfz11_5); (try clear hfz11_6); (try clear hfz11_7); (try clear hfz13_0); (try clear hfz13_1); (try clear hfz13_2); (try clear hfz13_3); (try clear hfz13_4); (try clear hfz13_5); (try clear hfz13_6); (try clear hfz13_7); (try clear hfz15_0); (try clear hfz15_1); (try clear hfz15_2); (try clear hfz15_3); (try clear hfz15_4); (try clear hfz15_5); (try clear hfz15_6); (try clear hfz15_7); (try clear hfz19_0); (try clear hfz19_1); (try clear hfz21_0); (try clear hfz21_1); (try clear hfz21_2); (try clear hfz21_3); (try clear hfz21_4); (try clear hfz21_5); (try clear hfz21_6); (try clear hfz21_7); (try clear hfz31_0); (try clear hfz31_1); (try clear hfz38_0); (try clear hfz38_1); (try clear hfz38_2); (try clear hfz38_3); (try clear hfz38_4); (try clear hfz38_5); (try clear hfz38_6); (try clear hfz38_7); (try clear hfz41_0); (try clear hfz41_1); (try clear hfz41_2); (try clear hfz41_3); (try clear hfz41_4); (try clear hfz41_5); (try clear hfz41_6); (try clear hfz41_7); (try clear hfz44_0); (try clear hfz44_1); (try clear hfz44_2); (try clear hfz44_3); (try clear hfz44_4); (try clear hfz44_5); (try clear hfz44_6); (try clear hfz44_7); (try clear p2)
      (try clear HO_11); (try clear BK610); (try clear BK620); (try clear BK638); (try clear HB)
      obtain ⟨kq, x91_48, rfl, HA, HJ48, HO_11, BK610, BK620, BK638, HB⟩ := hcut
      cases kq with
      | zero => exact absurd HA.out (by simp [remontoirlaw03_StarLeft.j1])
      | succ kj48 =>
       have H := HA.out
       clear HA
       simp only [remontoirlaw03_StarLeft.j1] at H
       by_cases c58 : x91_48 = true
       ·
        subst c58
        have H1 : ((remontoirlaw03_works.f).bind fun t645 => (some t645)) = some r := by rw [if_pos rfl] at H; exact H
        clear H
        have H := H1
        clear H1
        replace H := Option.bind_eq_some_iff.mp H
        obtain ⟨t645, A590, H⟩ := H
        replace H : (some t645) = some r := H
        have A59 := Aside0.mk A590
        clear A590
        obtain rfl := Option.some.inj H
        go_wp2_with (first | ((with_reducible refine gate_callee (f := 23) rfl ?_); refine goesL_ (some 92) rfl rfl Tryd.func23 (by kernel_rfl) rfl #[] rfl (by (try simp only [List.map_toArray, List.map_cons, List.map_nil]); first | done | rfl | (simp only [List.length_drop, List.length_take]; rfl)) ?_; (with_reducible refine (remontoirlaw03_works.calls  t645 _ ?side1 A59.out).mono ?_); (case side1 => exact Go.Proofs.YtohbeninpmmmpaaDoor.Ways.below HWays.out (bl HB)); rintro e w60 ⟨rfl, hb⟩; refine ⟨_, rfl, ?_⟩; replace HO_11 := Aside0.mk (Kd.R_below (rk HO_11) hb); replace BK610 := Aside0.mk (blk_below (bk BK610) hb); replace BK620 := Aside0.mk (blk_below (bk BK620) hb); replace BK638 := Aside0.mk (blk_below (bk BK638) hb); replace HB := Aside0.mk (below_step (bl HB) hb); (try clear hb); (try clear hb2); (try clear hk); (try clear hi)))
        go_ret
        exact ⟨by first | rfl | (simp [errW_none, errW_some] <;> rfl) | (simp only [← hji46]; first | rfl | (simp [errW_none, errW_some] <;> rfl)) | (simp [*, errW_none, errW_some] <;> rfl), by repeat (first | (with_reducible first | exact HB.out | apply below_alloc | apply pw_below_drewN | apply below_drew1 | refine below_set ?_ GE610.out | refine below_set ?_ GE620.out | refine below_set ?_ GE638.out) | exact HB.out)⟩
       ·
        replace c58 := Bool.eq_false_iff.mpr c58
        subst c58
        have H1 : ((remontoirlaw03_without.f kj48 a0_0 a0_1 a0_2 a0_3 a0_4 l0_5 l0_6 l0_7 t641).bind fun bt646 => ((star_Offset.f bt646.1 bt646.2.1 bt646.2.2.1 bt646.2.2.2.1 bt646.2.2.2.2.1 bt646.2.2.2.2.2.1 bt646.2.2.2.2.2.2.1 bt646.2.2.2.2.2.2.2 0).bind fun bt660 => (if bt660.2.2 = 32 then ((remontoirlaw03_works.f).bind fun t663 => (some t663)) else (some false)))) = some r := by rw [if_neg (show ¬ (false = true) by decide)] at H; exact H
        clear H
        have H := H1
        clear H1
        replace H := Option.bind_eq_some_iff.mp H
        obtain ⟨⟨t646, t647, t648, t649, t650, t651, t654, t657⟩, A610, H⟩ := H
        replace H : ((star_Offset.f t646 t647 t648 t649 t650 t651 t654 t657 0).bind fun bt660 => (if bt660.2.2 = 32 then ((remontoirlaw03_works.f).bind fun t663 => (some t663)) else (some false))) = some r := H
        have A61 := Aside0.mk A610
        clear A610
        replace H := Option.bind_eq_some_iff.mp H
        obtain ⟨⟨t660, t661, t662⟩, A620, H⟩ := H
        replace H : (if t662 = 32 then ((remontoirlaw03_works.f).bind fun t663 => (some t663)) else (some false)) = some r := H
        have A62 := Aside0.mk A620
        clear A620
        by_cases c63 : t662 = 32
        ·
         rw [if_pos c63] at H
         have c63b0 : (t662 == 32) = true := beq_iff_eq.mpr c63
         have c63b1 : (t662 != 32) = false := bne_eq_false_iff_eq.mpr c63
         clear c63
         replace H := Option.bind_eq_some_iff.mp H
         obtain ⟨t663, A640, H⟩ := H
         replace H : (some t663) = some r := H
         have A64 := Aside0.mk A640
         clear A640
         obtain rfl := Option.some.inj H
         have hnb65 := NB610_620.out
         have hnc65 := NB620_610.out
         have hnb66 := NB610_638.out
         have hnc66 := NB638_610.out
         have hcz67_0 : wc.cell? ⟨gb610, 0, none⟩ = some (.int .i64 a0_0) := bc BK610 0
         have hcz67_1 : wc.cell? ⟨gb610, 1, none⟩ = some (.int .i64 a0_1) := bc BK610 1
         have hcz67_2 : wc.cell? ⟨gb610, 2, none⟩ = some (.int .i64 a0_2) := bc BK610 2
         have hcz67_3 : wc.cell? ⟨gb610, 3, none⟩ = some (.int .i64 a0_3) := bc BK610 3
         have hcz67_4 : wc.cell? ⟨gb610, 4, none⟩ = some (.int .i64 a0_4) := bc BK610 4
         have hcz67_5 : wc.cell? ⟨gb610, 5, none⟩ = some (.slice A0_5 l0_5.length c0_5) := bc BK610 5
         have hcz67_6 : wc.cell? ⟨gb610, 6, none⟩ = some (.slice A0_6 l0_6.length c0_6) := bc BK610 6
         have hcz67_7 : wc.cell? ⟨gb610, 7, none⟩ = some (.slice A0_7 l0_7.length c0_7) := bc BK610 7
         have hfz67_0 := blk_frozen BK610.out 0
         have hfz67_1 := blk_frozen BK610.out 1
         have hfz67_2 := blk_frozen BK610.out 2
         have hfz67_3 := blk_frozen BK610.out 3
         have hfz67_4 := blk_frozen BK610.out 4
         have hfz67_5 := blk_frozen BK610.out 5
         have hfz67_6 := blk_frozen BK610.out 6
         have hfz67_7 := blk_frozen BK610.out 7
         obtain ⟨Ao68, co68, eo68⟩ := Kd.R_slice HO_11.out
         subst eo68
         go_wp2_with (first | ((with_reducible refine gate_callee (f := 47) rfl ?_); refine goesL_ (some 96) rfl rfl Tryd.func47 (by kernel_rfl) rfl #[.agg #[.int .i64 a0_0, .int .i64 a0_1, .int .i64 a0_2, .int .i64 a0_3, .int .i64 a0_4, .slice A0_5 l0_5.length c0_5, .slice A0_6 l0_6.length c0_6, .slice A0_7 l0_7.length c0_7], .slice Ao68 t641.length co68] rfl (by (try simp only [List.map_toArray, List.map_cons, List.map_nil]); first | done | rfl | (simp only [List.length_drop, List.length_take]; rfl)) ?_; (with_reducible refine (remontoirlaw03_without.calls kj48 a0_0 a0_1 a0_2 a0_3 a0_4 (fun k_ => k_ < w.heap.size) _ _ l0_5 (fun k_ => k_ < w.heap.size) _ _ l0_6 _ _ l0_7 _ _ t641 t646 t647 t648 t649 t650 t651 t654 t657 _ ?side1 ?side2 ?side3 ?side4 ?side5 ?side6 A61.out).mono ?_); (case side1 => exact Kd.V_mk HC0_5.out (Kd.F_below (Kd.C_F k23_heap HR0_5.out) (bl HB))); (case side2 => exact Kd.V_mk HC0_6.out (Kd.F_below (Kd.C_F k23_heap HR0_6.out) (bl HB))); (case side3 => repeat (first | exact (Kd.C_below HR0_7.out HB.out) | (with_reducible refine Kd.C_alloc ?_ _) | (with_reducible refine Kd.C_drewN ?_ _) | (with_reducible refine Kd.C_drew ?_))); (case side4 => exact HC0_7.out); (case side5 => repeat (first | exact (Kd.R_reads' HO_11.out).2.2 | (with_reducible refine Kd.C_alloc ?_ _) | (with_reducible refine Kd.C_drewN ?_ _) | (with_reducible refine Kd.C_drew ?_))); (case side6 => exact (Kd.R_reads' HO_11.out).2.1); rintro e w69 ⟨v652, v655, v658, rfl, ho0, ho1, ho2, hb⟩; refine ⟨_, rfl, ?_⟩; have HO653 := Aside0.mk (Kd.V_lower (Kd.V_mono (ok' := fun k_ => some k_ ≠ (v658 : Value).ownBlock ∧ some k_ ≠ (.slice Ao68 t641.length co68 : Value).ownBlock ∧ k_ ≠ gb610 ∧ k_ ≠ gb620 ∧ k_ ≠ gb638) ho0 (fun k_ hk_ => ⟨hk_.2, Or.elim hk_.1 (fun hs_ => Or.elim hs_ (fun hs_ => fun e_ => Nat.not_le.2 hs_ (Kd.R_base HO_11.out k_ e_.symm)) (fun hs_ => fun e_ => Nat.not_le.2 hs_ (Kd.R_base HO_11.out k_ e_.symm))) (fun hn_ => (Kd.fresh' (Kd.R_lt (rk HO_11)) k_ hn_)), Or.elim hk_.1 (fun hs_ => Or.elim hs_ (fun hs_ => fun e_ => Nat.not_le.2 hs_ (by rw [e_]; exact GW610.out)) (fun hs_ => fun e_ => Nat.not_le.2 hs_ (by rw [e_]; exact GW610.out))) (fun hn_ => (Kd.freshB (g := gb610) (o := .cells #[.int .i64 a0_0, .int .i64 a0_1, .int .i64 a0_2, .int .i64 a0_3, .int .i64 a0_4, .slice A0_5 l0_5.length c0_5, .slice A0_6 l0_6.length c0_6, .slice A0_7 l0_7.length c0_7] 27 (0, 0)) (bk BK610) k_ hn_)), Or.elim hk_.1 (fun hs_ => Or.elim hs_ (fun hs_ => fun e_ => Nat.not_le.2 hs_ (by rw [e_]; exact GW620.out)) (fun hs_ => fun e_ => Nat.not_le.2 hs_ (by rw [e_]; exact GW620.out))) (fun hn_ => (Kd.freshB (g := gb620) (o := .cells #[.int .i64 t617, .int .i64 t618] 23 (0, 0)) (bk BK620) k_ hn_)), Or.elim hk_.1 (fun hs_ => Or.elim hs_ (fun hs_ => fun e_ => Nat.not_le.2 hs_ (by rw [e_]; exact GW638.out)) (fun hs_ => fun e_ => Nat.not_le.2 hs_ (by rw [e_]; exact GW638.out))) (fun hn_ => (Kd.freshB (g := gb638) (o := .cells #[.int .i64 t635, .int .i64 t636] 23 (0, 0)) (bk BK638) k_ hn_))⟩)) (below_size (bl HB))); have HO656 := Aside0.mk (Kd.V_lower (Kd.V_mono (ok' := fun k_ => some k_ ≠ (v658 : Value).ownBlock ∧ some k_ ≠ (.slice Ao68 t641.length co68 : Value).ownBlock ∧ k_ ≠ gb610 ∧ k_ ≠ gb620 ∧ k_ ≠ gb638) ho1 (fun k_ hk_ => ⟨hk_.2, Or.elim hk_.1 (fun hs_ => Or.elim hs_ (fun hs_ => fun e_ => Nat.not_le.2 hs_ (Kd.R_base HO_11.out k_ e_.symm)) (fun hs_ => fun e_ => Nat.not_le.2 hs_ (Kd.R_base HO_11.out k_ e_.symm))) (fun hn_ => (Kd.fresh' (Kd.R_lt (rk HO_11)) k_ hn_)), Or.elim hk_.1 (fun hs_ => Or.elim hs_ (fun hs_ => fun e_ => Nat.not_le.2 hs_ (by rw [e_]; exact GW610.out)) (fun hs_ => fun e_ => Nat.not_le.2 hs_ (by rw [e_]; exact GW610.out))) (fun hn_ => (Kd.freshB (g := gb610) (o := .cells #[.int .i64 a0_0, .int .i64 a0_1, .int .i64 a0_2, .int .i64 a0_3, .int .i64 a0_4, .slice A0_5 l0_5.length c0_5, .slice A0_6 l0_6.length c0_6, .slice A0_7 l0_7.length c0_7] 27 (0, 0)) (bk BK610) k_ hn_)), Or.elim hk_.1 (fun hs_ => Or.elim hs_ (fun hs_ => fun e_ => Nat.not_le.2 hs_ (by rw [e_]; exact GW620.out)) (fun hs_ => fun e_ => Nat.not_le.2 hs_ (by rw [e_]; exact GW620.out))) (fun hn_ => (Kd.freshB (g := gb620) (o := .cells #[.int .i64 t617, .int .i64 t618] 23 (0, 0)) (bk BK620) k_ hn_)), Or.elim hk_.1 (fun hs_ => Or.elim hs_ (fun hs_ => fun e_ => Nat.not_le.2 hs_ (by rw [e_]; exact GW638.out)) (fun hs_ => fun e_ => Nat.not_le.2 hs_ (by rw [e_]; exact GW638.out))) (fun hn_ => (Kd.freshB (g := gb638) (o := .cells #[.int .i64 t635, .int .i64 t636] 23 (0, 0)) (bk BK638) k_ hn_))⟩)) (below_size (bl HB))); replace HO_11 := Aside0.mk (Kd.R_below (rk HO_11) hb); have HO659 := Aside0.mk (Kd.R_lower (Kd.R_mono (ok' := fun k_ => True) ho2 (fun _ hk_ => trivial)) (below_size (bl HB))); replace BK610 := Aside0.mk (blk_below (bk BK610) hb); replace BK620 := Aside0.mk (blk_below (bk BK620) hb); replace BK638 := Aside0.mk (blk_below (bk BK638) hb); replace HB := Aside0.mk (below_step (bl HB) hb); (try clear hb); (try clear hb2); (try clear hk); (try clear hi); (try clear ho0); (try clear ho1); (try clear ho2); obtain ⟨Ao70, co70, eo70⟩ := Kd.V_slice HO653.out; subst eo70; obtain ⟨Ao71, co71, eo71⟩ := Kd.V_slice HO656.out; subst eo71; obtain ⟨Ao72, co72, eo72⟩ := Kd.R_slice HO659.out; subst eo72) | ((with_reducible refine gate_callee (f := 24) rfl ?_); refine goesL_ (some 97) rfl rfl Tryd.func24 (by kernel_rfl) rfl #[.agg #[.int .i64 t646, .int .i64 t647, .int .i64 t648, .int .i64 t649, .int .i64 t650, .slice Ao70 t651.length co70, .slice Ao71 t654.length co71, .slice Ao72 t657.length co72], .int .i64 0] rfl (by (try simp only [List.map_toArray, List.map_cons, List.map_nil]); first | done | rfl | (simp only [List.length_drop, List.length_take]; rfl)) ?_; (with_reducible refine (star_Offset.calls t646 t647 t648 t649 t650 _ _ t651 _ _ t654 _ _ t657 0 t660 t661 t662 _ ?side1 ?side2 ?side3 ?side4 ?side5 ?side6 ?side7 A62.out).mono ?_); (case side1 => repeat (first | exact (Kd.V_reads' HO653.out).2.2 | (with_reducible refine Kd.C_alloc ?_ _) | (with_reducible refine Kd.C_drewN ?_ _) | (with_reducible refine Kd.C_drew ?_))); (case side2 => exact (Kd.V_reads' HO653.out).2.1); (case side3 => repeat (first | exact (Kd.V_reads' HO656.out).2.2 | (with_reducible refine Kd.C_alloc ?_ _) | (with_reducible refine Kd.C_drewN ?_ _) | (with_reducible refine Kd.C_drew ?_))); (case side4 => exact (Kd.V_reads' HO656.out).2.1); (case side5 => repeat (first | exact (Kd.R_reads' HO659.out).2.2 | (with_reducible refine Kd.C_alloc ?_ _) | (with_reducible refine Kd.C_drewN ?_ _) | (with_reducible refine Kd.C_drew ?_))); (case side6 => exact (Kd.R_reads' HO659.out).2.1); (case side7 => exact Go.Proofs.YtohbeninpmmmpaaDoor.Ways.below HWays.out (bl HB)); rintro e w73 ⟨rfl, hb⟩; refine ⟨_, rfl, ?_⟩; replace HO_11 := Aside0.mk (Kd.R_below (rk HO_11) hb); replace HO653 := Aside0.mk (Kd.V_below (by (with_reducible repeat (first | apply Kd.V_alloc | apply Kd.V_drewN | apply Kd.V_drew)); exact HO653.out) hb); replace HO656 := Aside0.mk (Kd.V_below (by (with_reducible repeat (first | apply Kd.V_alloc | apply Kd.V_drewN | apply Kd.V_drew)); exact HO656.out) hb); replace HO659 := Aside0.mk (Kd.R_below (rk HO659) hb); replace BK610 := Aside0.mk (blk_below (bk BK610) hb); replace BK620 := Aside0.mk (blk_below (bk BK620) hb); replace BK638 := Aside0.mk (blk_below (bk BK638) hb); replace HB := Aside0.mk (below_step (bl HB) hb); (try clear hb); (try clear hb2); (try clear hk); (try clear hi)) | (go_at_call 23; (with_reducible refine (remontoirlaw03_works.calls  t663 _ ?side1 A64.out).mono ?_); (case side1 => exact Go.Proofs.YtohbeninpmmmpaaDoor.Ways.below HWays.out (bl HB)); rintro e w74 ⟨rfl, hb⟩; replace HO_11 := Aside0.mk (Kd.R_below (rk HO_11) hb); replace HO653 := Aside0.mk (Kd.V_below (by (with_reducible repeat (first | apply Kd.V_alloc | apply Kd.V_drewN | apply Kd.V_drew)); exact HO653.out) hb); replace HO656 := Aside0.mk (Kd.V_below (by (with_reducible repeat (first | apply Kd.V_alloc | apply Kd.V_drewN | apply Kd.V_drew)); exact HO656.out) hb); replace HO659 := Aside0.mk (Kd.R_below (rk HO659) hb); replace BK610 := Aside0.mk (blk_below (bk BK610) hb); replace BK620 := Aside0.mk (blk_below (bk BK620) hb); replace BK638 := Aside0.mk (blk_below (bk BK638) hb); replace HB := Aside0.mk (below_step (bl HB) hb); (try clear hb); (try clear hb2); (try clear hk); (try clear hi)))
         go_ret
         exact ⟨by first | rfl | (simp [errW_none, errW_some] <;> rfl) | (simp only [← hji46]; first | rfl | (simp [errW_none, errW_some] <;> rfl)) | (simp [*, errW_none, errW_some] <;> rfl), by repeat (first | (with_reducible first | exact HB.out | apply below_alloc | apply pw_below_drewN | apply below_drew1 | refine below_set ?_ GE610.out | refine below_set ?_ GE620.out | refine below_set ?_ GE638.out) | exact HB.out)⟩
        ·
         rw [if_neg c63] at H
         have c63b0 : (t662 == 32) = false := beq_eq_false_iff_ne.mpr c63
         have c63b1 : (t662 != 32) = true := bne_iff_ne.mpr c63
         obtain rfl := Option.some.inj H
         have hnb75 := NB610_620.out
         have hnc75 := NB620_610.out
         have hnb76 := NB610_638.out
         have hnc76 := NB638_610.out
         have hcz77_0 : wc.cell? ⟨gb610, 0, none⟩ = some (.int .i64 a0_0) := bc BK610 0
         have hcz77_1 : wc.cell? ⟨gb610, 1, none⟩ = some (.int .i64 a0_1) := bc BK610 1
         have hcz77_2 : wc.cell? ⟨gb610, 2, none⟩ = some (.int .i64 a0_2) := bc BK610 2
         have hcz77_3 : wc.cell? ⟨gb610, 3, none⟩ = some (.int .i64 a0_3) := bc BK610 3
         have hcz77_4 : wc.cell? ⟨gb610, 4, none⟩ = some (.int .i64 a0_4) := bc BK610 4
         have hcz77_5 : wc.cell? ⟨gb610, 5, none⟩ = some (.slice A0_5 l0_5.length c0_5) := bc BK610 5
         have hcz77_6 : wc.cell? ⟨gb610, 6, none⟩ = some (.slice A0_6 l0_6.length c0_6) := bc BK610 6
         have hcz77_7 : wc.cell? ⟨gb610, 7, none⟩ = some (.slice A0_7 l0_7.length c0_7) := bc BK610 7
         have hfz77_0 := blk_frozen BK610.out 0
         have hfz77_1 := blk_frozen BK610.out 1
         have hfz77_2 := blk_frozen BK610.out 2
         have hfz77_3 := blk_frozen BK610.out 3
         have hfz77_4 := blk_frozen BK610.out 4
         have hfz77_5 := blk_frozen BK610.out 5
         have hfz77_6 := blk_frozen BK610.out 6
         have hfz77_7 := blk_frozen BK610.out 7
         obtain ⟨Ao78, co78, eo78⟩ := Kd.R_slice HO_11.out
         subst eo78
         go_wp2_with (first | ((with_reducible refine gate_callee (f := 47) rfl ?_); refine goesL_ (some 96) rfl rfl Tryd.func47 (by kernel_rfl) rfl #[.agg #[.int .i64 a0_0, .int .i64 a0_1, .int .i64 a0_2, .int .i64 a0_3, .int .i64 a0_4, .slice A0_5 l0_5.length c0_5, .slice A0_6 l0_6.length c0_6, .slice A0_7 l0_7.length c0_7], .slice Ao78 t641.length co78] rfl (by (try simp only [List.map_toArray, List.map_cons, List.map_nil]); first | done | rfl | (simp only [List.length_drop, List.length_take]; rfl)) ?_; (with_reducible refine (remontoirlaw03_without.calls kj48 a0_0 a0_1 a0_2 a0_3 a0_4 (fun k_ => k_ < w.heap.size) _ _ l0_5 (fun k_ => k_ < w.heap.size) _ _ l0_6 _ _ l0_7 _ _ t641 t646 t647 t648 t649 t650 t651 t654 t657 _ ?side1 ?side2 ?side3 ?side4 ?side5 ?side6 A61.out).mono ?_); (case side1 => exact Kd.V_mk HC0_5.out (Kd.F_below (Kd.C_F k23_heap HR0_5.out) (bl HB))); (case side2 => exact Kd.V_mk HC0_6.out (Kd.F_below (Kd.C_F k23_heap HR0_6.out) (bl HB))); (case side3 => repeat (first | exact (Kd.C_below HR0_7.out HB.out) | (with_reducible refine Kd.C_alloc ?_ _) | (with_reducible refine Kd.C_drewN ?_ _) | (with_reducible refine Kd.C_drew ?_))); (case side4 => exact HC0_7.out); (case side5 => repeat (first | exact (Kd.R_reads' HO_11.out).2.2 | (with_reducible refine Kd.C_alloc ?_ _) | (with_reducible refine Kd.C_drewN ?_ _) | (with_reducible refine Kd.C_drew ?_))); (case side6 => exact (Kd.R_reads' HO_11.out).2.1); rintro e w79 ⟨v652, v655, v658, rfl, ho0, ho1, ho2, hb⟩; refine ⟨_, rfl, ?_⟩; have HO653 := Aside0.mk (Kd.V_lower (Kd.V_mono (ok' := fun k_ => some k_ ≠ (v658 : Value).ownBlock ∧ some k_ ≠ (.slice Ao78 t641.length co78 : Value).ownBlock ∧ k_ ≠ gb610 ∧ k_ ≠ gb620 ∧ k_ ≠ gb638) ho0 (fun k_ hk_ => ⟨hk_.2, Or.elim hk_.1 (fun hs_ => Or.elim hs_ (fun hs_ => fun e_ => Nat.not_le.2 hs_ (Kd.R_base HO_11.out k_ e_.symm)) (fun hs_ => fun e_ => Nat.not_le.2 hs_ (Kd.R_base HO_11.out k_ e_.symm))) (fun hn_ => (Kd.fresh' (Kd.R_lt (rk HO_11)) k_ hn_)), Or.elim hk_.1 (fun hs_ => Or.elim hs_ (fun hs_ => fun e_ => Nat.not_le.2 hs_ (by rw [e_]; exact GW610.out)) (fun hs_ => fun e_ => Nat.not_le.2 hs_ (by rw [e_]; exact GW610.out))) (fun hn_ => (Kd.freshB (g := gb610) (o := .cells #[.int .i64 a0_0, .int .i64 a0_1, .int .i64 a0_2, .int .i64 a0_3, .int .i64 a0_4, .slice A0_5 l0_5.length c0_5, .slice A0_6 l0_6.length c0_6, .slice A0_7 l0_7.length c0_7] 27 (0, 0)) (bk BK610) k_ hn_)), Or.elim hk_.1 (fun hs_ => Or.elim hs_ (fun hs_ => fun e_ => Nat.not_le.2 hs_ (by rw [e_]; exact GW620.out)) (fun hs_ => fun e_ => Nat.not_le.2 hs_ (by rw [e_]; exact GW620.out))) (fun hn_ => (Kd.freshB (g := gb620) (o := .cells #[.int .i64 t617, .int .i64 t618] 23 (0, 0)) (bk BK620) k_ hn_)), Or.elim hk_.1 (fun hs_ => Or.elim hs_ (fun hs_ => fun e_ => Nat.not_le.2 hs_ (by rw [e_]; exact GW638.out)) (fun hs_ => fun e_ => Nat.not_le.2 hs_ (by rw [e_]; exact GW638.out))) (fun hn_ => (Kd.freshB (g := gb638) (o := .cells #[.int .i64 t635, .int .i64 t636] 23 (0, 0)) (bk BK638) k_ hn_))⟩)) (below_size (bl HB))); have HO656 := Aside0.mk (Kd.V_lower (Kd.V_mono (ok' := fun k_ => some k_ ≠ (v658 : Value).ownBlock ∧ some k_ ≠ (.slice Ao78 t641.length co78 : Value).ownBlock ∧ k_ ≠ gb610 ∧ k_ ≠ gb620 ∧ k_ ≠ gb638) ho1 (fun k_ hk_ => ⟨hk_.2, Or.elim hk_.1 (fun hs_ => Or.elim hs_ (fun hs_ => fun e_ => Nat.not_le.2 hs_ (Kd.R_base HO_11.out k_ e_.symm)) (fun hs_ => fun e_ => Nat.not_le.2 hs_ (Kd.R_base HO_11.out k_ e_.symm))) (fun hn_ => (Kd.fresh' (Kd.R_lt (rk HO_11)) k_ hn_)), Or.elim hk_.1 (fun hs_ => Or.elim hs_ (fun hs_ => fun e_ => Nat.not_le.2 hs_ (by rw [e_]; exact GW610.out)) (fun hs_ => fun e_ => Nat.not_le.2 hs_ (by rw [e_]; exact GW610.out))) (fun hn_ => (Kd.freshB (g := gb610) (o := .cells #[.int .i64 a0_0, .int .i64 a0_1, .int .i64 a0_2, .int .i64 a0_3, .int .i64 a0_4, .slice A0_5 l0_5.length c0_5, .slice A0_6 l0_6.length c0_6, .slice A0_7 l0_7.length c0_7] 27 (0, 0)) (bk BK610) k_ hn_)), Or.elim hk_.1 (fun hs_ => Or.elim hs_ (fun hs_ => fun e_ => Nat.not_le.2 hs_ (by rw [e_]; exact GW620.out)) (fun hs_ => fun e_ => Nat.not_le.2 hs_ (by rw [e_]; exact GW620.out))) (fun hn_ => (Kd.freshB (g := gb620) (o := .cells #[.int .i64 t617, .int .i64 t618] 23 (0, 0)) (bk BK620) k_ hn_)), Or.elim hk_.1 (fun hs_ => Or.elim hs_ (fun hs_ => fun e_ => Nat.not_le.2 hs_ (by rw [e_]; exact GW638.out)) (fun hs_ => fun e_ => Nat.not_le.2 hs_ (by rw [e_]; exact GW638.out))) (fun hn_ => (Kd.freshB (g := gb638) (o := .cells #[.int .i64 t635, .int .i64 t636] 23 (0, 0)) (bk BK638) k_ hn_))⟩)) (below_size (bl HB))); replace HO_11 := Aside0.mk (Kd.R_below (rk HO_11) hb); have HO659 := Aside0.mk (Kd.R_lower (Kd.R_mono (ok' := fun k_ => True) ho2 (fun _ hk_ => trivial)) (below_size (bl HB))); replace BK610 := Aside0.mk (blk_below (bk BK610) hb); replace BK620 := Aside0.mk (blk_below (bk BK620) hb); replace BK638 := Aside0.mk (blk_below (bk BK638) hb); replace HB := Aside0.mk (below_step (bl HB) hb); (try clear hb); (try clear hb2); (try clear hk); (try clear hi); (try clear ho0); (try clear ho1); (try clear ho2); obtain ⟨Ao80, co80, eo80⟩ := Kd.V_slice HO653.out; subst eo80; obtain ⟨Ao81, co81, eo81⟩ := Kd.V_slice HO656.out; subst eo81; obtain ⟨Ao82, co82, eo82⟩ := Kd.R_slice HO659.out; subst eo82) | ((with_reducible refine gate_callee (f := 24) rfl ?_); refine goesL_ (some 97) rfl rfl Tryd.func24 (by kernel_rfl) rfl #[.agg #[.int .i64 t646, .int .i64 t647, .int .i64 t648, .int .i64 t649, .int .i64 t650, .slice Ao80 t651.length co80, .slice Ao81 t654.length co81, .slice Ao82 t657.length co82], .int .i64 0] rfl (by (try simp only [List.map_toArray, List.map_cons, List.map_nil]); first | done | rfl | (simp only [List.length_drop, List.length_take]; rfl)) ?_; (with_reducible refine (star_Offset.calls t646 t647 t648 t649 t650 _ _ t651 _ _ t654 _ _ t657 0 t660 t661 t662 _ ?side1 ?side2 ?side3 ?side4 ?side5 ?side6 ?side7 A62.out).mono ?_); (case side1 => repeat (first | exact (Kd.V_reads' HO653.out).2.2 | (with_reducible refine Kd.C_alloc ?_ _) | (with_reducible refine Kd.C_drewN ?_ _) | (with_reducible refine Kd.C_drew ?_))); (case side2 => exact (Kd.V_reads' HO653.out).2.1); (case side3 => repeat (first | exact (Kd.V_reads' HO656.out).2.2 | (with_reducible refine Kd.C_alloc ?_ _) | (with_reducible refine Kd.C_drewN ?_ _) | (with_reducible refine Kd.C_drew ?_))); (case side4 => exact (Kd.V_reads' HO656.out).2.1); (case side5 => repeat (first | exact (Kd.R_reads' HO659.out).2.2 | (with_reducible refine Kd.C_alloc ?_ _) | (with_reducible refine Kd.C_drewN ?_ _) | (with_reducible refine Kd.C_drew ?_))); (case side6 => exact (Kd.R_reads' HO659.out).2.1); (case side7 => exact Go.Proofs.YtohbeninpmmmpaaDoor.Ways.below HWays.out (bl HB)); rintro e w83 ⟨rfl, hb⟩; refine ⟨_, rfl, ?_⟩; replace HO_11 := Aside0.mk (Kd.R_below (rk HO_11) hb); replace HO653 := Aside0.mk (Kd.V_below (by (with_reducible repeat (first | apply Kd.V_alloc | apply Kd.V_drewN | apply Kd.V_drew)); exact HO653.out) hb); replace HO656 := Aside0.mk (Kd.V_below (by (with_reducible repeat (first | apply Kd.V_alloc | apply Kd.V_drewN | apply Kd.V_drew)); exact HO656.out) hb); replace HO659 := Aside0.mk (Kd.R_below (rk HO659) hb); replace BK610 := Aside0.mk (blk_below (bk BK610) hb); replace BK620 := Aside0.mk (blk_below (bk BK620) hb); replace BK638 := Aside0.mk (blk_below (bk BK638) hb); replace HB := Aside0.mk (below_step (bl HB) hb); (try clear hb); (try clear hb2); (try clear hk); (try clear hi)))
         go_ret
         exact ⟨by first | rfl | (simp [errW_none, errW_some] <;> rfl) | (simp only [← hji46]; first | rfl | (simp [errW_none, errW_some] <;> rfl)) | (simp [*, errW_none, errW_some] <;> rfl), by repeat (first | (with_reducible first | exact HB.out | apply below_alloc | apply pw_below_drewN | apply below_drew1 | refine below_set ?_ GE610.out | refine below_set ?_ GE620.out | refine below_set ?_ GE638.out) | exact HB.out)⟩
 ·
  replace c5 := Bool.eq_false_iff.mpr c5
  subst c5
  have H1 : (if t614 = 30 then (if (t611.length : Int) = 0 then ((remontoirlaw03_works.f).bind fun t616 => (some t616)) else (some false)) else (some false)) = some r := by rw [if_neg (show ¬ (false = true) by decide)] at H; exact H
  clear H
  have H := H1
  clear H1
  by_cases c84 : t614 = 30
  ·
   rw [if_pos c84] at H
   have c84b0 : (t614 == 30) = true := beq_iff_eq.mpr c84
   have c84b1 : (t614 != 30) = false := bne_eq_false_iff_eq.mpr c84
   clear c84
   by_cases c85 : (t611.length : Int) = 0
   ·
    rw [if_pos c85] at H
    have c85b0 : ((t611.length : Int) == 0) = true := beq_iff_eq.mpr c85
    have c85b1 : ((t611.length : Int) != 0) = false := bne_eq_false_iff_eq.mpr c85
    clear c85
    replace H := Option.bind_eq_some_iff.mp H
    obtain ⟨t616, A860, H⟩ := H
    replace H : (some t616) = some r := H
    have A86 := Aside0.mk A860
    clear A860
    obtain rfl := Option.some.inj H
    go_enter Tryd.func13, Tryd.ntmps13
    go_wp2_with (first | ((with_reducible refine gate_dst (N := 2) rfl ?_); (try (refine gate_guard (by rfl) ?_; dsimp only)); refine box_event ?hg (N := 2) ?hd (cs := #[.int .i64 a0_0, .int .i64 a0_1, .int .i64 a0_2, .int .i64 a0_3, .int .i64 a0_4, .slice A0_5 l0_5.length c0_5, .slice A0_6 l0_6.length c0_6, .slice A0_7 l0_7.length c0_7]) (t := 27) ?hr ?_; (case hd => rfl); (case hg => rfl); (case hr => first | (go_simp; done) | (go_simp; rfl)); intro gb610 hg w87 hbox hb; have BK610 := Aside0.mk (hbox); have GW610 := geB hg (bl HB); have GE610 := geB hg (bl HB); replace HB := Aside0.mk (below_step (bl HB) hb); clear hb hbox hg; have hcz88_0 : w87.cell? ⟨gb610, 0, none⟩ = some (.int .i64 a0_0) := bc BK610 0; have hcz88_1 : w87.cell? ⟨gb610, 1, none⟩ = some (.int .i64 a0_1) := bc BK610 1; have hcz88_2 : w87.cell? ⟨gb610, 2, none⟩ = some (.int .i64 a0_2) := bc BK610 2; have hcz88_3 : w87.cell? ⟨gb610, 3, none⟩ = some (.int .i64 a0_3) := bc BK610 3; have hcz88_4 : w87.cell? ⟨gb610, 4, none⟩ = some (.int .i64 a0_4) := bc BK610 4; have hcz88_5 : w87.cell? ⟨gb610, 5, none⟩ = some (.slice A0_5 l0_5.length c0_5) := bc BK610 5; have hcz88_6 : w87.cell? ⟨gb610, 6, none⟩ = some (.slice A0_6 l0_6.length c0_6) := bc BK610 6; have hcz88_7 : w87.cell? ⟨gb610, 7, none⟩ = some (.slice A0_7 l0_7.length c0_7) := bc BK610 7; have hfz88_0 := blk_frozen BK610.out 0; have hfz88_1 := blk_frozen BK610.out 1; have hfz88_2 := blk_frozen BK610.out 2; have hfz88_3 := blk_frozen BK610.out 3; have hfz88_4 := blk_frozen BK610.out 4; have hfz88_5 := blk_frozen BK610.out 5; have hfz88_6 := blk_frozen BK610.out 6; have hfz88_7 := blk_frozen BK610.out 7) | ((with_reducible refine gate_callee (f := 31) rfl ?_); refine goesL_ (some 14) rfl rfl Tryd.func31 (by kernel_rfl) rfl #[.agg #[.int .i64 a0_0, .int .i64 a0_1, .int .i64 a0_2, .int .i64 a0_3, .int .i64 a0_4, .slice A0_5 l0_5.length c0_5, .slice A0_6 l0_6.length c0_6, .slice A0_7 l0_7.length c0_7]] rfl (by (try simp only [List.map_toArray, List.map_cons, List.map_nil]); first | done | rfl | (simp only [List.length_drop, List.length_take]; rfl)) ?_; (with_reducible refine (star_Wrong.calls a0_0 a0_1 a0_2 a0_3 a0_4 _ _ l0_5 _ _ l0_6 _ _ l0_7 t611 t614 _ ?side1 ?side2 ?side3 ?side4 ?side5 ?side6 ?side7 A3.out).mono ?_); (case side1 => repeat (first | exact (Kd.C_below HR0_5.out HB.out) | (with_reducible refine Kd.C_alloc ?_ _) | (with_reducible refine Kd.C_drewN ?_ _) | (with_reducible refine Kd.C_drew ?_))); (case side2 => exact HC0_5.out); (case side3 => repeat (first | exact (Kd.C_below HR0_6.out HB.out) | (with_reducible refine Kd.C_alloc ?_ _) | (with_reducible refine Kd.C_drewN ?_ _) | (with_reducible refine Kd.C_drew ?_))); (case side4 => exact HC0_6.out); (case side5 => repeat (first | exact (Kd.C_below HR0_7.out HB.out) | (with_reducible refine Kd.C_alloc ?_ _) | (with_reducible refine Kd.C_drewN ?_ _) | (with_reducible refine Kd.C_drew ?_))); (case side6 => exact HC0_7.out); (case side7 => exact Go.Proofs.YtohbeninpmmmpaaDoor.Ways.below HWays.out (bl HB)); rintro e w89 ⟨v612, rfl, ho0, hb⟩; refine ⟨_, rfl, ?_⟩; have HO613 := Aside0.mk (Kd.V_lower (Kd.V_mono (ok' := fun k_ => k_ ≠ gb610) ho0 (fun k_ hk_ => (Kd.freshB (g := gb610) (o := .cells #[.int .i64 a0_0, .int .i64 a0_1, .int .i64 a0_2, .int .i64 a0_3, .int .i64 a0_4, .slice A0_5 l0_5.length c0_5, .slice A0_6 l0_6.length c0_6, .slice A0_7 l0_7.length c0_7] 27 (0, 0)) (bk BK610) k_ hk_))) (below_size (bl HB))); replace BK610 := Aside0.mk (blk_below (bk BK610) hb); replace HB := Aside0.mk (below_step (bl HB) hb); (try clear hb); (try clear hb2); (try clear hk); (try clear hi); (try clear ho0); have hcz90_0 : w89.cell? ⟨gb610, 0, none⟩ = some (.int .i64 a0_0) := bc BK610 0; have hcz90_1 : w89.cell? ⟨gb610, 1, none⟩ = some (.int .i64 a0_1) := bc BK610 1; have hcz90_2 : w89.cell? ⟨gb610, 2, none⟩ = some (.int .i64 a0_2) := bc BK610 2; have hcz90_3 : w89.cell? ⟨gb610, 3, none⟩ = some (.int .i64 a0_3) := bc BK610 3; have hcz90_4 : w89.cell? ⟨gb610, 4, none⟩ = some (.int .i64 a0_4) := bc BK610 4; have hcz90_5 : w89.cell? ⟨gb610, 5, none⟩ = some (.slice A0_5 l0_5.length c0_5) := bc BK610 5; have hcz90_6 : w89.cell? ⟨gb610, 6, none⟩ = some (.slice A0_6 l0_6.length c0_6) := bc BK610 6; have hcz90_7 : w89.cell? ⟨gb610, 7, none⟩ = some (.slice A0_7 l0_7.length c0_7) := bc BK610 7; have hfz90_0 := blk_frozen BK610.out 0; have hfz90_1 := blk_frozen BK610.out 1; have hfz90_2 := blk_frozen BK610.out 2; have hfz90_3 := blk_frozen BK610.out 3; have hfz90_4 := blk_frozen BK610.out 4; have hfz90_5 := blk_frozen BK610.out 5; have hfz90_6 := blk_frozen BK610.out 6; have hfz90_7 := blk_frozen BK610.out 7) | ((with_reducible refine gate_callee (f := 38) rfl ?_); refine goesL_ (some 18) rfl rfl Tryd.func38 (by kernel_rfl) rfl #[.agg #[.int .i64 a0_0, .int .i64 a0_1, .int .i64 a0_2, .int .i64 a0_3, .int .i64 a0_4, .slice A0_5 l0_5.length c0_5, .slice A0_6 l0_6.length c0_6, .slice A0_7 l0_7.length c0_7]] rfl (by (try simp only [List.map_toArray, List.map_cons, List.map_nil]); first | done | rfl | (simp only [List.length_drop, List.length_take]; rfl)) ?_; (with_reducible refine (remontoirlaw03_sound.calls a0_0 a0_1 a0_2 a0_3 a0_4 _ _ l0_5 _ _ l0_6 _ _ l0_7 false _ ?side1 ?side2 ?side3 ?side4 ?side5 ?side6 ?side7 A4.out).mono ?_); (case side1 => repeat (first | exact (Kd.C_below HR0_5.out HB.out) | (with_reducible refine Kd.C_alloc ?_ _) | (with_reducible refine Kd.C_drewN ?_ _) | (with_reducible refine Kd.C_drew ?_))); (case side2 => exact HC0_5.out); (case side3 => repeat (first | exact (Kd.C_below HR0_6.out HB.out) | (with_reducible refine Kd.C_alloc ?_ _) | (with_reducible refine Kd.C_drewN ?_ _) | (with_reducible refine Kd.C_drew ?_))); (case side4 => exact HC0_6.out); (case side5 => repeat (first | exact (Kd.C_below HR0_7.out HB.out) | (with_reducible refine Kd.C_alloc ?_ _) | (with_reducible refine Kd.C_drewN ?_ _) | (with_reducible refine Kd.C_drew ?_))); (case side6 => exact HC0_7.out); (case side7 => exact Go.Proofs.YtohbeninpmmmpaaDoor.Ways.below HWays.out (bl HB)); rintro e w91 ⟨rfl, hb⟩; refine ⟨_, rfl, ?_⟩; replace HO613 := Aside0.mk (Kd.V_below (by (with_reducible repeat (first | apply Kd.V_alloc | apply Kd.V_drewN | apply Kd.V_drew)); exact HO613.out) hb); replace BK610 := Aside0.mk (blk_below (bk BK610) hb); replace HB := Aside0.mk (below_step (bl HB) hb); (try clear hb); (try clear hb2); (try clear hk); (try clear hi); obtain ⟨Ao92, co92, eo92⟩ := Kd.V_slice HO613.out; subst eo92) | (go_at_call 23; (with_reducible refine (remontoirlaw03_works.calls  t616 _ ?side1 A86.out).mono ?_); (case side1 => exact Go.Proofs.YtohbeninpmmmpaaDoor.Ways.below HWays.out (bl HB)); rintro e w93 ⟨rfl, hb⟩; replace HO613 := Aside0.mk (Kd.V_below (by (with_reducible repeat (first | apply Kd.V_alloc | apply Kd.V_drewN | apply Kd.V_drew)); exact HO613.out) hb); replace BK610 := Aside0.mk (blk_below (bk BK610) hb); replace HB := Aside0.mk (below_step (bl HB) hb); (try clear hb); (try clear hb2); (try clear hk); (try clear hi)))
    go_ret
    exact ⟨by first | rfl | (simp [errW_none, errW_some] <;> rfl) | (simp [*, errW_none, errW_some] <;> rfl), by repeat (first | (with_reducible first | exact HB.out | apply below_alloc | apply pw_below_drewN | apply below_drew1 | refine below_set ?_ GE610.out) | exact HB.out)⟩
   ·
    rw [if_neg c85] at H
    have c85b0 : ((t611.length : Int) == 0) = false := beq_eq_false_iff_ne.mpr c85
    have c85b1 : ((t611.length : Int) != 0) = true := bne_iff_ne.mpr c85
    have c85b2 : ¬ (t611 = []) := fun h_ => c85 (by rw [h_]; rfl)
    obtain rfl := Option.some.inj H
    go_enter Tryd.func13, Tryd.ntmps13
    go_wp2_with (first | ((with_reducible refine gate_dst (N := 2) rfl ?_); (try (refine gate_guard (by rfl) ?_; dsimp only)); refine box_event ?hg (N := 2) ?hd (cs := #[.int .i64 a0_0, .int .i64 a0_1, .int .i64 a0_2, .int .i64 a0_3, .int .i64 a0_4, .slice A0_5 l0_5.length c0_5, .slice A0_6 l0_6.length c0_6, .slice A0_7 l0_7.length c0_7]) (t := 27) ?hr ?_; (case hd => rfl); (case hg => rfl); (case hr => first | (go_simp; done) | (go_simp; rfl)); intro gb610 hg w94 hbox hb; have BK610 := Aside0.mk (hbox); have GW610 := geB hg (bl HB); have GE610 := geB hg (bl HB); replace HB := Aside0.mk (below_step (bl HB) hb); clear hb hbox hg; have hcz95_0 : w94.cell? ⟨gb610, 0, none⟩ = some (.int .i64 a0_0) := bc BK610 0; have hcz95_1 : w94.cell? ⟨gb610, 1, none⟩ = some (.int .i64 a0_1) := bc BK610 1; have hcz95_2 : w94.cell? ⟨gb610, 2, none⟩ = some (.int .i64 a0_2) := bc BK610 2; have hcz95_3 : w94.cell? ⟨gb610, 3, none⟩ = some (.int .i64 a0_3) := bc BK610 3; have hcz95_4 : w94.cell? ⟨gb610, 4, none⟩ = some (.int .i64 a0_4) := bc BK610 4; have hcz95_5 : w94.cell? ⟨gb610, 5, none⟩ = some (.slice A0_5 l0_5.length c0_5) := bc BK610 5; have hcz95_6 : w94.cell? ⟨gb610, 6, none⟩ = some (.slice A0_6 l0_6.length c0_6) := bc BK610 6; have hcz95_7 : w94.cell? ⟨gb610, 7, none⟩ = some (.slice A0_7 l0_7.length c0_7) := bc BK610 7; have hfz95_0 := blk_frozen BK610.out 0; have hfz95_1 := blk_frozen BK610.out 1; have hfz95_2 := blk_frozen BK610.out 2; have hfz95_3 := blk_frozen BK610.out 3; have hfz95_4 := blk_frozen BK610.out 4; have hfz95_5 := blk_frozen BK610.out 5; have hfz95_6 := blk_frozen BK610.out 6; have hfz95_7 := blk_frozen BK610.out 7) | ((with_reducible refine gate_callee (f := 31) rfl ?_); refine goesL_ (some 14) rfl rfl Tryd.func31 (by kernel_rfl) rfl #[.agg #[.int .i64 a0_0, .int .i64 a0_1, .int .i64 a0_2, .int .i64 a0_3, .int .i64 a0_4, .slice A0_5 l0_5.length c0_5, .slice A0_6 l0_6.length c0_6, .slice A0_7 l0_7.length c0_7]] rfl (by (try simp only [List.map_toArray, List.map_cons, List.map_nil]); first | done | rfl | (simp only [List.length_drop, List.length_take]; rfl)) ?_; (with_reducible refine (star_Wrong.calls a0_0 a0_1 a0_2 a0_3 a0_4 _ _ l0_5 _ _ l0_6 _ _ l0_7 t611 t614 _ ?side1 ?side2 ?side3 ?side4 ?side5 ?side6 ?side7 A3.out).mono ?_); (case side1 => repeat (first | exact (Kd.C_below HR0_5.out HB.out) | (with_reducible refine Kd.C_alloc ?_ _) | (with_reducible refine Kd.C_drewN ?_ _) | (with_reducible refine Kd.C_drew ?_))); (case side2 => exact HC0_5.out); (case side3 => repeat (first | exact (Kd.C_below HR0_6.out HB.out) | (with_reducible refine Kd.C_alloc ?_ _) | (with_reducible refine Kd.C_drewN ?_ _) | (with_reducible refine Kd.C_drew ?_))); (case side4 => exact HC0_6.out); (case side5 => repeat (first | exact (Kd.C_below HR0_7.out HB.out) | (with_reducible refine Kd.C_alloc ?_ _) | (with_reducible refine Kd.C_drewN ?_ _) | (with_reducible refine Kd.C_drew ?_))); (case side6 => exact HC0_7.out); (case side7 => exact Go.Proofs.YtohbeninpmmmpaaDoor.Ways.below HWays.out (bl HB)); rintro e w96 ⟨v612, rfl, ho0, hb⟩; refine ⟨_, rfl, ?_⟩; have HO613 := Aside0.mk (Kd.V_lower (Kd.V_mono (ok' := fun k_ => k_ ≠ gb610) ho0 (fun k_ hk_ => (Kd.freshB (g := gb610) (o := .cells #[.int .i64 a0_0, .int .i64 a0_1, .int .i64 a0_2, .int .i64 a0_3, .int .i64 a0_4, .slice A0_5 l0_5.length c0_5, .slice A0_6 l0_6.length c0_6, .slice A0_7 l0_7.length c0_7] 27 (0, 0)) (bk BK610) k_ hk_))) (below_size (bl HB))); replace BK610 := Aside0.mk (blk_below (bk BK610) hb); replace HB := Aside0.mk (below_step (bl HB) hb); (try clear hb); (try clear hb2); (try clear hk); (try clear hi); (try clear ho0); have hcz97_0 : w96.cell? ⟨gb610, 0, none⟩ = some (.int .i64 a0_0) := bc BK610 0; have hcz97_1 : w96.cell? ⟨gb610, 1, none⟩ = some (.int .i64 a0_1) := bc BK610 1; have hcz97_2 : w96.cell? ⟨gb610, 2, none⟩ = some (.int .i64 a0_2) := bc BK610 2; have hcz97_3 : w96.cell? ⟨gb610, 3, none⟩ = some (.int .i64 a0_3) := bc BK610 3; have hcz97_4 : w96.cell? ⟨gb610, 4, none⟩ = some (.int .i64 a0_4) := bc BK610 4; have hcz97_5 : w96.cell? ⟨gb610, 5, none⟩ = some (.slice A0_5 l0_5.length c0_5) := bc BK610 5; have hcz97_6 : w96.cell? ⟨gb610, 6, none⟩ = some (.slice A0_6 l0_6.length c0_6) := bc BK610 6; have hcz97_7 : w96.cell? ⟨gb610, 7, none⟩ = some (.slice A0_7 l0_7.length c0_7) := bc BK610 7; have hfz97_0 := blk_frozen BK610.out 0; have hfz97_1 := blk_frozen BK610.out 1; have hfz97_2 := blk_frozen BK610.out 2; have hfz97_3 := blk_frozen BK610.out 3; have hfz97_4 := blk_frozen BK610.out 4; have hfz97_5 := blk_frozen BK610.out 5; have hfz97_6 := blk_frozen BK610.out 6; have hfz97_7 := blk_frozen BK610.out 7) | ((with_reducible refine gate_callee (f := 38) rfl ?_); refine goesL_ (some 18) rfl rfl Tryd.func38 (by kernel_rfl) rfl #[.agg #[.int .i64 a0_0, .int .i64 a0_1, .int .i64 a0_2, .int .i64 a0_3, .int .i64 a0_4, .slice A0_5 l0_5.length c0_5, .slice A0_6 l0_6.length c0_6, .slice A0_7 l0_7.length c0_7]] rfl (by (try simp only [List.map_toArray, List.map_cons, List.map_nil]); first | done | rfl | (simp only [List.length_drop, List.length_take]; rfl)) ?_; (with_reducible refine (remontoirlaw03_sound.calls a0_0 a0_1 a0_2 a0_3 a0_4 _ _ l0_5 _ _ l0_6 _ _ l0_7 false _ ?side1 ?side2 ?side3 ?side4 ?side5 ?side6 ?side7 A4.out).mono ?_); (case side1 => repeat (first | exact (Kd.C_below HR0_5.out HB.out) | (with_reducible refine Kd.C_alloc ?_ _) | (with_reducible refine Kd.C_drewN ?_ _) | (with_reducible refine Kd.C_drew ?_))); (case side2 => exact HC0_5.out); (case side3 => repeat (first | exact (Kd.C_below HR0_6.out HB.out) | (with_reducible refine Kd.C_alloc ?_ _) | (with_reducible refine Kd.C_drewN ?_ _) | (with_reducible refine Kd.C_drew ?_))); (case side4 => exact HC0_6.out); (case side5 => repeat (first | exact (Kd.C_below HR0_7.out HB.out) | (with_reducible refine Kd.C_alloc ?_ _) | (with_reducible refine Kd.C_drewN ?_ _) | (with_reducible refine Kd.C_drew ?_))); (case side6 => exact HC0_7.out); (case side7 => exact Go.Proofs.YtohbeninpmmmpaaDoor.Ways.below HWays.out (bl HB)); rintro e w98 ⟨rfl, hb⟩; refine ⟨_, rfl, ?_⟩; replace HO613 := Aside0.mk (Kd.V_below (by (with_reducible repeat (first | apply Kd.V_alloc | apply Kd.V_drewN | apply Kd.V_drew)); exact HO613.out) hb); replace BK610 := Aside0.mk (blk_below (bk BK610) hb); replace HB := Aside0.mk (below_step (bl HB) hb); (try clear hb); (try clear hb2); (try clear hk); (try clear hi); obtain ⟨Ao99, co99, eo99⟩ := Kd.V_slice HO613.out; subst eo99))
    go_ret
    exact ⟨by first | rfl | (simp [errW_none, errW_some] <;> rfl) | (simp [*, errW_none, errW_some] <;> rfl), by repeat (first | (with_reducible first | exact HB.out | apply below_alloc | apply pw_below_drewN | apply below_drew1 | refine below_set ?_ GE610.out) | exact HB.out)⟩
  ·
   rw [if_neg c84] at H
   have c84b0 : (t614 == 30) = false := beq_eq_false_iff_ne.mpr c84
   have c84b1 : (t614 != 30) = true := bne_iff_ne.mpr c84
   obtain rfl := Option.some.inj H
   go_enter Tryd.func13, Tryd.ntmps13
   go_wp2_with (first | ((with_reducible refine gate_dst (N := 2) rfl ?_); (try (refine gate_guard (by rfl) ?_; dsimp only)); refine box_event ?hg (N := 2) ?hd (cs := #[.int .i64 a0_0, .int .i64 a0_1, .int .i64 a0_2, .int .i64 a0_3, .int .i64 a0_4, .slice A0_5 l0_5.length c0_5, .slice A0_6 l0_6.length c0_6, .slice A0_7 l0_7.length c0_7]) (t := 27) ?hr ?_; (case hd => rfl); (case hg => rfl); (case hr => first | (go_simp; done) | (go_simp; rfl)); intro gb610 hg w100 hbox hb; have BK610 := Aside0.mk (hbox); have GW610 := geB hg (bl HB); have GE610 := geB hg (bl HB); replace HB := Aside0.mk (below_step (bl HB) hb); clear hb hbox hg; have hcz101_0 : w100.cell? ⟨gb610, 0, none⟩ = some (.int .i64 a0_0) := bc BK610 0; have hcz101_1 : w100.cell? ⟨gb610, 1, none⟩ = some (.int .i64 a0_1) := bc BK610 1; have hcz101_2 : w100.cell? ⟨gb610, 2, none⟩ = some (.int .i64 a0_2) := bc BK610 2; have hcz101_3 : w100.cell? ⟨gb610, 3, none⟩ = some (.int .i64 a0_3) := bc BK610 3; have hcz101_4 : w100.cell? ⟨gb610, 4, none⟩ = some (.int .i64 a0_4) := bc BK610 4; have hcz101_5 : w100.cell? ⟨gb610, 5, none⟩ = some (.slice A0_5 l0_5.length c0_5) := bc BK610 5; have hcz101_6 : w100.cell? ⟨gb610, 6, none⟩ = some (.slice A0_6 l0_6.length c0_6) := bc BK610 6; have hcz101_7 : w100.cell? ⟨gb610, 7, none⟩ = some (.slice A0_7 l0_7.length c0_7) := bc BK610 7; have hfz101_0 := blk_frozen BK610.out 0; have hfz101_1 := blk_frozen BK610.out 1; have hfz101_2 := blk_frozen BK610.out 2; have hfz101_3 := blk_frozen BK610.out 3; have hfz101_4 := blk_frozen BK610.out 4; have hfz101_5 := blk_frozen BK610.out 5; have hfz101_6 := blk_frozen BK610.out 6; have hfz101_7 := blk_frozen BK610.out 7) | ((with_reducible refine gate_callee (f := 31) rfl ?_); refine goesL_ (some 14) rfl rfl Tryd.func31 (by kernel_rfl) rfl #[.agg #[.int .i64 a0_0, .int .i64 a0_1, .int .i64 a0_2, .int .i64 a0_3, .int .i64 a0_4, .slice A0_5 l0_5.length c0_5, .slice A0_6 l0_6.length c0_6, .slice A0_7 l0_7.length c0_7]] rfl (by (try simp only [List.map_toArray, List.map_cons, List.map_nil]); first | done | rfl | (simp only [List.length_drop, List.length_take]; rfl)) ?_; (with_reducible refine (star_Wrong.calls a0_0 a0_1 a0_2 a0_3 a0_4 _ _ l0_5 _ _ l0_6 _ _ l0_7 t611 t614 _ ?side1 ?side2 ?side3 ?side4 ?side5 ?side6 ?side7 A3.out).mono ?_); (case side1 => repeat (first | exact (Kd.C_below HR0_5.out HB.out) | (with_reducible refine Kd.C_alloc ?_ _) | (with_reducible refine Kd.C_drewN ?_ _) | (with_reducible refine Kd.C_drew ?_))); (case side2 => exact HC0_5.out); (case side3 => repeat (first | exact (Kd.C_below HR0_6.out HB.out) | (with_reducible refine Kd.C_alloc ?_ _) | (with_reducible refine Kd.C_drewN ?_ _) | (with_reducible refine Kd.C_drew ?_))); (case side4 => exact HC0_6.out); (case side5 => repeat (first | exact (Kd.C_below HR0_7.out HB.out) | (with_reducible refine Kd.C_alloc ?_ _) | (with_reducible refine Kd.C_drewN ?_ _) | (with_reducible refine Kd.C_drew ?_))); (case side6 => exact HC0_7.out); (case side7 => exact Go.Proofs.YtohbeninpmmmpaaDoor.Ways.below HWays.out (bl HB)); rintro e w102 ⟨v612, rfl, ho0, hb⟩; refine ⟨_, rfl, ?_⟩; have HO613 := Aside0.mk (Kd.V_lower (Kd.V_mono (ok' := fun k_ => k_ ≠ gb610) ho0 (fun k_ hk_ => (Kd.freshB (g := gb610) (o := .cells #[.int .i64 a0_0, .int .i64 a0_1, .int .i64 a0_2, .int .i64 a0_3, .int .i64 a0_4, .slice A0_5 l0_5.length c0_5, .slice A0_6 l0_6.length c0_6, .slice A0_7 l0_7.length c0_7] 27 (0, 0)) (bk BK610) k_ hk_))) (below_size (bl HB))); replace BK610 := Aside0.mk (blk_below (bk BK610) hb); replace HB := Aside0.mk (below_step (bl HB) hb); (try clear hb); (try clear hb2); (try clear hk); (try clear hi); (try clear ho0); have hcz103_0 : w102.cell? ⟨gb610, 0, none⟩ = some (.int .i64 a0_0) := bc BK610 0; have hcz103_1 : w102.cell? ⟨gb610, 1, none⟩ = some (.int .i64 a0_1) := bc BK610 1; have hcz103_2 : w102.cell? ⟨gb610, 2, none⟩ = some (.int .i64 a0_2) := bc BK610 2; have hcz103_3 : w102.cell? ⟨gb610, 3, none⟩ = some (.int .i64 a0_3) := bc BK610 3; have hcz103_4 : w102.cell? ⟨gb610, 4, none⟩ = some (.int .i64 a0_4) := bc BK610 4; have hcz103_5 : w102.cell? ⟨gb610, 5, none⟩ = some (.slice A0_5 l0_5.length c0_5) := bc BK610 5; have hcz103_6 : w102.cell? ⟨gb610, 6, none⟩ = some (.slice A0_6 l0_6.length c0_6) := bc BK610 6; have hcz103_7 : w102.cell? ⟨gb610, 7, none⟩ = some (.slice A0_7 l0_7.length c0_7) := bc BK610 7; have hfz103_0 := blk_frozen BK610.out 0; have hfz103_1 := blk_frozen BK610.out 1; have hfz103_2 := blk_frozen BK610.out 2; have hfz103_3 := blk_frozen BK610.out 3; have hfz103_4 := blk_frozen BK610.out 4; have hfz103_5 := blk_frozen BK610.out 5; have hfz103_6 := blk_frozen BK610.out 6; have hfz103_7 := blk_frozen BK610.out 7) | ((with_reducible refine gate_callee (f := 38) rfl ?_); refine goesL_ (some 18) rfl rfl Tryd.func38 (by kernel_rfl) rfl #[.agg #[.int .i64 a0_0, .int .i64 a0_1, .int .i64 a0_2, .int .i64 a0_3, .int .i64 a0_4, .slice A0_5 l0_5.length c0_5, .slice A0_6 l0_6.length c0_6, .slice A0_7 l0_7.length c0_7]] rfl (by (try simp only [List.map_toArray, List.map_cons, List.map_nil]); first | done | rfl | (simp only [List.length_drop, List.length_take]; rfl)) ?_; (with_reducible refine (remontoirlaw03_sound.calls a0_0 a0_1 a0_2 a0_3 a0_4 _ _ l0_5 _ _ l0_6 _ _ l0_7 false _ ?side1 ?side2 ?side3 ?side4 ?side5 ?side6 ?side7 A4.out).mono ?_); (case side1 => repeat (first | exact (Kd.C_below HR0_5.out HB.out) | (with_reducible refine Kd.C_alloc ?_ _) | (with_reducible refine Kd.C_drewN ?_ _) | (with_reducible refine Kd.C_drew ?_))); (case side2 => exact HC0_5.out); (case side3 => repeat (first | exact (Kd.C_below HR0_6.out HB.out) | (with_reducible refine Kd.C_alloc ?_ _) | (with_reducible refine Kd.C_drewN ?_ _) | (with_reducible refine Kd.C_drew ?_))); (case side4 => exact HC0_6.out); (case side5 => repeat (first | exact (Kd.C_below HR0_7.out HB.out) | (with_reducible refine Kd.C_alloc ?_ _) | (with_reducible refine Kd.C_drewN ?_ _) | (with_reducible refine Kd.C_drew ?_))); (case side6 => exact HC0_7.out); (case side7 => exact Go.Proofs.YtohbeninpmmmpaaDoor.Ways.below HWays.out (bl HB)); rintro e w104 ⟨rfl, hb⟩; refine ⟨_, rfl, ?_⟩; replace HO613 := Aside0.mk (Kd.V_below (by (with_reducible repeat (first | apply Kd.V_alloc | apply Kd.V_drewN | apply Kd.V_drew)); exact HO613.out) hb); replace BK610 := Aside0.mk (blk_below (bk BK610) hb); replace HB := Aside0.mk (below_step (bl HB) hb); (try clear hb); (try clear hb2); (try clear hk); (try clear hi)))
   go_ret
   exact ⟨by first | rfl | (simp [errW_none, errW_some] <;> rfl) | (simp [*, errW_none, errW_some] <;> rfl), by repeat (first | (with_reducible first | exact HB.out | apply below_alloc | apply pw_below_drewN | apply below_drew1 | refine below_set ?_ GE610.out) | exact HB.out)⟩

end Go.Proofs.TrydX.X
end

section
-- Written by wip/tools/pr.py (a program of this repo over the kit's print.py).
namespace Go.Proofs.TrydX.X
open Go.RowKit Go.Proofs.YtohbeninpmmmpaaDoorW.PrintWords Go.Proofs.YtohbeninpmmmpaaDoorW.PrintLast Go.Proofs.YtohbeninpmmmpaaDoorW.PrintMore
attribute [local go_sem] max2_int min2_int max_two min_two max_three min_three max_four min_four   -- for this text's walks alone
set_option linter.unusedVariables false
set_option linter.unusedSimpArgs false

end Go.Proofs.TrydX.X
end

section
/- Plain: what the functions of star answer of a book that Check lets in; sound. -/
set_option linter.unusedVariables false
set_option linter.unusedSimpArgs false
set_option linter.unusedSectionVars false
namespace Go.Proofs.YtohbeninpmmmpaaDoor
open Go.RowKit Go.Proofs.YtohbeninpmmmpaaDoorW.PrintWords Go.Proofs.YtohbeninpmmmpaaDoorW.PrintLast Go.Proofs.YtohbeninpmmmpaaDoorW.PrintMore TrydX.X
theorem wr {x : Int} (h : -9223372036854775808 ≤ x ∧ x ≤ 9223372036854775807) : wrap64 x = x := IntWalk.wrap64_in x h
theorem Rest_f (x m : Int) (hm : 0 < m) (hm2 : m ≤ 4611686018427387904) : ∃ r, remontoirref00_Rest.f x m = some r ∧ 0 ≤ r ∧ r < m := by
  unfold remontoirref00_Rest.f
  rw [if_neg (by omega)]
  have h1 := Int.tmod_lt_of_pos x hm
  have h2 := Int.lt_tmod_of_pos x hm
  split
  · rename_i h
    rw [wr (by omega)]
    exact ⟨_, rfl, by omega, by omega⟩
  · exact ⟨_, rfl, by omega, h1⟩
section
variable {b : Bk}
theorem Bk.small (hb : b.ok) : b.l5.length ≤ 17592186044416 ∧ b.l6.length ≤ 17592186044416 ∧ b.l7.length ≤ 17592186044416 := by
  obtain ⟨h5, h6, h7⟩ := BookOk.len hb
  omega
theorem ask_f (hb : b.ok) {ok : Bool} (h : ok = true) : askE b.N b.b0 b.b1 b.r0 b.r1 b.l5 b.l6 b.l7 ok = if b.can [] = true then 0 else 32 := by
  unfold askE
  rw [if_pos (checkB_iff.2 hb), if_pos h]
  rfl
/-- What is told of a question, and the error. -/
def Bk.ans (b : Bk) (lo hi : Int) : Int × Int × Int := if b.can [] = true then (-lo, hi, 0) else (0, 0, 32)
theorem ans_is (hb : b.ok) {ok : Bool} (h : ok = true) (lo hi : Int) : (if askE b.N b.b0 b.b1 b.r0 b.r1 b.l5 b.l6 b.l7 ok = 0 then -lo else 0, if askE b.N b.b0 b.b1 b.r0 b.r1 b.l5 b.l6 b.l7 ok = 0 then hi else 0, askE b.N b.b0 b.b1 b.r0 b.r1 b.l5 b.l6 b.l7 ok) = b.ans lo hi := by
  rw [ask_f hb h]
  unfold Bk.ans
  by_cases hc : b.can [] = true
  · simp [hc]
  · simp [hc]
theorem off_f (hb : b.ok) {n : Int} (h : 0 ≤ n ∧ n < b.N) : star_Offset.f b.N b.b0 b.b1 b.r0 b.r1 b.l5 b.l6 b.l7 n = some (b.ans (b.told [] 0 (1 + n.toNat)) (b.told [] (1 + n.toNat) 0)) := by
  have hN := BookOk.n hb
  unfold star_Offset.f
  rw [if_pos (Bk.small hb)]
  exact congrArg some (ans_is hb (by rw [wr (by omega)]; exact decide_eq_true (by omega)) _ _)
theorem wrong_f (hb : b.ok) : ∃ t : List Nat, star_Wrong.f b.N b.b0 b.b1 b.r0 b.r1 b.l5 b.l6 b.l7 = some (ints t, 0) ∧ wrongF b.l7.length b.can = some (ints t) := by
  have hcn : b.can (ints (List.range b.l7.length)) = true := Bk.can_none hb fun j hj => List.mem_map.2 ⟨j, List.mem_range.2 hj, rfl⟩
  obtain ⟨l, hl⟩ := wrong_is hcn
  obtain ⟨t, _, rfl, _⟩ := wrong_some hl
  refine ⟨t, ?_, hl⟩
  unfold star_Wrong.f
  rw [if_pos (Bk.small hb), if_pos (checkB_iff.2 hb), if_pos (checkB_iff.2 hb)]
  have e : wrongF b.l7.length (canB b.N b.b0 b.b1 b.r0 b.r1 b.l5 b.l6 b.l7) = some (ints t) := hl
  rw [e]
  rfl
end
theorem sound_f {N b0 b1 r0 r1 : Int} {l5 l6 : List S23} {l7 : List S63} (h5 : l5.length ≤ 17592186044416) (h6 : l6.length ≤ 17592186044416) (h7 : l7.length ≤ 17592186044416) : remontoirlaw03_sound.f N b0 b1 r0 r1 l5 l6 l7 = some (checkB N b0 b1 r0 r1 l5 l6 l7) := if_pos ⟨h5, h6, h7⟩
end Go.Proofs.YtohbeninpmmmpaaDoor
end

section
/- Plain: lists of looks: without, Find, Climbs, List, First, Ahead, Alike. -/
set_option linter.unusedVariables false
set_option linter.unusedSimpArgs false
set_option linter.unusedSectionVars false
namespace Go.Proofs.YtohbeninpmmmpaaDoor
open Go.RowKit Go.Proofs.YtohbeninpmmmpaaDoorW.PrintWords Go.Proofs.YtohbeninpmmmpaaDoorW.PrintLast Go.Proofs.YtohbeninpmmmpaaDoorW.PrintMore TrydX.X
theorem next {j : Nat} (h : j ≤ 1000) : wrap64 ((j : Int) + 1) = ((j + 1 : Nat) : Int) := by
  rw [wr (by omega)]
  omega
theorem rd_drop (l : List Int) (j : Nat) (h : j < l.length) : l.drop j = rd l (j : Int) :: l.drop (j + 1) := by
  rw [List.drop_eq_getElem_cons h]
  congr 1
  unfold rd
  rw [Int.toNat_natCast, List.getD_eq_getElem?_getD, List.getElem?_eq_getElem h]
  rfl
theorem find_l0 (l : List Int) (hl : l.length ≤ 1000) (x : Int) : ∀ (d k j : Nat), j + d = l.length → d < k → ∃ r, remontoirref00_Find.l0 k l x (l.length : Int) (j : Int) = some r ∧ (r < 0 ↔ x ∉ l.drop j)
  | 0, k + 1, j, hj, hk => by
    refine ⟨-1, ?_, ?_⟩
    · unfold remontoirref00_Find.l0
      rw [if_neg (by omega)]
    · rw [List.drop_eq_nil_of_le (by omega)]
      simp
  | d + 1, k + 1, j, hj, hk => by
    rw [rd_drop l j (by omega)]
    unfold remontoirref00_Find.l0
    rw [if_pos (by omega), if_pos (by omega), if_pos (by omega)]
    by_cases e : rd l (j : Int) = x
    · rw [if_pos e]
      exact ⟨_, rfl, by rw [e]; simp⟩
    · rw [if_neg e, next (by omega)]
      obtain ⟨r, h1, h2⟩ := find_l0 l hl x d k (j + 1) (by omega) (by omega)
      refine ⟨r, h1, ?_⟩
      rw [h2, List.mem_cons]
      exact ⟨fun h h' => h'.elim (fun h' => e h'.symm) h, fun h h' => h (.inr h')⟩
theorem find_f (l : List Int) (hl : l.length ≤ 1000) (x : Int) (k : Nat) (hk : l.length < k) : ∃ r, remontoirref00_Find.f k l x = some r ∧ (r < 0 ↔ x ∉ l) := by
  have := find_l0 l hl x l.length k 0 (by omega) hk
  simpa [remontoirref00_Find.f] using this
/-- The places of the looks that stay, from one on. -/
def stays (L : Nat) (l : List Int) : List Nat := (List.range L).filter fun j => !decide ((j : Int) ∈ l)
def lessL (l7 : List S63) (l : List Int) : List S63 := (stays l7.length l).map fun (j : Nat) => rd_T63 l7 (j : Int)
theorem stays_succ (n : Nat) (l : List Int) : stays (n + 1) l = if ((n : Int) ∈ l) then stays n l else stays n l ++ [n] := by
  unfold stays
  rw [List.range_succ, List.filter_append]
  by_cases h : (n : Int) ∈ l <;> simp [h]
theorem stays_length (n : Nat) (l : List Int) : (stays n l).length ≤ n := by
  have := List.length_filter_le (fun j : Nat => !decide ((j : Int) ∈ l)) (List.range n)
  simpa [stays] using this
theorem mem_stays {n : Nat} {l : List Int} {j : Nat} : j ∈ stays n l ↔ j < n ∧ (j : Int) ∉ l := by simp [stays]
section
variable {N b0 b1 r0 r1 : Int} {l5 l6 : List S23} {l7 : List S63}
theorem without_l0 (l : List Int) (hl : l.length ≤ 1000) (h7 : l7.length ≤ 1000) : ∀ (d k j : Nat), j + d = l7.length → d + 1001 < k → remontoirlaw03_without.l0 k l (j : Int) N b0 b1 r0 r1 l5 l6 l7 N b0 b1 r0 r1 l5 l6 ((stays j l).map fun (i : Nat) => rd_T63 l7 (i : Int)) = some (N, b0, b1, r0, r1, l5, l6, lessL l7 l)
  | 0, k + 1, j, hj, hk => by
    unfold remontoirlaw03_without.l0
    rw [if_neg (by omega), show j = l7.length by omega]
    rfl
  | d + 1, k + 1, j, hj, hk => by
    unfold remontoirlaw03_without.l0
    obtain ⟨r, h1, h2⟩ := find_f l hl (j : Int) k (by omega)
    have ih := without_l0 l hl h7 d k (j + 1) (by omega) (by omega)
    have hs := stays_length j l
    rw [if_pos (by omega), h1, Option.bind_some, next (by omega)]
    rw [stays_succ] at ih
    by_cases e : (j : Int) ∈ l
    · rw [if_neg (by rw [h2]; simpa using e)]
      rw [if_pos e] at ih
      exact ih
    · rw [if_pos (h2.2 e), if_pos (by omega), if_pos (by rw [List.length_map]; omega)]
      rw [if_neg e, List.map_append] at ih
      exact ih
theorem without_f (l : List Int) (hl : l.length ≤ 1000) (h7 : l7.length ≤ 1000) (k : Nat) (hk : 3000 < k) : remontoirlaw03_without.f k N b0 b1 r0 r1 l5 l6 l7 l = some (N, b0, b1, r0, r1, l5, l6, lessL l7 l) :=
  without_l0 l hl h7 l7.length k 0 (by omega) (by omega)
end
/-- A book without some looks. -/
def Bk.less (b : Bk) (l : List Int) : Bk := ⟨b.N, b.b0, b.b1, b.r0, b.r1, b.l5, b.l6, lessL b.l7 l⟩
theorem lessL_get {l7 : List S63} {l : List Int} {j : Nat} (hj : j < (lessL l7 l).length) : ∃ i, i < l7.length ∧ (i : Int) ∉ l ∧ rd_T63 (lessL l7 l) (j : Int) = rd_T63 l7 (i : Int) := by
  have hj' : j < (stays l7.length l).length := by simpa [lessL] using hj
  have hm := mem_stays.1 (List.getElem_mem hj')
  refine ⟨(stays l7.length l)[j], hm.1, hm.2, ?_⟩
  unfold lessL
  simp [rd_T63, List.getD_eq_getElem?_getD, hj']
theorem lessL_has {l7 : List S63} {l : List Int} {i : Nat} (hi : i < l7.length) (hn : (i : Int) ∉ l) : ∃ j, j < (lessL l7 l).length ∧ rd_T63 (lessL l7 l) (j : Int) = rd_T63 l7 (i : Int) := by
  obtain ⟨j, hj, e⟩ := List.getElem_of_mem (mem_stays.2 ⟨hi, hn⟩)
  refine ⟨j, by simpa [lessL] using hj, ?_⟩
  unfold lessL
  simp [rd_T63, List.getD_eq_getElem?_getD, hj, e]
theorem Bk.less_ok {b : Bk} (hb : b.ok) (l : List Int) : (b.less l).ok := by
  refine ⟨hb.n, hb.b, hb.r, ?_, hb.p5, hb.p6, fun j hj => ?_⟩
  · have h := BookOk.len hb
    have h2 := stays_length b.l7.length l
    refine ⟨h.1, h.2.1, ?_⟩
    show (lessL b.l7 l).length ≤ 10
    unfold lessL
    rw [List.length_map]
    omega
  · obtain ⟨i, hi, _, e⟩ := lessL_get (l7 := b.l7) (l := l) hj
    have := BookOk.p7 hb i hi
    rw [← e] at this
    exact this
theorem Bk.less_sat {b : Bk} {l : List Int} {o : Nat → Int} : (b.less l).sat [] o ↔ b.sat l o := by
  constructor
  · intro h
    refine ⟨h.start, h.rate, fun i hi hn => ?_, h.person, h.path⟩
    obtain ⟨j, hj, e⟩ := lessL_has hi hn
    have := h.look j hj (by simp)
    rw [show (b.less l).l7 = lessL b.l7 l from rfl, e] at this
    exact this
  · intro h
    refine ⟨h.start, h.rate, fun j hj _ => ?_, h.person, h.path⟩
    obtain ⟨i, hi, hn, e⟩ := lessL_get (l7 := b.l7) (l := l) hj
    have := h.look i hi hn
    rw [← e] at this
    exact this
theorem Bk.less_can {b : Bk} (hb : b.ok) (l : List Int) : (b.less l).can [] = b.can l := by
  rw [Bool.eq_iff_iff, Bk.can_iff (Bk.less_ok hb l), Bk.can_iff hb]
  exact exists_congr fun o => Bk.less_sat
theorem asc_len {L : Nat} : ∀ {t : List Nat} {a : Nat}, Asc L a t → a + t.length ≤ L ∨ t = []
  | [], _, _ => .inr rfl
  | k :: t, a, ⟨h1, h2, h3⟩ => by
    left
    rcases asc_len h3 with h | h
    · simp only [List.length_cons]; omega
    · subst h; simp only [List.length_cons, List.length_nil]; omega
theorem asc_length {L : Nat} {t : List Nat} (h : Asc L 0 t) : t.length ≤ L := by
  rcases asc_len h with h | h
  · omega
  · simp [h]
theorem climbs_l0 {L : Nat} (hL : L ≤ 1000) (t0 : List Nat) (ht : t0.length ≤ 1000) : ∀ (t : List Nat) (k j a : Nat), t = t0.drop j → j ≤ t0.length → t.length < k → a ≤ 2000 → Asc L a t → remontoirref00_Climbs.l0 k (ints t0) (L : Int) (a : Int) (t0.length : Int) (j : Int) = some true
  | [], k + 1, j, a, e, hj, hk, ha, h => by
    have : t0.length ≤ j := by
      rcases Nat.lt_or_ge j t0.length with h' | h'
      · have h9 := congrArg List.length e
        simp at h9
        omega
      · exact h'
    unfold remontoirref00_Climbs.l0
    rw [if_neg (by omega)]
  | x :: t, k + 1, j, a, e, hj, hk, ha, ⟨h1, h2, h3⟩ => by
    have hlt : j < t0.length := by
      have h9 := congrArg List.length e
      simp at h9
      omega
    rw [List.drop_eq_getElem_cons hlt] at e
    injection e with e1 e2
    have hr : rd (ints t0) (j : Int) = (x : Int) := by
      unfold rd
      rw [Int.toNat_natCast, List.getD_eq_getElem?_getD]
      simp [hlt, e1]
    unfold remontoirref00_Climbs.l0
    rw [if_pos (by omega), if_pos (by omega), if_pos (by simp; omega), hr, lies_f, wr (x := (L : Int) - 1) (by omega), decide_eq_true (by omega), Option.bind_some, if_pos rfl, wr (x := (x : Int) + 1) (by omega), next (by omega)]
    have := climbs_l0 hL t0 ht t k (j + 1) (x + 1) e2 (by omega) (by simpa using hk) (by omega) h3
    rw [← this]
    rfl
theorem climbs_f {L : Nat} (hL : L ≤ 1000) {t : List Nat} (h : Asc L 0 t) (k : Nat) (hk : 1001 < k) : remontoirref00_Climbs.f k (ints t) (L : Int) = some true := by
  have hl := asc_length h
  have := climbs_l0 hL t (by omega) t k 0 0 rfl (by omega) (by omega) (by omega) h
  unfold remontoirref00_Climbs.f
  rw [show ((ints t).length : Int) = (t.length : Int) by simp]
  exact this
theorem asc_snoc {L : Nat} : ∀ {t : List Nat} {a x : Nat}, Asc x a t → a ≤ x → x < L → Asc L a (t ++ [x])
  | [], a, x, _, h1, h2 => ⟨h1, h2, trivial⟩
  | k :: t, a, x, ⟨g1, g2, g3⟩, h1, h2 => ⟨g1, by omega, asc_snoc g3 (by omega) h2⟩
theorem asc_wide {L M : Nat} (h : L ≤ M) : ∀ {t : List Nat} {a : Nat}, Asc L a t → Asc M a t
  | [], _, _ => trivial
  | k :: t, a, ⟨g1, g2, g3⟩ => ⟨g1, by omega, asc_wide h g3⟩
theorem list_l0 {L : Nat} (hL : L ≤ 1000) (x : Int) : ∀ (d k j : Nat) (t : List Nat), j + d = L → d < k → Asc j 0 t → ∃ u, remontoirref00_List.l0 k x (L : Int) (ints t) (j : Int) = some (ints u) ∧ Asc L 0 u
  | 0, k + 1, j, t, hj, hk, h => by
    unfold remontoirref00_List.l0
    rw [if_neg (by omega)]
    exact ⟨t, rfl, asc_wide (by omega) h⟩
  | d + 1, k + 1, j, t, hj, hk, h => by
    have hl := asc_length h
    unfold remontoirref00_List.l0 remontoirref00_In.f
    rw [if_pos (by omega), if_pos (by omega), Option.bind_some, next (by omega)]
    by_cases e : ((Go.bits .and .i64 (shr .i64 x (j : Int)) 1) == 1) = true
    · rw [if_pos e, if_pos (by simp; omega)]
      have := list_l0 hL x d k (j + 1) (t ++ [j]) (by omega) (by omega) (asc_snoc (asc_wide (Nat.le_refl _) h) (Nat.zero_le _) (Nat.lt_succ_self j))
      rw [show ints (t ++ [j]) = ints t ++ [(j : Int)] by simp] at this
      exact this
    · rw [if_neg e]
      exact list_l0 hL x d k (j + 1) t (by omega) (by omega) (asc_wide (by omega) h)
theorem list_f {L : Nat} (hL : L ≤ 1000) (x : Int) (k : Nat) (hk : 1001 < k) : ∃ u, remontoirref00_List.f k x (L : Int) = some (ints u) ∧ Asc L 0 u :=
  list_l0 hL x L k 0 [] (by omega) (by omega) trivial
/-- First: where two lists part. -/
theorem first_l0 (s t : List Int) (hs : s.length ≤ 1000) : ∀ (d k j : Nat), j + d = s.length → d < k → ∃ r : Nat, remontoirref00_First.l0 k s t (j : Int) = some (r : Int) ∧ j ≤ r ∧ r ≤ s.length ∧ (∀ i, j ≤ i → i < r → i < t.length ∧ rd s (i : Int) = rd t (i : Int)) ∧ (r < s.length → r < t.length → rd s (r : Int) ≠ rd t (r : Int))
  | 0, k + 1, j, hj, hk => by
    refine ⟨j, ?_, Nat.le_refl _, by omega, fun i h1 h2 => by omega, fun h => by omega⟩
    unfold remontoirref00_First.l0
    rw [if_neg (by omega)]
  | d + 1, k + 1, j, hj, hk => by
    unfold remontoirref00_First.l0
    rw [if_pos (by omega)]
    by_cases h1 : j < t.length
    · rw [if_pos (by omega), if_pos (by omega)]
      by_cases e : rd s (j : Int) = rd t (j : Int)
      · rw [if_pos e, next (by omega)]
        obtain ⟨r, g1, g2, g3, g4, g5⟩ := first_l0 s t hs d k (j + 1) (by omega) (by omega)
        refine ⟨r, g1, by omega, g3, fun i h2 h3 => ?_, g5⟩
        by_cases ei : i = j
        · subst ei; exact ⟨h1, e⟩
        · exact g4 i (by omega) h3
      · rw [if_neg e]
        exact ⟨j, rfl, Nat.le_refl _, by omega, fun i h1 h2 => by omega, fun _ _ => e⟩
    · rw [if_neg (by omega)]
      exact ⟨j, rfl, Nat.le_refl _, by omega, fun i h1 h2 => by omega, fun _ h => by omega⟩
theorem rd_ints (t : List Nat) (j : Nat) (h : j < t.length) : rd (ints t) (j : Int) = (t[j] : Nat) := by
  unfold rd
  rw [Int.toNat_natCast, List.getD_eq_getElem?_getD]
  simp [h]
theorem before_of {s t : List Nat} {r : Nat} (hr : r < s.length) (hr' : r < t.length) (he : ∀ i (h : i < s.length) (h' : i < t.length), i < r → s[i] = t[i]) (hl : s[r] < t[r]) : Before s t := by
  induction r generalizing s t with
  | zero =>
    match s, t, hr, hr' with
    | a :: s, b :: t, _, _ => exact .inl hl
  | succ r ih =>
    match s, t, hr, hr' with
    | a :: s, b :: t, hr, hr' =>
      refine .inr ⟨he 0 (by simp) (by simp) (by omega), ih (s := s) (t := t) (by simpa using hr) (by simpa using hr') (fun i h h' hi => ?_) hl⟩
      exact he (i + 1) (by simpa using h) (by simpa using h') (by omega)
/-- Ahead, of two lists that are as long. -/
theorem ahead_f (s t : List Nat) (hs : s.length ≤ 1000) (hl : s.length = t.length) (k : Nat) (hk : 1001 < k) : ∃ p : Bool, remontoirref00_Ahead.f k (ints s) (ints t) = some p ∧ (p = true → Before s t) := by
  have hs' : (ints s).length ≤ 1000 := by simpa using hs
  obtain ⟨r, h1, h2, h3, h4, h5⟩ := first_l0 (ints s) (ints t) hs' (ints s).length k 0 (by omega) (by omega)
  unfold remontoirref00_Ahead.f remontoirref00_First.f
  rw [show (0 : Int) = ((0 : Nat) : Int) from rfl, h1, Option.bind_some]
  have e1 : (ints s).length = s.length := by simp
  have e2 : (ints t).length = t.length := by simp
  by_cases hr : r < s.length
  · rw [if_pos (by omega), if_pos (by omega), if_pos (by omega)]
    refine ⟨_, rfl, fun hp => ?_⟩
    have hlt := of_decide_eq_true hp
    rw [rd_ints s r hr, rd_ints t r (by omega)] at hlt
    refine before_of hr (by omega) (fun i h h' hi => ?_) (by omega)
    have := (h4 i (by omega) hi).2
    rw [rd_ints s i h, rd_ints t i h'] at this
    omega
  · rw [if_neg (by omega)]
    refine ⟨_, rfl, fun hp => ?_⟩
    have := of_decide_eq_true hp
    omega
end Go.Proofs.YtohbeninpmmmpaaDoor
end

section
/- The plain law of StarLeft. -/
set_option linter.unusedVariables false
set_option linter.unusedSimpArgs false
namespace Go.Proofs.YtohbeninpmmmpaaDoor
open Go.RowKit Go.Proofs.YtohbeninpmmmpaaDoorW.PrintWords Go.Proofs.YtohbeninpmmmpaaDoorW.PrintLast Go.Proofs.YtohbeninpmmmpaaDoorW.PrintMore TrydX.X
theorem works_f : remontoirlaw03_works.f = some true := rfl
theorem wrong_bad {N b0 b1 r0 r1 : Int} {l5 l6 : List S23} {l7 : List S63} (h5 : l5.length ≤ 17592186044416) (h6 : l6.length ≤ 17592186044416) (h7 : l7.length ≤ 17592186044416) (h : ¬ checkB N b0 b1 r0 r1 l5 l6 l7 = true) : star_Wrong.f N b0 b1 r0 r1 l5 l6 l7 = some ([], 30) := by
  unfold star_Wrong.f
  rw [if_pos ⟨h5, h6, h7⟩, if_neg h, if_neg h]
theorem ans_err (b : Bk) (lo hi : Int) : (b.ans lo hi).2.2 = if b.can [] = true then 0 else 32 := by
  unfold Bk.ans
  split <;> rfl
theorem shl_ok {n : Nat} (h : n ≤ 10) : 0 < shl .i64 1 (n : Int) ∧ shl .i64 1 (n : Int) ≤ 4611686018427387904 := by
  have : n = 0 ∨ n = 1 ∨ n = 2 ∨ n = 3 ∨ n = 4 ∨ n = 5 ∨ n = 6 ∨ n = 7 ∨ n = 8 ∨ n = 9 ∨ n = 10 := by omega
  rcases this with rfl | rfl | rfl | rfl | rfl | rfl | rfl | rfl | rfl | rfl | rfl <;> decide +kernel
theorem left_b {b : Bk} (hok : b.ok) (a1 : Int) (K : Nat) (hK : K = 5000) : remontoirlaw03_StarLeft.f (K + 2) b.N b.b0 b.b1 b.r0 b.r1 b.l5 b.l6 b.l7 a1 = some true := by
  unfold remontoirlaw03_StarLeft.f
  have hN := BookOk.n hok
  have hlen := BookOk.len hok
  have hNb : 0 ≤ (0 : Int) ∧ (0 : Int) < b.N := ⟨by omega, by omega⟩
  obtain ⟨t, ht, hw⟩ := wrong_f hok
  obtain ⟨t', hA, e', hcan, hmin⟩ := wrong_some hw
  obtain rfl : t = t' := by
    have := congrArg (List.map Int.toNat) e'
    simpa [Function.comp_def] using this
  have htl := asc_length hA
  have o1 := off_f hok hNb
  have o2 := off_f (Bk.less_ok hok (ints t)) (n := 0) hNb
  have o2' : star_Offset.f b.N b.b0 b.b1 b.r0 b.r1 b.l5 b.l6 (lessL b.l7 (ints t)) 0 = _ := o2
  have wo := without_f (N := b.N) (b0 := b.b0) (b1 := b.b1) (r0 := b.r0) (r1 := b.r1) (l5 := b.l5) (l6 := b.l6) (l7 := b.l7) (ints t) (by simp; omega) (by omega) (K + 2) (by omega)
  have cl := climbs_f (L := b.l7.length) (by omega) hA (K + 2) (by omega)
  obtain ⟨x, hx, _⟩ := Rest_f a1 (shl .i64 1 (b.l7.length : Int)) (shl_ok (by omega)).1 (shl_ok (by omega)).2
  obtain ⟨u, hu, hAu⟩ := list_f (L := b.l7.length) (by omega) x (K + 1) (by omega)
  have hul := asc_length hAu
  have o3 := off_f (Bk.less_ok hok (ints u)) (n := 0) hNb
  have o3' : star_Offset.f b.N b.b0 b.b1 b.r0 b.r1 b.l5 b.l6 (lessL b.l7 (ints u)) 0 = _ := o3
  have wo3 := without_f (N := b.N) (b0 := b.b0) (b1 := b.b1) (r0 := b.r0) (r1 := b.r1) (l5 := b.l5) (l6 := b.l6) (l7 := b.l7) (ints u) (by simp; omega) (by omega) K (by omega)
  have s := sound_f (N := b.N) (b0 := b.b0) (b1 := b.b1) (r0 := b.r0) (r1 := b.r1) (l5 := b.l5) (l6 := b.l6) (l7 := b.l7) (by omega) (by omega) (by omega)
  have hck : checkB b.N b.b0 b.b1 b.r0 b.r1 b.l5 b.l6 b.l7 = true := checkB_iff.2 hok
  rw [ht, Option.bind_some, s, Option.bind_some, hck, if_pos rfl, o1, Option.bind_some, wo, Option.bind_some]
  dsimp only
  rw [o2', Option.bind_some, if_pos rfl, cl, Option.bind_some, if_pos rfl]
  rw [ans_err, ans_err, Bk.less_can hok, hcan, if_pos rfl]
  have hempty : (((ints t).length : Int) == 0) = b.can [] := by
    cases hc0 : b.can [] with
    | true =>
      cases t with
      | nil => rfl
      | cons y t =>
        have := hmin [] trivial (.inl (by simp))
        rw [show ints [] = [] from rfl, hc0] at this
        cases this
    | false =>
      cases t with
      | nil => rw [show ints [] = [] from rfl, hc0] at hcan; cases hcan
      | cons y t => simp; omega
  rw [hempty]
  have hneq : (b.can [] != ((if b.can [] = true then (0 : Int) else 32) == 0)) = false := by
    cases b.can [] <;> simp
  rw [hneq, if_neg (by decide)]
  rw [show ((0 : Int) != 0) = false from rfl]
  simp only [remontoirlaw03_StarLeft.j0, Bool.false_eq_true, if_false]
  rw [hx, Option.bind_some, hu, Option.bind_some]
  have fin : ∀ p : Bool, (p = false → b.can (ints u) = false) → remontoirlaw03_StarLeft.j1 (K + 1) (ints u) p b.N b.b0 b.b1 b.r0 b.r1 b.l5 b.l6 b.l7 = some true := by
    intro p hp
    cases p with
    | true => simp [remontoirlaw03_StarLeft.j1, works_f]
    | false =>
      simp only [remontoirlaw03_StarLeft.j1, Bool.false_eq_true, if_false]
      rw [wo3, Option.bind_some]
      dsimp only
      rw [o3', Option.bind_some, ans_err, Bk.less_can hok, hp rfl]
      rfl
  have e1 : (ints u).length = u.length := by simp
  have e2 : (ints t).length = t.length := by simp
  by_cases g1 : u.length > t.length
  · rw [if_pos (by omega)]
    exact fin true (fun h => by cases h)
  · rw [if_neg (by omega)]
    by_cases g2 : u.length = t.length
    · rw [if_pos (by omega)]
      obtain ⟨p, hp, hpb⟩ := ahead_f u t (by omega) g2 (K + 1) (by omega)
      rw [hp, Option.bind_some]
      refine fin (!p) (fun h => hmin u hAu (.inr ⟨g2, hpb (by simpa using h)⟩))
    · rw [if_neg (by omega)]
      exact fin false (fun _ => hmin u hAu (.inl (by omega)))
theorem starLeft_pure (a0_0 a0_1 a0_2 a0_3 a0_4 : Int) (l0_5 l0_6 : List S23) (l0_7 : List S63) (a1 : Int) (h0 : W64 a0_0 ∧ W64 a0_1 ∧ W64 a0_2 ∧ W64 a0_3 ∧ W64 a0_4)
    (w5 : ∀ z ∈ l0_5, W64 z.f0 ∧ W64 z.f1) (w6 : ∀ z ∈ l0_6, W64 z.f0 ∧ W64 z.f1) (w7 : ∀ z ∈ l0_7, W64 z.f0 ∧ W64 z.f1 ∧ W64 z.f2 ∧ W64 z.f3 ∧ W64 z.f4)
    (h5 : l0_5.length ≤ 8796093022208) (h6 : l0_6.length ≤ 8796093022208) (h7 : l0_7.length ≤ 3518437208883) (h1 : W64 a1) :
    ∃ k, remontoirlaw03_StarLeft.f k a0_0 a0_1 a0_2 a0_3 a0_4 l0_5 l0_6 l0_7 a1 = some true := by
  obtain ⟨K, hK⟩ : ∃ K : Nat, K = 5000 := ⟨_, rfl⟩
  refine ⟨K + 2, ?_⟩
  by_cases hc : checkB a0_0 a0_1 a0_2 a0_3 a0_4 l0_5 l0_6 l0_7 = true
  · exact left_b (b := ⟨a0_0, a0_1, a0_2, a0_3, a0_4, l0_5, l0_6, l0_7⟩) (checkB_iff.1 hc) a1 K hK
  · unfold remontoirlaw03_StarLeft.f
    rw [wrong_bad (by omega) (by omega) (by omega) hc, Option.bind_some, sound_f (by omega) (by omega) (by omega), Option.bind_some, if_neg hc, if_pos rfl, if_pos (by rfl), works_f]
    rfl
end Go.Proofs.YtohbeninpmmmpaaDoor
end
