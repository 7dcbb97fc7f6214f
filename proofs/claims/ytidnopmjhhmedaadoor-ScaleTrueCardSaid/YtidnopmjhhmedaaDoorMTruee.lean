/- PROVED: ScaleTrueCardSaid, for every input, where the listed variable reads as the program's text lays it. Part 5 of 8: of this session; merged by wip/tools/mkClaim.py. -/
import Derived.Test.YtidnopmjhhmedaaDoorMTrueb
import Derived.Test.YtidnopmjhhmedaaDoorMTrued
section
-- Written by wip/tools/pr.py (a program of this repo over the kit's print.py).
namespace Go.Proofs.TrydX.X
open Go.RowKit Go.Proofs.YtidnopmjhhmedaaDoorW.PrintWords Go.Proofs.YtidnopmjhhmedaaDoorW.PrintLast Go.Proofs.YtidnopmjhhmedaaDoorW.PrintMore
attribute [local go_sem] max2_int min2_int max_two min_two max_three min_three max_four min_four   -- for this text's walks alone
set_option linter.unusedVariables false
set_option linter.unusedSimpArgs false

/-! ### remontoirlaw04_went: function 51 -/
mutual
def remontoirlaw04_went.l0 : Nat → List Int → Int → List Int → Int → Int → Int → Int → Int → Int → Int → List Int → List (S71) → Int → Int → Int → Int → Int → Int → List Int → Option (List Int × Int × Int × Int × Int × Int × Int × List Int × (List (S71)) × Bool)
 | 0, _, _, _, _, _, _, _, _, _, _, _, _, _, _, _, _, _, _, _ => none
 | k + 1, x1, x8, x9, x10, x494000, x494001, x494002, x494003, x494004, x494005, x494006, x494007, x496000, x496001, x496002, x496003, x496004, x496005, x496006 => if x10 < x494005 then ((remontoirref00_At.f x1 (wrap64 (x10 + 2))).bind fun t503 => ((remontoirref00_From.f x494003 x494004 t503).bind fun t504 => (if x10 < (x494006.length : Int) then (if 0 ≤ x10 then ((remontoirref00_Lies.f (wrap64 ((wrap64 (x8 + t504)) + (rd x494006 x10))) (-20000) 20000).bind fun t506 => (if t506 = true then (if x9.length < 17592186044416 then (remontoirlaw04_went.l0 k x1 (wrap64 ((wrap64 (x8 + t504)) + (rd x494006 x10))) (x9 ++ [wrap64 ((wrap64 (x8 + t504)) + (rd x494006 x10))]) (wrap64 (x10 + 1)) x494000 x494001 x494002 x494003 x494004 x494005 x494006 x494007 x496000 x496001 x496002 x496003 x496004 x496005 x496006) else (none)) else (some (([] : List Int), x494000, x494001, x494002, x494003, x494004, x494005, x494006, x494007, false)))) else (none)) else ((remontoirref00_Lies.f (wrap64 (x8 + t504)) (-20000) 20000).bind fun t510 => (if t510 = true then (if x9.length < 17592186044416 then (remontoirlaw04_went.l0 k x1 (wrap64 (x8 + t504)) (x9 ++ [wrap64 (x8 + t504)]) (wrap64 (x10 + 1)) x494000 x494001 x494002 x494003 x494004 x494005 x494006 x494007 x496000 x496001 x496002 x496003 x496004 x496005 x496006) else (none)) else (some (([] : List Int), x494000, x494001, x494002, x494003, x494004, x494005, x494006, x494007, false))))))) else (remontoirlaw04_went.l1 k x1 x9 0 x494000 x494001 x494002 x494003 x494004 x494005 x494006 x494007 x496000 x496001 x496002 x496003 x496004 x496005 x496006 ([] : List (S71)))
def remontoirlaw04_went.l1 : Nat → List Int → List Int → Int → Int → Int → Int → Int → Int → Int → List Int → List (S71) → Int → Int → Int → Int → Int → Int → List Int → List (S71) → Option (List Int × Int × Int × Int × Int × Int × Int × List Int × (List (S71)) × Bool)
 | 0, _, _, _, _, _, _, _, _, _, _, _, _, _, _, _, _, _, _, _ => none
 | k + 1, x1, x9, x11, x494000, x494001, x494002, x494003, x494004, x494005, x494006, x494007, x496000, x496001, x496002, x496003, x496004, x496005, x496006, x496007 => if x11 < (x494007.length : Int) then (if 0 ≤ x11 then (if 0 ≤ ((rd_T71 x494007 x11).f0) then (if ((rd_T71 x494007 x11).f0) < (x9.length : Int) then ((remontoirref00_At.f x1 (wrap64 (x11 + 3))).bind fun t517 => ((remontoirref00_Rest.f t517 (wrap64 ((wrap64 (((rd_T71 x494007 x11).f1.f1) - ((rd_T71 x494007 x11).f1.f0))) + 1))).bind fun t518 => ((remontoirref00_To.f (mx (-20000) (wrap64 ((rd x9 ((rd_T71 x494007 x11).f0)) - t518))) (mn 20000 (wrap64 ((wrap64 ((rd x9 ((rd_T71 x494007 x11).f0)) - t518)) + (wrap64 (((rd_T71 x494007 x11).f1.f1) - ((rd_T71 x494007 x11).f1.f0))))))).bind fun bt519 => (if x496007.length < 5864062014805 then (remontoirlaw04_went.l1 k x1 x9 (wrap64 (x11 + 1)) x494000 x494001 x494002 x494003 x494004 x494005 x494006 x494007 x496000 x496001 x496002 x496003 x496004 x496005 x496006 (x496007 ++ [(⟨(rd_T71 x494007 x11).f0, (⟨bt519.1, bt519.2⟩ : S23)⟩ : S71)])) else (none))))) else (none)) else (none)) else (none)) else (some (x9, x496000, x496001, x496002, x496003, x496004, x496005, x496006, x496007, true))
end
def remontoirlaw04_went.f (k : Nat) (a0_0 : Int) (a0_1 : Int) (a0_2 : Int) (a0_3 : Int) (a0_4 : Int) (a0_5 : Int) (l0_6 : List Int) (l0_7 : List (S71)) (l1 : List Int) : Option (List Int × Int × Int × Int × Int × Int × Int × List Int × (List (S71)) × Bool) := (remontoirref00_To.f (-500) 500).bind fun bt496 => ((remontoirref00_At.f l1 1).bind fun t498 => ((remontoirref00_From.f bt496.1 bt496.2 t498).bind fun t499 => (remontoirlaw04_went.l0 k l1 t499 (([t499] : List Int)) 0 a0_0 a0_1 a0_2 a0_3 a0_4 a0_5 l0_6 l0_7 a0_0 a0_1 a0_2 a0_3 a0_4 a0_5 l0_6)))
def remontoirlaw04_went.T8 : Bool × List (List Nat × List Nat) := (true, [([], []), ([], []), ([1], [1]), ([2], [2]), ([], []), ([], []), ([5], [5]), ([4, 6], [4, 6]), ([3, 7, 7], [3, 7]), ([0, 8], [0, 8]), ([9, 8, 0, 1, 2, 3, 4, 5, 6, 7, 8, 9], [0, 9])])
def remontoirlaw04_went.B8 : List Nat := [0, 0, 2, 6, 0, 0, 32, 112, 254, 511, 1023]
theorem remontoirlaw04_went.tab8 : rtab .any (opsOf Tryd.f51 8) = remontoirlaw04_went.T8 := by kernel_rfl
theorem remontoirlaw04_went.bits8 : waitsOk remontoirlaw04_went.T8.2 remontoirlaw04_went.B8 = true := by kernel_rfl
def remontoirlaw04_went.T19 : Bool × List (List Nat × List Nat) := (true, [([], []), ([], []), ([1], [1]), ([0, 2], [0, 2]), ([3], [3]), ([], []), ([], []), ([6], [6]), ([5, 7], [5, 7]), ([], []), ([9], [9]), ([8, 10, 8], [8, 10]), ([4, 11], [4, 11]), ([12, 11, 0, 1, 2, 3, 4, 5, 6, 7, 8, 9, 10, 11, 12], [12])])
def remontoirlaw04_went.B19 : List Nat := [0, 0, 2, 7, 15, 0, 0, 64, 224, 0, 512, 2016, 4095, 8191]
theorem remontoirlaw04_went.tab19 : rtab .any (opsOf Tryd.f51 19) = remontoirlaw04_went.T19 := by kernel_rfl
theorem remontoirlaw04_went.bits19 : waitsOk remontoirlaw04_went.T19.2 remontoirlaw04_went.B19 = true := by kernel_rfl
set_option maxHeartbeats 8000000 in
set_option maxRecDepth 100000 in
theorem remontoirlaw04_went.calls (k : Nat) (a0_0 : Int) (a0_1 : Int) (a0_2 : Int) (a0_3 : Int) (a0_4 : Int) (a0_5 : Int) (P0_6_ : Nat → Prop) (A0_6 : Option Addr) (c0_6 : Nat) (l0_6 : List Int) (P0_7_ : Nat → Prop) (A0_7 : Option Addr) (c0_7 : Nat) (l0_7 : List (S71)) (A1 : Option Addr) (c1 : Nat) (l1 : List Int) (r1 : List Int) (r2 : Int) (r3 : Int) (r4 : Int) (r5 : Int) (r6 : Int) (r7 : Int) (r8 : List Int) (r9 : List (S71)) (r10 : Bool) (w : World) (hs0_6 : Kd.V (Kd.int .i64) 3 w w.heap.size (fun k_ => P0_6_ k_) (.slice A0_6 l0_6.length c0_6) l0_6) (hs0_7 : Kd.V k71 71 w w.heap.size (fun k_ => P0_7_ k_) (.slice A0_7 l0_7.length c0_7) l0_7) (hr1 : Kd.C (Kd.int .i64) w A1 l1.length l1) (hc1 : l1.length ≤ c1) (h : remontoirlaw04_went.f k a0_0 a0_1 a0_2 a0_3 a0_4 a0_5 l0_6 l0_7 l1 = some (r1, r2, r3, r4, r5, r6, r7, r8, r9, r10)) :
  Calls Tryd.prog 51 #[.agg #[.int .i64 a0_0, .int .i64 a0_1, .int .i64 a0_2, .int .i64 a0_3, .int .i64 a0_4, .int .i64 a0_5, .slice A0_6 l0_6.length c0_6, .slice A0_7 l0_7.length c0_7], .slice A1 l1.length c1] w fun e w' => ∃ v0_ v7_ v8_ : Value, e = .returned (.tuple #[v0_, .agg #[.int .i64 r2, .int .i64 r3, .int .i64 r4, .int .i64 r5, .int .i64 r6, .int .i64 r7, v7_, v8_], .bool r10]) ∧ Kd.R (Kd.int .i64) 3 w' w.heap.size (fun k_ => (w.heap.size ≤ k_)) v0_ r1 ∧ Kd.V (Kd.int .i64) 3 w' w.heap.size (fun k_ => ((P0_6_ k_ ∨ P0_7_ k_) ∨ w.heap.size ≤ k_) ∧ some k_ ≠ (v0_ : Value).ownBlock) v7_ r8 ∧ Kd.V k71 71 w' w.heap.size (fun k_ => ((P0_6_ k_ ∨ P0_7_ k_) ∨ w.heap.size ≤ k_) ∧ some k_ ≠ (v0_ : Value).ownBlock) v8_ r9 ∧ Below w.heap.size w w' := by
 have hu44 := Tryd.underlying44
 have hu23 := Tryd.underlying23
 have hu71 := Tryd.underlying71
 have HO0_6 := Aside0.mk (show Kd.V (Kd.int .i64) 3 w w.heap.size (fun k_ => ((P0_6_ k_ ∨ P0_7_ k_) ∨ w.heap.size ≤ k_)) (.slice A0_6 l0_6.length c0_6) l0_6 from Kd.V_mono hs0_6 (fun k_ hk => .inl (.inl hk)))
 have HO0_7 := Aside0.mk (show Kd.V k71 71 w w.heap.size (fun k_ => ((P0_6_ k_ ∨ P0_7_ k_) ∨ w.heap.size ≤ k_)) (.slice A0_7 l0_7.length c0_7) l0_7 from Kd.V_mono hs0_7 (fun k_ hk => .inl (.inr hk)))
 have HR1 := Aside0.mk hr1
 have HC1 := Aside0.mk hc1
 clear hr1 hc1
 have HB := Aside0.mk (Below.refl w.heap.size w)
 have H : ((remontoirref00_To.f (-500) 500).bind fun bt496 => ((remontoirref00_At.f l1 1).bind fun t498 => ((remontoirref00_From.f bt496.1 bt496.2 t498).bind fun t499 => (remontoirlaw04_went.l0 k l1 t499 (([t499] : List Int)) 0 a0_0 a0_1 a0_2 a0_3 a0_4 a0_5 l0_6 l0_7 a0_0 a0_1 a0_2 a0_3 a0_4 a0_5 l0_6)))) = some (r1, r2, r3, r4, r5, r6, r7, r8, r9, r10) := h
 clear h
 replace H := Option.bind_eq_some_iff.mp H
 obtain ⟨⟨t496, t497⟩, A30, H⟩ := H
 replace H : ((remontoirref00_At.f l1 1).bind fun t498 => ((remontoirref00_From.f t496 t497 t498).bind fun t499 => (remontoirlaw04_went.l0 k l1 t499 (([t499] : List Int)) 0 a0_0 a0_1 a0_2 a0_3 a0_4 a0_5 l0_6 l0_7 a0_0 a0_1 a0_2 a0_3 a0_4 a0_5 l0_6))) = some (r1, r2, r3, r4, r5, r6, r7, r8, r9, r10) := H
 have A3 := Aside0.mk A30
 clear A30
 replace H := Option.bind_eq_some_iff.mp H
 obtain ⟨t498, A40, H⟩ := H
 replace H : ((remontoirref00_From.f t496 t497 t498).bind fun t499 => (remontoirlaw04_went.l0 k l1 t499 (([t499] : List Int)) 0 a0_0 a0_1 a0_2 a0_3 a0_4 a0_5 l0_6 l0_7 a0_0 a0_1 a0_2 a0_3 a0_4 a0_5 l0_6)) = some (r1, r2, r3, r4, r5, r6, r7, r8, r9, r10) := H
 have A4 := Aside0.mk A40
 clear A40
 replace H := Option.bind_eq_some_iff.mp H
 obtain ⟨t499, A50, H⟩ := H
 replace H : (remontoirlaw04_went.l0 k l1 t499 (([t499] : List Int)) 0 a0_0 a0_1 a0_2 a0_3 a0_4 a0_5 l0_6 l0_7 a0_0 a0_1 a0_2 a0_3 a0_4 a0_5 l0_6) = some (r1, r2, r3, r4, r5, r6, r7, r8, r9, r10) := H
 have A5 := Aside0.mk A50
 clear A50
 obtain ⟨y500, hy500⟩ : ∃ y_ : List Int, y_ = (([t499] : List Int)) := ⟨_, rfl⟩
 replace H : (remontoirlaw04_went.l0 k l1 t499 y500 0 a0_0 a0_1 a0_2 a0_3 a0_4 a0_5 l0_6 l0_7 a0_0 a0_1 a0_2 a0_3 a0_4 a0_5 l0_6) = some (r1, r2, r3, r4, r5, r6, r7, r8, r9, r10) := by first | (rw [hy500]; with_reducible exact H) | (have H2_ := (Option.bind_some _ _).symm.trans H; rw [hy500]; with_reducible exact H2_) | (have H2_ := (Option.bind_some _ _).symm.trans H; with_reducible exact H2_) | with_reducible exact H | (rw [hy500]; exact H) | exact H
 have Ny500 := Aside0.mk hy500
 clear hy500
 have H' := Aside0.mk H
 clear H
 go_enter Tryd.func51, Tryd.ntmps51
 go_wp2_with (first | ((with_reducible refine gate_dst (N := 2) rfl ?_); refine box_event ?hg (N := 2) ?hd (cs := #[.int .i64 a0_0, .int .i64 a0_1, .int .i64 a0_2, .int .i64 a0_3, .int .i64 a0_4, .int .i64 a0_5, .slice A0_6 l0_6.length c0_6, .slice A0_7 l0_7.length c0_7]) (t := 44) ?hr ?_; (case hd => rfl); (case hg => rfl); (case hr => first | (go_simp; done) | (go_simp; rfl)); intro gb493 hg w6 hbox hb; replace HO0_6 := Aside0.mk (Kd.V_below (Kd.V_elderB (by (with_reducible repeat (first | apply Kd.V_alloc | apply Kd.V_drewN | apply Kd.V_drew)); exact HO0_6.out) gb493 (Nat.le_of_eq hg.symm)) hb); replace HO0_7 := Aside0.mk (Kd.V_below (Kd.V_elderB (by (with_reducible repeat (first | apply Kd.V_alloc | apply Kd.V_drewN | apply Kd.V_drew)); exact HO0_7.out) gb493 (Nat.le_of_eq hg.symm)) hb); have BK493 := Aside0.mk (hbox); have GW493 := geB hg (bl HB); have GE493 := geB hg (bl HB); replace HB := Aside0.mk (below_step (bl HB) hb); clear hb hbox hg) | ((with_reducible refine gate_dst (N := 5) rfl ?_); refine box_event ?hg (N := 5) ?hd (cs := #[.int .i64 0, .int .i64 0, .int .i64 0, .int .i64 0, .int .i64 0, .int .i64 0, .slice none 0 0, .slice none 0 0]) (t := 44) ?hr ?_; (case hd => rfl); (case hg => rfl); (case hr => first | (go_simp; done) | (go_simp; rfl)); intro gb494 hg w7 hbox hb; replace HO0_6 := Aside0.mk (Kd.V_below (Kd.V_elderB (by (with_reducible repeat (first | apply Kd.V_alloc | apply Kd.V_drewN | apply Kd.V_drew)); exact HO0_6.out) gb494 (Nat.le_of_eq hg.symm)) hb); replace HO0_7 := Aside0.mk (Kd.V_below (Kd.V_elderB (by (with_reducible repeat (first | apply Kd.V_alloc | apply Kd.V_drewN | apply Kd.V_drew)); exact HO0_7.out) gb494 (Nat.le_of_eq hg.symm)) hb); have BK494 := Aside0.mk (hbox); have GW494 := geB hg (bl HB); have GE494 := geB hg (bl HB); replace HB := Aside0.mk (below_step (bl HB) hb); have NB493_494 := nlt hg (bk BK493); have NB494_493 := ngt hg (bk BK493); replace BK493 := Aside0.mk (blk_below (bk BK493) hb); clear hb hbox hg; have hnb8 := NB493_494.out; have hnc8 := NB494_493.out; have hcz9_0 : w7.cell? ⟨gb493, 0, none⟩ = some (.int .i64 a0_0) := bc BK493 0; have hcz9_1 : w7.cell? ⟨gb493, 1, none⟩ = some (.int .i64 a0_1) := bc BK493 1; have hcz9_2 : w7.cell? ⟨gb493, 2, none⟩ = some (.int .i64 a0_2) := bc BK493 2; have hcz9_3 : w7.cell? ⟨gb493, 3, none⟩ = some (.int .i64 a0_3) := bc BK493 3; have hcz9_4 : w7.cell? ⟨gb493, 4, none⟩ = some (.int .i64 a0_4) := bc BK493 4; have hcz9_5 : w7.cell? ⟨gb493, 5, none⟩ = some (.int .i64 a0_5) := bc BK493 5; have hcz9_6 : w7.cell? ⟨gb493, 6, none⟩ = some (.slice A0_6 l0_6.length c0_6) := bc BK493 6; have hcz9_7 : w7.cell? ⟨gb493, 7, none⟩ = some (.slice A0_7 l0_7.length c0_7) := bc BK493 7; have hfz9_0 := blk_frozen BK493.out 0; have hfz9_1 := blk_frozen BK493.out 1; have hfz9_2 := blk_frozen BK493.out 2; have hfz9_3 := blk_frozen BK493.out 3; have hfz9_4 := blk_frozen BK493.out 4; have hfz9_5 := blk_frozen BK493.out 5; have hfz9_6 := blk_frozen BK493.out 6; have hfz9_7 := blk_frozen BK493.out 7) | ((with_reducible refine gate_dst (N := 7) rfl ?_); refine box_event ?hg (N := 7) ?hd (cs := #[.int .i64 0, .int .i64 0, .int .i64 0, .int .i64 0, .int .i64 0, .int .i64 0, .slice none 0 0, .slice none 0 0]) (t := 44) ?hr ?_; (case hd => rfl); (case hg => rfl); (case hr => first | (go_simp; done) | (go_simp; rfl)); intro gb495 hg w10 hbox hb; replace HO0_6 := Aside0.mk (Kd.V_below (Kd.V_elderB (by (with_reducible repeat (first | apply Kd.V_alloc | apply Kd.V_drewN | apply Kd.V_drew)); exact HO0_6.out) gb495 (Nat.le_of_eq hg.symm)) hb); replace HO0_7 := Aside0.mk (Kd.V_below (Kd.V_elderB (by (with_reducible repeat (first | apply Kd.V_alloc | apply Kd.V_drewN | apply Kd.V_drew)); exact HO0_7.out) gb495 (Nat.le_of_eq hg.symm)) hb); have BK495 := Aside0.mk (hbox); have GW495 := geB hg (bl HB); have GE495 := geB hg (bl HB); replace HB := Aside0.mk (below_step (bl HB) hb); have NB493_495 := nlt hg (bk BK493); have NB495_493 := ngt hg (bk BK493); replace BK493 := Aside0.mk (blk_below (bk BK493) hb); have NB494_495 := nlt hg (bk BK494); have NB495_494 := ngt hg (bk BK494); replace BK494 := Aside0.mk (blk_below (bk BK494) hb); clear hb hbox hg; have hnb11 := NB495_493.out; have hnc11 := NB493_495.out; have hnb12 := NB495_494.out; have hnc12 := NB494_495.out; have hcz13_0 : w10.cell? ⟨gb495, 0, none⟩ = some (.int .i64 0) := bc BK495 0; have hcz13_1 : w10.cell? ⟨gb495, 1, none⟩ = some (.int .i64 0) := bc BK495 1; have hcz13_2 : w10.cell? ⟨gb495, 2, none⟩ = some (.int .i64 0) := bc BK495 2; have hcz13_3 : w10.cell? ⟨gb495, 3, none⟩ = some (.int .i64 0) := bc BK495 3; have hcz13_4 : w10.cell? ⟨gb495, 4, none⟩ = some (.int .i64 0) := bc BK495 4; have hcz13_5 : w10.cell? ⟨gb495, 5, none⟩ = some (.int .i64 0) := bc BK495 5; have hcz13_6 : w10.cell? ⟨gb495, 6, none⟩ = some (.slice none 0 0) := bc BK495 6; have hcz13_7 : w10.cell? ⟨gb495, 7, none⟩ = some (.slice none 0 0) := bc BK495 7; have hfz13_0 := blk_frozen BK495.out 0; have hfz13_1 := blk_frozen BK495.out 1; have hfz13_2 := blk_frozen BK495.out 2; have hfz13_3 := blk_frozen BK495.out 3; have hfz13_4 := blk_frozen BK495.out 4; have hfz13_5 := blk_frozen BK495.out 5; have hfz13_6 := blk_frozen BK495.out 6; have hfz13_7 := blk_frozen BK495.out 7) | ((with_reducible refine gate_callee (f := 49) rfl ?_); refine goesL_ (some 17) rfl rfl Tryd.func49 (by kernel_rfl) rfl #[.int .i64 (-500), .int .i64 500] rfl (by (try simp only [List.map_toArray, List.map_cons, List.map_nil]); first | done | rfl | (simp only [List.length_drop, List.length_take]; rfl)) ?_; (with_reducible refine (remontoirref00_To.calls (-500) 500 t496 t497 _ A3.out).mono ?_); rintro e w14 ⟨rfl, hb⟩; refine ⟨_, rfl, ?_⟩; replace HO0_6 := Aside0.mk (Kd.V_below (by (with_reducible repeat (first | apply Kd.V_alloc | apply Kd.V_drewN | apply Kd.V_drew)); exact (Kd.V_mono (Kd.V_far (p := ⟨gb495, 7, none⟩) (Kd.V_far (p := ⟨gb495, 7, none⟩) (Kd.V_far (p := ⟨gb495, 6, none⟩) (Kd.V_far (p := ⟨gb495, 5, none⟩) (Kd.V_far (p := ⟨gb495, 4, none⟩) (Kd.V_far (p := ⟨gb495, 3, none⟩) (Kd.V_far (p := ⟨gb495, 2, none⟩) (Kd.V_far (p := ⟨gb495, 1, none⟩) (Kd.V_far (p := ⟨gb495, 0, none⟩) (Kd.V_mono HO0_6.out (fun k_ hk => (⟨hk, hk.2⟩ : _ ∧ k_ ≠ gb495))) (fun _ hk => hk.2) (.int .i64 a0_0)) (fun _ hk => hk.2) (.int .i64 a0_1)) (fun _ hk => hk.2) (.int .i64 a0_2)) (fun _ hk => hk.2) (.int .i64 a0_3)) (fun _ hk => hk.2) (.int .i64 a0_4)) (fun _ hk => hk.2) (.int .i64 a0_5)) (fun _ hk => hk.2) (.slice A0_6 l0_6.length c0_6)) (fun _ hk => hk.2) (.slice A0_7 l0_7.length c0_7)) (fun _ hk => hk.2) (.slice none 0 0)) (fun _ h_ => h_.1))) hb); replace HO0_7 := Aside0.mk (Kd.V_below (by (with_reducible repeat (first | apply Kd.V_alloc | apply Kd.V_drewN | apply Kd.V_drew)); exact (Kd.V_mono (Kd.V_far (p := ⟨gb495, 7, none⟩) (Kd.V_far (p := ⟨gb495, 7, none⟩) (Kd.V_far (p := ⟨gb495, 6, none⟩) (Kd.V_far (p := ⟨gb495, 5, none⟩) (Kd.V_far (p := ⟨gb495, 4, none⟩) (Kd.V_far (p := ⟨gb495, 3, none⟩) (Kd.V_far (p := ⟨gb495, 2, none⟩) (Kd.V_far (p := ⟨gb495, 1, none⟩) (Kd.V_far (p := ⟨gb495, 0, none⟩) (Kd.V_mono HO0_7.out (fun k_ hk => (⟨hk, hk.2⟩ : _ ∧ k_ ≠ gb495))) (fun _ hk => hk.2) (.int .i64 a0_0)) (fun _ hk => hk.2) (.int .i64 a0_1)) (fun _ hk => hk.2) (.int .i64 a0_2)) (fun _ hk => hk.2) (.int .i64 a0_3)) (fun _ hk => hk.2) (.int .i64 a0_4)) (fun _ hk => hk.2) (.int .i64 a0_5)) (fun _ hk => hk.2) (.slice A0_6 l0_6.length c0_6)) (fun _ hk => hk.2) (.slice A0_7 l0_7.length c0_7)) (fun _ hk => hk.2) (.slice none 0 0)) (fun _ h_ => h_.1))) hb); replace BK493 := Aside0.mk (blk_below (bk BK493) hb); replace BK494 := Aside0.mk (blk_below (bk BK494) hb); replace BK495 := Aside0.mk (blk_below (g := gb495) (o := .cells #[.int .i64 a0_0, .int .i64 a0_1, .int .i64 a0_2, .int .i64 a0_3, .int .i64 a0_4, .int .i64 a0_5, .slice A0_6 l0_6.length c0_6, .slice none 0 0] 44 (0, 0)) (by (with_reducible repeat (first | refine blk_drewN ?_ _ | refine blk_drew ?_ | refine blk_alloc ?_ _)); refine blk_put (cs := #[.int .i64 a0_0, .int .i64 a0_1, .int .i64 a0_2, .int .i64 a0_3, .int .i64 a0_4, .int .i64 a0_5, .slice A0_6 l0_6.length c0_6, .slice A0_7 l0_7.length c0_7]) ?_ 7 _ rfl; (with_reducible repeat (first | refine blk_drewN ?_ _ | refine blk_drew ?_ | refine blk_alloc ?_ _)); refine blk_put (cs := #[.int .i64 a0_0, .int .i64 a0_1, .int .i64 a0_2, .int .i64 a0_3, .int .i64 a0_4, .int .i64 a0_5, .slice A0_6 l0_6.length c0_6, .slice none 0 0]) ?_ 7 _ rfl; (with_reducible repeat (first | refine blk_drewN ?_ _ | refine blk_drew ?_ | refine blk_alloc ?_ _)); refine blk_put (cs := #[.int .i64 a0_0, .int .i64 a0_1, .int .i64 a0_2, .int .i64 a0_3, .int .i64 a0_4, .int .i64 a0_5, .slice none 0 0, .slice none 0 0]) ?_ 6 _ rfl; (with_reducible repeat (first | refine blk_drewN ?_ _ | refine blk_drew ?_ | refine blk_alloc ?_ _)); refine blk_put (cs := #[.int .i64 a0_0, .int .i64 a0_1, .int .i64 a0_2, .int .i64 a0_3, .int .i64 a0_4, .int .i64 0, .slice none 0 0, .slice none 0 0]) ?_ 5 _ rfl; (with_reducible repeat (first | refine blk_drewN ?_ _ | refine blk_drew ?_ | refine blk_alloc ?_ _)); refine blk_put (cs := #[.int .i64 a0_0, .int .i64 a0_1, .int .i64 a0_2, .int .i64 a0_3, .int .i64 0, .int .i64 0, .slice none 0 0, .slice none 0 0]) ?_ 4 _ rfl; (with_reducible repeat (first | refine blk_drewN ?_ _ | refine blk_drew ?_ | refine blk_alloc ?_ _)); refine blk_put (cs := #[.int .i64 a0_0, .int .i64 a0_1, .int .i64 a0_2, .int .i64 0, .int .i64 0, .int .i64 0, .slice none 0 0, .slice none 0 0]) ?_ 3 _ rfl; (with_reducible repeat (first | refine blk_drewN ?_ _ | refine blk_drew ?_ | refine blk_alloc ?_ _)); refine blk_put (cs := #[.int .i64 a0_0, .int .i64 a0_1, .int .i64 0, .int .i64 0, .int .i64 0, .int .i64 0, .slice none 0 0, .slice none 0 0]) ?_ 2 _ rfl; (with_reducible repeat (first | refine blk_drewN ?_ _ | refine blk_drew ?_ | refine blk_alloc ?_ _)); refine blk_put (cs := #[.int .i64 a0_0, .int .i64 0, .int .i64 0, .int .i64 0, .int .i64 0, .int .i64 0, .slice none 0 0, .slice none 0 0]) ?_ 1 _ rfl; (with_reducible repeat (first | refine blk_drewN ?_ _ | refine blk_drew ?_ | refine blk_alloc ?_ _)); refine blk_put (cs := #[.int .i64 0, .int .i64 0, .int .i64 0, .int .i64 0, .int .i64 0, .int .i64 0, .slice none 0 0, .slice none 0 0]) ?_ 0 _ rfl; (with_reducible repeat (first | refine blk_drewN ?_ _ | refine blk_drew ?_ | refine blk_alloc ?_ _)); exact BK495.out) hb); replace HB := Aside0.mk (below_step (bl HB) hb); (try clear hb); (try clear hb2); (try clear hk); (try clear hi)) | ((with_reducible refine gate_callee (f := 40) rfl ?_); refine goesL_ (some 19) rfl rfl Tryd.func40 (by kernel_rfl) rfl #[.slice A1 l1.length c1, .int .i64 1] rfl (by (try simp only [List.map_toArray, List.map_cons, List.map_nil]); first | done | rfl | (simp only [List.length_drop, List.length_take]; rfl)) ?_; (with_reducible refine (remontoirref00_At.calls _ _ l1 1 t498 _ ?side1 ?side2 A4.out).mono ?_); (case side1 => repeat (first | exact (Kd.C_below HR1.out HB.out) | (with_reducible refine Kd.C_alloc ?_ _) | (with_reducible refine Kd.C_drewN ?_ _) | (with_reducible refine Kd.C_drew ?_))); (case side2 => exact HC1.out); rintro e w' ⟨rfl, ⟨nd, rfl⟩⟩; refine ⟨_, rfl, ?_⟩) | ((with_reducible refine gate_callee (f := 47) rfl ?_); refine goesL_ (some 20) rfl rfl Tryd.func47 (by kernel_rfl) rfl #[.agg #[.int .i64 t496, .int .i64 t497], .int .i64 t498] rfl (by (try simp only [List.map_toArray, List.map_cons, List.map_nil]); first | done | rfl | (simp only [List.length_drop, List.length_take]; rfl)) ?_; (with_reducible refine (remontoirref00_From.calls t496 t497 t498 t499 _ A5.out).mono ?_); rintro e w15 ⟨rfl, hb⟩; refine ⟨_, rfl, ?_⟩; replace HO0_6 := Aside0.mk (Kd.V_below (by (with_reducible repeat (first | apply Kd.V_alloc | apply Kd.V_drewN | apply Kd.V_drew)); exact HO0_6.out) hb); replace HO0_7 := Aside0.mk (Kd.V_below (by (with_reducible repeat (first | apply Kd.V_alloc | apply Kd.V_drewN | apply Kd.V_drew)); exact HO0_7.out) hb); replace BK493 := Aside0.mk (blk_below (bk BK493) hb); replace BK494 := Aside0.mk (blk_below (bk BK494) hb); replace BK495 := Aside0.mk (blk_below (bk BK495) hb); replace HB := Aside0.mk (below_step (bl HB) hb); (try clear hb); (try clear hb2); (try clear hk); (try clear hi)) | ((with_reducible refine gate_dst (N := 22) rfl ?_); refine Kd.R_lit (Kd.int .i64) _ 3 ?hg (N := 22) ?hd (xs := ([t499] : List Int)) (inner := [.int .i64 t499]) (ok := fun _ => True) (okp := fun _ => True) ?hr ?hp (fun _ hk => hk) trivial (Below.refl _ _) (Nat.le_refl _) (by simp) ?_; (case hd => rfl); (case hg => rfl); (case hr => first | (go_simp; done) | (go_simp; rfl)); (case hp => exact (Reps.one (show Kd.M (Kd.int .i64) _ _ _ t499 [.int .i64 t499] from rfl) (Reps.none _ _))); intro v501 w16 ho17 hb hg_ hnew_; clear hg_ hnew_; (first | rw [← Ny500.out] at ho17 | (simp only [Int.reduceToNat] at ho17; rw [← Ny500.out] at ho17)); replace HO0_6 := Aside0.mk (Kd.V_elder' (by (with_reducible repeat (first | apply Kd.V_alloc | apply Kd.V_drewN | apply Kd.V_drew)); exact HO0_6.out) (Kd.R_base ho17) hb); replace HO0_7 := Aside0.mk (Kd.V_elder' (by (with_reducible repeat (first | apply Kd.V_alloc | apply Kd.V_drewN | apply Kd.V_drew)); exact HO0_7.out) (Kd.R_base ho17) hb); have HO502 := Aside0.mk (Kd.R_lower (Kd.R_newM (M := fun k_ => (w.heap.size ≤ k_)) ho17 (below_size (bl HB)) (fun k_ h_ => h_)) (below_size (bl HB))); replace BK493 := Aside0.mk (blk_below (bk BK493) hb); replace BK494 := Aside0.mk (blk_below (bk BK494) hb); replace BK495 := Aside0.mk (blk_below (bk BK495) hb); replace HB := Aside0.mk (below_step (bl HB) hb); clear hb ho17))
 go_loopg [8, 9, 10] k (fun kq v8 v9 v10 w' => ∃ (x8_1 : Int) (x9_1 : List Int) (x10_1 : Int) (x495000_1 : Int) (x495001_1 : Int) (x495002_1 : Int) (x495003_1 : Int) (x495004_1 : Int) (x495005_1 : Int), v8 = .int .i64 x8_1 ∧ v10 = .int .i64 x10_1 ∧ Aside0 (remontoirlaw04_went.l0 kq l1 x8_1 x9_1 x10_1 a0_0 a0_1 a0_2 a0_3 a0_4 a0_5 l0_6 l0_7 a0_0 a0_1 a0_2 a0_3 a0_4 a0_5 l0_6 = some (r1, r2, r3, r4, r5, r6, r7, r8, r9, r10)) ∧ Aside0 (kq ≤ k) ∧ Aside0 (Kd.R (Kd.int .i64) 3 w' w.heap.size (fun k_ => (w.heap.size ≤ k_)) v9 x9_1) ∧ Aside0 (Kd.V (Kd.int .i64) 3 w' w.heap.size (fun k_ => ((P0_6_ k_ ∨ P0_7_ k_) ∨ w.heap.size ≤ k_) ∧ some k_ ≠ (v9 : Value).ownBlock ∧ k_ ≠ gb493 ∧ k_ ≠ gb494 ∧ k_ ≠ gb495) (.slice A0_6 l0_6.length c0_6) l0_6) ∧ Aside0 (Kd.V k71 71 w' w.heap.size (fun k_ => ((P0_6_ k_ ∨ P0_7_ k_) ∨ w.heap.size ≤ k_) ∧ some k_ ≠ (v9 : Value).ownBlock ∧ k_ ≠ gb493 ∧ k_ ≠ gb494 ∧ k_ ≠ gb495) (.slice A0_7 l0_7.length c0_7) l0_7) ∧ Aside0 (Kd.V (Kd.int .i64) 3 w' w.heap.size (fun k_ => ((P0_6_ k_ ∨ P0_7_ k_) ∨ w.heap.size ≤ k_) ∧ some k_ ≠ (v9 : Value).ownBlock ∧ k_ ≠ gb493 ∧ k_ ≠ gb494 ∧ k_ ≠ gb495) (.slice A0_6 l0_6.length c0_6) l0_6) ∧ Aside0 (w'.heap[gb493]? = some (.cells #[.int .i64 a0_0, .int .i64 a0_1, .int .i64 a0_2, .int .i64 a0_3, .int .i64 a0_4, .int .i64 a0_5, (.slice A0_6 l0_6.length c0_6), (.slice A0_7 l0_7.length c0_7)] 44 (0, 0))) ∧ Aside0 (w'.heap[gb494]? = some (.cells #[.int .i64 x495000_1, .int .i64 x495001_1, .int .i64 x495002_1, .int .i64 x495003_1, .int .i64 x495004_1, .int .i64 x495005_1, (.slice none 0 0), (.slice none 0 0)] 44 (0, 0))) ∧ Aside0 (w'.heap[gb495]? = some (.cells #[.int .i64 a0_0, .int .i64 a0_1, .int .i64 a0_2, .int .i64 a0_3, .int .i64 a0_4, .int .i64 a0_5, (.slice A0_6 l0_6.length c0_6), (.slice none 0 0)] 44 (0, 0))) ∧ Aside0 (Below w.heap.size w w'))
 case atStart => exact ⟨(t499), (y500), (0), (0), (0), (0), (0), (0), (0), (by first | rfl | (simp; done) | (simp [*]; done)), (by first | rfl | (simp; done) | (simp [*]; done)), H', ⟨Nat.le_refl _⟩, ⟨by (with_reducible repeat (first | apply Kd.R_alloc | apply Kd.R_drewN | apply Kd.R_drew)); exact Kd.R_mono HO502.out (fun _ hk => hk.1)⟩, ⟨by (with_reducible repeat (first | apply Kd.V_alloc | apply Kd.V_drewN | apply Kd.V_drew)); exact Kd.V_mono HO0_6.out (fun _ hk => ⟨hk.1.1.1.1, ⟨hk.2, ⟨hk.1.1.1.2, ⟨hk.1.1.2, hk.1.2⟩⟩⟩⟩)⟩, ⟨by (with_reducible repeat (first | apply Kd.V_alloc | apply Kd.V_drewN | apply Kd.V_drew)); exact Kd.V_mono HO0_7.out (fun _ hk => ⟨hk.1.1.1.1, ⟨hk.2, ⟨hk.1.1.1.2, ⟨hk.1.1.2, hk.1.2⟩⟩⟩⟩)⟩, ⟨by (with_reducible repeat (first | apply Kd.V_alloc | apply Kd.V_drewN | apply Kd.V_drew)); exact Kd.V_mono HO0_6.out (fun _ hk => ⟨hk.1.1.1.1, ⟨hk.2, ⟨hk.1.1.1.2, ⟨hk.1.1.2, hk.1.2⟩⟩⟩⟩)⟩, ⟨bk BK493⟩, ⟨bk BK494⟩, ⟨bk BK495⟩, ⟨bl HB⟩⟩
 case round =>
  clear H'
  try clear c1; try clear p2; try clear c4; try clear c5; try clear c8; try clear c11; try clear c12; try clear hcz13_0; try clear hcz13_1; try clear hcz13_2; try clear hcz13_3; try clear hcz13_4; try clear hcz13_5; try clear hcz13_6; try clear hcz13_7; try clear hcz9_0; try clear hcz9_1; try clear hcz9_2; try clear hcz9_3; try clear hcz9_4; try clear hcz9_5; try clear hcz9_6; try clear hcz9_7; try clear hfz13_0; try clear hfz13_1; try clear hfz13_2; try clear hfz13_3; try clear hfz13_4; try clear hfz13_5; try clear hfz13_6; try clear hfz13_7; try clear hfz9_0; try clear hfz9_1; try clear hfz9_2; try clear hfz9_3; try clear hfz9_4; try clear hfz9_5; try clear hfz9_6; try clear hfz9_7
  obtain ⟨x8_1, x9_1, x10_1, x495000_1, x495001_1, x495002_1, x495003_1, x495004_1, x495005_1, rfl, rfl, HA, HK1, HO_9, HO_494006, HO_494007, HO_496006, BK493, BK494, BK495, HB⟩ := hrel
  cases gk with
  | zero => exact absurd HA.out (by simp [remontoirlaw04_went.l0])
  | succ k1 =>
   have H := HA.out
   clear HA
   simp only [remontoirlaw04_went.l0] at H
   by_cases c18 : x10_1 < a0_5
   ·
    rw [if_pos c18] at H
    have c18b0 : decide (x10_1 < a0_5) = true := decide_eq_true c18
    clear c18
    replace H := Option.bind_eq_some_iff.mp H
    obtain ⟨t503, A190, H⟩ := H
    replace H : ((remontoirref00_From.f a0_3 a0_4 t503).bind fun t504 => (if x10_1 < (l0_6.length : Int) then (if 0 ≤ x10_1 then ((remontoirref00_Lies.f (wrap64 ((wrap64 (x8_1 + t504)) + (rd l0_6 x10_1))) (-20000) 20000).bind fun t506 => (if t506 = true then (if x9_1.length < 17592186044416 then (remontoirlaw04_went.l0 k1 l1 (wrap64 ((wrap64 (x8_1 + t504)) + (rd l0_6 x10_1))) (x9_1 ++ [wrap64 ((wrap64 (x8_1 + t504)) + (rd l0_6 x10_1))]) (wrap64 (x10_1 + 1)) a0_0 a0_1 a0_2 a0_3 a0_4 a0_5 l0_6 l0_7 a0_0 a0_1 a0_2 a0_3 a0_4 a0_5 l0_6) else (none)) else (some (([] : List Int), a0_0, a0_1, a0_2, a0_3, a0_4, a0_5, l0_6, l0_7, false)))) else (none)) else ((remontoirref00_Lies.f (wrap64 (x8_1 + t504)) (-20000) 20000).bind fun t510 => (if t510 = true then (if x9_1.length < 17592186044416 then (remontoirlaw04_went.l0 k1 l1 (wrap64 (x8_1 + t504)) (x9_1 ++ [wrap64 (x8_1 + t504)]) (wrap64 (x10_1 + 1)) a0_0 a0_1 a0_2 a0_3 a0_4 a0_5 l0_6 l0_7 a0_0 a0_1 a0_2 a0_3 a0_4 a0_5 l0_6) else (none)) else (some (([] : List Int), a0_0, a0_1, a0_2, a0_3, a0_4, a0_5, l0_6, l0_7, false)))))) = some (r1, r2, r3, r4, r5, r6, r7, r8, r9, r10) := H
    have A19 := Aside0.mk A190
    clear A190
    replace H := Option.bind_eq_some_iff.mp H
    obtain ⟨t504, A200, H⟩ := H
    replace H : (if x10_1 < (l0_6.length : Int) then (if 0 ≤ x10_1 then ((remontoirref00_Lies.f (wrap64 ((wrap64 (x8_1 + t504)) + (rd l0_6 x10_1))) (-20000) 20000).bind fun t506 => (if t506 = true then (if x9_1.length < 17592186044416 then (remontoirlaw04_went.l0 k1 l1 (wrap64 ((wrap64 (x8_1 + t504)) + (rd l0_6 x10_1))) (x9_1 ++ [wrap64 ((wrap64 (x8_1 + t504)) + (rd l0_6 x10_1))]) (wrap64 (x10_1 + 1)) a0_0 a0_1 a0_2 a0_3 a0_4 a0_5 l0_6 l0_7 a0_0 a0_1 a0_2 a0_3 a0_4 a0_5 l0_6) else (none)) else (some (([] : List Int), a0_0, a0_1, a0_2, a0_3, a0_4, a0_5, l0_6, l0_7, false)))) else (none)) else ((remontoirref00_Lies.f (wrap64 (x8_1 + t504)) (-20000) 20000).bind fun t510 => (if t510 = true then (if x9_1.length < 17592186044416 then (remontoirlaw04_went.l0 k1 l1 (wrap64 (x8_1 + t504)) (x9_1 ++ [wrap64 (x8_1 + t504)]) (wrap64 (x10_1 + 1)) a0_0 a0_1 a0_2 a0_3 a0_4 a0_5 l0_6 l0_7 a0_0 a0_1 a0_2 a0_3 a0_4 a0_5 l0_6) else (none)) else (some (([] : List Int), a0_0, a0_1, a0_2, a0_3, a0_4, a0_5, l0_6, l0_7, false))))) = some (r1, r2, r3, r4, r5, r6, r7, r8, r9, r10) := H
    have A20 := Aside0.mk A200
    clear A200
    by_cases c21 : x10_1 < (l0_6.length : Int)
    ·
     rw [if_pos c21] at H
     have c21b0 : decide (x10_1 < (l0_6.length : Int)) = true := decide_eq_true c21
     clear c21
     by_cases c22 : 0 ≤ x10_1
     ·
      rw [if_pos c22] at H
      have c22b0 : decide (0 ≤ x10_1) = true := decide_eq_true c22
      clear c22
      replace H := Option.bind_eq_some_iff.mp H
      obtain ⟨t506, A230, H⟩ := H
      replace H : (if t506 = true then (if x9_1.length < 17592186044416 then (remontoirlaw04_went.l0 k1 l1 (wrap64 ((wrap64 (x8_1 + t504)) + (rd l0_6 x10_1))) (x9_1 ++ [wrap64 ((wrap64 (x8_1 + t504)) + (rd l0_6 x10_1))]) (wrap64 (x10_1 + 1)) a0_0 a0_1 a0_2 a0_3 a0_4 a0_5 l0_6 l0_7 a0_0 a0_1 a0_2 a0_3 a0_4 a0_5 l0_6) else (none)) else (some (([] : List Int), a0_0, a0_1, a0_2, a0_3, a0_4, a0_5, l0_6, l0_7, false))) = some (r1, r2, r3, r4, r5, r6, r7, r8, r9, r10) := H
      have A23 := Aside0.mk A230
      clear A230
      by_cases c24 : t506 = true
      ·
       subst c24
       have H1 : (if x9_1.length < 17592186044416 then (remontoirlaw04_went.l0 k1 l1 (wrap64 ((wrap64 (x8_1 + t504)) + (rd l0_6 x10_1))) (x9_1 ++ [wrap64 ((wrap64 (x8_1 + t504)) + (rd l0_6 x10_1))]) (wrap64 (x10_1 + 1)) a0_0 a0_1 a0_2 a0_3 a0_4 a0_5 l0_6 l0_7 a0_0 a0_1 a0_2 a0_3 a0_4 a0_5 l0_6) else (none)) = some (r1, r2, r3, r4, r5, r6, r7, r8, r9, r10) := by rw [if_pos rfl] at H; exact H
       clear H
       have H := H1
       clear H1
       by_cases c25 : x9_1.length < 17592186044416
       ·
        rw [if_pos c25] at H
        have LMc25 := Aside0.mk c25
        clear c25
        obtain ⟨y507, hy507⟩ : ∃ y_ : List Int, y_ = (x9_1 ++ [wrap64 ((wrap64 (x8_1 + t504)) + (rd l0_6 x10_1))]) := ⟨_, rfl⟩
        replace H : (remontoirlaw04_went.l0 k1 l1 (wrap64 ((wrap64 (x8_1 + t504)) + (rd l0_6 x10_1))) y507 (wrap64 (x10_1 + 1)) a0_0 a0_1 a0_2 a0_3 a0_4 a0_5 l0_6 l0_7 a0_0 a0_1 a0_2 a0_3 a0_4 a0_5 l0_6) = some (r1, r2, r3, r4, r5, r6, r7, r8, r9, r10) := by first | (rw [hy507]; with_reducible exact H) | (have H2_ := (Option.bind_some _ _).symm.trans H; rw [hy507]; with_reducible exact H2_) | (have H2_ := (Option.bind_some _ _).symm.trans H; with_reducible exact H2_) | with_reducible exact H | (rw [hy507]; exact H) | exact H
        have Ny507 := Aside0.mk hy507
        clear hy507
        have H' := Aside0.mk H
        clear H
        have hnb26 := NB493_494.out
        have hnc26 := NB494_493.out
        have hnb27 := NB493_495.out
        have hnc27 := NB495_493.out
        have hcz28_0 : wr.cell? ⟨gb493, 0, none⟩ = some (.int .i64 a0_0) := bc BK493 0
        have hcz28_1 : wr.cell? ⟨gb493, 1, none⟩ = some (.int .i64 a0_1) := bc BK493 1
        have hcz28_2 : wr.cell? ⟨gb493, 2, none⟩ = some (.int .i64 a0_2) := bc BK493 2
        have hcz28_3 : wr.cell? ⟨gb493, 3, none⟩ = some (.int .i64 a0_3) := bc BK493 3
        have hcz28_4 : wr.cell? ⟨gb493, 4, none⟩ = some (.int .i64 a0_4) := bc BK493 4
        have hcz28_5 : wr.cell? ⟨gb493, 5, none⟩ = some (.int .i64 a0_5) := bc BK493 5
        have hcz28_6 : wr.cell? ⟨gb493, 6, none⟩ = some (.slice A0_6 l0_6.length c0_6) := bc BK493 6
        have hcz28_7 : wr.cell? ⟨gb493, 7, none⟩ = some (.slice A0_7 l0_7.length c0_7) := bc BK493 7
        have hfz28_0 := blk_frozen BK493.out 0
        have hfz28_1 := blk_frozen BK493.out 1
        have hfz28_2 := blk_frozen BK493.out 2
        have hfz28_3 := blk_frozen BK493.out 3
        have hfz28_4 := blk_frozen BK493.out 4
        have hfz28_5 := blk_frozen BK493.out 5
        have hfz28_6 := blk_frozen BK493.out 6
        have hfz28_7 := blk_frozen BK493.out 7
        try go_wp2
        replace HO_9 := Aside0.mk (Kd.R_drew HO_9.out)
        replace HO_494006 := Aside0.mk (Kd.V_drew HO_494006.out)
        replace HO_494007 := Aside0.mk (Kd.V_drew HO_494007.out)
        replace HO_496006 := Aside0.mk (Kd.V_drew HO_496006.out)
        replace BK493 := Aside0.mk (blk_drew BK493.out)
        replace BK494 := Aside0.mk (blk_drew BK494.out)
        replace BK495 := Aside0.mk (blk_drew BK495.out)
        replace HB := Aside0.mk (below_drew1 HB.out)
        refine start_ (n := 11) (S := fun w' => w'.cell? ⟨gb493, 0, none⟩ = some (.int .i64 a0_0) ∧ w'.cell? ⟨gb493, 1, none⟩ = some (.int .i64 a0_1) ∧ w'.cell? ⟨gb493, 2, none⟩ = some (.int .i64 a0_2) ∧ w'.cell? ⟨gb493, 3, none⟩ = some (.int .i64 a0_3) ∧ w'.cell? ⟨gb493, 4, none⟩ = some (.int .i64 a0_4) ∧ w'.cell? ⟨gb493, 5, none⟩ = some (.int .i64 a0_5) ∧ w'.cell? ⟨gb493, 6, none⟩ = some (.slice A0_6 l0_6.length c0_6) ∧ w'.cell? ⟨gb493, 7, none⟩ = some (.slice A0_7 l0_7.length c0_7)) (ds := []) #[false, false, false, false, false, false, false, false, false, false, false] (by kernel_rfl) rfl rfl ⟨bc BK493 0, bc BK493 1, bc BK493 2, bc BK493 3, bc BK493 4, bc BK493 5, bc BK493 6, bc BK493 7⟩ (fun hHeld => ?_); refine with_tabW remontoirlaw04_went.tab8 remontoirlaw04_went.bits8 (fun HT_ HW_ => ?_)
        generalize wr.drew = w29 at HO_9 HO_494006 HO_494007 HO_496006 BK493 BK494 BK495 HB hHeld ⊢
        refine pureA 0 29 ?_
        refine pureA 1 30 ?_
        refine pureA 2 31 ?_
        refine pureA 4 33 ?_
        refine pureA 5 34 ?_
        refine pureA 6 35 ?_
        refine takeA 3 32 rfl rfl (by rintro w' ⟨s0, s1, s2, s3, s4, s5, s6, s7⟩; go_simp; with_reducible rfl) ?_
        refine oneA 7 (some 36) (fun K hK => ?_)
        refine goes_ Tryd.func40 (by kernel_rfl) rfl #[.slice A1 l1.length c1, .int .i64 (wrap64 (x10_1 + 2))] (by rfl) rfl rfl (by (try simp only [List.map_toArray, List.map_cons, List.map_nil]); first | done | rfl | (simp only [List.length_drop, List.length_take]; rfl)) ?_
        with_reducible refine (remontoirref00_At.calls _ _ l1 (wrap64 (x10_1 + 2)) t503 _ ?side1 ?side2 A19.out).mono ?_
        (case side1 => repeat (first | exact (Kd.C_below HR1.out HB.out) | (with_reducible refine Kd.C_alloc ?_ _) | (with_reducible refine Kd.C_drewN ?_ _) | (with_reducible refine Kd.C_drew ?_)))
        (case side2 => exact HC1.out)
        rintro e w' ⟨rfl, ⟨nd, rfl⟩⟩
        refine ⟨_, rfl, ?_⟩
        refine hK.out _ _ ⟨bc BK493 0, bc BK493 1, bc BK493 2, bc BK493 3, bc BK493 4, bc BK493 5, bc BK493 6, bc BK493 7⟩ (fun hHeld => ?_)
        clear hK K
        refine normA 36 ?_
        refine oneA 8 (some 37) (fun K hK => ?_)
        refine goes_ Tryd.func47 (by kernel_rfl) rfl #[.agg #[.int .i64 a0_3, .int .i64 a0_4], .int .i64 t503] (by rfl) rfl rfl (by (try simp only [List.map_toArray, List.map_cons, List.map_nil]); first | done | rfl | (simp only [List.length_drop, List.length_take]; rfl)) ?_
        with_reducible refine (remontoirref00_From.calls a0_3 a0_4 t503 t504 _ A20.out).mono ?_
        rintro e w30 ⟨rfl, hb⟩
        refine ⟨_, rfl, ?_⟩
        replace HO_9 := Aside0.mk (Kd.R_below (rk HO_9) hb)
        replace HO_494006 := Aside0.mk (Kd.V_below (by (with_reducible repeat (first | apply Kd.V_alloc | apply Kd.V_drewN | apply Kd.V_drew)); exact HO_494006.out) hb)
        replace HO_494007 := Aside0.mk (Kd.V_below (by (with_reducible repeat (first | apply Kd.V_alloc | apply Kd.V_drewN | apply Kd.V_drew)); exact HO_494007.out) hb)
        replace HO_496006 := Aside0.mk (Kd.V_below (by (with_reducible repeat (first | apply Kd.V_alloc | apply Kd.V_drewN | apply Kd.V_drew)); exact HO_496006.out) hb)
        replace BK493 := Aside0.mk (blk_below (bk BK493) hb)
        replace BK494 := Aside0.mk (blk_below (bk BK494) hb)
        replace BK495 := Aside0.mk (blk_below (bk BK495) hb)
        replace HB := Aside0.mk (below_step (bl HB) hb)
        (try clear hb)
        (try clear hb2)
        (try clear hk)
        (try clear hi)
        refine hK.out _ _ ⟨bc BK493 0, bc BK493 1, bc BK493 2, bc BK493 3, bc BK493 4, bc BK493 5, bc BK493 6, bc BK493 7⟩ (fun hHeld => ?_)
        clear hK K
        refine normA 37 ?_
        refine pureA 9 38 ?_
        refine pureA 10 8 ?_
        refine done_ (done_of HT_.out (by kernel_rfl)) ?_
        have hcz31_0 : w30.cell? ⟨gb493, 0, none⟩ = some (.int .i64 a0_0) := bc BK493 0
        have hcz31_1 : w30.cell? ⟨gb493, 1, none⟩ = some (.int .i64 a0_1) := bc BK493 1
        have hcz31_2 : w30.cell? ⟨gb493, 2, none⟩ = some (.int .i64 a0_2) := bc BK493 2
        have hcz31_3 : w30.cell? ⟨gb493, 3, none⟩ = some (.int .i64 a0_3) := bc BK493 3
        have hcz31_4 : w30.cell? ⟨gb493, 4, none⟩ = some (.int .i64 a0_4) := bc BK493 4
        have hcz31_5 : w30.cell? ⟨gb493, 5, none⟩ = some (.int .i64 a0_5) := bc BK493 5
        have hcz31_6 : w30.cell? ⟨gb493, 6, none⟩ = some (.slice A0_6 l0_6.length c0_6) := bc BK493 6
        have hcz31_7 : w30.cell? ⟨gb493, 7, none⟩ = some (.slice A0_7 l0_7.length c0_7) := bc BK493 7
        have hfz31_0 := blk_frozen BK493.out 0
        have hfz31_1 := blk_frozen BK493.out 1
        have hfz31_2 := blk_frozen BK493.out 2
        have hfz31_3 := blk_frozen BK493.out 3
        have hfz31_4 := blk_frozen BK493.out 4
        have hfz31_5 := blk_frozen BK493.out 5
        have hfz31_6 := blk_frozen BK493.out 6
        have hfz31_7 := blk_frozen BK493.out 7
        have p505 : 0 ≤ (x10_1 : Int) := of_decide_eq_true (by first | (with_reducible assumption) | assumption)
        have q505 : x10_1 < (l0_6.length : Int) := of_decide_eq_true (by first | (with_reducible assumption) | assumption)
        obtain ⟨ad505, e505, hx505_0⟩ := Kd.at_int (Kd.V_reads' HO_494006.out).2.2 x10_1 p505 q505
        cases e505
        replace p505 := eq_true p505
        replace q505 := eq_true q505
        try go_wp2_with (first | ((with_reducible refine gate_callee (f := 42) rfl ?_); refine goesL_ (some 52) rfl rfl Tryd.func42 (by kernel_rfl) rfl #[.int .i64 (wrap64 ((wrap64 (x8_1 + t504)) + (rd l0_6 x10_1))), .int .i64 (-20000), .int .i64 20000] rfl (by (try simp only [List.map_toArray, List.map_cons, List.map_nil]); first | done | rfl | (simp only [List.length_drop, List.length_take]; rfl)) ?_; (with_reducible refine (remontoirref00_Lies.calls (wrap64 ((wrap64 (x8_1 + t504)) + (rd l0_6 x10_1))) (-20000) 20000 true _ A23.out).mono ?_); rintro e w' ⟨rfl, ⟨nd, rfl⟩⟩; refine ⟨_, rfl, ?_⟩) | ((with_reducible refine gate_builtin (b := .append) (xs := #[.tmp 55, .tmp 57]) rfl ?_); at_builtin; refine Kd.R_append (Kd.int .i64) (w0 := w) w.heap.size rfl (.tmp 55) (.tmp 57) 26 3 (.int .i64 0) 8 rfl Tryd.underlying26 info3 rfl (by decide) (by omega) u9 x9_1 (wrap64 ((wrap64 (x8_1 + t504)) + (rd l0_6 x10_1))) [.int .i64 (wrap64 ((wrap64 (x8_1 + t504)) + (rd l0_6 x10_1)))] (fun k_ => (w.heap.size ≤ k_)) (fun _ => False) rfl rfl ?aP (fun _ hk => hk.elim) ?aF ?aO ?aB ?aS ?aL ?_; (case aP => exact rfl); (case aB => exact (bl HB)); (case aF => exact (fun k_ hk => (Nat.le_trans (below_size (bl HB)) hk))); (case aO => exact (rk HO_9)); (case aS => exact (below_size (bl HB))); (case aL => have := LMc25.out; omega); intro v508 w32 ho hb hg hat; rw [← Ny507.out] at ho; have n0_ := Aside0.mk (Kd.V_afterv (ok := (fun k_ => ((P0_6_ k_ ∨ P0_7_ k_) ∨ w.heap.size ≤ k_) ∧ k_ ≠ gb493 ∧ k_ ≠ gb494 ∧ k_ ≠ gb495)) (by (with_reducible repeat (first | apply Kd.V_alloc | apply Kd.V_drewN | apply Kd.V_drew)); exact Kd.V_mono HO_494006.out (fun _ hk => ⟨⟨hk.1, ⟨hk.2.2.1, ⟨hk.2.2.2.1, hk.2.2.2.2⟩⟩⟩, hk.2.1⟩)) hg hat); have n1_ := Aside0.mk (Kd.V_afterv (ok := (fun k_ => ((P0_6_ k_ ∨ P0_7_ k_) ∨ w.heap.size ≤ k_) ∧ k_ ≠ gb493 ∧ k_ ≠ gb494 ∧ k_ ≠ gb495)) (by (with_reducible repeat (first | apply Kd.V_alloc | apply Kd.V_drewN | apply Kd.V_drew)); exact Kd.V_mono HO_494007.out (fun _ hk => ⟨⟨hk.1, ⟨hk.2.2.1, ⟨hk.2.2.2.1, hk.2.2.2.2⟩⟩⟩, hk.2.1⟩)) hg hat); have n2_ := Aside0.mk (Kd.V_afterv (ok := (fun k_ => ((P0_6_ k_ ∨ P0_7_ k_) ∨ w.heap.size ≤ k_) ∧ k_ ≠ gb493 ∧ k_ ≠ gb494 ∧ k_ ≠ gb495)) (by (with_reducible repeat (first | apply Kd.V_alloc | apply Kd.V_drewN | apply Kd.V_drew)); exact Kd.V_mono HO_496006.out (fun _ hk => ⟨⟨hk.1, ⟨hk.2.2.1, ⟨hk.2.2.2.1, hk.2.2.2.2⟩⟩⟩, hk.2.1⟩)) hg hat); have n3_ := Aside0.mk (blk_grown (bk BK493) hg (Kd.R_ne HO_9.out BK493.out (by decide))); have n4_ := Aside0.mk (blk_grown (bk BK494) hg (Kd.R_ne HO_9.out BK494.out (by decide))); have n5_ := Aside0.mk (blk_grown (bk BK495) hg (Kd.R_ne HO_9.out BK495.out (by decide))); have n6_ := Aside0.mk (hb); have n7_ := Aside0.mk (ho); clear HO_494006; clear HO_494007; clear HO_496006; clear BK493; clear BK494; clear BK495; clear HB; clear HO_9; have HO_494006 := n0_; have HO_494007 := n1_; have HO_496006 := n2_; have BK493 := n3_; have BK494 := n4_; have BK495 := n5_; have HB := n6_; have HO509 := n7_; clear n0_ n1_ n2_ n3_ n4_ n5_ n6_ n7_; clear ho hb hg hat))
        go_roundg k1
        case measure => have := HK1.out; omega
        case rel => exact ⟨(wrap64 ((wrap64 (x8_1 + t504)) + (rd l0_6 x10_1))), (y507), (wrap64 (x10_1 + 1)), (x495000_1), (x495001_1), (x495002_1), (x495003_1), (x495004_1), (x495005_1), (by first | rfl | (simp; done) | (simp [*]; done)), (by first | rfl | (simp; done) | (simp [*]; done)), H', ⟨by have := HK1.out; omega⟩, ⟨by (with_reducible repeat (first | apply Kd.R_alloc | apply Kd.R_drewN | apply Kd.R_drew)); exact HO509.out⟩, ⟨by (with_reducible repeat (first | apply Kd.V_alloc | apply Kd.V_drewN | apply Kd.V_drew)); exact Kd.V_mono HO_494006.out (fun _ hk => ⟨hk.1.1, ⟨hk.2, ⟨hk.1.2.1, ⟨hk.1.2.2.1, hk.1.2.2.2⟩⟩⟩⟩)⟩, ⟨by (with_reducible repeat (first | apply Kd.V_alloc | apply Kd.V_drewN | apply Kd.V_drew)); exact Kd.V_mono HO_494007.out (fun _ hk => ⟨hk.1.1, ⟨hk.2, ⟨hk.1.2.1, ⟨hk.1.2.2.1, hk.1.2.2.2⟩⟩⟩⟩)⟩, ⟨by (with_reducible repeat (first | apply Kd.V_alloc | apply Kd.V_drewN | apply Kd.V_drew)); exact Kd.V_mono HO_496006.out (fun _ hk => ⟨hk.1.1, ⟨hk.2, ⟨hk.1.2.1, ⟨hk.1.2.2.1, hk.1.2.2.2⟩⟩⟩⟩)⟩, ⟨bk BK493⟩, ⟨bk BK494⟩, ⟨bk BK495⟩, ⟨bl HB⟩⟩
       ·
        rw [if_neg c25] at H
        exact absurd H (by simp)
      ·
       replace c24 := Bool.eq_false_iff.mpr c24
       subst c24
       have H1 : (some (([] : List Int), a0_0, a0_1, a0_2, a0_3, a0_4, a0_5, l0_6, l0_7, false)) = some (r1, r2, r3, r4, r5, r6, r7, r8, r9, r10) := by rw [if_neg (show ¬ (false = true) by decide)] at H; exact H
       clear H
       have H := H1
       clear H1
       simp only [Option.some.injEq, Prod.mk.injEq] at H
       obtain ⟨rfl, rfl, rfl, rfl, rfl, rfl, rfl, rfl, rfl, rfl⟩ := H
       have hnb33 := NB493_494.out
       have hnc33 := NB494_493.out
       have hnb34 := NB493_495.out
       have hnc34 := NB495_493.out
       have hcz35_0 : wr.cell? ⟨gb493, 0, none⟩ = some (.int .i64 a0_0) := bc BK493 0
       have hcz35_1 : wr.cell? ⟨gb493, 1, none⟩ = some (.int .i64 a0_1) := bc BK493 1
       have hcz35_2 : wr.cell? ⟨gb493, 2, none⟩ = some (.int .i64 a0_2) := bc BK493 2
       have hcz35_3 : wr.cell? ⟨gb493, 3, none⟩ = some (.int .i64 a0_3) := bc BK493 3
       have hcz35_4 : wr.cell? ⟨gb493, 4, none⟩ = some (.int .i64 a0_4) := bc BK493 4
       have hcz35_5 : wr.cell? ⟨gb493, 5, none⟩ = some (.int .i64 a0_5) := bc BK493 5
       have hcz35_6 : wr.cell? ⟨gb493, 6, none⟩ = some (.slice A0_6 l0_6.length c0_6) := bc BK493 6
       have hcz35_7 : wr.cell? ⟨gb493, 7, none⟩ = some (.slice A0_7 l0_7.length c0_7) := bc BK493 7
       have hfz35_0 := blk_frozen BK493.out 0
       have hfz35_1 := blk_frozen BK493.out 1
       have hfz35_2 := blk_frozen BK493.out 2
       have hfz35_3 := blk_frozen BK493.out 3
       have hfz35_4 := blk_frozen BK493.out 4
       have hfz35_5 := blk_frozen BK493.out 5
       have hfz35_6 := blk_frozen BK493.out 6
       have hfz35_7 := blk_frozen BK493.out 7
       try go_wp2
       replace HO_9 := Aside0.mk (Kd.R_drew HO_9.out)
       replace HO_494006 := Aside0.mk (Kd.V_drew HO_494006.out)
       replace HO_494007 := Aside0.mk (Kd.V_drew HO_494007.out)
       replace HO_496006 := Aside0.mk (Kd.V_drew HO_496006.out)
       replace BK493 := Aside0.mk (blk_drew BK493.out)
       replace BK494 := Aside0.mk (blk_drew BK494.out)
       replace BK495 := Aside0.mk (blk_drew BK495.out)
       replace HB := Aside0.mk (below_drew1 HB.out)
       refine start_ (n := 11) (S := fun w' => w'.cell? ⟨gb493, 0, none⟩ = some (.int .i64 a0_0) ∧ w'.cell? ⟨gb493, 1, none⟩ = some (.int .i64 a0_1) ∧ w'.cell? ⟨gb493, 2, none⟩ = some (.int .i64 a0_2) ∧ w'.cell? ⟨gb493, 3, none⟩ = some (.int .i64 a0_3) ∧ w'.cell? ⟨gb493, 4, none⟩ = some (.int .i64 a0_4) ∧ w'.cell? ⟨gb493, 5, none⟩ = some (.int .i64 a0_5) ∧ w'.cell? ⟨gb493, 6, none⟩ = some (.slice A0_6 l0_6.length c0_6) ∧ w'.cell? ⟨gb493, 7, none⟩ = some (.slice A0_7 l0_7.length c0_7)) (ds := []) #[false, false, false, false, false, false, false, false, false, false, false] (by kernel_rfl) rfl rfl ⟨bc BK493 0, bc BK493 1, bc BK493 2, bc BK493 3, bc BK493 4, bc BK493 5, bc BK493 6, bc BK493 7⟩ (fun hHeld => ?_); refine with_tabW remontoirlaw04_went.tab8 remontoirlaw04_went.bits8 (fun HT_ HW_ => ?_)
       generalize wr.drew = w36 at HO_9 HO_494006 HO_494007 HO_496006 BK493 BK494 BK495 HB hHeld ⊢
       refine pureA 0 29 ?_
       refine pureA 1 30 ?_
       refine pureA 2 31 ?_
       refine pureA 4 33 ?_
       refine pureA 5 34 ?_
       refine pureA 6 35 ?_
       refine takeA 3 32 rfl rfl (by rintro w' ⟨s0, s1, s2, s3, s4, s5, s6, s7⟩; go_simp; with_reducible rfl) ?_
       refine oneA 7 (some 36) (fun K hK => ?_)
       refine goes_ Tryd.func40 (by kernel_rfl) rfl #[.slice A1 l1.length c1, .int .i64 (wrap64 (x10_1 + 2))] (by rfl) rfl rfl (by (try simp only [List.map_toArray, List.map_cons, List.map_nil]); first | done | rfl | (simp only [List.length_drop, List.length_take]; rfl)) ?_
       with_reducible refine (remontoirref00_At.calls _ _ l1 (wrap64 (x10_1 + 2)) t503 _ ?side1 ?side2 A19.out).mono ?_
       (case side1 => repeat (first | exact (Kd.C_below HR1.out HB.out) | (with_reducible refine Kd.C_alloc ?_ _) | (with_reducible refine Kd.C_drewN ?_ _) | (with_reducible refine Kd.C_drew ?_)))
       (case side2 => exact HC1.out)
       rintro e w' ⟨rfl, ⟨nd, rfl⟩⟩
       refine ⟨_, rfl, ?_⟩
       refine hK.out _ _ ⟨bc BK493 0, bc BK493 1, bc BK493 2, bc BK493 3, bc BK493 4, bc BK493 5, bc BK493 6, bc BK493 7⟩ (fun hHeld => ?_)
       clear hK K
       refine normA 36 ?_
       refine oneA 8 (some 37) (fun K hK => ?_)
       refine goes_ Tryd.func47 (by kernel_rfl) rfl #[.agg #[.int .i64 a0_3, .int .i64 a0_4], .int .i64 t503] (by rfl) rfl rfl (by (try simp only [List.map_toArray, List.map_cons, List.map_nil]); first | done | rfl | (simp only [List.length_drop, List.length_take]; rfl)) ?_
       with_reducible refine (remontoirref00_From.calls a0_3 a0_4 t503 t504 _ A20.out).mono ?_
       rintro e w37 ⟨rfl, hb⟩
       refine ⟨_, rfl, ?_⟩
       replace HO_9 := Aside0.mk (Kd.R_below (rk HO_9) hb)
       replace HO_494006 := Aside0.mk (Kd.V_below (by (with_reducible repeat (first | apply Kd.V_alloc | apply Kd.V_drewN | apply Kd.V_drew)); exact HO_494006.out) hb)
       replace HO_494007 := Aside0.mk (Kd.V_below (by (with_reducible repeat (first | apply Kd.V_alloc | apply Kd.V_drewN | apply Kd.V_drew)); exact HO_494007.out) hb)
       replace HO_496006 := Aside0.mk (Kd.V_below (by (with_reducible repeat (first | apply Kd.V_alloc | apply Kd.V_drewN | apply Kd.V_drew)); exact HO_496006.out) hb)
       replace BK493 := Aside0.mk (blk_below (bk BK493) hb)
       replace BK494 := Aside0.mk (blk_below (bk BK494) hb)
       replace BK495 := Aside0.mk (blk_below (bk BK495) hb)
       replace HB := Aside0.mk (below_step (bl HB) hb)
       (try clear hb)
       (try clear hb2)
       (try clear hk)
       (try clear hi)
       refine hK.out _ _ ⟨bc BK493 0, bc BK493 1, bc BK493 2, bc BK493 3, bc BK493 4, bc BK493 5, bc BK493 6, bc BK493 7⟩ (fun hHeld => ?_)
       clear hK K
       refine normA 37 ?_
       refine pureA 9 38 ?_
       refine pureA 10 8 ?_
       refine done_ (done_of HT_.out (by kernel_rfl)) ?_
       have hcz38_0 : w37.cell? ⟨gb493, 0, none⟩ = some (.int .i64 a0_0) := bc BK493 0
       have hcz38_1 : w37.cell? ⟨gb493, 1, none⟩ = some (.int .i64 a0_1) := bc BK493 1
       have hcz38_2 : w37.cell? ⟨gb493, 2, none⟩ = some (.int .i64 a0_2) := bc BK493 2
       have hcz38_3 : w37.cell? ⟨gb493, 3, none⟩ = some (.int .i64 a0_3) := bc BK493 3
       have hcz38_4 : w37.cell? ⟨gb493, 4, none⟩ = some (.int .i64 a0_4) := bc BK493 4
       have hcz38_5 : w37.cell? ⟨gb493, 5, none⟩ = some (.int .i64 a0_5) := bc BK493 5
       have hcz38_6 : w37.cell? ⟨gb493, 6, none⟩ = some (.slice A0_6 l0_6.length c0_6) := bc BK493 6
       have hcz38_7 : w37.cell? ⟨gb493, 7, none⟩ = some (.slice A0_7 l0_7.length c0_7) := bc BK493 7
       have hfz38_0 := blk_frozen BK493.out 0
       have hfz38_1 := blk_frozen BK493.out 1
       have hfz38_2 := blk_frozen BK493.out 2
       have hfz38_3 := blk_frozen BK493.out 3
       have hfz38_4 := blk_frozen BK493.out 4
       have hfz38_5 := blk_frozen BK493.out 5
       have hfz38_6 := blk_frozen BK493.out 6
       have hfz38_7 := blk_frozen BK493.out 7
       have p505 : 0 ≤ (x10_1 : Int) := of_decide_eq_true (by first | (with_reducible assumption) | assumption)
       have q505 : x10_1 < (l0_6.length : Int) := of_decide_eq_true (by first | (with_reducible assumption) | assumption)
       obtain ⟨ad505, e505, hx505_0⟩ := Kd.at_int (Kd.V_reads' HO_494006.out).2.2 x10_1 p505 q505
       cases e505
       replace p505 := eq_true p505
       replace q505 := eq_true q505
       try go_wp2_with (first | ((with_reducible refine gate_callee (f := 42) rfl ?_); refine goesL_ (some 52) rfl rfl Tryd.func42 (by kernel_rfl) rfl #[.int .i64 (wrap64 ((wrap64 (x8_1 + t504)) + (rd l0_6 x10_1))), .int .i64 (-20000), .int .i64 20000] rfl (by (try simp only [List.map_toArray, List.map_cons, List.map_nil]); first | done | rfl | (simp only [List.length_drop, List.length_take]; rfl)) ?_; (with_reducible refine (remontoirref00_Lies.calls (wrap64 ((wrap64 (x8_1 + t504)) + (rd l0_6 x10_1))) (-20000) 20000 false _ A23.out).mono ?_); rintro e w' ⟨rfl, ⟨nd, rfl⟩⟩; refine ⟨_, rfl, ?_⟩; (try (rw [drewN_self w37]; generalize hq_ : World.drewN w37 _ = w37; have n0_ : Aside0 (Kd.V (Kd.int .i64) 3 w37 w.heap.size (fun k_ => ((P0_6_ k_ ∨ P0_7_ k_) ∨ w.heap.size ≤ k_) ∧ some k_ ≠ (u9 : Value).ownBlock ∧ k_ ≠ gb493 ∧ k_ ≠ gb494 ∧ k_ ≠ gb495) (.slice (some ad505) l0_6.length c0_6) l0_6) := ⟨by rw [← hq_]; exact (by (with_reducible repeat (first | apply Kd.V_alloc | apply Kd.V_drewN | apply Kd.V_drew)); exact HO_494006.out)⟩; have n1_ : Aside0 (Kd.V k71 71 w37 w.heap.size (fun k_ => ((P0_6_ k_ ∨ P0_7_ k_) ∨ w.heap.size ≤ k_) ∧ some k_ ≠ (u9 : Value).ownBlock ∧ k_ ≠ gb493 ∧ k_ ≠ gb494 ∧ k_ ≠ gb495) (.slice A0_7 l0_7.length c0_7) l0_7) := ⟨by rw [← hq_]; exact (by (with_reducible repeat (first | apply Kd.V_alloc | apply Kd.V_drewN | apply Kd.V_drew)); exact HO_494007.out)⟩; have n2_ : Aside0 (Kd.V (Kd.int .i64) 3 w37 w.heap.size (fun k_ => ((P0_6_ k_ ∨ P0_7_ k_) ∨ w.heap.size ≤ k_) ∧ some k_ ≠ (u9 : Value).ownBlock ∧ k_ ≠ gb493 ∧ k_ ≠ gb494 ∧ k_ ≠ gb495) (.slice (some ad505) l0_6.length c0_6) l0_6) := ⟨by rw [← hq_]; exact (by (with_reducible repeat (first | apply Kd.V_alloc | apply Kd.V_drewN | apply Kd.V_drew)); exact HO_496006.out)⟩; have n3_ : Aside0 (Kd.R (Kd.int .i64) 3 w37 w.heap.size (fun k_ => (w.heap.size ≤ k_)) u9 x9_1) := ⟨by rw [← hq_]; exact (rk HO_9)⟩; have n4_ : Aside0 (w37.heap[gb493]? = some (.cells #[.int .i64 a0_0, .int .i64 a0_1, .int .i64 a0_2, .int .i64 a0_3, .int .i64 a0_4, .int .i64 a0_5, .slice (some ad505) l0_6.length c0_6, .slice A0_7 l0_7.length c0_7] 44 (0, 0))) := ⟨by rw [← hq_]; exact (bk BK493)⟩; have n5_ : Aside0 (w37.heap[gb494]? = some (.cells #[.int .i64 x495000_1, .int .i64 x495001_1, .int .i64 x495002_1, .int .i64 x495003_1, .int .i64 x495004_1, .int .i64 x495005_1, .slice none 0 0, .slice none 0 0] 44 (0, 0))) := ⟨by rw [← hq_]; exact (bk BK494)⟩; have n6_ : Aside0 (w37.heap[gb495]? = some (.cells #[.int .i64 a0_0, .int .i64 a0_1, .int .i64 a0_2, .int .i64 a0_3, .int .i64 a0_4, .int .i64 a0_5, .slice (some ad505) l0_6.length c0_6, .slice none 0 0] 44 (0, 0))) := ⟨by rw [← hq_]; exact (bk BK495)⟩; have n7_ : Aside0 (Below w.heap.size w w37) := ⟨by rw [← hq_]; exact (bl HB)⟩; clear HO_494006 HO_494007 HO_496006 HO_9 BK493 BK494 BK495 HB hq_; have HO_494006 := n0_; have HO_494007 := n1_; have HO_496006 := n2_; have HO_9 := n3_; have BK493 := n4_; have BK494 := n5_; have BK495 := n6_; have HB := n7_; clear n0_ n1_ n2_ n3_ n4_ n5_ n6_ n7_))))
       replace HO_9 := Aside0.mk (Kd.R_drew HO_9.out)
       replace HO_494006 := Aside0.mk (Kd.V_drew HO_494006.out)
       replace HO_494007 := Aside0.mk (Kd.V_drew HO_494007.out)
       replace HO_496006 := Aside0.mk (Kd.V_drew HO_496006.out)
       replace BK493 := Aside0.mk (blk_drew BK493.out)
       replace BK494 := Aside0.mk (blk_drew BK494.out)
       replace BK495 := Aside0.mk (blk_drew BK495.out)
       replace HB := Aside0.mk (below_drew1 HB.out)
       refine start_ (n := 4) (S := fun w' => w'.cell? ⟨gb493, 0, none⟩ = some (.int .i64 a0_0) ∧ w'.cell? ⟨gb493, 1, none⟩ = some (.int .i64 a0_1) ∧ w'.cell? ⟨gb493, 2, none⟩ = some (.int .i64 a0_2) ∧ w'.cell? ⟨gb493, 3, none⟩ = some (.int .i64 a0_3) ∧ w'.cell? ⟨gb493, 4, none⟩ = some (.int .i64 a0_4) ∧ w'.cell? ⟨gb493, 5, none⟩ = some (.int .i64 a0_5) ∧ w'.cell? ⟨gb493, 6, none⟩ = some (.slice (some ad505) l0_6.length c0_6) ∧ w'.cell? ⟨gb493, 7, none⟩ = some (.slice A0_7 l0_7.length c0_7)) (ds := []) #[false, false, false, false] (by kernel_rfl) rfl rfl ⟨bc BK493 0, bc BK493 1, bc BK493 2, bc BK493 3, bc BK493 4, bc BK493 5, bc BK493 6, bc BK493 7⟩ (fun hHeld => ?_)
       generalize w37.drew = w39 at HO_9 HO_494006 HO_494007 HO_496006 BK493 BK494 BK495 HB hHeld ⊢
       refine pure_ (i := 1) (N := some 4) (v := ?_) (a' := ?_) #[false, true, false, false] rfl rfl (by kernel_rfl) (fun _ _ _ h => h) (Or.inl ⟨by rfl, ?_⟩) ?_ ?_
       rotate_left
       ·
        intro w'
        go_simp
        with_reducible rfl
       rotate_left
       ·
        simp only [Act.put, List.setIfInBounds_toArray, List.set_cons_zero, List.set_cons_succ, i64_w, i32_w]
        rfl
       refine take_ (i := 0) (N := some 54) (v := ?_) (a' := ?_) #[true, true, false, false] rfl rfl (by kernel_rfl) (fun _ _ _ h => h) (Or.inl ⟨by rfl, ?_⟩) hHeld ?_ ?_
       rotate_left
       ·
        rintro w' ⟨s0, s1, s2, s3, s4, s5, s6, s7⟩
        go_simp
        with_reducible rfl
       rotate_left
       ·
        simp only [Act.put, List.setIfInBounds_toArray, List.set_cons_zero, List.set_cons_succ, i64_w, i32_w]
        rfl
       refine one_ (i := 2) (N := none) #[true, true, true, false] rfl rfl (by kernel_rfl) (by decide) (fun K hK => ?_)
       have hs40 : w39.cell? ⟨gb494, 0, none⟩ = some (.int .i64 x495000_1) := bc BK494 0
       have hfs40 := blk_frozen BK494.out 0
       have hns40_0 := NB493_494.out
       have hns40_2 := NB495_494.out
       have hms40_0 := NB494_493.out
       have hms40_2 := NB494_495.out
       have hs41 : w39.cell? ⟨gb494, 1, none⟩ = some (.int .i64 x495001_1) := bc BK494 1
       have hfs41 := blk_frozen BK494.out 1
       have hns41_0 := NB493_494.out
       have hns41_2 := NB495_494.out
       have hms41_0 := NB494_493.out
       have hms41_2 := NB494_495.out
       have hs42 : w39.cell? ⟨gb494, 2, none⟩ = some (.int .i64 x495002_1) := bc BK494 2
       have hfs42 := blk_frozen BK494.out 2
       have hns42_0 := NB493_494.out
       have hns42_2 := NB495_494.out
       have hms42_0 := NB494_493.out
       have hms42_2 := NB494_495.out
       have hs43 : w39.cell? ⟨gb494, 3, none⟩ = some (.int .i64 x495003_1) := bc BK494 3
       have hfs43 := blk_frozen BK494.out 3
       have hns43_0 := NB493_494.out
       have hns43_2 := NB495_494.out
       have hms43_0 := NB494_493.out
       have hms43_2 := NB494_495.out
       have hs44 : w39.cell? ⟨gb494, 4, none⟩ = some (.int .i64 x495004_1) := bc BK494 4
       have hfs44 := blk_frozen BK494.out 4
       have hns44_0 := NB493_494.out
       have hns44_2 := NB495_494.out
       have hms44_0 := NB494_493.out
       have hms44_2 := NB494_495.out
       have hs45 : w39.cell? ⟨gb494, 5, none⟩ = some (.int .i64 x495005_1) := bc BK494 5
       have hfs45 := blk_frozen BK494.out 5
       have hns45_0 := NB493_494.out
       have hns45_2 := NB495_494.out
       have hms45_0 := NB494_493.out
       have hms45_2 := NB494_495.out
       have hs46 : w39.cell? ⟨gb494, 6, none⟩ = some (.slice none 0 0) := bc BK494 6
       have hfs46 := blk_frozen BK494.out 6
       have hns46_0 := NB493_494.out
       have hns46_2 := NB495_494.out
       have hms46_0 := NB494_493.out
       have hms46_2 := NB494_495.out
       have hs47 : w39.cell? ⟨gb494, 7, none⟩ = some (.slice none 0 0) := bc BK494 7
       have hfs47 := blk_frozen BK494.out 7
       have hns47_0 := NB493_494.out
       have hns47_2 := NB495_494.out
       have hms47_0 := NB494_493.out
       have hms47_2 := NB494_495.out
       refine skip_ (w1 := ?_) (by rfl) rfl ?_ ?_
       rotate_left
       ·
        go_simp
        rfl
       refine hK.out _ _ ⟨((cell_far (p := ⟨gb494, _, none⟩) NB493_494.out _).trans (((cell_far (p := ⟨gb494, _, none⟩) NB493_494.out _).trans (((cell_far (p := ⟨gb494, _, none⟩) NB493_494.out _).trans (((cell_far (p := ⟨gb494, _, none⟩) NB493_494.out _).trans (((cell_far (p := ⟨gb494, _, none⟩) NB493_494.out _).trans (((cell_far (p := ⟨gb494, _, none⟩) NB493_494.out _).trans (((cell_far (p := ⟨gb494, _, none⟩) NB493_494.out _).trans (((cell_far (p := ⟨gb494, _, none⟩) NB493_494.out _).trans (hHeld.1)))))))))))))))), ((cell_far (p := ⟨gb494, _, none⟩) NB493_494.out _).trans (((cell_far (p := ⟨gb494, _, none⟩) NB493_494.out _).trans (((cell_far (p := ⟨gb494, _, none⟩) NB493_494.out _).trans (((cell_far (p := ⟨gb494, _, none⟩) NB493_494.out _).trans (((cell_far (p := ⟨gb494, _, none⟩) NB493_494.out _).trans (((cell_far (p := ⟨gb494, _, none⟩) NB493_494.out _).trans (((cell_far (p := ⟨gb494, _, none⟩) NB493_494.out _).trans (((cell_far (p := ⟨gb494, _, none⟩) NB493_494.out _).trans (hHeld.2.1)))))))))))))))), ((cell_far (p := ⟨gb494, _, none⟩) NB493_494.out _).trans (((cell_far (p := ⟨gb494, _, none⟩) NB493_494.out _).trans (((cell_far (p := ⟨gb494, _, none⟩) NB493_494.out _).trans (((cell_far (p := ⟨gb494, _, none⟩) NB493_494.out _).trans (((cell_far (p := ⟨gb494, _, none⟩) NB493_494.out _).trans (((cell_far (p := ⟨gb494, _, none⟩) NB493_494.out _).trans (((cell_far (p := ⟨gb494, _, none⟩) NB493_494.out _).trans (((cell_far (p := ⟨gb494, _, none⟩) NB493_494.out _).trans (hHeld.2.2.1)))))))))))))))), ((cell_far (p := ⟨gb494, _, none⟩) NB493_494.out _).trans (((cell_far (p := ⟨gb494, _, none⟩) NB493_494.out _).trans (((cell_far (p := ⟨gb494, _, none⟩) NB493_494.out _).trans (((cell_far (p := ⟨gb494, _, none⟩) NB493_494.out _).trans (((cell_far (p := ⟨gb494, _, none⟩) NB493_494.out _).trans (((cell_far (p := ⟨gb494, _, none⟩) NB493_494.out _).trans (((cell_far (p := ⟨gb494, _, none⟩) NB493_494.out _).trans (((cell_far (p := ⟨gb494, _, none⟩) NB493_494.out _).trans (hHeld.2.2.2.1)))))))))))))))), ((cell_far (p := ⟨gb494, _, none⟩) NB493_494.out _).trans (((cell_far (p := ⟨gb494, _, none⟩) NB493_494.out _).trans (((cell_far (p := ⟨gb494, _, none⟩) NB493_494.out _).trans (((cell_far (p := ⟨gb494, _, none⟩) NB493_494.out _).trans (((cell_far (p := ⟨gb494, _, none⟩) NB493_494.out _).trans (((cell_far (p := ⟨gb494, _, none⟩) NB493_494.out _).trans (((cell_far (p := ⟨gb494, _, none⟩) NB493_494.out _).trans (((cell_far (p := ⟨gb494, _, none⟩) NB493_494.out _).trans (hHeld.2.2.2.2.1)))))))))))))))), ((cell_far (p := ⟨gb494, _, none⟩) NB493_494.out _).trans (((cell_far (p := ⟨gb494, _, none⟩) NB493_494.out _).trans (((cell_far (p := ⟨gb494, _, none⟩) NB493_494.out _).trans (((cell_far (p := ⟨gb494, _, none⟩) NB493_494.out _).trans (((cell_far (p := ⟨gb494, _, none⟩) NB493_494.out _).trans (((cell_far (p := ⟨gb494, _, none⟩) NB493_494.out _).trans (((cell_far (p := ⟨gb494, _, none⟩) NB493_494.out _).trans (((cell_far (p := ⟨gb494, _, none⟩) NB493_494.out _).trans (hHeld.2.2.2.2.2.1)))))))))))))))), ((cell_far (p := ⟨gb494, _, none⟩) NB493_494.out _).trans (((cell_far (p := ⟨gb494, _, none⟩) NB493_494.out _).trans (((cell_far (p := ⟨gb494, _, none⟩) NB493_494.out _).trans (((cell_far (p := ⟨gb494, _, none⟩) NB493_494.out _).trans (((cell_far (p := ⟨gb494, _, none⟩) NB493_494.out _).trans (((cell_far (p := ⟨gb494, _, none⟩) NB493_494.out _).trans (((cell_far (p := ⟨gb494, _, none⟩) NB493_494.out _).trans (((cell_far (p := ⟨gb494, _, none⟩) NB493_494.out _).trans (hHeld.2.2.2.2.2.2.1)))))))))))))))), ((cell_far (p := ⟨gb494, _, none⟩) NB493_494.out _).trans (((cell_far (p := ⟨gb494, _, none⟩) NB493_494.out _).trans (((cell_far (p := ⟨gb494, _, none⟩) NB493_494.out _).trans (((cell_far (p := ⟨gb494, _, none⟩) NB493_494.out _).trans (((cell_far (p := ⟨gb494, _, none⟩) NB493_494.out _).trans (((cell_far (p := ⟨gb494, _, none⟩) NB493_494.out _).trans (((cell_far (p := ⟨gb494, _, none⟩) NB493_494.out _).trans (((cell_far (p := ⟨gb494, _, none⟩) NB493_494.out _).trans (hHeld.2.2.2.2.2.2.2))))))))))))))))⟩ (fun hHeld => ?_)
       clear hK K
       refine pure_ (i := 3) (N := some 6) (v := ?_) (a' := ?_) #[true, true, true, true] rfl rfl (by kernel_rfl) (fun _ _ _ h => h) (Or.inl ⟨by rfl, ?_⟩) ?_ ?_
       rotate_left
       ·
        intro w'
        go_simp
        with_reducible rfl
       rotate_left
       ·
        simp only [Act.put, List.setIfInBounds_toArray, List.set_cons_zero, List.set_cons_succ, i64_w, i32_w]
        rfl
       refine done_ (by kernel_rfl) ?_
       try go_wp2
       refine bodyPost_ret (results_list (rs := [.tmp 4, .cell 5 44, .tmp 6]) rfl (by simp) (.tmp (.cell gb494 44 #[.int .i64 a0_0, .int .i64 a0_1, .int .i64 a0_2, .int .i64 a0_3, .int .i64 a0_4, .int .i64 a0_5, .slice (some ad505) l0_6.length c0_6, .slice A0_7 l0_7.length c0_7] (0, 0) _ rfl (by (with_reducible repeat (first | refine blk_drewN ?_ _ | refine blk_drew ?_ | refine blk_alloc ?_ _)); refine blk_put (cs := #[.int .i64 a0_0, .int .i64 a0_1, .int .i64 a0_2, .int .i64 a0_3, .int .i64 a0_4, .int .i64 a0_5, .slice (some ad505) l0_6.length c0_6, .slice none 0 0]) ?_ 7 _ rfl; (with_reducible repeat (first | refine blk_drewN ?_ _ | refine blk_drew ?_ | refine blk_alloc ?_ _)); refine blk_put (cs := #[.int .i64 a0_0, .int .i64 a0_1, .int .i64 a0_2, .int .i64 a0_3, .int .i64 a0_4, .int .i64 a0_5, .slice none 0 0, .slice none 0 0]) ?_ 6 _ rfl; (with_reducible repeat (first | refine blk_drewN ?_ _ | refine blk_drew ?_ | refine blk_alloc ?_ _)); refine blk_put (cs := #[.int .i64 a0_0, .int .i64 a0_1, .int .i64 a0_2, .int .i64 a0_3, .int .i64 a0_4, .int .i64 x495005_1, .slice none 0 0, .slice none 0 0]) ?_ 5 _ rfl; (with_reducible repeat (first | refine blk_drewN ?_ _ | refine blk_drew ?_ | refine blk_alloc ?_ _)); refine blk_put (cs := #[.int .i64 a0_0, .int .i64 a0_1, .int .i64 a0_2, .int .i64 a0_3, .int .i64 x495004_1, .int .i64 x495005_1, .slice none 0 0, .slice none 0 0]) ?_ 4 _ rfl; (with_reducible repeat (first | refine blk_drewN ?_ _ | refine blk_drew ?_ | refine blk_alloc ?_ _)); refine blk_put (cs := #[.int .i64 a0_0, .int .i64 a0_1, .int .i64 a0_2, .int .i64 x495003_1, .int .i64 x495004_1, .int .i64 x495005_1, .slice none 0 0, .slice none 0 0]) ?_ 3 _ rfl; (with_reducible repeat (first | refine blk_drewN ?_ _ | refine blk_drew ?_ | refine blk_alloc ?_ _)); refine blk_put (cs := #[.int .i64 a0_0, .int .i64 a0_1, .int .i64 x495002_1, .int .i64 x495003_1, .int .i64 x495004_1, .int .i64 x495005_1, .slice none 0 0, .slice none 0 0]) ?_ 2 _ rfl; (with_reducible repeat (first | refine blk_drewN ?_ _ | refine blk_drew ?_ | refine blk_alloc ?_ _)); refine blk_put (cs := #[.int .i64 a0_0, .int .i64 x495001_1, .int .i64 x495002_1, .int .i64 x495003_1, .int .i64 x495004_1, .int .i64 x495005_1, .slice none 0 0, .slice none 0 0]) ?_ 1 _ rfl; (with_reducible repeat (first | refine blk_drewN ?_ _ | refine blk_drew ?_ | refine blk_alloc ?_ _)); refine blk_put (cs := #[.int .i64 x495000_1, .int .i64 x495001_1, .int .i64 x495002_1, .int .i64 x495003_1, .int .i64 x495004_1, .int .i64 x495005_1, .slice none 0 0, .slice none 0 0]) ?_ 0 _ rfl; (with_reducible repeat (first | refine blk_drewN ?_ _ | refine blk_drew ?_ | refine blk_alloc ?_ _)); exact BK494.out) Tryd.underlying44 rfl (by kernel_rfl) (.tmp .nil)))) rfl ?_
       exact ⟨_, _, _, by first | rfl | (simp [errW_none, errW_some] <;> rfl) | (simp [*, errW_none, errW_some] <;> rfl), by first | exact Kd.R_nil _ _ _ _ _ | exact Kd.N_nil _ _ _ _ _ | exact Kd.V_nil _ _ _ _ _ | exact Kd.Q_nil _ _ _ _ _ | exact Kd.S_nil _ _ _ _ _, by (with_reducible repeat (first | apply Kd.V_alloc | apply Kd.V_drewN | apply Kd.V_drew)); exact Kd.V_mono (Kd.V_far (p := ⟨gb494, 7, none⟩) (Kd.V_far (p := ⟨gb494, 6, none⟩) (Kd.V_far (p := ⟨gb494, 5, none⟩) (Kd.V_far (p := ⟨gb494, 4, none⟩) (Kd.V_far (p := ⟨gb494, 3, none⟩) (Kd.V_far (p := ⟨gb494, 2, none⟩) (Kd.V_far (p := ⟨gb494, 1, none⟩) (Kd.V_far (p := ⟨gb494, 0, none⟩) (Kd.V_mono HO_494006.out (fun k_ hk => (⟨hk, hk.2.2.2.1⟩ : _ ∧ k_ ≠ gb494))) (fun _ hk => hk.2) (.int .i64 a0_0)) (fun _ hk => hk.2) (.int .i64 a0_1)) (fun _ hk => hk.2) (.int .i64 a0_2)) (fun _ hk => hk.2) (.int .i64 a0_3)) (fun _ hk => hk.2) (.int .i64 a0_4)) (fun _ hk => hk.2) (.int .i64 a0_5)) (fun _ hk => hk.2) (.slice (some ad505) l0_6.length c0_6)) (fun _ hk => hk.2) (.slice A0_7 l0_7.length c0_7)) (fun _ hk => ⟨hk.1.1, (by simp [Value.ownBlock])⟩), by (with_reducible repeat (first | apply Kd.V_alloc | apply Kd.V_drewN | apply Kd.V_drew)); exact Kd.V_mono (Kd.V_far (p := ⟨gb494, 7, none⟩) (Kd.V_far (p := ⟨gb494, 6, none⟩) (Kd.V_far (p := ⟨gb494, 5, none⟩) (Kd.V_far (p := ⟨gb494, 4, none⟩) (Kd.V_far (p := ⟨gb494, 3, none⟩) (Kd.V_far (p := ⟨gb494, 2, none⟩) (Kd.V_far (p := ⟨gb494, 1, none⟩) (Kd.V_far (p := ⟨gb494, 0, none⟩) (Kd.V_mono HO_494007.out (fun k_ hk => (⟨hk, hk.2.2.2.1⟩ : _ ∧ k_ ≠ gb494))) (fun _ hk => hk.2) (.int .i64 a0_0)) (fun _ hk => hk.2) (.int .i64 a0_1)) (fun _ hk => hk.2) (.int .i64 a0_2)) (fun _ hk => hk.2) (.int .i64 a0_3)) (fun _ hk => hk.2) (.int .i64 a0_4)) (fun _ hk => hk.2) (.int .i64 a0_5)) (fun _ hk => hk.2) (.slice (some ad505) l0_6.length c0_6)) (fun _ hk => hk.2) (.slice A0_7 l0_7.length c0_7)) (fun _ hk => ⟨hk.1.1, (by simp [Value.ownBlock])⟩), by repeat (first | (with_reducible first | exact HB.out | apply below_alloc | apply pw_below_drewN | apply below_drew1 | refine below_set ?_ GE493.out | refine below_set ?_ GE494.out | refine below_set ?_ GE495.out) | exact HB.out)⟩
     ·
      rw [if_neg c22] at H
      exact absurd H (by simp)
    ·
     rw [if_neg c21] at H
     have c21b0 : decide (x10_1 < (l0_6.length : Int)) = false := decide_eq_false c21
     clear c21
     replace H := Option.bind_eq_some_iff.mp H
     obtain ⟨t510, A480, H⟩ := H
     replace H : (if t510 = true then (if x9_1.length < 17592186044416 then (remontoirlaw04_went.l0 k1 l1 (wrap64 (x8_1 + t504)) (x9_1 ++ [wrap64 (x8_1 + t504)]) (wrap64 (x10_1 + 1)) a0_0 a0_1 a0_2 a0_3 a0_4 a0_5 l0_6 l0_7 a0_0 a0_1 a0_2 a0_3 a0_4 a0_5 l0_6) else (none)) else (some (([] : List Int), a0_0, a0_1, a0_2, a0_3, a0_4, a0_5, l0_6, l0_7, false))) = some (r1, r2, r3, r4, r5, r6, r7, r8, r9, r10) := H
     have A48 := Aside0.mk A480
     clear A480
     by_cases c49 : t510 = true
     ·
      subst c49
      have H1 : (if x9_1.length < 17592186044416 then (remontoirlaw04_went.l0 k1 l1 (wrap64 (x8_1 + t504)) (x9_1 ++ [wrap64 (x8_1 + t504)]) (wrap64 (x10_1 + 1)) a0_0 a0_1 a0_2 a0_3 a0_4 a0_5 l0_6 l0_7 a0_0 a0_1 a0_2 a0_3 a0_4 a0_5 l0_6) else (none)) = some (r1, r2, r3, r4, r5, r6, r7, r8, r9, r10) := by rw [if_pos rfl] at H; exact H
      clear H
      have H := H1
      clear H1
      by_cases c50 : x9_1.length < 17592186044416
      ·
       rw [if_pos c50] at H
       have LMc50 := Aside0.mk c50
       clear c50
       obtain ⟨y511, hy511⟩ : ∃ y_ : List Int, y_ = (x9_1 ++ [wrap64 (x8_1 + t504)]) := ⟨_, rfl⟩
       replace H : (remontoirlaw04_went.l0 k1 l1 (wrap64 (x8_1 + t504)) y511 (wrap64 (x10_1 + 1)) a0_0 a0_1 a0_2 a0_3 a0_4 a0_5 l0_6 l0_7 a0_0 a0_1 a0_2 a0_3 a0_4 a0_5 l0_6) = some (r1, r2, r3, r4, r5, r6, r7, r8, r9, r10) := by first | (rw [hy511]; with_reducible exact H) | (have H2_ := (Option.bind_some _ _).symm.trans H; rw [hy511]; with_reducible exact H2_) | (have H2_ := (Option.bind_some _ _).symm.trans H; with_reducible exact H2_) | with_reducible exact H | (rw [hy511]; exact H) | exact H
       have Ny511 := Aside0.mk hy511
       clear hy511
       have H' := Aside0.mk H
       clear H
       have hnb51 := NB493_494.out
       have hnc51 := NB494_493.out
       have hnb52 := NB493_495.out
       have hnc52 := NB495_493.out
       have hcz53_0 : wr.cell? ⟨gb493, 0, none⟩ = some (.int .i64 a0_0) := bc BK493 0
       have hcz53_1 : wr.cell? ⟨gb493, 1, none⟩ = some (.int .i64 a0_1) := bc BK493 1
       have hcz53_2 : wr.cell? ⟨gb493, 2, none⟩ = some (.int .i64 a0_2) := bc BK493 2
       have hcz53_3 : wr.cell? ⟨gb493, 3, none⟩ = some (.int .i64 a0_3) := bc BK493 3
       have hcz53_4 : wr.cell? ⟨gb493, 4, none⟩ = some (.int .i64 a0_4) := bc BK493 4
       have hcz53_5 : wr.cell? ⟨gb493, 5, none⟩ = some (.int .i64 a0_5) := bc BK493 5
       have hcz53_6 : wr.cell? ⟨gb493, 6, none⟩ = some (.slice A0_6 l0_6.length c0_6) := bc BK493 6
       have hcz53_7 : wr.cell? ⟨gb493, 7, none⟩ = some (.slice A0_7 l0_7.length c0_7) := bc BK493 7
       have hfz53_0 := blk_frozen BK493.out 0
       have hfz53_1 := blk_frozen BK493.out 1
       have hfz53_2 := blk_frozen BK493.out 2
       have hfz53_3 := blk_frozen BK493.out 3
       have hfz53_4 := blk_frozen BK493.out 4
       have hfz53_5 := blk_frozen BK493.out 5
       have hfz53_6 := blk_frozen BK493.out 6
       have hfz53_7 := blk_frozen BK493.out 7
       try go_wp2
       replace HO_9 := Aside0.mk (Kd.R_drew HO_9.out)
       replace HO_494006 := Aside0.mk (Kd.V_drew HO_494006.out)
       replace HO_494007 := Aside0.mk (Kd.V_drew HO_494007.out)
       replace HO_496006 := Aside0.mk (Kd.V_drew HO_496006.out)
       replace BK493 := Aside0.mk (blk_drew BK493.out)
       replace BK494 := Aside0.mk (blk_drew BK494.out)
       replace BK495 := Aside0.mk (blk_drew BK495.out)
       replace HB := Aside0.mk (below_drew1 HB.out)
       refine start_ (n := 11) (S := fun w' => w'.cell? ⟨gb493, 0, none⟩ = some (.int .i64 a0_0) ∧ w'.cell? ⟨gb493, 1, none⟩ = some (.int .i64 a0_1) ∧ w'.cell? ⟨gb493, 2, none⟩ = some (.int .i64 a0_2) ∧ w'.cell? ⟨gb493, 3, none⟩ = some (.int .i64 a0_3) ∧ w'.cell? ⟨gb493, 4, none⟩ = some (.int .i64 a0_4) ∧ w'.cell? ⟨gb493, 5, none⟩ = some (.int .i64 a0_5) ∧ w'.cell? ⟨gb493, 6, none⟩ = some (.slice A0_6 l0_6.length c0_6) ∧ w'.cell? ⟨gb493, 7, none⟩ = some (.slice A0_7 l0_7.length c0_7)) (ds := []) #[false, false, false, false, false, false, false, false, false, false, false] (by kernel_rfl) rfl rfl ⟨bc BK493 0, bc BK493 1, bc BK493 2, bc BK493 3, bc BK493 4, bc BK493 5, bc BK493 6, bc BK493 7⟩ (fun hHeld => ?_); refine with_tabW remontoirlaw04_went.tab8 remontoirlaw04_went.bits8 (fun HT_ HW_ => ?_)
       generalize wr.drew = w54 at HO_9 HO_494006 HO_494007 HO_496006 BK493 BK494 BK495 HB hHeld ⊢
       refine pureA 0 29 ?_
       refine pureA 1 30 ?_
       refine pureA 2 31 ?_
       refine pureA 4 33 ?_
       refine pureA 5 34 ?_
       refine pureA 6 35 ?_
       refine takeA 3 32 rfl rfl (by rintro w' ⟨s0, s1, s2, s3, s4, s5, s6, s7⟩; go_simp; with_reducible rfl) ?_
       refine oneA 7 (some 36) (fun K hK => ?_)
       refine goes_ Tryd.func40 (by kernel_rfl) rfl #[.slice A1 l1.length c1, .int .i64 (wrap64 (x10_1 + 2))] (by rfl) rfl rfl (by (try simp only [List.map_toArray, List.map_cons, List.map_nil]); first | done | rfl | (simp only [List.length_drop, List.length_take]; rfl)) ?_
       with_reducible refine (remontoirref00_At.calls _ _ l1 (wrap64 (x10_1 + 2)) t503 _ ?side1 ?side2 A19.out).mono ?_
       (case side1 => repeat (first | exact (Kd.C_below HR1.out HB.out) | (with_reducible refine Kd.C_alloc ?_ _) | (with_reducible refine Kd.C_drewN ?_ _) | (with_reducible refine Kd.C_drew ?_)))
       (case side2 => exact HC1.out)
       rintro e w' ⟨rfl, ⟨nd, rfl⟩⟩
       refine ⟨_, rfl, ?_⟩
       refine hK.out _ _ ⟨bc BK493 0, bc BK493 1, bc BK493 2, bc BK493 3, bc BK493 4, bc BK493 5, bc BK493 6, bc BK493 7⟩ (fun hHeld => ?_)
       clear hK K
       refine normA 36 ?_
       refine oneA 8 (some 37) (fun K hK => ?_)
       refine goes_ Tryd.func47 (by kernel_rfl) rfl #[.agg #[.int .i64 a0_3, .int .i64 a0_4], .int .i64 t503] (by rfl) rfl rfl (by (try simp only [List.map_toArray, List.map_cons, List.map_nil]); first | done | rfl | (simp only [List.length_drop, List.length_take]; rfl)) ?_
       with_reducible refine (remontoirref00_From.calls a0_3 a0_4 t503 t504 _ A20.out).mono ?_
       rintro e w55 ⟨rfl, hb⟩
       refine ⟨_, rfl, ?_⟩
       replace HO_9 := Aside0.mk (Kd.R_below (rk HO_9) hb)
       replace HO_494006 := Aside0.mk (Kd.V_below (by (with_reducible repeat (first | apply Kd.V_alloc | apply Kd.V_drewN | apply Kd.V_drew)); exact HO_494006.out) hb)
       replace HO_494007 := Aside0.mk (Kd.V_below (by (with_reducible repeat (first | apply Kd.V_alloc | apply Kd.V_drewN | apply Kd.V_drew)); exact HO_494007.out) hb)
       replace HO_496006 := Aside0.mk (Kd.V_below (by (with_reducible repeat (first | apply Kd.V_alloc | apply Kd.V_drewN | apply Kd.V_drew)); exact HO_496006.out) hb)
       replace BK493 := Aside0.mk (blk_below (bk BK493) hb)
       replace BK494 := Aside0.mk (blk_below (bk BK494) hb)
       replace BK495 := Aside0.mk (blk_below (bk BK495) hb)
       replace HB := Aside0.mk (below_step (bl HB) hb)
       (try clear hb)
       (try clear hb2)
       (try clear hk)
       (try clear hi)
       refine hK.out _ _ ⟨bc BK493 0, bc BK493 1, bc BK493 2, bc BK493 3, bc BK493 4, bc BK493 5, bc BK493 6, bc BK493 7⟩ (fun hHeld => ?_)
       clear hK K
       refine normA 37 ?_
       refine pureA 9 38 ?_
       refine pureA 10 8 ?_
       refine done_ (done_of HT_.out (by kernel_rfl)) ?_
       have hcz56_0 : w55.cell? ⟨gb493, 0, none⟩ = some (.int .i64 a0_0) := bc BK493 0
       have hcz56_1 : w55.cell? ⟨gb493, 1, none⟩ = some (.int .i64 a0_1) := bc BK493 1
       have hcz56_2 : w55.cell? ⟨gb493, 2, none⟩ = some (.int .i64 a0_2) := bc BK493 2
       have hcz56_3 : w55.cell? ⟨gb493, 3, none⟩ = some (.int .i64 a0_3) := bc BK493 3
       have hcz56_4 : w55.cell? ⟨gb493, 4, none⟩ = some (.int .i64 a0_4) := bc BK493 4
       have hcz56_5 : w55.cell? ⟨gb493, 5, none⟩ = some (.int .i64 a0_5) := bc BK493 5
       have hcz56_6 : w55.cell? ⟨gb493, 6, none⟩ = some (.slice A0_6 l0_6.length c0_6) := bc BK493 6
       have hcz56_7 : w55.cell? ⟨gb493, 7, none⟩ = some (.slice A0_7 l0_7.length c0_7) := bc BK493 7
       have hfz56_0 := blk_frozen BK493.out 0
       have hfz56_1 := blk_frozen BK493.out 1
       have hfz56_2 := blk_frozen BK493.out 2
       have hfz56_3 := blk_frozen BK493.out 3
       have hfz56_4 := blk_frozen BK493.out 4
       have hfz56_5 := blk_frozen BK493.out 5
       have hfz56_6 := blk_frozen BK493.out 6
       have hfz56_7 := blk_frozen BK493.out 7
       try go_wp2_with (first | ((with_reducible refine gate_callee (f := 42) rfl ?_); refine goesL_ (some 52) rfl rfl Tryd.func42 (by kernel_rfl) rfl #[.int .i64 (wrap64 (x8_1 + t504)), .int .i64 (-20000), .int .i64 20000] rfl (by (try simp only [List.map_toArray, List.map_cons, List.map_nil]); first | done | rfl | (simp only [List.length_drop, List.length_take]; rfl)) ?_; (with_reducible refine (remontoirref00_Lies.calls (wrap64 (x8_1 + t504)) (-20000) 20000 true _ A48.out).mono ?_); rintro e w' ⟨rfl, ⟨nd, rfl⟩⟩; refine ⟨_, rfl, ?_⟩) | ((with_reducible refine gate_builtin (b := .append) (xs := #[.tmp 55, .tmp 57]) rfl ?_); at_builtin; refine Kd.R_append (Kd.int .i64) (w0 := w) w.heap.size rfl (.tmp 55) (.tmp 57) 26 3 (.int .i64 0) 8 rfl Tryd.underlying26 info3 rfl (by decide) (by omega) u9 x9_1 (wrap64 (x8_1 + t504)) [.int .i64 (wrap64 (x8_1 + t504))] (fun k_ => (w.heap.size ≤ k_)) (fun _ => False) rfl rfl ?aP (fun _ hk => hk.elim) ?aF ?aO ?aB ?aS ?aL ?_; (case aP => exact rfl); (case aB => exact (bl HB)); (case aF => exact (fun k_ hk => (Nat.le_trans (below_size (bl HB)) hk))); (case aO => exact (rk HO_9)); (case aS => exact (below_size (bl HB))); (case aL => have := LMc50.out; omega); intro v512 w57 ho hb hg hat; rw [← Ny511.out] at ho; have n0_ := Aside0.mk (Kd.V_afterv (ok := (fun k_ => ((P0_6_ k_ ∨ P0_7_ k_) ∨ w.heap.size ≤ k_) ∧ k_ ≠ gb493 ∧ k_ ≠ gb494 ∧ k_ ≠ gb495)) (by (with_reducible repeat (first | apply Kd.V_alloc | apply Kd.V_drewN | apply Kd.V_drew)); exact Kd.V_mono HO_494006.out (fun _ hk => ⟨⟨hk.1, ⟨hk.2.2.1, ⟨hk.2.2.2.1, hk.2.2.2.2⟩⟩⟩, hk.2.1⟩)) hg hat); have n1_ := Aside0.mk (Kd.V_afterv (ok := (fun k_ => ((P0_6_ k_ ∨ P0_7_ k_) ∨ w.heap.size ≤ k_) ∧ k_ ≠ gb493 ∧ k_ ≠ gb494 ∧ k_ ≠ gb495)) (by (with_reducible repeat (first | apply Kd.V_alloc | apply Kd.V_drewN | apply Kd.V_drew)); exact Kd.V_mono HO_494007.out (fun _ hk => ⟨⟨hk.1, ⟨hk.2.2.1, ⟨hk.2.2.2.1, hk.2.2.2.2⟩⟩⟩, hk.2.1⟩)) hg hat); have n2_ := Aside0.mk (Kd.V_afterv (ok := (fun k_ => ((P0_6_ k_ ∨ P0_7_ k_) ∨ w.heap.size ≤ k_) ∧ k_ ≠ gb493 ∧ k_ ≠ gb494 ∧ k_ ≠ gb495)) (by (with_reducible repeat (first | apply Kd.V_alloc | apply Kd.V_drewN | apply Kd.V_drew)); exact Kd.V_mono HO_496006.out (fun _ hk => ⟨⟨hk.1, ⟨hk.2.2.1, ⟨hk.2.2.2.1, hk.2.2.2.2⟩⟩⟩, hk.2.1⟩)) hg hat); have n3_ := Aside0.mk (blk_grown (bk BK493) hg (Kd.R_ne HO_9.out BK493.out (by decide))); have n4_ := Aside0.mk (blk_grown (bk BK494) hg (Kd.R_ne HO_9.out BK494.out (by decide))); have n5_ := Aside0.mk (blk_grown (bk BK495) hg (Kd.R_ne HO_9.out BK495.out (by decide))); have n6_ := Aside0.mk (hb); have n7_ := Aside0.mk (ho); clear HO_494006; clear HO_494007; clear HO_496006; clear BK493; clear BK494; clear BK495; clear HB; clear HO_9; have HO_494006 := n0_; have HO_494007 := n1_; have HO_496006 := n2_; have BK493 := n3_; have BK494 := n4_; have BK495 := n5_; have HB := n6_; have HO513 := n7_; clear n0_ n1_ n2_ n3_ n4_ n5_ n6_ n7_; clear ho hb hg hat))
       go_roundg k1
       case measure => have := HK1.out; omega
       case rel => exact ⟨(wrap64 (x8_1 + t504)), (y511), (wrap64 (x10_1 + 1)), (x495000_1), (x495001_1), (x495002_1), (x495003_1), (x495004_1), (x495005_1), (by first | rfl | (simp; done) | (simp [*]; done)), (by first | rfl | (simp; done) | (simp [*]; done)), H', ⟨by have := HK1.out; omega⟩, ⟨by (with_reducible repeat (first | apply Kd.R_alloc | apply Kd.R_drewN | apply Kd.R_drew)); exact HO513.out⟩, ⟨by (with_reducible repeat (first | apply Kd.V_alloc | apply Kd.V_drewN | apply Kd.V_drew)); exact Kd.V_mono HO_494006.out (fun _ hk => ⟨hk.1.1, ⟨hk.2, ⟨hk.1.2.1, ⟨hk.1.2.2.1, hk.1.2.2.2⟩⟩⟩⟩)⟩, ⟨by (with_reducible repeat (first | apply Kd.V_alloc | apply Kd.V_drewN | apply Kd.V_drew)); exact Kd.V_mono HO_494007.out (fun _ hk => ⟨hk.1.1, ⟨hk.2, ⟨hk.1.2.1, ⟨hk.1.2.2.1, hk.1.2.2.2⟩⟩⟩⟩)⟩, ⟨by (with_reducible repeat (first | apply Kd.V_alloc | apply Kd.V_drewN | apply Kd.V_drew)); exact Kd.V_mono HO_496006.out (fun _ hk => ⟨hk.1.1, ⟨hk.2, ⟨hk.1.2.1, ⟨hk.1.2.2.1, hk.1.2.2.2⟩⟩⟩⟩)⟩, ⟨bk BK493⟩, ⟨bk BK494⟩, ⟨bk BK495⟩, ⟨bl HB⟩⟩
      ·
       rw [if_neg c50] at H
       exact absurd H (by simp)
     ·
      replace c49 := Bool.eq_false_iff.mpr c49
      subst c49
      have H1 : (some (([] : List Int), a0_0, a0_1, a0_2, a0_3, a0_4, a0_5, l0_6, l0_7, false)) = some (r1, r2, r3, r4, r5, r6, r7, r8, r9, r10) := by rw [if_neg (show ¬ (false = true) by decide)] at H; exact H
      clear H
      have H := H1
      clear H1
      simp only [Option.some.injEq, Prod.mk.injEq] at H
      obtain ⟨rfl, rfl, rfl, rfl, rfl, rfl, rfl, rfl, rfl, rfl⟩ := H
      have hnb58 := NB493_494.out
      have hnc58 := NB494_493.out
      have hnb59 := NB493_495.out
      have hnc59 := NB495_493.out
      have hcz60_0 : wr.cell? ⟨gb493, 0, none⟩ = some (.int .i64 a0_0) := bc BK493 0
      have hcz60_1 : wr.cell? ⟨gb493, 1, none⟩ = some (.int .i64 a0_1) := bc BK493 1
      have hcz60_2 : wr.cell? ⟨gb493, 2, none⟩ = some (.int .i64 a0_2) := bc BK493 2
      have hcz60_3 : wr.cell? ⟨gb493, 3, none⟩ = some (.int .i64 a0_3) := bc BK493 3
      have hcz60_4 : wr.cell? ⟨gb493, 4, none⟩ = some (.int .i64 a0_4) := bc BK493 4
      have hcz60_5 : wr.cell? ⟨gb493, 5, none⟩ = some (.int .i64 a0_5) := bc BK493 5
      have hcz60_6 : wr.cell? ⟨gb493, 6, none⟩ = some (.slice A0_6 l0_6.length c0_6) := bc BK493 6
      have hcz60_7 : wr.cell? ⟨gb493, 7, none⟩ = some (.slice A0_7 l0_7.length c0_7) := bc BK493 7
      have hfz60_0 := blk_frozen BK493.out 0
      have hfz60_1 := blk_frozen BK493.out 1
      have hfz60_2 := blk_frozen BK493.out 2
      have hfz60_3 := blk_frozen BK493.out 3
      have hfz60_4 := blk_frozen BK493.out 4
      have hfz60_5 := blk_frozen BK493.out 5
      have hfz60_6 := blk_frozen BK493.out 6
      have hfz60_7 := blk_frozen BK493.out 7
      try go_wp2
      replace HO_9 := Aside0.mk (Kd.R_drew HO_9.out)
      replace HO_494006 := Aside0.mk (Kd.V_drew HO_494006.out)
      replace HO_494007 := Aside0.mk (Kd.V_drew HO_494007.out)
      replace HO_496006 := Aside0.mk (Kd.V_drew HO_496006.out)
      replace BK493 := Aside0.mk (blk_drew BK493.out)
      replace BK494 := Aside0.mk (blk_drew BK494.out)
      replace BK495 := Aside0.mk (blk_drew BK495.out)
      replace HB := Aside0.mk (below_drew1 HB.out)
      refine start_ (n := 11) (S := fun w' => w'.cell? ⟨gb493, 0, none⟩ = some (.int .i64 a0_0) ∧ w'.cell? ⟨gb493, 1, none⟩ = some (.int .i64 a0_1) ∧ w'.cell? ⟨gb493, 2, none⟩ = some (.int .i64 a0_2) ∧ w'.cell? ⟨gb493, 3, none⟩ = some (.int .i64 a0_3) ∧ w'.cell? ⟨gb493, 4, none⟩ = some (.int .i64 a0_4) ∧ w'.cell? ⟨gb493, 5, none⟩ = some (.int .i64 a0_5) ∧ w'.cell? ⟨gb493, 6, none⟩ = some (.slice A0_6 l0_6.length c0_6) ∧ w'.cell? ⟨gb493, 7, none⟩ = some (.slice A0_7 l0_7.length c0_7)) (ds := []) #[false, false, false, false, false, false, false, false, false, false, false] (by kernel_rfl) rfl rfl ⟨bc BK493 0, bc BK493 1, bc BK493 2, bc BK493 3, bc BK493 4, bc BK493 5, bc BK493 6, bc BK493 7⟩ (fun hHeld => ?_); refine with_tabW remontoirlaw04_went.tab8 remontoirlaw04_went.bits8 (fun HT_ HW_ => ?_)
      generalize wr.drew = w61 at HO_9 HO_494006 HO_494007 HO_496006 BK493 BK494 BK495 HB hHeld ⊢
      refine pureA 0 29 ?_
      refine pureA 1 30 ?_
      refine pureA 2 31 ?_
      refine pureA 4 33 ?_
      refine pureA 5 34 ?_
      refine pureA 6 35 ?_
      refine takeA 3 32 rfl rfl (by rintro w' ⟨s0, s1, s2, s3, s4, s5, s6, s7⟩; go_simp; with_reducible rfl) ?_
      refine oneA 7 (some 36) (fun K hK => ?_)
      refine goes_ Tryd.func40 (by kernel_rfl) rfl #[.slice A1 l1.length c1, .int .i64 (wrap64 (x10_1 + 2))] (by rfl) rfl rfl (by (try simp only [List.map_toArray, List.map_cons, List.map_nil]); first | done | rfl | (simp only [List.length_drop, List.length_take]; rfl)) ?_
      with_reducible refine (remontoirref00_At.calls _ _ l1 (wrap64 (x10_1 + 2)) t503 _ ?side1 ?side2 A19.out).mono ?_
      (case side1 => repeat (first | exact (Kd.C_below HR1.out HB.out) | (with_reducible refine Kd.C_alloc ?_ _) | (with_reducible refine Kd.C_drewN ?_ _) | (with_reducible refine Kd.C_drew ?_)))
      (case side2 => exact HC1.out)
      rintro e w' ⟨rfl, ⟨nd, rfl⟩⟩
      refine ⟨_, rfl, ?_⟩
      refine hK.out _ _ ⟨bc BK493 0, bc BK493 1, bc BK493 2, bc BK493 3, bc BK493 4, bc BK493 5, bc BK493 6, bc BK493 7⟩ (fun hHeld => ?_)
      clear hK K
      refine normA 36 ?_
      refine oneA 8 (some 37) (fun K hK => ?_)
      refine goes_ Tryd.func47 (by kernel_rfl) rfl #[.agg #[.int .i64 a0_3, .int .i64 a0_4], .int .i64 t503] (by rfl) rfl rfl (by (try simp only [List.map_toArray, List.map_cons, List.map_nil]); first | done | rfl | (simp only [List.length_drop, List.length_take]; rfl)) ?_
      with_reducible refine (remontoirref00_From.calls a0_3 a0_4 t503 t504 _ A20.out).mono ?_
      rintro e w62 ⟨rfl, hb⟩
      refine ⟨_, rfl, ?_⟩
      replace HO_9 := Aside0.mk (Kd.R_below (rk HO_9) hb)
      replace HO_494006 := Aside0.mk (Kd.V_below (by (with_reducible repeat (first | apply Kd.V_alloc | apply Kd.V_drewN | apply Kd.V_drew)); exact HO_494006.out) hb)
      replace HO_494007 := Aside0.mk (Kd.V_below (by (with_reducible repeat (first | apply Kd.V_alloc | apply Kd.V_drewN | apply Kd.V_drew)); exact HO_494007.out) hb)
      replace HO_496006 := Aside0.mk (Kd.V_below (by (with_reducible repeat (first | apply Kd.V_alloc | apply Kd.V_drewN | apply Kd.V_drew)); exact HO_496006.out) hb)
      replace BK493 := Aside0.mk (blk_below (bk BK493) hb)
      replace BK494 := Aside0.mk (blk_below (bk BK494) hb)
      replace BK495 := Aside0.mk (blk_below (bk BK495) hb)
      replace HB := Aside0.mk (below_step (bl HB) hb)
      (try clear hb)
      (try clear hb2)
      (try clear hk)
      (try clear hi)
      refine hK.out _ _ ⟨bc BK493 0, bc BK493 1, bc BK493 2, bc BK493 3, bc BK493 4, bc BK493 5, bc BK493 6, bc BK493 7⟩ (fun hHeld => ?_)
      clear hK K
      refine normA 37 ?_
      refine pureA 9 38 ?_
      refine pureA 10 8 ?_
      refine done_ (done_of HT_.out (by kernel_rfl)) ?_
      have hcz63_0 : w62.cell? ⟨gb493, 0, none⟩ = some (.int .i64 a0_0) := bc BK493 0
      have hcz63_1 : w62.cell? ⟨gb493, 1, none⟩ = some (.int .i64 a0_1) := bc BK493 1
      have hcz63_2 : w62.cell? ⟨gb493, 2, none⟩ = some (.int .i64 a0_2) := bc BK493 2
      have hcz63_3 : w62.cell? ⟨gb493, 3, none⟩ = some (.int .i64 a0_3) := bc BK493 3
      have hcz63_4 : w62.cell? ⟨gb493, 4, none⟩ = some (.int .i64 a0_4) := bc BK493 4
      have hcz63_5 : w62.cell? ⟨gb493, 5, none⟩ = some (.int .i64 a0_5) := bc BK493 5
      have hcz63_6 : w62.cell? ⟨gb493, 6, none⟩ = some (.slice A0_6 l0_6.length c0_6) := bc BK493 6
      have hcz63_7 : w62.cell? ⟨gb493, 7, none⟩ = some (.slice A0_7 l0_7.length c0_7) := bc BK493 7
      have hfz63_0 := blk_frozen BK493.out 0
      have hfz63_1 := blk_frozen BK493.out 1
      have hfz63_2 := blk_frozen BK493.out 2
      have hfz63_3 := blk_frozen BK493.out 3
      have hfz63_4 := blk_frozen BK493.out 4
      have hfz63_5 := blk_frozen BK493.out 5
      have hfz63_6 := blk_frozen BK493.out 6
      have hfz63_7 := blk_frozen BK493.out 7
      try go_wp2_with (first | ((with_reducible refine gate_callee (f := 42) rfl ?_); refine goesL_ (some 52) rfl rfl Tryd.func42 (by kernel_rfl) rfl #[.int .i64 (wrap64 (x8_1 + t504)), .int .i64 (-20000), .int .i64 20000] rfl (by (try simp only [List.map_toArray, List.map_cons, List.map_nil]); first | done | rfl | (simp only [List.length_drop, List.length_take]; rfl)) ?_; (with_reducible refine (remontoirref00_Lies.calls (wrap64 (x8_1 + t504)) (-20000) 20000 false _ A48.out).mono ?_); rintro e w' ⟨rfl, ⟨nd, rfl⟩⟩; refine ⟨_, rfl, ?_⟩; (try (rw [drewN_self w62]; generalize hq_ : World.drewN w62 _ = w62; have n0_ : Aside0 (Kd.V (Kd.int .i64) 3 w62 w.heap.size (fun k_ => ((P0_6_ k_ ∨ P0_7_ k_) ∨ w.heap.size ≤ k_) ∧ some k_ ≠ (u9 : Value).ownBlock ∧ k_ ≠ gb493 ∧ k_ ≠ gb494 ∧ k_ ≠ gb495) (.slice A0_6 l0_6.length c0_6) l0_6) := ⟨by rw [← hq_]; exact (by (with_reducible repeat (first | apply Kd.V_alloc | apply Kd.V_drewN | apply Kd.V_drew)); exact HO_494006.out)⟩; have n1_ : Aside0 (Kd.V k71 71 w62 w.heap.size (fun k_ => ((P0_6_ k_ ∨ P0_7_ k_) ∨ w.heap.size ≤ k_) ∧ some k_ ≠ (u9 : Value).ownBlock ∧ k_ ≠ gb493 ∧ k_ ≠ gb494 ∧ k_ ≠ gb495) (.slice A0_7 l0_7.length c0_7) l0_7) := ⟨by rw [← hq_]; exact (by (with_reducible repeat (first | apply Kd.V_alloc | apply Kd.V_drewN | apply Kd.V_drew)); exact HO_494007.out)⟩; have n2_ : Aside0 (Kd.V (Kd.int .i64) 3 w62 w.heap.size (fun k_ => ((P0_6_ k_ ∨ P0_7_ k_) ∨ w.heap.size ≤ k_) ∧ some k_ ≠ (u9 : Value).ownBlock ∧ k_ ≠ gb493 ∧ k_ ≠ gb494 ∧ k_ ≠ gb495) (.slice A0_6 l0_6.length c0_6) l0_6) := ⟨by rw [← hq_]; exact (by (with_reducible repeat (first | apply Kd.V_alloc | apply Kd.V_drewN | apply Kd.V_drew)); exact HO_496006.out)⟩; have n3_ : Aside0 (Kd.R (Kd.int .i64) 3 w62 w.heap.size (fun k_ => (w.heap.size ≤ k_)) u9 x9_1) := ⟨by rw [← hq_]; exact (rk HO_9)⟩; have n4_ : Aside0 (w62.heap[gb493]? = some (.cells #[.int .i64 a0_0, .int .i64 a0_1, .int .i64 a0_2, .int .i64 a0_3, .int .i64 a0_4, .int .i64 a0_5, .slice A0_6 l0_6.length c0_6, .slice A0_7 l0_7.length c0_7] 44 (0, 0))) := ⟨by rw [← hq_]; exact (bk BK493)⟩; have n5_ : Aside0 (w62.heap[gb494]? = some (.cells #[.int .i64 x495000_1, .int .i64 x495001_1, .int .i64 x495002_1, .int .i64 x495003_1, .int .i64 x495004_1, .int .i64 x495005_1, .slice none 0 0, .slice none 0 0] 44 (0, 0))) := ⟨by rw [← hq_]; exact (bk BK494)⟩; have n6_ : Aside0 (w62.heap[gb495]? = some (.cells #[.int .i64 a0_0, .int .i64 a0_1, .int .i64 a0_2, .int .i64 a0_3, .int .i64 a0_4, .int .i64 a0_5, .slice A0_6 l0_6.length c0_6, .slice none 0 0] 44 (0, 0))) := ⟨by rw [← hq_]; exact (bk BK495)⟩; have n7_ : Aside0 (Below w.heap.size w w62) := ⟨by rw [← hq_]; exact (bl HB)⟩; clear HO_494006 HO_494007 HO_496006 HO_9 BK493 BK494 BK495 HB hq_; have HO_494006 := n0_; have HO_494007 := n1_; have HO_496006 := n2_; have HO_9 := n3_; have BK493 := n4_; have BK494 := n5_; have BK495 := n6_; have HB := n7_; clear n0_ n1_ n2_ n3_ n4_ n5_ n6_ n7_))))
      replace HO_9 := Aside0.mk (Kd.R_drew HO_9.out)
      replace HO_494006 := Aside0.mk (Kd.V_drew HO_494006.out)
      replace HO_494007 := Aside0.mk (Kd.V_drew HO_494007.out)
      replace HO_496006 := Aside0.mk (Kd.V_drew HO_496006.out)
      replace BK493 := Aside0.mk (blk_drew BK493.out)
      replace BK494 := Aside0.mk (blk_drew BK494.out)
      replace BK495 := Aside0.mk (blk_drew BK495.out)
      replace HB := Aside0.mk (below_drew1 HB.out)
      refine start_ (n := 4) (S := fun w' => w'.cell? ⟨gb493, 0, none⟩ = some (.int .i64 a0_0) ∧ w'.cell? ⟨gb493, 1, none⟩ = some (.int .i64 a0_1) ∧ w'.cell? ⟨gb493, 2, none⟩ = some (.int .i64 a0_2) ∧ w'.cell? ⟨gb493, 3, none⟩ = some (.int .i64 a0_3) ∧ w'.cell? ⟨gb493, 4, none⟩ = some (.int .i64 a0_4) ∧ w'.cell? ⟨gb493, 5, none⟩ = some (.int .i64 a0_5) ∧ w'.cell? ⟨gb493, 6, none⟩ = some (.slice A0_6 l0_6.length c0_6) ∧ w'.cell? ⟨gb493, 7, none⟩ = some (.slice A0_7 l0_7.length c0_7)) (ds := []) #[false, false, false, false] (by kernel_rfl) rfl rfl ⟨bc BK493 0, bc BK493 1, bc BK493 2, bc BK493 3, bc BK493 4, bc BK493 5, bc BK493 6, bc BK493 7⟩ (fun hHeld => ?_)
      generalize w62.drew = w64 at HO_9 HO_494006 HO_494007 HO_496006 BK493 BK494 BK495 HB hHeld ⊢
      refine pure_ (i := 1) (N := some 4) (v := ?_) (a' := ?_) #[false, true, false, false] rfl rfl (by kernel_rfl) (fun _ _ _ h => h) (Or.inl ⟨by rfl, ?_⟩) ?_ ?_
      rotate_left
      ·
       intro w'
       go_simp
       with_reducible rfl
      rotate_left
      ·
       simp only [Act.put, List.setIfInBounds_toArray, List.set_cons_zero, List.set_cons_succ, i64_w, i32_w]
       rfl
      refine take_ (i := 0) (N := some 54) (v := ?_) (a' := ?_) #[true, true, false, false] rfl rfl (by kernel_rfl) (fun _ _ _ h => h) (Or.inl ⟨by rfl, ?_⟩) hHeld ?_ ?_
      rotate_left
      ·
       rintro w' ⟨s0, s1, s2, s3, s4, s5, s6, s7⟩
       go_simp
       with_reducible rfl
      rotate_left
      ·
       simp only [Act.put, List.setIfInBounds_toArray, List.set_cons_zero, List.set_cons_succ, i64_w, i32_w]
       rfl
      refine one_ (i := 2) (N := none) #[true, true, true, false] rfl rfl (by kernel_rfl) (by decide) (fun K hK => ?_)
      have hs65 : w64.cell? ⟨gb494, 0, none⟩ = some (.int .i64 x495000_1) := bc BK494 0
      have hfs65 := blk_frozen BK494.out 0
      have hns65_0 := NB493_494.out
      have hns65_2 := NB495_494.out
      have hms65_0 := NB494_493.out
      have hms65_2 := NB494_495.out
      have hs66 : w64.cell? ⟨gb494, 1, none⟩ = some (.int .i64 x495001_1) := bc BK494 1
      have hfs66 := blk_frozen BK494.out 1
      have hns66_0 := NB493_494.out
      have hns66_2 := NB495_494.out
      have hms66_0 := NB494_493.out
      have hms66_2 := NB494_495.out
      have hs67 : w64.cell? ⟨gb494, 2, none⟩ = some (.int .i64 x495002_1) := bc BK494 2
      have hfs67 := blk_frozen BK494.out 2
      have hns67_0 := NB493_494.out
      have hns67_2 := NB495_494.out
      have hms67_0 := NB494_493.out
      have hms67_2 := NB494_495.out
      have hs68 : w64.cell? ⟨gb494, 3, none⟩ = some (.int .i64 x495003_1) := bc BK494 3
      have hfs68 := blk_frozen BK494.out 3
      have hns68_0 := NB493_494.out
      have hns68_2 := NB495_494.out
      have hms68_0 := NB494_493.out
      have hms68_2 := NB494_495.out
      have hs69 : w64.cell? ⟨gb494, 4, none⟩ = some (.int .i64 x495004_1) := bc BK494 4
      have hfs69 := blk_frozen BK494.out 4
      have hns69_0 := NB493_494.out
      have hns69_2 := NB495_494.out
      have hms69_0 := NB494_493.out
      have hms69_2 := NB494_495.out
      have hs70 : w64.cell? ⟨gb494, 5, none⟩ = some (.int .i64 x495005_1) := bc BK494 5
      have hfs70 := blk_frozen BK494.out 5
      have hns70_0 := NB493_494.out
      have hns70_2 := NB495_494.out
      have hms70_0 := NB494_493.out
      have hms70_2 := NB494_495.out
      have hs71 : w64.cell? ⟨gb494, 6, none⟩ = some (.slice none 0 0) := bc BK494 6
      have hfs71 := blk_frozen BK494.out 6
      have hns71_0 := NB493_494.out
      have hns71_2 := NB495_494.out
      have hms71_0 := NB494_493.out
      have hms71_2 := NB494_495.out
      have hs72 : w64.cell? ⟨gb494, 7, none⟩ = some (.slice none 0 0) := bc BK494 7
      have hfs72 := blk_frozen BK494.out 7
      have hns72_0 := NB493_494.out
      have hns72_2 := NB495_494.out
      have hms72_0 := NB494_493.out
      have hms72_2 := NB494_495.out
      refine skip_ (w1 := ?_) (by rfl) rfl ?_ ?_
      rotate_left
      ·
       go_simp
       rfl
      refine hK.out _ _ ⟨((cell_far (p := ⟨gb494, _, none⟩) NB493_494.out _).trans (((cell_far (p := ⟨gb494, _, none⟩) NB493_494.out _).trans (((cell_far (p := ⟨gb494, _, none⟩) NB493_494.out _).trans (((cell_far (p := ⟨gb494, _, none⟩) NB493_494.out _).trans (((cell_far (p := ⟨gb494, _, none⟩) NB493_494.out _).trans (((cell_far (p := ⟨gb494, _, none⟩) NB493_494.out _).trans (((cell_far (p := ⟨gb494, _, none⟩) NB493_494.out _).trans (((cell_far (p := ⟨gb494, _, none⟩) NB493_494.out _).trans (hHeld.1)))))))))))))))), ((cell_far (p := ⟨gb494, _, none⟩) NB493_494.out _).trans (((cell_far (p := ⟨gb494, _, none⟩) NB493_494.out _).trans (((cell_far (p := ⟨gb494, _, none⟩) NB493_494.out _).trans (((cell_far (p := ⟨gb494, _, none⟩) NB493_494.out _).trans (((cell_far (p := ⟨gb494, _, none⟩) NB493_494.out _).trans (((cell_far (p := ⟨gb494, _, none⟩) NB493_494.out _).trans (((cell_far (p := ⟨gb494, _, none⟩) NB493_494.out _).trans (((cell_far (p := ⟨gb494, _, none⟩) NB493_494.out _).trans (hHeld.2.1)))))))))))))))), ((cell_far (p := ⟨gb494, _, none⟩) NB493_494.out _).trans (((cell_far (p := ⟨gb494, _, none⟩) NB493_494.out _).trans (((cell_far (p := ⟨gb494, _, none⟩) NB493_494.out _).trans (((cell_far (p := ⟨gb494, _, none⟩) NB493_494.out _).trans (((cell_far (p := ⟨gb494, _, none⟩) NB493_494.out _).trans (((cell_far (p := ⟨gb494, _, none⟩) NB493_494.out _).trans (((cell_far (p := ⟨gb494, _, none⟩) NB493_494.out _).trans (((cell_far (p := ⟨gb494, _, none⟩) NB493_494.out _).trans (hHeld.2.2.1)))))))))))))))), ((cell_far (p := ⟨gb494, _, none⟩) NB493_494.out _).trans (((cell_far (p := ⟨gb494, _, none⟩) NB493_494.out _).trans (((cell_far (p := ⟨gb494, _, none⟩) NB493_494.out _).trans (((cell_far (p := ⟨gb494, _, none⟩) NB493_494.out _).trans (((cell_far (p := ⟨gb494, _, none⟩) NB493_494.out _).trans (((cell_far (p := ⟨gb494, _, none⟩) NB493_494.out _).trans (((cell_far (p := ⟨gb494, _, none⟩) NB493_494.out _).trans (((cell_far (p := ⟨gb494, _, none⟩) NB493_494.out _).trans (hHeld.2.2.2.1)))))))))))))))), ((cell_far (p := ⟨gb494, _, none⟩) NB493_494.out _).trans (((cell_far (p := ⟨gb494, _, none⟩) NB493_494.out _).trans (((cell_far (p := ⟨gb494, _, none⟩) NB493_494.out _).trans (((cell_far (p := ⟨gb494, _, none⟩) NB493_494.out _).trans (((cell_far (p := ⟨gb494, _, none⟩) NB493_494.out _).trans (((cell_far (p := ⟨gb494, _, none⟩) NB493_494.out _).trans (((cell_far (p := ⟨gb494, _, none⟩) NB493_494.out _).trans (((cell_far (p := ⟨gb494, _, none⟩) NB493_494.out _).trans (hHeld.2.2.2.2.1)))))))))))))))), ((cell_far (p := ⟨gb494, _, none⟩) NB493_494.out _).trans (((cell_far (p := ⟨gb494, _, none⟩) NB493_494.out _).trans (((cell_far (p := ⟨gb494, _, none⟩) NB493_494.out _).trans (((cell_far (p := ⟨gb494, _, none⟩) NB493_494.out _).trans (((cell_far (p := ⟨gb494, _, none⟩) NB493_494.out _).trans (((cell_far (p := ⟨gb494, _, none⟩) NB493_494.out _).trans (((cell_far (p := ⟨gb494, _, none⟩) NB493_494.out _).trans (((cell_far (p := ⟨gb494, _, none⟩) NB493_494.out _).trans (hHeld.2.2.2.2.2.1)))))))))))))))), ((cell_far (p := ⟨gb494, _, none⟩) NB493_494.out _).trans (((cell_far (p := ⟨gb494, _, none⟩) NB493_494.out _).trans (((cell_far (p := ⟨gb494, _, none⟩) NB493_494.out _).trans (((cell_far (p := ⟨gb494, _, none⟩) NB493_494.out _).trans (((cell_far (p := ⟨gb494, _, none⟩) NB493_494.out _).trans (((cell_far (p := ⟨gb494, _, none⟩) NB493_494.out _).trans (((cell_far (p := ⟨gb494, _, none⟩) NB493_494.out _).trans (((cell_far (p := ⟨gb494, _, none⟩) NB493_494.out _).trans (hHeld.2.2.2.2.2.2.1)))))))))))))))), ((cell_far (p := ⟨gb494, _, none⟩) NB493_494.out _).trans (((cell_far (p := ⟨gb494, _, none⟩) NB493_494.out _).trans (((cell_far (p := ⟨gb494, _, none⟩) NB493_494.out _).trans (((cell_far (p := ⟨gb494, _, none⟩) NB493_494.out _).trans (((cell_far (p := ⟨gb494, _, none⟩) NB493_494.out _).trans (((cell_far (p := ⟨gb494, _, none⟩) NB493_494.out _).trans (((cell_far (p := ⟨gb494, _, none⟩) NB493_494.out _).trans (((cell_far (p := ⟨gb494, _, none⟩) NB493_494.out _).trans (hHeld.2.2.2.2.2.2.2))))))))))))))))⟩ (fun hHeld => ?_)
      clear hK K
      refine pure_ (i := 3) (N := some 6) (v := ?_) (a' := ?_) #[true, true, true, true] rfl rfl (by kernel_rfl) (fun _ _ _ h => h) (Or.inl ⟨by rfl, ?_⟩) ?_ ?_
      rotate_left
      ·
       intro w'
       go_simp
       with_reducible rfl
      rotate_left
      ·
       simp only [Act.put, List.setIfInBounds_toArray, List.set_cons_zero, List.set_cons_succ, i64_w, i32_w]
       rfl
      refine done_ (by kernel_rfl) ?_
      try go_wp2
      refine bodyPost_ret (results_list (rs := [.tmp 4, .cell 5 44, .tmp 6]) rfl (by simp) (.tmp (.cell gb494 44 #[.int .i64 a0_0, .int .i64 a0_1, .int .i64 a0_2, .int .i64 a0_3, .int .i64 a0_4, .int .i64 a0_5, .slice A0_6 l0_6.length c0_6, .slice A0_7 l0_7.length c0_7] (0, 0) _ rfl (by (with_reducible repeat (first | refine blk_drewN ?_ _ | refine blk_drew ?_ | refine blk_alloc ?_ _)); refine blk_put (cs := #[.int .i64 a0_0, .int .i64 a0_1, .int .i64 a0_2, .int .i64 a0_3, .int .i64 a0_4, .int .i64 a0_5, .slice A0_6 l0_6.length c0_6, .slice none 0 0]) ?_ 7 _ rfl; (with_reducible repeat (first | refine blk_drewN ?_ _ | refine blk_drew ?_ | refine blk_alloc ?_ _)); refine blk_put (cs := #[.int .i64 a0_0, .int .i64 a0_1, .int .i64 a0_2, .int .i64 a0_3, .int .i64 a0_4, .int .i64 a0_5, .slice none 0 0, .slice none 0 0]) ?_ 6 _ rfl; (with_reducible repeat (first | refine blk_drewN ?_ _ | refine blk_drew ?_ | refine blk_alloc ?_ _)); refine blk_put (cs := #[.int .i64 a0_0, .int .i64 a0_1, .int .i64 a0_2, .int .i64 a0_3, .int .i64 a0_4, .int .i64 x495005_1, .slice none 0 0, .slice none 0 0]) ?_ 5 _ rfl; (with_reducible repeat (first | refine blk_drewN ?_ _ | refine blk_drew ?_ | refine blk_alloc ?_ _)); refine blk_put (cs := #[.int .i64 a0_0, .int .i64 a0_1, .int .i64 a0_2, .int .i64 a0_3, .int .i64 x495004_1, .int .i64 x495005_1, .slice none 0 0, .slice none 0 0]) ?_ 4 _ rfl; (with_reducible repeat (first | refine blk_drewN ?_ _ | refine blk_drew ?_ | refine blk_alloc ?_ _)); refine blk_put (cs := #[.int .i64 a0_0, .int .i64 a0_1, .int .i64 a0_2, .int .i64 x495003_1, .int .i64 x495004_1, .int .i64 x495005_1, .slice none 0 0, .slice none 0 0]) ?_ 3 _ rfl; (with_reducible repeat (first | refine blk_drewN ?_ _ | refine blk_drew ?_ | refine blk_alloc ?_ _)); refine blk_put (cs := #[.int .i64 a0_0, .int .i64 a0_1, .int .i64 x495002_1, .int .i64 x495003_1, .int .i64 x495004_1, .int .i64 x495005_1, .slice none 0 0, .slice none 0 0]) ?_ 2 _ rfl; (with_reducible repeat (first | refine blk_drewN ?_ _ | refine blk_drew ?_ | refine blk_alloc ?_ _)); refine blk_put (cs := #[.int .i64 a0_0, .int .i64 x495001_1, .int .i64 x495002_1, .int .i64 x495003_1, .int .i64 x495004_1, .int .i64 x495005_1, .slice none 0 0, .slice none 0 0]) ?_ 1 _ rfl; (with_reducible repeat (first | refine blk_drewN ?_ _ | refine blk_drew ?_ | refine blk_alloc ?_ _)); refine blk_put (cs := #[.int .i64 x495000_1, .int .i64 x495001_1, .int .i64 x495002_1, .int .i64 x495003_1, .int .i64 x495004_1, .int .i64 x495005_1, .slice none 0 0, .slice none 0 0]) ?_ 0 _ rfl; (with_reducible repeat (first | refine blk_drewN ?_ _ | refine blk_drew ?_ | refine blk_alloc ?_ _)); exact BK494.out) Tryd.underlying44 rfl (by kernel_rfl) (.tmp .nil)))) rfl ?_
      exact ⟨_, _, _, by first | rfl | (simp [errW_none, errW_some] <;> rfl) | (simp [*, errW_none, errW_some] <;> rfl), by first | exact Kd.R_nil _ _ _ _ _ | exact Kd.N_nil _ _ _ _ _ | exact Kd.V_nil _ _ _ _ _ | exact Kd.Q_nil _ _ _ _ _ | exact Kd.S_nil _ _ _ _ _, by (with_reducible repeat (first | apply Kd.V_alloc | apply Kd.V_drewN | apply Kd.V_drew)); exact Kd.V_mono (Kd.V_far (p := ⟨gb494, 7, none⟩) (Kd.V_far (p := ⟨gb494, 6, none⟩) (Kd.V_far (p := ⟨gb494, 5, none⟩) (Kd.V_far (p := ⟨gb494, 4, none⟩) (Kd.V_far (p := ⟨gb494, 3, none⟩) (Kd.V_far (p := ⟨gb494, 2, none⟩) (Kd.V_far (p := ⟨gb494, 1, none⟩) (Kd.V_far (p := ⟨gb494, 0, none⟩) (Kd.V_mono HO_494006.out (fun k_ hk => (⟨hk, hk.2.2.2.1⟩ : _ ∧ k_ ≠ gb494))) (fun _ hk => hk.2) (.int .i64 a0_0)) (fun _ hk => hk.2) (.int .i64 a0_1)) (fun _ hk => hk.2) (.int .i64 a0_2)) (fun _ hk => hk.2) (.int .i64 a0_3)) (fun _ hk => hk.2) (.int .i64 a0_4)) (fun _ hk => hk.2) (.int .i64 a0_5)) (fun _ hk => hk.2) (.slice A0_6 l0_6.length c0_6)) (fun _ hk => hk.2) (.slice A0_7 l0_7.length c0_7)) (fun _ hk => ⟨hk.1.1, (by simp [Value.ownBlock])⟩), by (with_reducible repeat (first | apply Kd.V_alloc | apply Kd.V_drewN | apply Kd.V_drew)); exact Kd.V_mono (Kd.V_far (p := ⟨gb494, 7, none⟩) (Kd.V_far (p := ⟨gb494, 6, none⟩) (Kd.V_far (p := ⟨gb494, 5, none⟩) (Kd.V_far (p := ⟨gb494, 4, none⟩) (Kd.V_far (p := ⟨gb494, 3, none⟩) (Kd.V_far (p := ⟨gb494, 2, none⟩) (Kd.V_far (p := ⟨gb494, 1, none⟩) (Kd.V_far (p := ⟨gb494, 0, none⟩) (Kd.V_mono HO_494007.out (fun k_ hk => (⟨hk, hk.2.2.2.1⟩ : _ ∧ k_ ≠ gb494))) (fun _ hk => hk.2) (.int .i64 a0_0)) (fun _ hk => hk.2) (.int .i64 a0_1)) (fun _ hk => hk.2) (.int .i64 a0_2)) (fun _ hk => hk.2) (.int .i64 a0_3)) (fun _ hk => hk.2) (.int .i64 a0_4)) (fun _ hk => hk.2) (.int .i64 a0_5)) (fun _ hk => hk.2) (.slice A0_6 l0_6.length c0_6)) (fun _ hk => hk.2) (.slice A0_7 l0_7.length c0_7)) (fun _ hk => ⟨hk.1.1, (by simp [Value.ownBlock])⟩), by repeat (first | (with_reducible first | exact HB.out | apply below_alloc | apply pw_below_drewN | apply below_drew1 | refine below_set ?_ GE493.out | refine below_set ?_ GE494.out | refine below_set ?_ GE495.out) | exact HB.out)⟩
   ·
    rw [if_neg c18] at H
    have c18b0 : decide (x10_1 < a0_5) = false := decide_eq_false c18
    clear c18
    have H' := Aside0.mk H
    clear H
    have hnb73 := NB493_494.out
    have hnc73 := NB494_493.out
    have hnb74 := NB493_495.out
    have hnc74 := NB495_493.out
    have hcz75_0 : wr.cell? ⟨gb493, 0, none⟩ = some (.int .i64 a0_0) := bc BK493 0
    have hcz75_1 : wr.cell? ⟨gb493, 1, none⟩ = some (.int .i64 a0_1) := bc BK493 1
    have hcz75_2 : wr.cell? ⟨gb493, 2, none⟩ = some (.int .i64 a0_2) := bc BK493 2
    have hcz75_3 : wr.cell? ⟨gb493, 3, none⟩ = some (.int .i64 a0_3) := bc BK493 3
    have hcz75_4 : wr.cell? ⟨gb493, 4, none⟩ = some (.int .i64 a0_4) := bc BK493 4
    have hcz75_5 : wr.cell? ⟨gb493, 5, none⟩ = some (.int .i64 a0_5) := bc BK493 5
    have hcz75_6 : wr.cell? ⟨gb493, 6, none⟩ = some (.slice A0_6 l0_6.length c0_6) := bc BK493 6
    have hcz75_7 : wr.cell? ⟨gb493, 7, none⟩ = some (.slice A0_7 l0_7.length c0_7) := bc BK493 7
    have hfz75_0 := blk_frozen BK493.out 0
    have hfz75_1 := blk_frozen BK493.out 1
    have hfz75_2 := blk_frozen BK493.out 2
    have hfz75_3 := blk_frozen BK493.out 3
    have hfz75_4 := blk_frozen BK493.out 4
    have hfz75_5 := blk_frozen BK493.out 5
    have hfz75_6 := blk_frozen BK493.out 6
    have hfz75_7 := blk_frozen BK493.out 7
    go_wp2
    go_loopg [11] k1 (fun kq v11 w' => ∃ (x11_2 : Int) (x496007_2 : List (S71)) (u496007 : Value), v11 = .int .i64 x11_2 ∧ Aside0 (remontoirlaw04_went.l1 kq l1 x9_1 x11_2 a0_0 a0_1 a0_2 a0_3 a0_4 a0_5 l0_6 l0_7 a0_0 a0_1 a0_2 a0_3 a0_4 a0_5 l0_6 x496007_2 = some (r1, r2, r3, r4, r5, r6, r7, r8, r9, r10)) ∧ Aside0 (kq ≤ k1) ∧ Aside0 (Kd.R (Kd.int .i64) 3 w' w.heap.size (fun k_ => (w.heap.size ≤ k_)) u9 x9_1) ∧ Aside0 (Kd.V (Kd.int .i64) 3 w' w.heap.size (fun k_ => ((P0_6_ k_ ∨ P0_7_ k_) ∨ w.heap.size ≤ k_) ∧ some k_ ≠ (u9 : Value).ownBlock ∧ some k_ ≠ (u496007 : Value).ownBlock ∧ k_ ≠ gb493 ∧ k_ ≠ gb494 ∧ k_ ≠ gb495) (.slice A0_6 l0_6.length c0_6) l0_6) ∧ Aside0 (Kd.V k71 71 w' w.heap.size (fun k_ => ((P0_6_ k_ ∨ P0_7_ k_) ∨ w.heap.size ≤ k_) ∧ some k_ ≠ (u9 : Value).ownBlock ∧ some k_ ≠ (u496007 : Value).ownBlock ∧ k_ ≠ gb493 ∧ k_ ≠ gb494 ∧ k_ ≠ gb495) (.slice A0_7 l0_7.length c0_7) l0_7) ∧ Aside0 (Kd.V (Kd.int .i64) 3 w' w.heap.size (fun k_ => ((P0_6_ k_ ∨ P0_7_ k_) ∨ w.heap.size ≤ k_) ∧ some k_ ≠ (u9 : Value).ownBlock ∧ some k_ ≠ (u496007 : Value).ownBlock ∧ k_ ≠ gb493 ∧ k_ ≠ gb494 ∧ k_ ≠ gb495) (.slice A0_6 l0_6.length c0_6) l0_6) ∧ Aside0 (Kd.R k71 71 w' w.heap.size (fun k_ => (w.heap.size ≤ k_)) u496007 x496007_2) ∧ Aside0 (w'.heap[gb493]? = some (.cells #[.int .i64 a0_0, .int .i64 a0_1, .int .i64 a0_2, .int .i64 a0_3, .int .i64 a0_4, .int .i64 a0_5, (.slice A0_6 l0_6.length c0_6), (.slice A0_7 l0_7.length c0_7)] 44 (0, 0))) ∧ Aside0 (w'.heap[gb494]? = some (.cells #[.int .i64 x495000_1, .int .i64 x495001_1, .int .i64 x495002_1, .int .i64 x495003_1, .int .i64 x495004_1, .int .i64 x495005_1, (.slice none 0 0), (.slice none 0 0)] 44 (0, 0))) ∧ Aside0 (w'.heap[gb495]? = some (.cells #[.int .i64 a0_0, .int .i64 a0_1, .int .i64 a0_2, .int .i64 a0_3, .int .i64 a0_4, .int .i64 a0_5, (.slice A0_6 l0_6.length c0_6), u496007] 44 (0, 0))) ∧ Aside0 (Below w.heap.size w w'))
    case atStart => exact ⟨(0), (([] : List (S71))), (.slice none 0 0), (by first | rfl | (simp; done) | (simp [*]; done)), H', ⟨Nat.le_refl _⟩, ⟨by (with_reducible repeat (first | apply Kd.R_alloc | apply Kd.R_drewN | apply Kd.R_drew)); exact HO_9.out⟩, ⟨by (with_reducible repeat (first | apply Kd.V_alloc | apply Kd.V_drewN | apply Kd.V_drew)); exact Kd.V_mono HO_494006.out (fun _ hk => ⟨hk.1, ⟨hk.2.1, ⟨(by simp [Value.ownBlock]), ⟨hk.2.2.1, ⟨hk.2.2.2.1, hk.2.2.2.2⟩⟩⟩⟩⟩)⟩, ⟨by (with_reducible repeat (first | apply Kd.V_alloc | apply Kd.V_drewN | apply Kd.V_drew)); exact Kd.V_mono HO_494007.out (fun _ hk => ⟨hk.1, ⟨hk.2.1, ⟨(by simp [Value.ownBlock]), ⟨hk.2.2.1, ⟨hk.2.2.2.1, hk.2.2.2.2⟩⟩⟩⟩⟩)⟩, ⟨by (with_reducible repeat (first | apply Kd.V_alloc | apply Kd.V_drewN | apply Kd.V_drew)); exact Kd.V_mono HO_496006.out (fun _ hk => ⟨hk.1, ⟨hk.2.1, ⟨(by simp [Value.ownBlock]), ⟨hk.2.2.1, ⟨hk.2.2.2.1, hk.2.2.2.2⟩⟩⟩⟩⟩)⟩, ⟨by first | exact Kd.R_nil _ _ _ _ _ | exact Kd.N_nil _ _ _ _ _ | exact Kd.V_nil _ _ _ _ _ | exact Kd.Q_nil _ _ _ _ _ | exact Kd.S_nil _ _ _ _ _⟩, ⟨bk BK493⟩, ⟨bk BK494⟩, ⟨bk BK495⟩, ⟨bl HB⟩⟩
    case round =>
     clear H'
     try clear c1; try clear c2; try clear p2; try clear c4; try clear c5; try clear p6; try clear c7; try clear c18; try clear c18b0; try clear c21; try clear c21b0; try clear c22; try clear c40; try clear c42; try clear c47; try clear c49; try clear c50; try clear c51; try clear c52; try clear c58; try clear c59; try clear p64; try clear c73; try clear c74; try clear hcz53_0; try clear hcz53_1; try clear hcz53_2; try clear hcz53_3; try clear hcz53_4; try clear hcz53_5; try clear hcz53_6; try clear hcz53_7; try clear hcz56_0; try clear hcz56_1; try clear hcz56_2; try clear hcz56_3; try clear hcz56_4; try clear hcz56_5; try clear hcz56_6; try clear hcz56_7; try clear hcz60_0; try clear hcz60_1; try clear hcz60_2; try clear hcz60_3; try clear hcz60_4; try clear hcz60_5; try clear hcz60_6; try clear hcz60_7; try clear hcz63_0; try clear hcz63_1; try clear hcz63_2; try clear hcz63_3; try clear hcz63_4; try clear hcz63_5; try clear hcz63_6; try clear hcz63_7; try clear hcz75_0; try clear hcz75_1; try clear hcz75_2; try clear hcz75_3; try clear hcz75_4; try clear hcz75_5; try clear hcz75_6; try clear hcz75_7; try clear hfz53_0; try clear hfz53_1; try clear hfz53_2; try clear hfz53_3; try clear hfz53_4; try clear hfz53_5; try clear hfz53_6; try clear hfz53_7; try clear hfz56_0; try clear hfz56_1; try clear hfz56_2; try clear hfz56_3; try clear hfz56_4; try clear hfz56_5; try clear hfz56_6; try clear hfz56_7; try clear hfz60_0; try clear hfz60_1; try clear hfz60_2; try clear hfz60_3; try clear hfz60_4; try clear hfz60_5; try clear hfz60_6; try clear hfz60_7; try clear hfz63_0; try clear hfz63_1; try clear hfz63_2; try clear hfz63_3; try clear hfz63_4; try clear hfz63_5; try clear hfz63_6; try clear hfz63_7; try clear hfz75_0; try clear hfz75_1; try clear hfz75_2; try clear hfz75_3; try clear hfz75_4; try clear hfz75_5; try clear hfz75_6; try clear hfz75_7
     obtain ⟨x11_2, x496007_2, u496007, rfl, HA, HK2, HO_9, HO_494006, HO_494007, HO_496006, HO_496007, BK493, BK494, BK495, HB⟩ := hrel
     cases gk with
     | zero => exact absurd HA.out (by simp [remontoirlaw04_went.l1])
     | succ k2 =>
      have H := HA.out
      clear HA
      simp only [remontoirlaw04_went.l1] at H
      by_cases c76 : x11_2 < (l0_7.length : Int)
      ·
       rw [if_pos c76] at H
       have c76b0 : decide (x11_2 < (l0_7.length : Int)) = true := decide_eq_true c76
       clear c76
       by_cases c77 : 0 ≤ x11_2
       ·
        rw [if_pos c77] at H
        have c77b0 : decide (0 ≤ x11_2) = true := decide_eq_true c77
        clear c77
        by_cases c78 : 0 ≤ ((rd_T71 l0_7 x11_2).f0)
        ·
         rw [if_pos c78] at H
         have c78b0 : decide (0 ≤ ((rd_T71 l0_7 x11_2).f0)) = true := decide_eq_true c78
         clear c78
         by_cases c79 : ((rd_T71 l0_7 x11_2).f0) < (x9_1.length : Int)
         ·
          rw [if_pos c79] at H
          have c79b0 : decide (((rd_T71 l0_7 x11_2).f0) < (x9_1.length : Int)) = true := decide_eq_true c79
          clear c79
          replace H := Option.bind_eq_some_iff.mp H
          obtain ⟨t517, A800, H⟩ := H
          replace H : ((remontoirref00_Rest.f t517 (wrap64 ((wrap64 (((rd_T71 l0_7 x11_2).f1.f1) - ((rd_T71 l0_7 x11_2).f1.f0))) + 1))).bind fun t518 => ((remontoirref00_To.f (mx (-20000) (wrap64 ((rd x9_1 ((rd_T71 l0_7 x11_2).f0)) - t518))) (mn 20000 (wrap64 ((wrap64 ((rd x9_1 ((rd_T71 l0_7 x11_2).f0)) - t518)) + (wrap64 (((rd_T71 l0_7 x11_2).f1.f1) - ((rd_T71 l0_7 x11_2).f1.f0))))))).bind fun bt519 => (if x496007_2.length < 5864062014805 then (remontoirlaw04_went.l1 k2 l1 x9_1 (wrap64 (x11_2 + 1)) a0_0 a0_1 a0_2 a0_3 a0_4 a0_5 l0_6 l0_7 a0_0 a0_1 a0_2 a0_3 a0_4 a0_5 l0_6 (x496007_2 ++ [(⟨(rd_T71 l0_7 x11_2).f0, (⟨bt519.1, bt519.2⟩ : S23)⟩ : S71)])) else (none)))) = some (r1, r2, r3, r4, r5, r6, r7, r8, r9, r10) := H
          have A80 := Aside0.mk A800
          clear A800
          replace H := Option.bind_eq_some_iff.mp H
          obtain ⟨t518, A810, H⟩ := H
          replace H : ((remontoirref00_To.f (mx (-20000) (wrap64 ((rd x9_1 ((rd_T71 l0_7 x11_2).f0)) - t518))) (mn 20000 (wrap64 ((wrap64 ((rd x9_1 ((rd_T71 l0_7 x11_2).f0)) - t518)) + (wrap64 (((rd_T71 l0_7 x11_2).f1.f1) - ((rd_T71 l0_7 x11_2).f1.f0))))))).bind fun bt519 => (if x496007_2.length < 5864062014805 then (remontoirlaw04_went.l1 k2 l1 x9_1 (wrap64 (x11_2 + 1)) a0_0 a0_1 a0_2 a0_3 a0_4 a0_5 l0_6 l0_7 a0_0 a0_1 a0_2 a0_3 a0_4 a0_5 l0_6 (x496007_2 ++ [(⟨(rd_T71 l0_7 x11_2).f0, (⟨bt519.1, bt519.2⟩ : S23)⟩ : S71)])) else (none))) = some (r1, r2, r3, r4, r5, r6, r7, r8, r9, r10) := H
          have A81 := Aside0.mk A810
          clear A810
          obtain ⟨ji82, hji82⟩ : ∃ j_ : Int, (mx (-20000) (wrap64 ((rd x9_1 ((rd_T71 l0_7 x11_2).f0)) - t518))) = j_ := ⟨_, rfl⟩
          replace H : ((remontoirref00_To.f (ji82) (mn 20000 (wrap64 ((wrap64 ((rd x9_1 ((rd_T71 l0_7 x11_2).f0)) - t518)) + (wrap64 (((rd_T71 l0_7 x11_2).f1.f1) - ((rd_T71 l0_7 x11_2).f1.f0))))))).bind fun bt519 => (if x496007_2.length < 5864062014805 then (remontoirlaw04_went.l1 k2 l1 x9_1 (wrap64 (x11_2 + 1)) a0_0 a0_1 a0_2 a0_3 a0_4 a0_5 l0_6 l0_7 a0_0 a0_1 a0_2 a0_3 a0_4 a0_5 l0_6 (x496007_2 ++ [(⟨(rd_T71 l0_7 x11_2).f0, (⟨bt519.1, bt519.2⟩ : S23)⟩ : S71)])) else (none))) = some (r1, r2, r3, r4, r5, r6, r7, r8, r9, r10) := by first | (rw [hji82] at H; exact H) | (simp only [hji82] at H ⊢; exact H)
          (try rw [hji82] at A80)
          (try rw [hji82] at A81)
          have hji82_ : (if (-20000) < (wrap64 ((rd x9_1 ((rd_T71 l0_7 x11_2).f0)) - t518)) then (wrap64 ((rd x9_1 ((rd_T71 l0_7 x11_2).f0)) - t518)) else (-20000)) = ji82 := hji82
          obtain ⟨ji83, hji83⟩ : ∃ j_ : Int, (mn 20000 (wrap64 ((wrap64 ((rd x9_1 ((rd_T71 l0_7 x11_2).f0)) - t518)) + (wrap64 (((rd_T71 l0_7 x11_2).f1.f1) - ((rd_T71 l0_7 x11_2).f1.f0)))))) = j_ := ⟨_, rfl⟩
          replace H : ((remontoirref00_To.f (ji82) (ji83)).bind fun bt519 => (if x496007_2.length < 5864062014805 then (remontoirlaw04_went.l1 k2 l1 x9_1 (wrap64 (x11_2 + 1)) a0_0 a0_1 a0_2 a0_3 a0_4 a0_5 l0_6 l0_7 a0_0 a0_1 a0_2 a0_3 a0_4 a0_5 l0_6 (x496007_2 ++ [(⟨(rd_T71 l0_7 x11_2).f0, (⟨bt519.1, bt519.2⟩ : S23)⟩ : S71)])) else (none))) = some (r1, r2, r3, r4, r5, r6, r7, r8, r9, r10) := by first | (rw [hji83] at H; exact H) | (simp only [hji83] at H ⊢; exact H)
          (try rw [hji83] at A80)
          (try rw [hji83] at A81)
          have hji83_ : (if (wrap64 ((wrap64 ((rd x9_1 ((rd_T71 l0_7 x11_2).f0)) - t518)) + (wrap64 (((rd_T71 l0_7 x11_2).f1.f1) - ((rd_T71 l0_7 x11_2).f1.f0))))) < 20000 then (wrap64 ((wrap64 ((rd x9_1 ((rd_T71 l0_7 x11_2).f0)) - t518)) + (wrap64 (((rd_T71 l0_7 x11_2).f1.f1) - ((rd_T71 l0_7 x11_2).f1.f0))))) else 20000) = ji83 := hji83
          replace H := Option.bind_eq_some_iff.mp H
          obtain ⟨⟨t519, t520⟩, A840, H⟩ := H
          replace H : (if x496007_2.length < 5864062014805 then (remontoirlaw04_went.l1 k2 l1 x9_1 (wrap64 (x11_2 + 1)) a0_0 a0_1 a0_2 a0_3 a0_4 a0_5 l0_6 l0_7 a0_0 a0_1 a0_2 a0_3 a0_4 a0_5 l0_6 (x496007_2 ++ [(⟨(rd_T71 l0_7 x11_2).f0, (⟨t519, t520⟩ : S23)⟩ : S71)])) else (none)) = some (r1, r2, r3, r4, r5, r6, r7, r8, r9, r10) := H
          have A84 := Aside0.mk A840
          clear A840
          by_cases c85 : x496007_2.length < 5864062014805
          ·
           rw [if_pos c85] at H
           have LMc85 := Aside0.mk c85
           clear c85
           obtain ⟨y521, hy521⟩ : ∃ y_ : List (S71), y_ = (x496007_2 ++ [(⟨(rd_T71 l0_7 x11_2).f0, (⟨t519, t520⟩ : S23)⟩ : S71)]) := ⟨_, rfl⟩
           replace H : (remontoirlaw04_went.l1 k2 l1 x9_1 (wrap64 (x11_2 + 1)) a0_0 a0_1 a0_2 a0_3 a0_4 a0_5 l0_6 l0_7 a0_0 a0_1 a0_2 a0_3 a0_4 a0_5 l0_6 y521) = some (r1, r2, r3, r4, r5, r6, r7, r8, r9, r10) := by first | (rw [hy521]; with_reducible exact H) | (have H2_ := (Option.bind_some _ _).symm.trans H; rw [hy521]; with_reducible exact H2_) | (have H2_ := (Option.bind_some _ _).symm.trans H; with_reducible exact H2_) | with_reducible exact H | (rw [hy521]; exact H) | exact H
           have Ny521 := Aside0.mk hy521
           clear hy521
           have H' := Aside0.mk H
           clear H
           have hnb86 := NB493_494.out
           have hnc86 := NB494_493.out
           have hnb87 := NB493_495.out
           have hnc87 := NB495_493.out
           have hcz88_0 : wr.cell? ⟨gb493, 0, none⟩ = some (.int .i64 a0_0) := bc BK493 0
           have hcz88_1 : wr.cell? ⟨gb493, 1, none⟩ = some (.int .i64 a0_1) := bc BK493 1
           have hcz88_2 : wr.cell? ⟨gb493, 2, none⟩ = some (.int .i64 a0_2) := bc BK493 2
           have hcz88_3 : wr.cell? ⟨gb493, 3, none⟩ = some (.int .i64 a0_3) := bc BK493 3
           have hcz88_4 : wr.cell? ⟨gb493, 4, none⟩ = some (.int .i64 a0_4) := bc BK493 4
           have hcz88_5 : wr.cell? ⟨gb493, 5, none⟩ = some (.int .i64 a0_5) := bc BK493 5
           have hcz88_6 : wr.cell? ⟨gb493, 6, none⟩ = some (.slice A0_6 l0_6.length c0_6) := bc BK493 6
           have hcz88_7 : wr.cell? ⟨gb493, 7, none⟩ = some (.slice A0_7 l0_7.length c0_7) := bc BK493 7
           have hfz88_0 := blk_frozen BK493.out 0
           have hfz88_1 := blk_frozen BK493.out 1
           have hfz88_2 := blk_frozen BK493.out 2
           have hfz88_3 := blk_frozen BK493.out 3
           have hfz88_4 := blk_frozen BK493.out 4
           have hfz88_5 := blk_frozen BK493.out 5
           have hfz88_6 := blk_frozen BK493.out 6
           have hfz88_7 := blk_frozen BK493.out 7
           have p514 : 0 ≤ (x11_2 : Int) := of_decide_eq_true (by first | (with_reducible assumption) | assumption)
           have q514 : x11_2 < (l0_7.length : Int) := of_decide_eq_true (by first | (with_reducible assumption) | assumption)
           obtain ⟨ad514, e514, hx514_0, hx514_1, hx514_2⟩ := at_T71 (Kd.V_reads' HO_494007.out).2.2 x11_2 p514 q514
           cases e514
           replace p514 := eq_true p514
           replace q514 := eq_true q514
           try go_wp2_with (first | ((with_reducible refine gate_dst (N := 12) rfl ?_); refine box_event ?hg (N := 12) ?hd (cs := #[.int .i64 0, .int .i64 0, .int .i64 0]) (t := 71) ?hr ?_; (case hd => rfl); (case hg => rfl); (case hr => first | (go_simp; done) | (go_simp; rfl)); intro gb515 hg w89 hbox hb; replace HO_9 := Aside0.mk (Kd.R_below (rk HO_9) hb); replace HO_494006 := Aside0.mk (Kd.V_below (Kd.V_elderB (by (with_reducible repeat (first | apply Kd.V_alloc | apply Kd.V_drewN | apply Kd.V_drew)); exact HO_494006.out) gb515 (Nat.le_of_eq hg.symm)) hb); replace HO_494007 := Aside0.mk (Kd.V_below (Kd.V_elderB (by (with_reducible repeat (first | apply Kd.V_alloc | apply Kd.V_drewN | apply Kd.V_drew)); exact HO_494007.out) gb515 (Nat.le_of_eq hg.symm)) hb); replace HO_496006 := Aside0.mk (Kd.V_below (Kd.V_elderB (by (with_reducible repeat (first | apply Kd.V_alloc | apply Kd.V_drewN | apply Kd.V_drew)); exact HO_496006.out) gb515 (Nat.le_of_eq hg.symm)) hb); replace HO_496007 := Aside0.mk (Kd.R_below (Kd.R_elderB (rk HO_496007) gb515 (Nat.le_of_eq hg.symm)) hb); have BK515 := Aside0.mk (hbox); have GW515 := geB hg (bl HB); have GE515 := geB hg (bl HB); replace HB := Aside0.mk (below_step (bl HB) hb); have NB493_515 := nlt hg (bk BK493); have NB515_493 := ngt hg (bk BK493); replace BK493 := Aside0.mk (blk_below (bk BK493) hb); have NB494_515 := nlt hg (bk BK494); have NB515_494 := ngt hg (bk BK494); replace BK494 := Aside0.mk (blk_below (bk BK494) hb); have NB495_515 := nlt hg (bk BK495); have NB515_495 := ngt hg (bk BK495); replace BK495 := Aside0.mk (blk_below (bk BK495) hb); clear hb hbox hg; have hnb90 := NB515_493.out; have hnc90 := NB493_515.out; have hnb91 := NB515_494.out; have hnc91 := NB494_515.out; have hnb92 := NB515_495.out; have hnc92 := NB495_515.out; have hcz93_0 : w89.cell? ⟨gb515, 0, none⟩ = some (.int .i64 0) := bc BK515 0; have hcz93_1 : w89.cell? ⟨gb515, 1, none⟩ = some (.int .i64 0) := bc BK515 1; have hcz93_2 : w89.cell? ⟨gb515, 2, none⟩ = some (.int .i64 0) := bc BK515 2; have hfz93_0 := blk_frozen BK515.out 0; have hfz93_1 := blk_frozen BK515.out 1; have hfz93_2 := blk_frozen BK515.out 2))
           have n0_ : Aside0 (Kd.R (Kd.int .i64) 3 (((w89.setCell ⟨gb515, 0, none⟩ (.int .i64 ((rd_T71 l0_7 x11_2).f0))).setCell ⟨gb515, 1, none⟩ (.int .i64 ((rd_T71 l0_7 x11_2).f1.f0))).setCell ⟨gb515, 2, none⟩ (.int .i64 ((rd_T71 l0_7 x11_2).f1.f1))) w.heap.size (fun k_ => (w.heap.size ≤ k_)) u9 x9_1) := ⟨by (with_reducible repeat (first | apply Kd.R_alloc | apply Kd.R_drewN | apply Kd.R_drew)); exact Kd.R_mono (Kd.R_far (p := ⟨gb515, 2, none⟩) (Kd.R_far (p := ⟨gb515, 1, none⟩) (Kd.R_far (p := ⟨gb515, 0, none⟩) (Kd.R_types HO_9.out BK515.out (by decide)) (fun _ hk => hk.2) (.int .i64 ((rd_T71 l0_7 x11_2).f0))) (fun _ hk => hk.2) (.int .i64 ((rd_T71 l0_7 x11_2).f1.f0))) (fun _ hk => hk.2) (.int .i64 ((rd_T71 l0_7 x11_2).f1.f1))) (fun _ hk => hk.1)⟩
           have n1_ : Aside0 (Kd.V (Kd.int .i64) 3 (((w89.setCell ⟨gb515, 0, none⟩ (.int .i64 ((rd_T71 l0_7 x11_2).f0))).setCell ⟨gb515, 1, none⟩ (.int .i64 ((rd_T71 l0_7 x11_2).f1.f0))).setCell ⟨gb515, 2, none⟩ (.int .i64 ((rd_T71 l0_7 x11_2).f1.f1))) w.heap.size (fun k_ => ((P0_6_ k_ ∨ P0_7_ k_) ∨ w.heap.size ≤ k_) ∧ some k_ ≠ (u9 : Value).ownBlock ∧ some k_ ≠ (u496007 : Value).ownBlock ∧ k_ ≠ gb493 ∧ k_ ≠ gb494 ∧ k_ ≠ gb495 ∧ k_ ≠ gb515) (.slice A0_6 l0_6.length c0_6) l0_6) := ⟨by (with_reducible repeat (first | apply Kd.V_alloc | apply Kd.V_drewN | apply Kd.V_drew)); exact Kd.V_mono (Kd.V_far (p := ⟨gb515, 2, none⟩) (Kd.V_far (p := ⟨gb515, 1, none⟩) (Kd.V_far (p := ⟨gb515, 0, none⟩) (Kd.V_mono HO_494006.out (fun k_ hk => (⟨hk, hk.2⟩ : _ ∧ k_ ≠ gb515))) (fun _ hk => hk.2) (.int .i64 ((rd_T71 l0_7 x11_2).f0))) (fun _ hk => hk.2) (.int .i64 ((rd_T71 l0_7 x11_2).f1.f0))) (fun _ hk => hk.2) (.int .i64 ((rd_T71 l0_7 x11_2).f1.f1))) (fun _ hk => ⟨hk.1.1.1, ⟨hk.1.1.2.1, ⟨hk.1.1.2.2.1, ⟨hk.1.1.2.2.2.1, ⟨hk.1.1.2.2.2.2.1, ⟨hk.1.1.2.2.2.2.2, hk.1.2⟩⟩⟩⟩⟩⟩)⟩
           have n2_ : Aside0 (Kd.V k71 71 (((w89.setCell ⟨gb515, 0, none⟩ (.int .i64 ((rd_T71 l0_7 x11_2).f0))).setCell ⟨gb515, 1, none⟩ (.int .i64 ((rd_T71 l0_7 x11_2).f1.f0))).setCell ⟨gb515, 2, none⟩ (.int .i64 ((rd_T71 l0_7 x11_2).f1.f1))) w.heap.size (fun k_ => ((P0_6_ k_ ∨ P0_7_ k_) ∨ w.heap.size ≤ k_) ∧ some k_ ≠ (u9 : Value).ownBlock ∧ some k_ ≠ (u496007 : Value).ownBlock ∧ k_ ≠ gb493 ∧ k_ ≠ gb494 ∧ k_ ≠ gb495 ∧ k_ ≠ gb515) (.slice (some ad514) l0_7.length c0_7) l0_7) := ⟨by (with_reducible repeat (first | apply Kd.V_alloc | apply Kd.V_drewN | apply Kd.V_drew)); exact Kd.V_mono (Kd.V_far (p := ⟨gb515, 2, none⟩) (Kd.V_far (p := ⟨gb515, 1, none⟩) (Kd.V_far (p := ⟨gb515, 0, none⟩) (Kd.V_mono HO_494007.out (fun k_ hk => (⟨hk, hk.2⟩ : _ ∧ k_ ≠ gb515))) (fun _ hk => hk.2) (.int .i64 ((rd_T71 l0_7 x11_2).f0))) (fun _ hk => hk.2) (.int .i64 ((rd_T71 l0_7 x11_2).f1.f0))) (fun _ hk => hk.2) (.int .i64 ((rd_T71 l0_7 x11_2).f1.f1))) (fun _ hk => ⟨hk.1.1.1, ⟨hk.1.1.2.1, ⟨hk.1.1.2.2.1, ⟨hk.1.1.2.2.2.1, ⟨hk.1.1.2.2.2.2.1, ⟨hk.1.1.2.2.2.2.2, hk.1.2⟩⟩⟩⟩⟩⟩)⟩
           have n3_ : Aside0 (Kd.V (Kd.int .i64) 3 (((w89.setCell ⟨gb515, 0, none⟩ (.int .i64 ((rd_T71 l0_7 x11_2).f0))).setCell ⟨gb515, 1, none⟩ (.int .i64 ((rd_T71 l0_7 x11_2).f1.f0))).setCell ⟨gb515, 2, none⟩ (.int .i64 ((rd_T71 l0_7 x11_2).f1.f1))) w.heap.size (fun k_ => ((P0_6_ k_ ∨ P0_7_ k_) ∨ w.heap.size ≤ k_) ∧ some k_ ≠ (u9 : Value).ownBlock ∧ some k_ ≠ (u496007 : Value).ownBlock ∧ k_ ≠ gb493 ∧ k_ ≠ gb494 ∧ k_ ≠ gb495 ∧ k_ ≠ gb515) (.slice A0_6 l0_6.length c0_6) l0_6) := ⟨by (with_reducible repeat (first | apply Kd.V_alloc | apply Kd.V_drewN | apply Kd.V_drew)); exact Kd.V_mono (Kd.V_far (p := ⟨gb515, 2, none⟩) (Kd.V_far (p := ⟨gb515, 1, none⟩) (Kd.V_far (p := ⟨gb515, 0, none⟩) (Kd.V_mono HO_496006.out (fun k_ hk => (⟨hk, hk.2⟩ : _ ∧ k_ ≠ gb515))) (fun _ hk => hk.2) (.int .i64 ((rd_T71 l0_7 x11_2).f0))) (fun _ hk => hk.2) (.int .i64 ((rd_T71 l0_7 x11_2).f1.f0))) (fun _ hk => hk.2) (.int .i64 ((rd_T71 l0_7 x11_2).f1.f1))) (fun _ hk => ⟨hk.1.1.1, ⟨hk.1.1.2.1, ⟨hk.1.1.2.2.1, ⟨hk.1.1.2.2.2.1, ⟨hk.1.1.2.2.2.2.1, ⟨hk.1.1.2.2.2.2.2, hk.1.2⟩⟩⟩⟩⟩⟩)⟩
           have n4_ : Aside0 (Kd.R k71 71 (((w89.setCell ⟨gb515, 0, none⟩ (.int .i64 ((rd_T71 l0_7 x11_2).f0))).setCell ⟨gb515, 1, none⟩ (.int .i64 ((rd_T71 l0_7 x11_2).f1.f0))).setCell ⟨gb515, 2, none⟩ (.int .i64 ((rd_T71 l0_7 x11_2).f1.f1))) w.heap.size (fun k_ => (w.heap.size ≤ k_) ∧ k_ ≠ gb515) u496007 x496007_2) := ⟨by (with_reducible repeat (first | apply Kd.R_alloc | apply Kd.R_drewN | apply Kd.R_drew)); exact Kd.R_mono (Kd.R_far (p := ⟨gb515, 2, none⟩) (Kd.R_far (p := ⟨gb515, 1, none⟩) (Kd.R_far (p := ⟨gb515, 0, none⟩) (Kd.R_mono HO_496007.out (fun k_ hk => (⟨hk, hk.2⟩ : _ ∧ k_ ≠ gb515))) (fun _ hk => hk.2) (.int .i64 ((rd_T71 l0_7 x11_2).f0))) (fun _ hk => hk.2) (.int .i64 ((rd_T71 l0_7 x11_2).f1.f0))) (fun _ hk => hk.2) (.int .i64 ((rd_T71 l0_7 x11_2).f1.f1))) (fun _ hk => ⟨hk.1.1, hk.1.2⟩)⟩
           have n5_ : Aside0 ((((w89.setCell ⟨gb515, 0, none⟩ (.int .i64 ((rd_T71 l0_7 x11_2).f0))).setCell ⟨gb515, 1, none⟩ (.int .i64 ((rd_T71 l0_7 x11_2).f1.f0))).setCell ⟨gb515, 2, none⟩ (.int .i64 ((rd_T71 l0_7 x11_2).f1.f1))).heap[gb493]? = some (.cells #[.int .i64 a0_0, .int .i64 a0_1, .int .i64 a0_2, .int .i64 a0_3, .int .i64 a0_4, .int .i64 a0_5, .slice A0_6 l0_6.length c0_6, .slice (some ad514) l0_7.length c0_7] 44 (0, 0))) := ⟨bk BK493⟩
           have n6_ : Aside0 ((((w89.setCell ⟨gb515, 0, none⟩ (.int .i64 ((rd_T71 l0_7 x11_2).f0))).setCell ⟨gb515, 1, none⟩ (.int .i64 ((rd_T71 l0_7 x11_2).f1.f0))).setCell ⟨gb515, 2, none⟩ (.int .i64 ((rd_T71 l0_7 x11_2).f1.f1))).heap[gb494]? = some (.cells #[.int .i64 x495000_1, .int .i64 x495001_1, .int .i64 x495002_1, .int .i64 x495003_1, .int .i64 x495004_1, .int .i64 x495005_1, .slice none 0 0, .slice none 0 0] 44 (0, 0))) := ⟨bk BK494⟩
           have n7_ : Aside0 ((((w89.setCell ⟨gb515, 0, none⟩ (.int .i64 ((rd_T71 l0_7 x11_2).f0))).setCell ⟨gb515, 1, none⟩ (.int .i64 ((rd_T71 l0_7 x11_2).f1.f0))).setCell ⟨gb515, 2, none⟩ (.int .i64 ((rd_T71 l0_7 x11_2).f1.f1))).heap[gb495]? = some (.cells #[.int .i64 a0_0, .int .i64 a0_1, .int .i64 a0_2, .int .i64 a0_3, .int .i64 a0_4, .int .i64 a0_5, .slice A0_6 l0_6.length c0_6, u496007] 44 (0, 0))) := ⟨bk BK495⟩
           have n8_ : Aside0 ((((w89.setCell ⟨gb515, 0, none⟩ (.int .i64 ((rd_T71 l0_7 x11_2).f0))).setCell ⟨gb515, 1, none⟩ (.int .i64 ((rd_T71 l0_7 x11_2).f1.f0))).setCell ⟨gb515, 2, none⟩ (.int .i64 ((rd_T71 l0_7 x11_2).f1.f1))).heap[gb515]? = some (.cells #[.int .i64 ((rd_T71 l0_7 x11_2).f0), .int .i64 ((rd_T71 l0_7 x11_2).f1.f0), .int .i64 ((rd_T71 l0_7 x11_2).f1.f1)] 71 (0, 0))) := ⟨by (with_reducible repeat (first | refine blk_drewN ?_ _ | refine blk_drew ?_ | refine blk_alloc ?_ _)); refine blk_put (cs := #[.int .i64 ((rd_T71 l0_7 x11_2).f0), .int .i64 ((rd_T71 l0_7 x11_2).f1.f0), .int .i64 0]) ?_ 2 _ rfl; (with_reducible repeat (first | refine blk_drewN ?_ _ | refine blk_drew ?_ | refine blk_alloc ?_ _)); refine blk_put (cs := #[.int .i64 ((rd_T71 l0_7 x11_2).f0), .int .i64 0, .int .i64 0]) ?_ 1 _ rfl; (with_reducible repeat (first | refine blk_drewN ?_ _ | refine blk_drew ?_ | refine blk_alloc ?_ _)); refine blk_put (cs := #[.int .i64 0, .int .i64 0, .int .i64 0]) ?_ 0 _ rfl; (with_reducible repeat (first | refine blk_drewN ?_ _ | refine blk_drew ?_ | refine blk_alloc ?_ _)); exact BK515.out⟩
           have n9_ : Aside0 (Below w.heap.size w (((w89.setCell ⟨gb515, 0, none⟩ (.int .i64 ((rd_T71 l0_7 x11_2).f0))).setCell ⟨gb515, 1, none⟩ (.int .i64 ((rd_T71 l0_7 x11_2).f1.f0))).setCell ⟨gb515, 2, none⟩ (.int .i64 ((rd_T71 l0_7 x11_2).f1.f1)))) := ⟨bl HB⟩
           (try clear HO_9)
           (try clear HO_494006)
           (try clear HO_494007)
           (try clear HO_496006)
           (try clear HO_496007)
           (try clear BK493)
           (try clear BK494)
           (try clear BK495)
           (try clear BK515)
           (try clear HB)
           generalize (((w89.setCell ⟨gb515, 0, none⟩ (.int .i64 ((rd_T71 l0_7 x11_2).f0))).setCell ⟨gb515, 1, none⟩ (.int .i64 ((rd_T71 l0_7 x11_2).f1.f0))).setCell ⟨gb515, 2, none⟩ (.int .i64 ((rd_T71 l0_7 x11_2).f1.f1))) = w94 at n0_ n1_ n2_ n3_ n4_ n5_ n6_ n7_ n8_ n9_ ⊢
           have HO_9 := n0_
           have HO_494006 := n1_
           have HO_494007 := n2_
           have HO_496006 := n3_
           have HO_496007 := n4_
           have BK493 := n5_
           have BK494 := n6_
           have BK495 := n7_
           have BK515 := n8_
           have HB := n9_
           clear n0_ n1_ n2_ n3_ n4_ n5_ n6_ n7_ n8_ n9_
           replace HO_9 := Aside0.mk (Kd.R_drew HO_9.out)
           replace HO_494006 := Aside0.mk (Kd.V_drew HO_494006.out)
           replace HO_494007 := Aside0.mk (Kd.V_drew HO_494007.out)
           replace HO_496006 := Aside0.mk (Kd.V_drew HO_496006.out)
           replace HO_496007 := Aside0.mk (Kd.R_drew HO_496007.out)
           replace BK493 := Aside0.mk (blk_drew BK493.out)
           replace BK494 := Aside0.mk (blk_drew BK494.out)
           replace BK495 := Aside0.mk (blk_drew BK495.out)
           replace BK515 := Aside0.mk (blk_drew BK515.out)
           replace HB := Aside0.mk (below_drew1 HB.out)
           obtain ⟨Ao96, co96, eo96⟩ := Kd.R_slice HO_9.out
           (first | subst eo96 | (injection eo96 with f1_ f2_ f3_; have f4_ := f1_.symm; have f5_ := f3_.symm; clear f1_ f2_ f3_; subst f4_; subst f5_))
           have p516 : 0 ≤ (((rd_T71 l0_7 x11_2).f0) : Int) := of_decide_eq_true (by first | (with_reducible assumption) | assumption)
           have q516 : ((rd_T71 l0_7 x11_2).f0) < (x9_1.length : Int) := of_decide_eq_true (by first | (with_reducible assumption) | assumption)
           obtain ⟨ad516, e516, hx516_0⟩ := Kd.at_int (Kd.R_reads' HO_9.out).2.2 ((rd_T71 l0_7 x11_2).f0) p516 q516
           cases e516
           replace p516 := eq_true p516
           replace q516 := eq_true q516
           refine start_ (n := 14) (S := fun w' => w'.cell? ⟨gb515, 0, none⟩ = some (.int .i64 ((rd_T71 l0_7 x11_2).f0)) ∧ w'.cell? ⟨gb515, 1, none⟩ = some (.int .i64 ((rd_T71 l0_7 x11_2).f1.f0)) ∧ w'.cell? ⟨gb515, 2, none⟩ = some (.int .i64 ((rd_T71 l0_7 x11_2).f1.f1)) ∧ w'.cell? (ad516.add (((rd_T71 l0_7 x11_2).f0)).toNat) = some (.int .i64 (rd x9_1 ((rd_T71 l0_7 x11_2).f0)))) (ds := []) #[false, false, false, false, false, false, false, false, false, false, false, false, false, false] (by kernel_rfl) rfl rfl ⟨bc BK515 0, bc BK515 1, bc BK515 2, hx516_0⟩ (fun hHeld => ?_); refine with_tabW remontoirlaw04_went.tab19 remontoirlaw04_went.bits19 (fun HT_ HW_ => ?_)
           generalize w94.drew = w95 at HO_9 HO_494006 HO_494007 HO_496006 HO_496007 BK493 BK494 BK495 BK515 HB hx516_0 hHeld ⊢
           refine pureA 0 78 ?_
           refine pureA 1 79 ?_
           refine pureA 5 83 ?_
           refine pureA 6 84 ?_
           refine pureA 7 85 ?_
           refine pureA 9 87 ?_
           refine pureA 10 88 ?_
           refine takeA 2 80 rfl rfl (by rintro w' ⟨s0, s1, s2, s3⟩; go_simp; with_reducible rfl) ?_
           refine pureA 3 81 ?_
           refine takeA 4 82 rfl rfl (by rintro w' ⟨s0, s1, s2, s3⟩; go_simp; with_reducible rfl) ?_
           refine oneA 8 (some 86) (fun K hK => ?_)
           refine goes_ Tryd.func40 (by kernel_rfl) rfl #[.slice A1 l1.length c1, .int .i64 (wrap64 (x11_2 + 3))] (by rfl) rfl rfl (by (try simp only [List.map_toArray, List.map_cons, List.map_nil]); first | done | rfl | (simp only [List.length_drop, List.length_take]; rfl)) ?_
           with_reducible refine (remontoirref00_At.calls _ _ l1 (wrap64 (x11_2 + 3)) t517 _ ?side1 ?side2 A80.out).mono ?_
           (case side1 => repeat (first | exact (Kd.C_below HR1.out HB.out) | (with_reducible refine Kd.C_alloc ?_ _) | (with_reducible refine Kd.C_drewN ?_ _) | (with_reducible refine Kd.C_drew ?_)))
           (case side2 => exact HC1.out)
           rintro e w' ⟨rfl, ⟨nd, rfl⟩⟩
           refine ⟨_, rfl, ?_⟩
           refine hK.out _ _ ⟨bc BK515 0, bc BK515 1, bc BK515 2, hHeld.2.2.2⟩ (fun hHeld => ?_)
           clear hK K
           refine normA 86 ?_
           refine oneA 11 (some 89) (fun K hK => ?_)
           refine goes_ Tryd.func38 (by kernel_rfl) rfl #[.int .i64 t517, .int .i64 (wrap64 ((wrap64 (((rd_T71 l0_7 x11_2).f1.f1) - ((rd_T71 l0_7 x11_2).f1.f0))) + 1))] (by rfl) rfl rfl (by (try simp only [List.map_toArray, List.map_cons, List.map_nil]); first | done | rfl | (simp only [List.length_drop, List.length_take]; rfl)) ?_
           with_reducible refine (remontoirref00_Rest.calls t517 (wrap64 ((wrap64 (((rd_T71 l0_7 x11_2).f1.f1) - ((rd_T71 l0_7 x11_2).f1.f0))) + 1)) t518 _ A81.out).mono ?_
           rintro e w' ⟨rfl, ⟨nd, rfl⟩⟩
           refine ⟨_, rfl, ?_⟩
           refine hK.out _ _ ⟨bc BK515 0, bc BK515 1, bc BK515 2, hHeld.2.2.2⟩ (fun hHeld => ?_)
           clear hK K
           refine normA 89 ?_
           refine pureA 12 90 ?_
           refine pureA 13 14 ?_
           refine done_ (done_of HT_.out (by kernel_rfl)) ?_
           try go_wp2_with (first | ((with_reducible refine gate_callee (f := 49) rfl ?_); refine goesL_ (some 97) rfl rfl Tryd.func49 (by kernel_rfl) rfl #[.int .i64 ji82, .int .i64 ji83] rfl (by (try simp only [List.map_toArray, List.map_cons, List.map_nil]); first | done | (simp only [hji82, hji83]; rfl) | rfl | (simp only [List.length_drop, List.length_take]; rfl)) ?_; (with_reducible refine (remontoirref00_To.calls ji82 ji83 t519 t520 _ A84.out).mono ?_); rintro e w97 ⟨rfl, hb⟩; refine ⟨_, rfl, ?_⟩; replace HO_9 := Aside0.mk (Kd.R_below (rk HO_9) hb); replace HO_494006 := Aside0.mk (Kd.V_below (by (with_reducible repeat (first | apply Kd.V_alloc | apply Kd.V_drewN | apply Kd.V_drew)); exact HO_494006.out) hb); replace HO_494007 := Aside0.mk (Kd.V_below (by (with_reducible repeat (first | apply Kd.V_alloc | apply Kd.V_drewN | apply Kd.V_drew)); exact HO_494007.out) hb); replace HO_496006 := Aside0.mk (Kd.V_below (by (with_reducible repeat (first | apply Kd.V_alloc | apply Kd.V_drewN | apply Kd.V_drew)); exact HO_496006.out) hb); replace HO_496007 := Aside0.mk (Kd.R_below (rk HO_496007) hb); replace BK493 := Aside0.mk (blk_below (bk BK493) hb); replace BK494 := Aside0.mk (blk_below (bk BK494) hb); replace BK495 := Aside0.mk (blk_below (bk BK495) hb); replace BK515 := Aside0.mk (blk_below (bk BK515) hb); replace HB := Aside0.mk (below_step (bl HB) hb); (try clear hb); (try clear hb2); (try clear hk); (try clear hi); have hcz98_0 : w97.cell? ⟨gb515, 0, none⟩ = some (.int .i64 ((rd_T71 l0_7 x11_2).f0)) := bc BK515 0; have hcz98_1 : w97.cell? ⟨gb515, 1, none⟩ = some (.int .i64 ((rd_T71 l0_7 x11_2).f1.f0)) := bc BK515 1; have hcz98_2 : w97.cell? ⟨gb515, 2, none⟩ = some (.int .i64 ((rd_T71 l0_7 x11_2).f1.f1)) := bc BK515 2; have hfz98_0 := blk_frozen BK515.out 0; have hfz98_1 := blk_frozen BK515.out 1; have hfz98_2 := blk_frozen BK515.out 2; have hnb99 := NB495_494.out; have hnc99 := NB494_495.out; have hcz100_0 : w97.cell? ⟨gb495, 0, none⟩ = some (.int .i64 a0_0) := bc BK495 0; have hcz100_1 : w97.cell? ⟨gb495, 1, none⟩ = some (.int .i64 a0_1) := bc BK495 1; have hcz100_2 : w97.cell? ⟨gb495, 2, none⟩ = some (.int .i64 a0_2) := bc BK495 2; have hcz100_3 : w97.cell? ⟨gb495, 3, none⟩ = some (.int .i64 a0_3) := bc BK495 3; have hcz100_4 : w97.cell? ⟨gb495, 4, none⟩ = some (.int .i64 a0_4) := bc BK495 4; have hcz100_5 : w97.cell? ⟨gb495, 5, none⟩ = some (.int .i64 a0_5) := bc BK495 5; have hcz100_6 : w97.cell? ⟨gb495, 6, none⟩ = some (.slice A0_6 l0_6.length c0_6) := bc BK495 6; have hcz100_7 : w97.cell? ⟨gb495, 7, none⟩ = some (u496007) := bc BK495 7; have hfz100_0 := blk_frozen BK495.out 0; have hfz100_1 := blk_frozen BK495.out 1; have hfz100_2 := blk_frozen BK495.out 2; have hfz100_3 := blk_frozen BK495.out 3; have hfz100_4 := blk_frozen BK495.out 4; have hfz100_5 := blk_frozen BK495.out 5; have hfz100_6 := blk_frozen BK495.out 6; have hfz100_7 := blk_frozen BK495.out 7) | ((with_reducible refine gate_builtin (b := .append) (xs := #[.tmp 100, .tmp 102]) rfl ?_); at_builtin; refine Kd.R_append k71 (w0 := w) w.heap.size rfl (.tmp 100) (.tmp 102) 42 71 (.agg #[(.int .i64 0), (.int .i64 0), (.int .i64 0)]) 24 rfl Tryd.underlying42 info71 rfl (by decide) (by omega) u496007 x496007_2 (⟨(rd_T71 l0_7 x11_2).f0, (⟨t519, t520⟩ : S23)⟩ : S71) [.int .i64 ((rd_T71 l0_7 x11_2).f0), .int .i64 t519, .int .i64 t520] (fun k_ => (w.heap.size ≤ k_) ∧ k_ ≠ gb515) (fun _ => False) rfl (by first | (go_simp; done) | (go_simp; rfl)) ?aP (fun _ hk => hk.elim) ?aF ?aO ?aB ?aS ?aL ?_; (case aP => exact k71_mkM _ _ _ (⟨(rd_T71 l0_7 x11_2).f0, (⟨t519, t520⟩ : S23)⟩ : S71)); (case aB => exact (bl HB)); (case aF => exact (fun k_ hk => ⟨(Nat.le_trans (below_size (bl HB)) hk), Kd.freshB (g := gb515) (o := .cells #[.int .i64 ((rd_T71 l0_7 x11_2).f0), .int .i64 t519, .int .i64 t520] 71 (0, 0)) (by (with_reducible repeat (first | refine blk_drewN ?_ _ | refine blk_drew ?_ | refine blk_alloc ?_ _)); refine blk_put (cs := #[.int .i64 ((rd_T71 l0_7 x11_2).f0), .int .i64 t519, .int .i64 ((rd_T71 l0_7 x11_2).f1.f1)]) ?_ 2 _ rfl; (with_reducible repeat (first | refine blk_drewN ?_ _ | refine blk_drew ?_ | refine blk_alloc ?_ _)); refine blk_put (cs := #[.int .i64 ((rd_T71 l0_7 x11_2).f0), .int .i64 ((rd_T71 l0_7 x11_2).f1.f0), .int .i64 ((rd_T71 l0_7 x11_2).f1.f1)]) ?_ 1 _ rfl; (with_reducible repeat (first | refine blk_drewN ?_ _ | refine blk_drew ?_ | refine blk_alloc ?_ _)); exact BK515.out) k_ hk⟩)); (case aO => exact (by (with_reducible repeat (first | apply Kd.R_alloc | apply Kd.R_drewN | apply Kd.R_drew)); exact Kd.R_mono (Kd.R_far (p := ⟨gb515, 2, none⟩) (Kd.R_far (p := ⟨gb515, 1, none⟩) (Kd.R_mono HO_496007.out (fun k_ hk => (⟨hk, hk.2⟩ : _ ∧ k_ ≠ gb515))) (fun _ hk => hk.2) (.int .i64 t519)) (fun _ hk => hk.2) (.int .i64 t520)) (fun _ hk => ⟨hk.1.1, hk.1.2⟩))); (case aS => exact (below_size (bl HB))); (case aL => have := LMc85.out; omega); intro v522 w101 ho hb hg hat; rw [← Ny521.out] at ho; have n0_ := Aside0.mk (Kd.R_over' (by (with_reducible repeat (first | apply Kd.R_alloc | apply Kd.R_drewN | apply Kd.R_drew)); exact (Kd.R_mono (Kd.R_far (p := ⟨gb515, 2, none⟩) (Kd.R_far (p := ⟨gb515, 1, none⟩) (Kd.R_types HO_9.out BK515.out (by decide)) (fun _ hk => hk.2) (.int .i64 t519)) (fun _ hk => hk.2) (.int .i64 t520)) (fun _ h_ => h_.1))) (Kd.R_typed (by (with_reducible repeat (first | apply Kd.R_alloc | apply Kd.R_drewN | apply Kd.R_drew)); exact (Kd.R_mono (Kd.R_far (p := ⟨gb515, 2, none⟩) (Kd.R_far (p := ⟨gb515, 1, none⟩) (Kd.R_mono HO_496007.out (fun k_ hk => (⟨hk, hk.2⟩ : _ ∧ k_ ≠ gb515))) (fun _ hk => hk.2) (.int .i64 t519)) (fun _ hk => hk.2) (.int .i64 t520)) (fun _ h_ => h_.1)))) (by decide) hg); have n1_ := Aside0.mk (Kd.V_afterv (ok := (fun k_ => ((P0_6_ k_ ∨ P0_7_ k_) ∨ w.heap.size ≤ k_) ∧ some k_ ≠ (.slice (some ad516) x9_1.length co96 : Value).ownBlock ∧ k_ ≠ gb493 ∧ k_ ≠ gb494 ∧ k_ ≠ gb495 ∧ k_ ≠ gb515)) (by (with_reducible repeat (first | apply Kd.V_alloc | apply Kd.V_drewN | apply Kd.V_drew)); exact Kd.V_mono (Kd.V_far (p := ⟨gb515, 2, none⟩) (Kd.V_far (p := ⟨gb515, 1, none⟩) (Kd.V_mono HO_494006.out (fun k_ hk => (⟨hk, hk.2.2.2.2.2.2⟩ : _ ∧ k_ ≠ gb515))) (fun _ hk => hk.2) (.int .i64 t519)) (fun _ hk => hk.2) (.int .i64 t520)) (fun _ hk => ⟨⟨hk.1.1, ⟨hk.1.2.1, ⟨hk.1.2.2.2.1, ⟨hk.1.2.2.2.2.1, ⟨hk.1.2.2.2.2.2.1, hk.1.2.2.2.2.2.2⟩⟩⟩⟩⟩, hk.1.2.2.1⟩)) hg hat); have n2_ := Aside0.mk (Kd.V_afterv (ok := (fun k_ => ((P0_6_ k_ ∨ P0_7_ k_) ∨ w.heap.size ≤ k_) ∧ some k_ ≠ (.slice (some ad516) x9_1.length co96 : Value).ownBlock ∧ k_ ≠ gb493 ∧ k_ ≠ gb494 ∧ k_ ≠ gb495 ∧ k_ ≠ gb515)) (by (with_reducible repeat (first | apply Kd.V_alloc | apply Kd.V_drewN | apply Kd.V_drew)); exact Kd.V_mono (Kd.V_far (p := ⟨gb515, 2, none⟩) (Kd.V_far (p := ⟨gb515, 1, none⟩) (Kd.V_mono HO_494007.out (fun k_ hk => (⟨hk, hk.2.2.2.2.2.2⟩ : _ ∧ k_ ≠ gb515))) (fun _ hk => hk.2) (.int .i64 t519)) (fun _ hk => hk.2) (.int .i64 t520)) (fun _ hk => ⟨⟨hk.1.1, ⟨hk.1.2.1, ⟨hk.1.2.2.2.1, ⟨hk.1.2.2.2.2.1, ⟨hk.1.2.2.2.2.2.1, hk.1.2.2.2.2.2.2⟩⟩⟩⟩⟩, hk.1.2.2.1⟩)) hg hat); have n3_ := Aside0.mk (Kd.V_afterv (ok := (fun k_ => ((P0_6_ k_ ∨ P0_7_ k_) ∨ w.heap.size ≤ k_) ∧ some k_ ≠ (.slice (some ad516) x9_1.length co96 : Value).ownBlock ∧ k_ ≠ gb493 ∧ k_ ≠ gb494 ∧ k_ ≠ gb495 ∧ k_ ≠ gb515)) (by (with_reducible repeat (first | apply Kd.V_alloc | apply Kd.V_drewN | apply Kd.V_drew)); exact Kd.V_mono (Kd.V_far (p := ⟨gb515, 2, none⟩) (Kd.V_far (p := ⟨gb515, 1, none⟩) (Kd.V_mono HO_496006.out (fun k_ hk => (⟨hk, hk.2.2.2.2.2.2⟩ : _ ∧ k_ ≠ gb515))) (fun _ hk => hk.2) (.int .i64 t519)) (fun _ hk => hk.2) (.int .i64 t520)) (fun _ hk => ⟨⟨hk.1.1, ⟨hk.1.2.1, ⟨hk.1.2.2.2.1, ⟨hk.1.2.2.2.2.1, ⟨hk.1.2.2.2.2.2.1, hk.1.2.2.2.2.2.2⟩⟩⟩⟩⟩, hk.1.2.2.1⟩)) hg hat); have n4_ := Aside0.mk (blk_grown (bk BK493) hg (Kd.R_ne HO_496007.out BK493.out (by decide))); have n5_ := Aside0.mk (blk_grown (bk BK494) hg (Kd.R_ne HO_496007.out BK494.out (by decide))); have n6_ := Aside0.mk (blk_grown (bk BK495) hg (Kd.R_ne HO_496007.out BK495.out (by decide))); have n7_ := Aside0.mk (blk_grown (g := gb515) (o := .cells #[.int .i64 ((rd_T71 l0_7 x11_2).f0), .int .i64 t519, .int .i64 t520] 71 (0, 0)) (by (with_reducible repeat (first | refine blk_drewN ?_ _ | refine blk_drew ?_ | refine blk_alloc ?_ _)); refine blk_put (cs := #[.int .i64 ((rd_T71 l0_7 x11_2).f0), .int .i64 t519, .int .i64 ((rd_T71 l0_7 x11_2).f1.f1)]) ?_ 2 _ rfl; (with_reducible repeat (first | refine blk_drewN ?_ _ | refine blk_drew ?_ | refine blk_alloc ?_ _)); refine blk_put (cs := #[.int .i64 ((rd_T71 l0_7 x11_2).f0), .int .i64 ((rd_T71 l0_7 x11_2).f1.f0), .int .i64 ((rd_T71 l0_7 x11_2).f1.f1)]) ?_ 1 _ rfl; (with_reducible repeat (first | refine blk_drewN ?_ _ | refine blk_drew ?_ | refine blk_alloc ?_ _)); exact BK515.out) hg (Kd.R_away HO_496007.out (fun _ hk => hk.2))); have n8_ := Aside0.mk (hb); have n9_ := Aside0.mk (ho); clear HO_9; clear HO_494006; clear HO_494007; clear HO_496006; clear BK493; clear BK494; clear BK495; clear BK515; clear HB; clear HO_496007; have HO_9 := n0_; have HO_494006 := n1_; have HO_494007 := n2_; have HO_496006 := n3_; have BK493 := n4_; have BK494 := n5_; have BK495 := n6_; have BK515 := n7_; have HB := n8_; have HO523 := n9_; clear n0_ n1_ n2_ n3_ n4_ n5_ n6_ n7_ n8_ n9_; clear ho hb hg hat; obtain ⟨Ao102, co102, eo102⟩ := Kd.R_slice HO523.out; subst eo102; have hcz103_0 : w101.cell? ⟨gb495, 0, none⟩ = some (.int .i64 a0_0) := bc BK495 0; have hcz103_1 : w101.cell? ⟨gb495, 1, none⟩ = some (.int .i64 a0_1) := bc BK495 1; have hcz103_2 : w101.cell? ⟨gb495, 2, none⟩ = some (.int .i64 a0_2) := bc BK495 2; have hcz103_3 : w101.cell? ⟨gb495, 3, none⟩ = some (.int .i64 a0_3) := bc BK495 3; have hcz103_4 : w101.cell? ⟨gb495, 4, none⟩ = some (.int .i64 a0_4) := bc BK495 4; have hcz103_5 : w101.cell? ⟨gb495, 5, none⟩ = some (.int .i64 a0_5) := bc BK495 5; have hcz103_6 : w101.cell? ⟨gb495, 6, none⟩ = some (.slice A0_6 l0_6.length c0_6) := bc BK495 6; have hcz103_7 : w101.cell? ⟨gb495, 7, none⟩ = some (u496007) := bc BK495 7; have hfz103_0 := blk_frozen BK495.out 0; have hfz103_1 := blk_frozen BK495.out 1; have hfz103_2 := blk_frozen BK495.out 2; have hfz103_3 := blk_frozen BK495.out 3; have hfz103_4 := blk_frozen BK495.out 4; have hfz103_5 := blk_frozen BK495.out 5; have hfz103_6 := blk_frozen BK495.out 6; have hfz103_7 := blk_frozen BK495.out 7))
           go_roundg k2
           case measure => have := HK1.out; have := HK2.out; omega
           case rel => exact ⟨(wrap64 (x11_2 + 1)), (y521), (.slice Ao102 y521.length co102), (by first | rfl | (simp; done) | (simp [*]; done)), H', ⟨by have := HK1.out; have := HK2.out; omega⟩, ⟨by (with_reducible repeat (first | apply Kd.R_alloc | apply Kd.R_drewN | apply Kd.R_drew)); exact Kd.R_mono (Kd.R_far (p := ⟨gb495, 7, none⟩) (Kd.R_types HO_9.out BK495.out (by decide)) (fun _ hk => hk.2) (.slice Ao102 y521.length co102)) (fun _ hk => hk.1)⟩, ⟨by (with_reducible repeat (first | apply Kd.V_alloc | apply Kd.V_drewN | apply Kd.V_drew)); exact Kd.V_mono (Kd.V_far (p := ⟨gb495, 7, none⟩) (Kd.V_mono HO_494006.out (fun k_ hk => (⟨hk, hk.1.2.2.2.2.1⟩ : _ ∧ k_ ≠ gb495))) (fun _ hk => hk.2) (.slice Ao102 y521.length co102)) (fun _ hk => ⟨hk.1.1.1, ⟨hk.1.1.2.1, ⟨hk.1.2, ⟨hk.1.1.2.2.1, ⟨hk.1.1.2.2.2.1, hk.1.1.2.2.2.2.1⟩⟩⟩⟩⟩)⟩, ⟨by (with_reducible repeat (first | apply Kd.V_alloc | apply Kd.V_drewN | apply Kd.V_drew)); exact Kd.V_mono (Kd.V_far (p := ⟨gb495, 7, none⟩) (Kd.V_mono HO_494007.out (fun k_ hk => (⟨hk, hk.1.2.2.2.2.1⟩ : _ ∧ k_ ≠ gb495))) (fun _ hk => hk.2) (.slice Ao102 y521.length co102)) (fun _ hk => ⟨hk.1.1.1, ⟨hk.1.1.2.1, ⟨hk.1.2, ⟨hk.1.1.2.2.1, ⟨hk.1.1.2.2.2.1, hk.1.1.2.2.2.2.1⟩⟩⟩⟩⟩)⟩, ⟨by (with_reducible repeat (first | apply Kd.V_alloc | apply Kd.V_drewN | apply Kd.V_drew)); exact Kd.V_mono (Kd.V_far (p := ⟨gb495, 7, none⟩) (Kd.V_mono HO_496006.out (fun k_ hk => (⟨hk, hk.1.2.2.2.2.1⟩ : _ ∧ k_ ≠ gb495))) (fun _ hk => hk.2) (.slice Ao102 y521.length co102)) (fun _ hk => ⟨hk.1.1.1, ⟨hk.1.1.2.1, ⟨hk.1.2, ⟨hk.1.1.2.2.1, ⟨hk.1.1.2.2.2.1, hk.1.1.2.2.2.2.1⟩⟩⟩⟩⟩)⟩, ⟨by (with_reducible repeat (first | apply Kd.R_alloc | apply Kd.R_drewN | apply Kd.R_drew)); exact Kd.R_mono (Kd.R_far (p := ⟨gb495, 7, none⟩) (Kd.R_types HO523.out BK495.out (by decide)) (fun _ hk => hk.2) (.slice Ao102 y521.length co102)) (fun _ hk => hk.1.1)⟩, ⟨bk BK493⟩, ⟨bk BK494⟩, ⟨by (with_reducible repeat (first | refine blk_drewN ?_ _ | refine blk_drew ?_ | refine blk_alloc ?_ _)); refine blk_put (cs := #[.int .i64 a0_0, .int .i64 a0_1, .int .i64 a0_2, .int .i64 a0_3, .int .i64 a0_4, .int .i64 a0_5, .slice A0_6 l0_6.length c0_6, u496007]) ?_ 7 _ rfl; (with_reducible repeat (first | refine blk_drewN ?_ _ | refine blk_drew ?_ | refine blk_alloc ?_ _)); exact BK495.out⟩, ⟨bl HB⟩⟩
          ·
           rw [if_neg c85] at H
           exact absurd H (by simp)
         ·
          rw [if_neg c79] at H
          exact absurd H (by simp)
        ·
         rw [if_neg c78] at H
         exact absurd H (by simp)
       ·
        rw [if_neg c77] at H
        exact absurd H (by simp)
      ·
       rw [if_neg c76] at H
       have c76b0 : decide (x11_2 < (l0_7.length : Int)) = false := decide_eq_false c76
       clear c76
       simp only [Option.some.injEq, Prod.mk.injEq] at H
       obtain ⟨rfl, rfl, rfl, rfl, rfl, rfl, rfl, rfl, rfl, rfl⟩ := H
       have hnb104 := NB493_494.out
       have hnc104 := NB494_493.out
       have hnb105 := NB493_495.out
       have hnc105 := NB495_493.out
       have hcz106_0 : wr.cell? ⟨gb493, 0, none⟩ = some (.int .i64 a0_0) := bc BK493 0
       have hcz106_1 : wr.cell? ⟨gb493, 1, none⟩ = some (.int .i64 a0_1) := bc BK493 1
       have hcz106_2 : wr.cell? ⟨gb493, 2, none⟩ = some (.int .i64 a0_2) := bc BK493 2
       have hcz106_3 : wr.cell? ⟨gb493, 3, none⟩ = some (.int .i64 a0_3) := bc BK493 3
       have hcz106_4 : wr.cell? ⟨gb493, 4, none⟩ = some (.int .i64 a0_4) := bc BK493 4
       have hcz106_5 : wr.cell? ⟨gb493, 5, none⟩ = some (.int .i64 a0_5) := bc BK493 5
       have hcz106_6 : wr.cell? ⟨gb493, 6, none⟩ = some (.slice A0_6 l0_6.length c0_6) := bc BK493 6
       have hcz106_7 : wr.cell? ⟨gb493, 7, none⟩ = some (.slice A0_7 l0_7.length c0_7) := bc BK493 7
       have hfz106_0 := blk_frozen BK493.out 0
       have hfz106_1 := blk_frozen BK493.out 1
       have hfz106_2 := blk_frozen BK493.out 2
       have hfz106_3 := blk_frozen BK493.out 3
       have hfz106_4 := blk_frozen BK493.out 4
       have hfz106_5 := blk_frozen BK493.out 5
       have hfz106_6 := blk_frozen BK493.out 6
       have hfz106_7 := blk_frozen BK493.out 7
       try go_wp2
       replace HO_9 := Aside0.mk (Kd.R_drew HO_9.out)
       replace HO_494006 := Aside0.mk (Kd.V_drew HO_494006.out)
       replace HO_494007 := Aside0.mk (Kd.V_drew HO_494007.out)
       replace HO_496006 := Aside0.mk (Kd.V_drew HO_496006.out)
       replace HO_496007 := Aside0.mk (Kd.R_drew HO_496007.out)
       replace BK493 := Aside0.mk (blk_drew BK493.out)
       replace BK494 := Aside0.mk (blk_drew BK494.out)
       replace BK495 := Aside0.mk (blk_drew BK495.out)
       replace HB := Aside0.mk (below_drew1 HB.out)
       obtain ⟨Ao115, co115, eo115⟩ := Kd.R_slice HO_496007.out
       (first | subst eo115 | (injection eo115 with f1_ f2_ f3_; have f4_ := f1_.symm; have f5_ := f3_.symm; clear f1_ f2_ f3_; subst f4_; subst f5_))
       refine start_ (n := 5) (S := fun w' => w'.cell? ⟨gb495, 0, none⟩ = some (.int .i64 a0_0) ∧ w'.cell? ⟨gb495, 1, none⟩ = some (.int .i64 a0_1) ∧ w'.cell? ⟨gb495, 2, none⟩ = some (.int .i64 a0_2) ∧ w'.cell? ⟨gb495, 3, none⟩ = some (.int .i64 a0_3) ∧ w'.cell? ⟨gb495, 4, none⟩ = some (.int .i64 a0_4) ∧ w'.cell? ⟨gb495, 5, none⟩ = some (.int .i64 a0_5) ∧ w'.cell? ⟨gb495, 6, none⟩ = some (.slice A0_6 l0_6.length c0_6) ∧ w'.cell? ⟨gb495, 7, none⟩ = some (.slice Ao115 x496007_2.length co115)) (ds := []) #[false, false, false, false, false] (by kernel_rfl) rfl rfl ⟨bc BK495 0, bc BK495 1, bc BK495 2, bc BK495 3, bc BK495 4, bc BK495 5, bc BK495 6, bc BK495 7⟩ (fun hHeld => ?_)
       generalize wr.drew = w107 at HO_9 HO_494006 HO_494007 HO_496006 HO_496007 BK493 BK494 BK495 HB hHeld ⊢
       refine pure_ (i := 0) (N := some 105) (v := ?_) (a' := ?_) #[true, false, false, false, false] rfl rfl (by kernel_rfl) (fun _ _ _ h => h) (Or.inl ⟨by rfl, ?_⟩) ?_ ?_
       rotate_left
       ·
        intro w'
        go_simp
        with_reducible rfl
       rotate_left
       ·
        simp only [Act.put, List.setIfInBounds_toArray, List.set_cons_zero, List.set_cons_succ, i64_w, i32_w]
        rfl
       refine pure_ (i := 2) (N := some 4) (v := ?_) (a' := ?_) #[true, false, true, false, false] rfl rfl (by kernel_rfl) (fun _ _ _ h => h) (Or.inl ⟨by rfl, ?_⟩) ?_ ?_
       rotate_left
       ·
        intro w'
        go_simp
        with_reducible rfl
       rotate_left
       ·
        simp only [Act.put, List.setIfInBounds_toArray, List.set_cons_zero, List.set_cons_succ, i64_w, i32_w]
        rfl
       refine take_ (i := 1) (N := some 106) (v := ?_) (a' := ?_) #[true, true, true, false, false] rfl rfl (by kernel_rfl) (fun _ _ _ h => h) (Or.inl ⟨by rfl, ?_⟩) hHeld ?_ ?_
       rotate_left
       ·
        rintro w' ⟨s0, s1, s2, s3, s4, s5, s6, s7⟩
        go_simp
        with_reducible rfl
       rotate_left
       ·
        simp only [Act.put, List.setIfInBounds_toArray, List.set_cons_zero, List.set_cons_succ, i64_w, i32_w]
        rfl
       refine one_ (i := 3) (N := none) #[true, true, true, true, false] rfl rfl (by kernel_rfl) (by decide) (fun K hK => ?_)
       have hs108 : w107.cell? ⟨gb494, 0, none⟩ = some (.int .i64 x495000_1) := bc BK494 0
       have hfs108 := blk_frozen BK494.out 0
       have hns108_0 := NB493_494.out
       have hns108_2 := NB495_494.out
       have hms108_0 := NB494_493.out
       have hms108_2 := NB494_495.out
       have hs109 : w107.cell? ⟨gb494, 1, none⟩ = some (.int .i64 x495001_1) := bc BK494 1
       have hfs109 := blk_frozen BK494.out 1
       have hns109_0 := NB493_494.out
       have hns109_2 := NB495_494.out
       have hms109_0 := NB494_493.out
       have hms109_2 := NB494_495.out
       have hs110 : w107.cell? ⟨gb494, 2, none⟩ = some (.int .i64 x495002_1) := bc BK494 2
       have hfs110 := blk_frozen BK494.out 2
       have hns110_0 := NB493_494.out
       have hns110_2 := NB495_494.out
       have hms110_0 := NB494_493.out
       have hms110_2 := NB494_495.out
       have hs111 : w107.cell? ⟨gb494, 3, none⟩ = some (.int .i64 x495003_1) := bc BK494 3
       have hfs111 := blk_frozen BK494.out 3
       have hns111_0 := NB493_494.out
       have hns111_2 := NB495_494.out
       have hms111_0 := NB494_493.out
       have hms111_2 := NB494_495.out
       have hs112 : w107.cell? ⟨gb494, 4, none⟩ = some (.int .i64 x495004_1) := bc BK494 4
       have hfs112 := blk_frozen BK494.out 4
       have hns112_0 := NB493_494.out
       have hns112_2 := NB495_494.out
       have hms112_0 := NB494_493.out
       have hms112_2 := NB494_495.out
       have hs113 : w107.cell? ⟨gb494, 5, none⟩ = some (.int .i64 x495005_1) := bc BK494 5
       have hfs113 := blk_frozen BK494.out 5
       have hns113_0 := NB493_494.out
       have hns113_2 := NB495_494.out
       have hms113_0 := NB494_493.out
       have hms113_2 := NB494_495.out
       have hs114 : w107.cell? ⟨gb494, 6, none⟩ = some (.slice none 0 0) := bc BK494 6
       have hfs114 := blk_frozen BK494.out 6
       have hns114_0 := NB493_494.out
       have hns114_2 := NB495_494.out
       have hms114_0 := NB494_493.out
       have hms114_2 := NB494_495.out
       have hs116 : w107.cell? ⟨gb494, 7, none⟩ = some (.slice none 0 0) := bc BK494 7
       have hfs116 := blk_frozen BK494.out 7
       have hns116_0 := NB493_494.out
       have hns116_2 := NB495_494.out
       have hms116_0 := NB494_493.out
       have hms116_2 := NB494_495.out
       refine skip_ (w1 := ?_) (by rfl) rfl ?_ ?_
       rotate_left
       ·
        go_simp
        rfl
       refine hK.out _ _ ⟨((cell_far (p := ⟨gb494, _, none⟩) NB495_494.out _).trans (((cell_far (p := ⟨gb494, _, none⟩) NB495_494.out _).trans (((cell_far (p := ⟨gb494, _, none⟩) NB495_494.out _).trans (((cell_far (p := ⟨gb494, _, none⟩) NB495_494.out _).trans (((cell_far (p := ⟨gb494, _, none⟩) NB495_494.out _).trans (((cell_far (p := ⟨gb494, _, none⟩) NB495_494.out _).trans (((cell_far (p := ⟨gb494, _, none⟩) NB495_494.out _).trans (((cell_far (p := ⟨gb494, _, none⟩) NB495_494.out _).trans (hHeld.1)))))))))))))))), ((cell_far (p := ⟨gb494, _, none⟩) NB495_494.out _).trans (((cell_far (p := ⟨gb494, _, none⟩) NB495_494.out _).trans (((cell_far (p := ⟨gb494, _, none⟩) NB495_494.out _).trans (((cell_far (p := ⟨gb494, _, none⟩) NB495_494.out _).trans (((cell_far (p := ⟨gb494, _, none⟩) NB495_494.out _).trans (((cell_far (p := ⟨gb494, _, none⟩) NB495_494.out _).trans (((cell_far (p := ⟨gb494, _, none⟩) NB495_494.out _).trans (((cell_far (p := ⟨gb494, _, none⟩) NB495_494.out _).trans (hHeld.2.1)))))))))))))))), ((cell_far (p := ⟨gb494, _, none⟩) NB495_494.out _).trans (((cell_far (p := ⟨gb494, _, none⟩) NB495_494.out _).trans (((cell_far (p := ⟨gb494, _, none⟩) NB495_494.out _).trans (((cell_far (p := ⟨gb494, _, none⟩) NB495_494.out _).trans (((cell_far (p := ⟨gb494, _, none⟩) NB495_494.out _).trans (((cell_far (p := ⟨gb494, _, none⟩) NB495_494.out _).trans (((cell_far (p := ⟨gb494, _, none⟩) NB495_494.out _).trans (((cell_far (p := ⟨gb494, _, none⟩) NB495_494.out _).trans (hHeld.2.2.1)))))))))))))))), ((cell_far (p := ⟨gb494, _, none⟩) NB495_494.out _).trans (((cell_far (p := ⟨gb494, _, none⟩) NB495_494.out _).trans (((cell_far (p := ⟨gb494, _, none⟩) NB495_494.out _).trans (((cell_far (p := ⟨gb494, _, none⟩) NB495_494.out _).trans (((cell_far (p := ⟨gb494, _, none⟩) NB495_494.out _).trans (((cell_far (p := ⟨gb494, _, none⟩) NB495_494.out _).trans (((cell_far (p := ⟨gb494, _, none⟩) NB495_494.out _).trans (((cell_far (p := ⟨gb494, _, none⟩) NB495_494.out _).trans (hHeld.2.2.2.1)))))))))))))))), ((cell_far (p := ⟨gb494, _, none⟩) NB495_494.out _).trans (((cell_far (p := ⟨gb494, _, none⟩) NB495_494.out _).trans (((cell_far (p := ⟨gb494, _, none⟩) NB495_494.out _).trans (((cell_far (p := ⟨gb494, _, none⟩) NB495_494.out _).trans (((cell_far (p := ⟨gb494, _, none⟩) NB495_494.out _).trans (((cell_far (p := ⟨gb494, _, none⟩) NB495_494.out _).trans (((cell_far (p := ⟨gb494, _, none⟩) NB495_494.out _).trans (((cell_far (p := ⟨gb494, _, none⟩) NB495_494.out _).trans (hHeld.2.2.2.2.1)))))))))))))))), ((cell_far (p := ⟨gb494, _, none⟩) NB495_494.out _).trans (((cell_far (p := ⟨gb494, _, none⟩) NB495_494.out _).trans (((cell_far (p := ⟨gb494, _, none⟩) NB495_494.out _).trans (((cell_far (p := ⟨gb494, _, none⟩) NB495_494.out _).trans (((cell_far (p := ⟨gb494, _, none⟩) NB495_494.out _).trans (((cell_far (p := ⟨gb494, _, none⟩) NB495_494.out _).trans (((cell_far (p := ⟨gb494, _, none⟩) NB495_494.out _).trans (((cell_far (p := ⟨gb494, _, none⟩) NB495_494.out _).trans (hHeld.2.2.2.2.2.1)))))))))))))))), ((cell_far (p := ⟨gb494, _, none⟩) NB495_494.out _).trans (((cell_far (p := ⟨gb494, _, none⟩) NB495_494.out _).trans (((cell_far (p := ⟨gb494, _, none⟩) NB495_494.out _).trans (((cell_far (p := ⟨gb494, _, none⟩) NB495_494.out _).trans (((cell_far (p := ⟨gb494, _, none⟩) NB495_494.out _).trans (((cell_far (p := ⟨gb494, _, none⟩) NB495_494.out _).trans (((cell_far (p := ⟨gb494, _, none⟩) NB495_494.out _).trans (((cell_far (p := ⟨gb494, _, none⟩) NB495_494.out _).trans (hHeld.2.2.2.2.2.2.1)))))))))))))))), ((cell_far (p := ⟨gb494, _, none⟩) NB495_494.out _).trans (((cell_far (p := ⟨gb494, _, none⟩) NB495_494.out _).trans (((cell_far (p := ⟨gb494, _, none⟩) NB495_494.out _).trans (((cell_far (p := ⟨gb494, _, none⟩) NB495_494.out _).trans (((cell_far (p := ⟨gb494, _, none⟩) NB495_494.out _).trans (((cell_far (p := ⟨gb494, _, none⟩) NB495_494.out _).trans (((cell_far (p := ⟨gb494, _, none⟩) NB495_494.out _).trans (((cell_far (p := ⟨gb494, _, none⟩) NB495_494.out _).trans (hHeld.2.2.2.2.2.2.2))))))))))))))))⟩ (fun hHeld => ?_)
       clear hK K
       refine pure_ (i := 4) (N := some 6) (v := ?_) (a' := ?_) #[true, true, true, true, true] rfl rfl (by kernel_rfl) (fun _ _ _ h => h) (Or.inl ⟨by rfl, ?_⟩) ?_ ?_
       rotate_left
       ·
        intro w'
        go_simp
        with_reducible rfl
       rotate_left
       ·
        simp only [Act.put, List.setIfInBounds_toArray, List.set_cons_zero, List.set_cons_succ, i64_w, i32_w]
        rfl
       refine done_ (by kernel_rfl) ?_
       try go_wp2
       refine bodyPost_ret (results_list (rs := [.tmp 4, .cell 5 44, .tmp 6]) rfl (by simp) (.tmp (.cell gb494 44 #[.int .i64 a0_0, .int .i64 a0_1, .int .i64 a0_2, .int .i64 a0_3, .int .i64 a0_4, .int .i64 a0_5, .slice A0_6 l0_6.length c0_6, .slice Ao115 x496007_2.length co115] (0, 0) _ rfl (by (with_reducible repeat (first | refine blk_drewN ?_ _ | refine blk_drew ?_ | refine blk_alloc ?_ _)); refine blk_put (cs := #[.int .i64 a0_0, .int .i64 a0_1, .int .i64 a0_2, .int .i64 a0_3, .int .i64 a0_4, .int .i64 a0_5, .slice A0_6 l0_6.length c0_6, .slice none 0 0]) ?_ 7 _ rfl; (with_reducible repeat (first | refine blk_drewN ?_ _ | refine blk_drew ?_ | refine blk_alloc ?_ _)); refine blk_put (cs := #[.int .i64 a0_0, .int .i64 a0_1, .int .i64 a0_2, .int .i64 a0_3, .int .i64 a0_4, .int .i64 a0_5, .slice none 0 0, .slice none 0 0]) ?_ 6 _ rfl; (with_reducible repeat (first | refine blk_drewN ?_ _ | refine blk_drew ?_ | refine blk_alloc ?_ _)); refine blk_put (cs := #[.int .i64 a0_0, .int .i64 a0_1, .int .i64 a0_2, .int .i64 a0_3, .int .i64 a0_4, .int .i64 x495005_1, .slice none 0 0, .slice none 0 0]) ?_ 5 _ rfl; (with_reducible repeat (first | refine blk_drewN ?_ _ | refine blk_drew ?_ | refine blk_alloc ?_ _)); refine blk_put (cs := #[.int .i64 a0_0, .int .i64 a0_1, .int .i64 a0_2, .int .i64 a0_3, .int .i64 x495004_1, .int .i64 x495005_1, .slice none 0 0, .slice none 0 0]) ?_ 4 _ rfl; (with_reducible repeat (first | refine blk_drewN ?_ _ | refine blk_drew ?_ | refine blk_alloc ?_ _)); refine blk_put (cs := #[.int .i64 a0_0, .int .i64 a0_1, .int .i64 a0_2, .int .i64 x495003_1, .int .i64 x495004_1, .int .i64 x495005_1, .slice none 0 0, .slice none 0 0]) ?_ 3 _ rfl; (with_reducible repeat (first | refine blk_drewN ?_ _ | refine blk_drew ?_ | refine blk_alloc ?_ _)); refine blk_put (cs := #[.int .i64 a0_0, .int .i64 a0_1, .int .i64 x495002_1, .int .i64 x495003_1, .int .i64 x495004_1, .int .i64 x495005_1, .slice none 0 0, .slice none 0 0]) ?_ 2 _ rfl; (with_reducible repeat (first | refine blk_drewN ?_ _ | refine blk_drew ?_ | refine blk_alloc ?_ _)); refine blk_put (cs := #[.int .i64 a0_0, .int .i64 x495001_1, .int .i64 x495002_1, .int .i64 x495003_1, .int .i64 x495004_1, .int .i64 x495005_1, .slice none 0 0, .slice none 0 0]) ?_ 1 _ rfl; (with_reducible repeat (first | refine blk_drewN ?_ _ | refine blk_drew ?_ | refine blk_alloc ?_ _)); refine blk_put (cs := #[.int .i64 x495000_1, .int .i64 x495001_1, .int .i64 x495002_1, .int .i64 x495003_1, .int .i64 x495004_1, .int .i64 x495005_1, .slice none 0 0, .slice none 0 0]) ?_ 0 _ rfl; (with_reducible repeat (first | refine blk_drewN ?_ _ | refine blk_drew ?_ | refine blk_alloc ?_ _)); exact BK494.out) Tryd.underlying44 rfl (by kernel_rfl) (.tmp .nil)))) rfl ?_
       exact ⟨_, _, _, by first | rfl | (simp [errW_none, errW_some] <;> rfl) | (simp [*, errW_none, errW_some] <;> rfl), by (with_reducible repeat (first | apply Kd.R_alloc | apply Kd.R_drewN | apply Kd.R_drew)); exact Kd.R_mono (Kd.R_far (p := ⟨gb494, 7, none⟩) (Kd.R_far (p := ⟨gb494, 6, none⟩) (Kd.R_far (p := ⟨gb494, 5, none⟩) (Kd.R_far (p := ⟨gb494, 4, none⟩) (Kd.R_far (p := ⟨gb494, 3, none⟩) (Kd.R_far (p := ⟨gb494, 2, none⟩) (Kd.R_far (p := ⟨gb494, 1, none⟩) (Kd.R_far (p := ⟨gb494, 0, none⟩) (Kd.R_types HO_9.out BK494.out (by decide)) (fun _ hk => hk.2) (.int .i64 a0_0)) (fun _ hk => hk.2) (.int .i64 a0_1)) (fun _ hk => hk.2) (.int .i64 a0_2)) (fun _ hk => hk.2) (.int .i64 a0_3)) (fun _ hk => hk.2) (.int .i64 a0_4)) (fun _ hk => hk.2) (.int .i64 a0_5)) (fun _ hk => hk.2) (.slice A0_6 l0_6.length c0_6)) (fun _ hk => hk.2) (.slice Ao115 x496007_2.length co115)) (fun _ hk => hk.1), by (with_reducible repeat (first | apply Kd.V_alloc | apply Kd.V_drewN | apply Kd.V_drew)); exact Kd.V_mono (Kd.V_far (p := ⟨gb494, 7, none⟩) (Kd.V_far (p := ⟨gb494, 6, none⟩) (Kd.V_far (p := ⟨gb494, 5, none⟩) (Kd.V_far (p := ⟨gb494, 4, none⟩) (Kd.V_far (p := ⟨gb494, 3, none⟩) (Kd.V_far (p := ⟨gb494, 2, none⟩) (Kd.V_far (p := ⟨gb494, 1, none⟩) (Kd.V_far (p := ⟨gb494, 0, none⟩) (Kd.V_mono HO_496006.out (fun k_ hk => (⟨hk, hk.2.2.2.2.1⟩ : _ ∧ k_ ≠ gb494))) (fun _ hk => hk.2) (.int .i64 a0_0)) (fun _ hk => hk.2) (.int .i64 a0_1)) (fun _ hk => hk.2) (.int .i64 a0_2)) (fun _ hk => hk.2) (.int .i64 a0_3)) (fun _ hk => hk.2) (.int .i64 a0_4)) (fun _ hk => hk.2) (.int .i64 a0_5)) (fun _ hk => hk.2) (.slice A0_6 l0_6.length c0_6)) (fun _ hk => hk.2) (.slice Ao115 x496007_2.length co115)) (fun _ hk => ⟨hk.1.1, hk.1.2.1⟩), Kd.V_mono (Kd.R_V (by (with_reducible repeat (first | apply Kd.R_alloc | apply Kd.R_drewN | apply Kd.R_drew)); exact Kd.R_mono (ok' := fun k_ => w.heap.size ≤ k_ ∧ some k_ ≠ (u9 : Value).ownBlock) (Kd.R_far (p := ⟨gb494, 7, none⟩) (Kd.R_far (p := ⟨gb494, 6, none⟩) (Kd.R_far (p := ⟨gb494, 5, none⟩) (Kd.R_far (p := ⟨gb494, 4, none⟩) (Kd.R_far (p := ⟨gb494, 3, none⟩) (Kd.R_far (p := ⟨gb494, 2, none⟩) (Kd.R_far (p := ⟨gb494, 1, none⟩) (Kd.R_far (p := ⟨gb494, 0, none⟩) (Kd.R_types (Kd.R_apart' HO_496007.out (Kd.R_typed HO_9.out) (by decide)) BK494.out (by decide)) (fun _ hk => hk.2) (.int .i64 a0_0)) (fun _ hk => hk.2) (.int .i64 a0_1)) (fun _ hk => hk.2) (.int .i64 a0_2)) (fun _ hk => hk.2) (.int .i64 a0_3)) (fun _ hk => hk.2) (.int .i64 a0_4)) (fun _ hk => hk.2) (.int .i64 a0_5)) (fun _ hk => hk.2) (.slice A0_6 l0_6.length c0_6)) (fun _ hk => hk.2) (.slice Ao115 x496007_2.length co115)) (fun _ hk => ⟨hk.1.1, hk.1.2⟩))) (fun k_ hk => by first | exact ⟨(.inr (hk.1)), hk.2⟩ | exact (.inr (hk))), by repeat (first | (with_reducible first | exact HB.out | apply below_alloc | apply pw_below_drewN | apply below_drew1 | refine below_set ?_ GE493.out | refine below_set ?_ GE494.out | refine below_set ?_ GE495.out) | exact HB.out)⟩

end Go.Proofs.TrydX.X
end
