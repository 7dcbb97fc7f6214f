/- PROVED: ScaleMoreCardSaid, for every input, where the listed variable reads as the program's text lays it. Part 5 of 6: of this session; merged by wip/tools/mkClaim.py. -/
import Derived.Test.YtidnopmjhhmedaaDoorMMoreb
import Derived.Test.YtidnopmjhhmedaaDoorMMored
import Derived.Test.YtidnopmjhhmedaaDoorMMorec
import Derived.Deep.MidRow
section
-- Written by wip/tools/pr.py (a program of this repo over the kit's print.py).
namespace Go.Proofs.TrydX.X
open Go.RowKit Go.Proofs.YtidnopmjhhmedaaDoorW.PrintWords Go.Proofs.YtidnopmjhhmedaaDoorW.PrintLast Go.Proofs.YtidnopmjhhmedaaDoorW.PrintMore
attribute [local go_sem] max2_int min2_int max_two min_two max_three min_three max_four min_four   -- for this text's walks alone
set_option linter.unusedVariables false
set_option linter.unusedSimpArgs false

attribute [local go_sem high] eqA23
theorem exec_store8 {P : Program} {o : Oper} {a : Act} {w : World} {t t' : TypeId} {ta tv : Operand} {b : Nat} {cs : Array Value} {v0 v1 v2 v3 v4 v5 v6 v7 : Value}
    (hB : w.heap[b]? = some (.cells cs t' (0, 0))) (hop : o.op = .store t ta tv) (ha : a.eval ta = .pointer (some ⟨b, 0, none⟩)) (hv : a.eval tv = .agg #[v0, v1, v2, v3, v4, v5, v6, v7]) (hc : cs.size = 8)
    (hi : (P.info? t).map (·.size) = some 8) (h0 : v0.oneCell' = true) (h1 : v1.oneCell' = true) (h2 : v2.oneCell' = true) (h3 : v3.oneCell' = true) (h4 : v4.oneCell' = true) (h5 : v5.oneCell' = true) (h6 : v6.oneCell' = true) (h7 : v7.oneCell' = true) :
    (execOp a.eval o).run P w = .ok .skip ((((((((w.setCell ⟨b, 0, none⟩ v0).setCell ⟨b, 1, none⟩ v1).setCell ⟨b, 2, none⟩ v2).setCell ⟨b, 3, none⟩ v3).setCell ⟨b, 4, none⟩ v4).setCell ⟨b, 5, none⟩ v5).setCell ⟨b, 6, none⟩ v6).setCell ⟨b, 7, none⟩ v7) := by
  have hs := run_storeAt_mid (P := P) w b 0 t #[v0, v1, v2, v3, v4, v5, v6, v7] (fun j hj => by
    have hj8 : j < cs.size := by rw [hc]; exact hj
    rw [Nat.zero_add]
    exact ⟨by rw [blk_cell hB j]; simp [hj8], blk_frozen hB j⟩) (by simpa using hi) (by simp [h0, h1, h2, h3, h4, h5, h6, h7])
  simp only [execOp, hop, ha, hv, Sem.run_bind, hs, Result.andThen_ok, Sem.run_pure]
  rfl

/-! ### remontoirlaw04_ScaleMore: function 13 -/
mutual
def remontoirlaw04_ScaleMore.j0 : Nat → Int → Bool → Int → Int → Int → Int → Int → Int → List Int → List (S71) → Int → Int → Int → Option (Bool)
 | 0, _, _, _, _, _, _, _, _, _, _, _, _, _ => none
 | k + 1, x2, x27, x608000, x608001, x608002, x608003, x608004, x608005, x608006, x608007, x609000, x609001, x609002 => if x27 = true then ((remontoirlaw04_works.f).bind fun t610 => (some t610)) else ((remontoirref00_Rest.f x2 x608005).bind fun t611 => ((some (([] : List (S71)) : List (S71))).bind fun y614 => (if y614.length + x608007.length < 5864062014805 then ((some (y614 ++ x608007 : List (S71))).bind fun y617 => ((some (([(⟨x609000, (⟨x609001, x609002⟩ : S23)⟩ : S71)] : List (S71)) : List (S71))).bind fun y620 => (if y617.length + y620.length < 5864062014805 then (remontoirlaw04_ScaleMore.l0 k t611 (wrap64 ((x608007.length : Int) - 1)) x608000 x608001 x608002 x608003 x608004 x608005 x608006 x608007 x608000 x608001 x608002 x608003 x608004 x608005 x608006 (y617 ++ y620) x608000 x608001 x608002 x608003 x608004 x608005 x608006 ([] : List (S71))) else (none)))) else (none))))
def remontoirlaw04_ScaleMore.l0 : Nat → Int → Int → Int → Int → Int → Int → Int → Int → List Int → List (S71) → Int → Int → Int → Int → Int → Int → List Int → List (S71) → Int → Int → Int → Int → Int → Int → List Int → List (S71) → Option (Bool)
 | 0, _, _, _, _, _, _, _, _, _, _, _, _, _, _, _, _, _, _, _, _, _, _, _, _, _, _ => none
 | k + 1, x7, x10, x608000, x608001, x608002, x608003, x608004, x608005, x608006, x608007, x613000, x613001, x613002, x613003, x613004, x613005, x613006, x613007, x614000, x614001, x614002, x614003, x614004, x614005, x614006, x614007 => if x10 ≥ 0 then (if 0 ≤ x10 then (if x10 < (x608007.length : Int) then ((some (([(⟨(rd_T71 x608007 x10).f0, (⟨(rd_T71 x608007 x10).f1.f0, (rd_T71 x608007 x10).f1.f1⟩ : S23)⟩ : S71)] : List (S71)) : List (S71))).bind fun y627 => (if x614007.length + y627.length < 5864062014805 then (remontoirlaw04_ScaleMore.l0 k x7 (wrap64 (x10 - 1)) x608000 x608001 x608002 x608003 x608004 x608005 x608006 x608007 x613000 x613001 x613002 x613003 x613004 x613005 x613006 x613007 x614000 x614001 x614002 x614003 x614004 x614005 x614006 (x614007 ++ y627)) else (none))) else (none)) else (none)) else (if (x608007.length : Int) > 0 then (if 0 < (x608007.length : Int) then ((some (([(⟨(rd_T71 x608007 0).f0, (⟨(rd_T71 x608007 0).f1.f0, (rd_T71 x608007 0).f1.f1⟩ : S23)⟩ : S71)] : List (S71)) : List (S71))).bind fun y634 => (if x614007.length + y634.length < 5864062014805 then (remontoirlaw04_ScaleMore.j2 k x7 x608000 x608001 x608002 x608003 x608004 x608005 x608006 x608007 x613000 x613001 x613002 x613003 x613004 x613005 x613006 x613007 x614000 x614001 x614002 x614003 x614004 x614005 x614006 (x614007 ++ y634)) else (none))) else (none)) else (remontoirlaw04_ScaleMore.j2 k x7 x608000 x608001 x608002 x608003 x608004 x608005 x608006 x608007 x613000 x613001 x613002 x613003 x613004 x613005 x613006 x613007 x614000 x614001 x614002 x614003 x614004 x614005 x614006 x614007))
def remontoirlaw04_ScaleMore.j2 : Nat → Int → Int → Int → Int → Int → Int → Int → List Int → List (S71) → Int → Int → Int → Int → Int → Int → List Int → List (S71) → Int → Int → Int → Int → Int → Int → List Int → List (S71) → Option (Bool)
 | 0, _, _, _, _, _, _, _, _, _, _, _, _, _, _, _, _, _, _, _, _, _, _, _, _, _ => none
 | k + 1, x7, x608000, x608001, x608002, x608003, x608004, x608005, x608006, x608007, x613000, x613001, x613002, x613003, x613004, x613005, x613006, x613007, x614000, x614001, x614002, x614003, x614004, x614005, x614006, x614007 => (scale_Error.f x608000 x608001 x608002 x608003 x608004 x608005 x608006 x608007 x7).bind fun bt640 => ((scale_Error.f x613000 x613001 x613002 x613003 x613004 x613005 x613006 x613007 x7).bind fun bt644 => ((scale_Error.f x614000 x614001 x614002 x614003 x614004 x614005 x614006 x614007 x7).bind fun bt648 => (if (!(bt640.1 == bt648.1) || (!(bt640.2.1 == bt648.2.1))) = true then (remontoirlaw04_ScaleMore.j3 k x7 bt640.2.2 bt644.2.2 true x608000 x608001 x608002 x608003 x608004 x608005 x608006 x608007 bt640.1 bt640.2.1 bt644.1 bt644.2.1) else (remontoirlaw04_ScaleMore.j3 k x7 bt640.2.2 bt644.2.2 (bt640.2.2 != bt648.2.2) x608000 x608001 x608002 x608003 x608004 x608005 x608006 x608007 bt640.1 bt640.2.1 bt644.1 bt644.2.1))))
def remontoirlaw04_ScaleMore.j3 : Nat → Int → Int → Int → Bool → Int → Int → Int → Int → Int → Int → List Int → List (S71) → Int → Int → Int → Int → Option (Bool)
 | 0, _, _, _, _, _, _, _, _, _, _, _, _, _, _, _, _ => none
 | k + 1, x7, x12, x14, x100, x608000, x608001, x608002, x608003, x608004, x608005, x608006, x608007, x644000, x644001, x648000, x648001 => if x100 = true then (some false) else (if x14 = 0 then (if x12 = 0 then ((remontoirref00_Within.f x648000 x648001 x644000 x644001).bind fun t654 => (remontoirlaw04_ScaleMore.j4 k x7 (!t654) x608000 x608001 x608002 x608003 x608004 x608005 x608006 x608007 x644000 x644001)) else (remontoirlaw04_ScaleMore.j4 k x7 true x608000 x608001 x608002 x608003 x608004 x608005 x608006 x608007 x644000 x644001)) else (if x14 = 40 then (if (x648000 == 0 && (x648001 == 0)) = true then ((remontoirlaw04_works.f).bind fun t652 => (some t652)) else (some false)) else (if x14 = 42 then (if (x648000 == 0 && (x648001 == 0)) = true then ((remontoirlaw04_works.f).bind fun t653 => (some t653)) else (some false)) else (some false))))
def remontoirlaw04_ScaleMore.j4 : Nat → Int → Bool → Int → Int → Int → Int → Int → Int → List Int → List (S71) → Int → Int → Option (Bool)
 | 0, _, _, _, _, _, _, _, _, _, _, _, _ => none
 | k + 1, x7, x124, x608000, x608001, x608002, x608003, x608004, x608005, x608006, x608007, x644000, x644001 => if x124 = true then (some false) else (if x7 < (x608006.length : Int) then (if 0 ≤ x7 then (remontoirlaw04_ScaleMore.j5 k x7 (rd x608006 x7) x608000 x608001 x608002 x608003 x608004 x608005 x608006 x608007 x644000 x644001) else (none)) else (remontoirlaw04_ScaleMore.j5 k x7 0 x608000 x608001 x608002 x608003 x608004 x608005 x608006 x608007 x644000 x644001))
def remontoirlaw04_ScaleMore.j5 : Nat → Int → Int → Int → Int → Int → Int → Int → Int → List Int → List (S71) → Int → Int → Option (Bool)
 | 0, _, _, _, _, _, _, _, _, _, _, _, _ => none
 | k + 1, x7, x17, x608000, x608001, x608002, x608003, x608004, x608005, x608006, x608007, x644000, x644001 => (scale_Error.f x608000 x608001 x608002 x608003 x608004 x608005 x608006 x608007 (wrap64 (x7 + 1))).bind fun bt656 => (if bt656.2.2 = 0 then ((remontoirref00_To.f (wrap64 ((wrap64 (x644000 + x608003)) + x17)) (wrap64 ((wrap64 (x644001 + x608004)) + x17))).bind fun bt660 => ((remontoirref00_Within.f bt656.1 bt656.2.1 bt660.1 bt660.2).bind fun t662 => (if t662 = true then ((remontoirlaw04_works.f).bind fun t663 => (remontoirlaw04_ScaleMore.j6 k t663)) else (remontoirlaw04_ScaleMore.j6 k false)))) else (remontoirlaw04_ScaleMore.j6 k false))
def remontoirlaw04_ScaleMore.j6 : Nat → Bool → Option (Bool)
 | 0, _ => none
 | k + 1, x6 => some x6
end
def remontoirlaw04_ScaleMore.f (k : Nat) (a0_0 : Int) (a0_1 : Int) (a0_2 : Int) (a0_3 : Int) (a0_4 : Int) (a0_5 : Int) (l0_6 : List Int) (l0_7 : List (S71)) (a1_0 : Int) (a1_1 : Int) (a1_2 : Int) (a2 : Int) : Option (Bool) := (remontoirlaw04_sound.f k a0_0 a0_1 a0_2 a0_3 a0_4 a0_5 l0_6 l0_7).bind fun t609 => (if t609 = true then (remontoirlaw04_ScaleMore.j0 k a2 ((l0_7.length : Int) == 10) a0_0 a0_1 a0_2 a0_3 a0_4 a0_5 l0_6 l0_7 a1_0 a1_1 a1_2) else (remontoirlaw04_ScaleMore.j0 k a2 true a0_0 a0_1 a0_2 a0_3 a0_4 a0_5 l0_6 l0_7 a1_0 a1_1 a1_2))
def remontoirlaw04_ScaleMore.T5 : Bool × List (List Nat × List Nat) := (true, [([], []), ([], []), ([1], [1]), ([0, 2], [0, 2]), ([], []), ([4], [4]), ([3, 5, 3], [3, 5]), ([0, 1, 2, 3, 4, 5, 6], []), ([7, 6, 6, 0, 1, 2, 3, 4, 5, 6], [6, 7])])
def remontoirlaw04_ScaleMore.B5 : List Nat := [0, 0, 2, 7, 0, 16, 63, 127, 255]
theorem remontoirlaw04_ScaleMore.tab5 : rtab .any (opsOf Tryd.f13 5) = remontoirlaw04_ScaleMore.T5 := by kernel_rfl
theorem remontoirlaw04_ScaleMore.bits5 : waitsOk remontoirlaw04_ScaleMore.T5.2 remontoirlaw04_ScaleMore.B5 = true := by kernel_rfl
def remontoirlaw04_ScaleMore.T10 : Bool × List (List Nat × List Nat) := (true, [([], []), ([0], [0]), ([], []), ([2], [2]), ([], []), ([3, 4], [3, 4]), ([5], [5]), ([6], [6]), ([1, 7], [1, 7]), ([0, 1, 2, 3, 4, 5, 6, 7, 8], []), ([9, 8, 8, 0, 1, 2, 3, 4, 5, 6, 7, 8], [8, 9])])
def remontoirlaw04_ScaleMore.B10 : List Nat := [0, 1, 0, 4, 0, 28, 60, 124, 255, 511, 1023]
theorem remontoirlaw04_ScaleMore.tab10 : rtab .any (opsOf Tryd.f13 10) = remontoirlaw04_ScaleMore.T10 := by kernel_rfl
theorem remontoirlaw04_ScaleMore.bits10 : waitsOk remontoirlaw04_ScaleMore.T10.2 remontoirlaw04_ScaleMore.B10 = true := by kernel_rfl
def remontoirlaw04_ScaleMore.T12 : Bool × List (List Nat × List Nat) := (true, [([], []), ([0], [0]), ([], []), ([2], [2]), ([3], [3]), ([4], [4]), ([5], [5]), ([1, 6], [1, 6]), ([0, 1, 2, 3, 4, 5, 6, 7], []), ([8, 7, 7, 0, 1, 2, 3, 4, 5, 6, 7], [7, 8])])
def remontoirlaw04_ScaleMore.B12 : List Nat := [0, 1, 0, 4, 12, 28, 60, 127, 255, 511]
theorem remontoirlaw04_ScaleMore.tab12 : rtab .any (opsOf Tryd.f13 12) = remontoirlaw04_ScaleMore.T12 := by kernel_rfl
theorem remontoirlaw04_ScaleMore.bits12 : waitsOk remontoirlaw04_ScaleMore.T12.2 remontoirlaw04_ScaleMore.B12 = true := by kernel_rfl
def remontoirlaw04_ScaleMore.T26 : Bool × List (List Nat × List Nat) := (true, [([], []), ([0], [0]), ([1], [1]), ([2], [2]), ([2], [2]), ([4, 2], [2, 4]), ([2], [2]), ([6, 2], [2, 6]), ([7, 2], [2, 7]), ([8, 2], [2, 8]), ([5, 9, 2], [2, 5, 9]), ([2], [2]), ([10, 11, 2], [2, 10, 11]), ([2], [2]), ([13, 2], [2, 13]), ([2], [2]), ([15, 2], [2, 15]), ([16, 2], [2, 16]), ([17, 2], [2, 17]), ([14, 18, 2], [2, 14, 18]), ([2], [2]), ([19, 20, 2], [2, 19, 20]), ([12, 21, 2, 2], [2, 12, 21]), ([3, 22, 22, 2], [2, 3, 22]), ([2, 23], [2, 23]), ([24, 23], [24]), ([25, 25], [25]), ([25, 26], [25, 26]), ([27, 26, 0, 1, 2, 3, 4, 5, 6, 7, 8, 9, 10, 11, 12, 13, 14, 15, 16, 17, 18, 19, 20, 21, 22, 23, 24, 25, 26, 27], [27])])
def remontoirlaw04_ScaleMore.B26 : List Nat := [0, 1, 3, 7, 7, 23, 7, 71, 199, 455, 1015, 7, 4087, 7, 8199, 7, 32775, 98311, 229383, 516103, 7, 2088967, 4194295, 8388607, 16777215, 33554431, 67108863, 134217727, 268435455]
theorem remontoirlaw04_ScaleMore.tab26 : rtab .any (opsOf Tryd.f13 26) = remontoirlaw04_ScaleMore.T26 := by kernel_rfl
theorem remontoirlaw04_ScaleMore.bits26 : waitsOk remontoirlaw04_ScaleMore.T26.2 remontoirlaw04_ScaleMore.B26 = true := by kernel_rfl
set_option maxHeartbeats 200000000 in
set_option maxRecDepth 100000 in
theorem remontoirlaw04_ScaleMore.calls (k : Nat) (a0_0 : Int) (a0_1 : Int) (a0_2 : Int) (a0_3 : Int) (a0_4 : Int) (a0_5 : Int) (A0_6 : Option Addr) (c0_6 : Nat) (l0_6 : List Int) (A0_7 : Option Addr) (c0_7 : Nat) (l0_7 : List (S71)) (a1_0 : Int) (a1_1 : Int) (a1_2 : Int) (a2 : Int) (r : Bool) (w : World) (hr0_6 : Kd.C (Kd.int .i64) w A0_6 l0_6.length l0_6) (hc0_6 : l0_6.length ≤ c0_6) (hr0_7 : Kd.C k71 w A0_7 l0_7.length l0_7) (hc0_7 : l0_7.length ≤ c0_7) (hWays : Go.Proofs.YtidnopmjhhmedaaDoor.Ways w) (h : remontoirlaw04_ScaleMore.f k a0_0 a0_1 a0_2 a0_3 a0_4 a0_5 l0_6 l0_7 a1_0 a1_1 a1_2 a2 = some r) :
  Calls Tryd.prog 13 #[.agg #[.int .i64 a0_0, .int .i64 a0_1, .int .i64 a0_2, .int .i64 a0_3, .int .i64 a0_4, .int .i64 a0_5, .slice A0_6 l0_6.length c0_6, .slice A0_7 l0_7.length c0_7], .agg #[.int .i64 a1_0, .int .i64 a1_1, .int .i64 a1_2], .int .i64 a2] w fun e w' => e = .returned (.bool r) ∧ Below w.heap.size w w' := by
 have hu44 := Tryd.underlying44
 have hu71 := Tryd.underlying71
 have hu23 := Tryd.underlying23
 have HR0_6 := Aside0.mk hr0_6
 have HC0_6 := Aside0.mk hc0_6
 clear hr0_6 hc0_6
 have HR0_7 := Aside0.mk hr0_7
 have HC0_7 := Aside0.mk hc0_7
 clear hr0_7 hc0_7
 have HB := Aside0.mk (Below.refl w.heap.size w)
 have HWays := Aside0.mk hWays
 clear hWays
 have H : ((remontoirlaw04_sound.f k a0_0 a0_1 a0_2 a0_3 a0_4 a0_5 l0_6 l0_7).bind fun t609 => (if t609 = true then (remontoirlaw04_ScaleMore.j0 k a2 ((l0_7.length : Int) == 10) a0_0 a0_1 a0_2 a0_3 a0_4 a0_5 l0_6 l0_7 a1_0 a1_1 a1_2) else (remontoirlaw04_ScaleMore.j0 k a2 true a0_0 a0_1 a0_2 a0_3 a0_4 a0_5 l0_6 l0_7 a1_0 a1_1 a1_2))) = some r := h
 clear h
 have HC4 := Aside0.mk H
 clear H
 go_enter Tryd.func13, Tryd.ntmps13
 go_upto_region 1 with (first | ((with_reducible refine gate_dst (N := 3) rfl ?_); (try (refine gate_guard (by rfl) ?_; dsimp only)); refine box_event ?hg (N := 3) ?hd (cs := #[.int .i64 a0_0, .int .i64 a0_1, .int .i64 a0_2, .int .i64 a0_3, .int .i64 a0_4, .int .i64 a0_5, .slice A0_6 l0_6.length c0_6, .slice A0_7 l0_7.length c0_7]) (t := 44) ?hr ?_; (case hd => rfl); (case hg => rfl); (case hr => first | (go_simp; done) | (go_simp; rfl)); intro gb607 hg w5 hbox hb; have BK607 := Aside0.mk (hbox); have GW607 := geB hg (bl HB); have GE607 := geB hg (bl HB); replace HB := Aside0.mk (below_step (bl HB) hb); clear hb hbox hg) | ((with_reducible refine gate_dst (N := 4) rfl ?_); (try (refine gate_guard (by rfl) ?_; dsimp only)); refine box_event ?hg (N := 4) ?hd (cs := #[.int .i64 a1_0, .int .i64 a1_1, .int .i64 a1_2]) (t := 71) ?hr ?_; (case hd => rfl); (case hg => rfl); (case hr => first | (go_simp; done) | (go_simp; rfl)); intro gb608 hg w6 hbox hb; have BK608 := Aside0.mk (hbox); have GW608 := geB hg (bl HB); have GE608 := geB hg (bl HB); replace HB := Aside0.mk (below_step (bl HB) hb); have NB607_608 := nlt hg (bk BK607); have NB608_607 := ngt hg (bk BK607); replace BK607 := Aside0.mk (blk_below (bk BK607) hb); clear hb hbox hg))
 (try simp only [Act.put, List.setIfInBounds_toArray, List.set_cons_zero, List.set_cons_succ])
 go_cut [27] (fun v27 wc => ∃ (kq : Nat) (x27_3 : Bool), v27 = .bool x27_3 ∧ Aside0 (remontoirlaw04_ScaleMore.j0 kq a2 x27_3 a0_0 a0_1 a0_2 a0_3 a0_4 a0_5 l0_6 l0_7 a1_0 a1_1 a1_2 = some r) ∧ Aside0 (kq ≤ k) ∧ Aside0 (wc.heap[gb607]? = some (.cells #[.int .i64 a0_0, .int .i64 a0_1, .int .i64 a0_2, .int .i64 a0_3, .int .i64 a0_4, .int .i64 a0_5, (.slice A0_6 l0_6.length c0_6), (.slice A0_7 l0_7.length c0_7)] 44 (0, 0))) ∧ Aside0 (wc.heap[gb608]? = some (.cells #[.int .i64 a1_0, .int .i64 a1_1, .int .i64 a1_2] 71 (0, 0))) ∧ Aside0 (Below w.heap.size w wc))
 case first =>
  have H := HC4.out
  clear HC4
  replace H := Option.bind_eq_some_iff.mp H
  obtain ⟨t609, A70, H⟩ := H
  replace H : (if t609 = true then (remontoirlaw04_ScaleMore.j0 k a2 ((l0_7.length : Int) == 10) a0_0 a0_1 a0_2 a0_3 a0_4 a0_5 l0_6 l0_7 a1_0 a1_1 a1_2) else (remontoirlaw04_ScaleMore.j0 k a2 true a0_0 a0_1 a0_2 a0_3 a0_4 a0_5 l0_6 l0_7 a1_0 a1_1 a1_2)) = some r := H
  have A7 := Aside0.mk A70
  clear A70
  by_cases c8 : t609 = true
  ·
   subst c8
   have H1 : (remontoirlaw04_ScaleMore.j0 k a2 ((l0_7.length : Int) == 10) a0_0 a0_1 a0_2 a0_3 a0_4 a0_5 l0_6 l0_7 a1_0 a1_1 a1_2) = some r := by rw [if_pos rfl] at H; exact H
   clear H
   have H := H1
   clear H1
   have H' := Aside0.mk H
   clear H
   have hnb9 := NB607_608.out
   have hnc9 := NB608_607.out
   have hcz10_0 : w6.cell? ⟨gb607, 0, none⟩ = some (.int .i64 a0_0) := bc BK607 0
   have hcz10_1 : w6.cell? ⟨gb607, 1, none⟩ = some (.int .i64 a0_1) := bc BK607 1
   have hcz10_2 : w6.cell? ⟨gb607, 2, none⟩ = some (.int .i64 a0_2) := bc BK607 2
   have hcz10_3 : w6.cell? ⟨gb607, 3, none⟩ = some (.int .i64 a0_3) := bc BK607 3
   have hcz10_4 : w6.cell? ⟨gb607, 4, none⟩ = some (.int .i64 a0_4) := bc BK607 4
   have hcz10_5 : w6.cell? ⟨gb607, 5, none⟩ = some (.int .i64 a0_5) := bc BK607 5
   have hcz10_6 : w6.cell? ⟨gb607, 6, none⟩ = some (.slice A0_6 l0_6.length c0_6) := bc BK607 6
   have hcz10_7 : w6.cell? ⟨gb607, 7, none⟩ = some (.slice A0_7 l0_7.length c0_7) := bc BK607 7
   have hfz10_0 := blk_frozen BK607.out 0
   have hfz10_1 := blk_frozen BK607.out 1
   have hfz10_2 := blk_frozen BK607.out 2
   have hfz10_3 := blk_frozen BK607.out 3
   have hfz10_4 := blk_frozen BK607.out 4
   have hfz10_5 := blk_frozen BK607.out 5
   have hfz10_6 := blk_frozen BK607.out 6
   have hfz10_7 := blk_frozen BK607.out 7
   go_wp2_with (first | ((with_reducible refine gate_callee (f := 50) rfl ?_); refine goesL_ (some 20) rfl rfl Tryd.func50 (by kernel_rfl) rfl #[.agg #[.int .i64 a0_0, .int .i64 a0_1, .int .i64 a0_2, .int .i64 a0_3, .int .i64 a0_4, .int .i64 a0_5, .slice A0_6 l0_6.length c0_6, .slice A0_7 l0_7.length c0_7]] rfl (by (try simp only [List.map_toArray, List.map_cons, List.map_nil]); first | done | rfl | (simp only [List.length_drop, List.length_take]; rfl)) ?_; (with_reducible refine (remontoirlaw04_sound.calls k a0_0 a0_1 a0_2 a0_3 a0_4 a0_5 _ _ l0_6 _ _ l0_7 true _ ?side1 ?side2 ?side3 ?side4 ?side5 A7.out).mono ?_); (case side1 => repeat (first | exact (Kd.C_below HR0_6.out HB.out) | (with_reducible refine Kd.C_alloc ?_ _) | (with_reducible refine Kd.C_drewN ?_ _) | (with_reducible refine Kd.C_drew ?_))); (case side2 => exact HC0_6.out); (case side3 => repeat (first | exact (Kd.C_below HR0_7.out HB.out) | (with_reducible refine Kd.C_alloc ?_ _) | (with_reducible refine Kd.C_drewN ?_ _) | (with_reducible refine Kd.C_drew ?_))); (case side4 => exact HC0_7.out); (case side5 => exact Go.Proofs.YtidnopmjhhmedaaDoor.Ways.below HWays.out (bl HB)); rintro e w11 ⟨rfl, hb⟩; refine ⟨_, rfl, ?_⟩; replace BK607 := Aside0.mk (blk_below (bk BK607) hb); replace BK608 := Aside0.mk (blk_below (bk BK608) hb); replace HB := Aside0.mk (below_step (bl HB) hb); (try clear hb); (try clear hb2); (try clear hk); (try clear hi); have hcz12_0 : w11.cell? ⟨gb607, 0, none⟩ = some (.int .i64 a0_0) := bc BK607 0; have hcz12_1 : w11.cell? ⟨gb607, 1, none⟩ = some (.int .i64 a0_1) := bc BK607 1; have hcz12_2 : w11.cell? ⟨gb607, 2, none⟩ = some (.int .i64 a0_2) := bc BK607 2; have hcz12_3 : w11.cell? ⟨gb607, 3, none⟩ = some (.int .i64 a0_3) := bc BK607 3; have hcz12_4 : w11.cell? ⟨gb607, 4, none⟩ = some (.int .i64 a0_4) := bc BK607 4; have hcz12_5 : w11.cell? ⟨gb607, 5, none⟩ = some (.int .i64 a0_5) := bc BK607 5; have hcz12_6 : w11.cell? ⟨gb607, 6, none⟩ = some (.slice A0_6 l0_6.length c0_6) := bc BK607 6; have hcz12_7 : w11.cell? ⟨gb607, 7, none⟩ = some (.slice A0_7 l0_7.length c0_7) := bc BK607 7; have hfz12_0 := blk_frozen BK607.out 0; have hfz12_1 := blk_frozen BK607.out 1; have hfz12_2 := blk_frozen BK607.out 2; have hfz12_3 := blk_frozen BK607.out 3; have hfz12_4 := blk_frozen BK607.out 4; have hfz12_5 := blk_frozen BK607.out 5; have hfz12_6 := blk_frozen BK607.out 6; have hfz12_7 := blk_frozen BK607.out 7))
   go_meet
   case rel => exact ⟨_, (((l0_7.length : Int) == 10)), (by first | rfl | (simp; done) | (simp [*]; done)), H', ⟨by first | omega | exact Nat.le_refl _⟩, ⟨bk BK607⟩, ⟨bk BK608⟩, ⟨bl HB⟩⟩
  ·
   replace c8 := Bool.eq_false_iff.mpr c8
   subst c8
   have H1 : (remontoirlaw04_ScaleMore.j0 k a2 true a0_0 a0_1 a0_2 a0_3 a0_4 a0_5 l0_6 l0_7 a1_0 a1_1 a1_2) = some r := by rw [if_neg (show ¬ (false = true) by decide)] at H; exact H
   clear H
   have H := H1
   clear H1
   have H' := Aside0.mk H
   clear H
   have hnb13 := NB607_608.out
   have hnc13 := NB608_607.out
   have hcz14_0 : w6.cell? ⟨gb607, 0, none⟩ = some (.int .i64 a0_0) := bc BK607 0
   have hcz14_1 : w6.cell? ⟨gb607, 1, none⟩ = some (.int .i64 a0_1) := bc BK607 1
   have hcz14_2 : w6.cell? ⟨gb607, 2, none⟩ = some (.int .i64 a0_2) := bc BK607 2
   have hcz14_3 : w6.cell? ⟨gb607, 3, none⟩ = some (.int .i64 a0_3) := bc BK607 3
   have hcz14_4 : w6.cell? ⟨gb607, 4, none⟩ = some (.int .i64 a0_4) := bc BK607 4
   have hcz14_5 : w6.cell? ⟨gb607, 5, none⟩ = some (.int .i64 a0_5) := bc BK607 5
   have hcz14_6 : w6.cell? ⟨gb607, 6, none⟩ = some (.slice A0_6 l0_6.length c0_6) := bc BK607 6
   have hcz14_7 : w6.cell? ⟨gb607, 7, none⟩ = some (.slice A0_7 l0_7.length c0_7) := bc BK607 7
   have hfz14_0 := blk_frozen BK607.out 0
   have hfz14_1 := blk_frozen BK607.out 1
   have hfz14_2 := blk_frozen BK607.out 2
   have hfz14_3 := blk_frozen BK607.out 3
   have hfz14_4 := blk_frozen BK607.out 4
   have hfz14_5 := blk_frozen BK607.out 5
   have hfz14_6 := blk_frozen BK607.out 6
   have hfz14_7 := blk_frozen BK607.out 7
   go_wp2_with (first | ((with_reducible refine gate_callee (f := 50) rfl ?_); refine goesL_ (some 20) rfl rfl Tryd.func50 (by kernel_rfl) rfl #[.agg #[.int .i64 a0_0, .int .i64 a0_1, .int .i64 a0_2, .int .i64 a0_3, .int .i64 a0_4, .int .i64 a0_5, .slice A0_6 l0_6.length c0_6, .slice A0_7 l0_7.length c0_7]] rfl (by (try simp only [List.map_toArray, List.map_cons, List.map_nil]); first | done | rfl | (simp only [List.length_drop, List.length_take]; rfl)) ?_; (with_reducible refine (remontoirlaw04_sound.calls k a0_0 a0_1 a0_2 a0_3 a0_4 a0_5 _ _ l0_6 _ _ l0_7 false _ ?side1 ?side2 ?side3 ?side4 ?side5 A7.out).mono ?_); (case side1 => repeat (first | exact (Kd.C_below HR0_6.out HB.out) | (with_reducible refine Kd.C_alloc ?_ _) | (with_reducible refine Kd.C_drewN ?_ _) | (with_reducible refine Kd.C_drew ?_))); (case side2 => exact HC0_6.out); (case side3 => repeat (first | exact (Kd.C_below HR0_7.out HB.out) | (with_reducible refine Kd.C_alloc ?_ _) | (with_reducible refine Kd.C_drewN ?_ _) | (with_reducible refine Kd.C_drew ?_))); (case side4 => exact HC0_7.out); (case side5 => exact Go.Proofs.YtidnopmjhhmedaaDoor.Ways.below HWays.out (bl HB)); rintro e w15 ⟨rfl, hb⟩; refine ⟨_, rfl, ?_⟩; replace BK607 := Aside0.mk (blk_below (bk BK607) hb); replace BK608 := Aside0.mk (blk_below (bk BK608) hb); replace HB := Aside0.mk (below_step (bl HB) hb); (try clear hb); (try clear hb2); (try clear hk); (try clear hi)))
   go_meet
   case rel => exact ⟨_, (true), (by first | rfl | (simp; done) | (simp [*]; done)), H', ⟨by first | omega | exact Nat.le_refl _⟩, ⟨bk BK607⟩, ⟨bk BK608⟩, ⟨bl HB⟩⟩
 case rest =>
  as_aux_lemma =>
  clear HC4
  (try clear c1); (try clear p2); (try clear c5); (try clear c8); (try clear c9); (try clear c13); (try clear hcz10_0); (try clear hcz10_1); (try clear hcz10_2); (try clear hcz10_3); (try clear hcz10_4); (try clear hcz10_5); (try clear hcz10_6); (try clear hcz10_7); (try clear hcz12_0); (try clear hcz12_1); (try clear hcz12_2); (try clear hcz12_3); (try clear hcz12_4); (try clear hcz12_5); (try clear hcz12_6); (try clear hcz12_7); (try clear hcz14_0); (try clear hcz14_1); (try clear hcz14_2); (try clear hcz14_3); (try clear hcz14_4); (try clear hcz14_5); (try clear hcz14_6); (try clear hcz14_7); (try clear hfz10_0); (try clear hfz10_1); (try clear hfz10_2); (try clear hfz10_3); (try clear hfz10_4); (try clear hfz10_5); (try clear hfz10_6); (try clear hfz10_7); (try clear hfz12_0); (try clear hfz12_1); (try clear hfz12_2); (try clear hfz12_3); (try clear hfz12_4); (try clear hfz12_5); (try clear hfz12_6); (try clear hfz12_7); (try clear hfz14_0); (try clear hfz14_1); (try clear hfz14_2); (try clear hfz14_3); (try clear hfz14_4); (try clear hfz14_5); (try clear hfz14_6); (try clear hfz14_7)
  (try clear BK607); (try clear BK608); (try clear HB)
  obtain ⟨kq, x27_3, rfl, HA, HJ3, BK607, BK608, HB⟩ := hcut
  cases kq with
  | zero => exact absurd HA.out (by simp [remontoirlaw04_ScaleMore.j0])
  | succ kj3 =>
   have H := HA.out
   clear HA
   simp only [remontoirlaw04_ScaleMore.j0] at H
   by_cases c16 : x27_3 = true
   ·
    subst c16
    have H1 : ((remontoirlaw04_works.f).bind fun t610 => (some t610)) = some r := by rw [if_pos rfl] at H; exact H
    clear H
    have H := H1
    clear H1
    replace H := Option.bind_eq_some_iff.mp H
    obtain ⟨t610, A170, H⟩ := H
    replace H : (some t610) = some r := H
    have A17 := Aside0.mk A170
    clear A170
    obtain rfl := Option.some.inj H
    go_wp2_with (first | ((with_reducible refine gate_callee (f := 21) rfl ?_); refine goesL_ (some 28) rfl rfl Tryd.func21 (by kernel_rfl) rfl #[] rfl (by (try simp only [List.map_toArray, List.map_cons, List.map_nil]); first | done | rfl | (simp only [List.length_drop, List.length_take]; rfl)) ?_; (with_reducible refine (remontoirlaw04_works.calls  t610 _ ?side1 A17.out).mono ?_); (case side1 => exact Go.Proofs.YtidnopmjhhmedaaDoor.Ways.below HWays.out (bl HB)); rintro e w18 ⟨rfl, hb⟩; refine ⟨_, rfl, ?_⟩; replace BK607 := Aside0.mk (blk_below (bk BK607) hb); replace BK608 := Aside0.mk (blk_below (bk BK608) hb); replace HB := Aside0.mk (below_step (bl HB) hb); (try clear hb); (try clear hb2); (try clear hk); (try clear hi)))
    go_ret
    exact ⟨by first | rfl | (simp [errW_none, errW_some] <;> rfl) | (simp [*, errW_none, errW_some] <;> rfl), by repeat (first | (with_reducible first | exact HB.out | apply below_alloc | apply pw_below_drewN | apply below_drew1 | refine below_set ?_ GE607.out | refine below_set ?_ GE608.out) | exact HB.out)⟩
   ·
    replace c16 := Bool.eq_false_iff.mpr c16
    subst c16
    have H1 : ((remontoirref00_Rest.f a2 a0_5).bind fun t611 => ((some (([] : List (S71)) : List (S71))).bind fun y614 => (if y614.length + l0_7.length < 5864062014805 then ((some (y614 ++ l0_7 : List (S71))).bind fun y617 => ((some (([(⟨a1_0, (⟨a1_1, a1_2⟩ : S23)⟩ : S71)] : List (S71)) : List (S71))).bind fun y620 => (if y617.length + y620.length < 5864062014805 then (remontoirlaw04_ScaleMore.l0 kj3 t611 (wrap64 ((l0_7.length : Int) - 1)) a0_0 a0_1 a0_2 a0_3 a0_4 a0_5 l0_6 l0_7 a0_0 a0_1 a0_2 a0_3 a0_4 a0_5 l0_6 (y617 ++ y620) a0_0 a0_1 a0_2 a0_3 a0_4 a0_5 l0_6 ([] : List (S71))) else (none)))) else (none)))) = some r := by rw [if_neg (show ¬ (false = true) by decide)] at H; exact H
    clear H
    have H := H1
    clear H1
    replace H := Option.bind_eq_some_iff.mp H
    obtain ⟨t611, A190, H⟩ := H
    replace H : ((some (([] : List (S71)) : List (S71))).bind fun y614 => (if y614.length + l0_7.length < 5864062014805 then ((some (y614 ++ l0_7 : List (S71))).bind fun y617 => ((some (([(⟨a1_0, (⟨a1_1, a1_2⟩ : S23)⟩ : S71)] : List (S71)) : List (S71))).bind fun y620 => (if y617.length + y620.length < 5864062014805 then (remontoirlaw04_ScaleMore.l0 kj3 t611 (wrap64 ((l0_7.length : Int) - 1)) a0_0 a0_1 a0_2 a0_3 a0_4 a0_5 l0_6 l0_7 a0_0 a0_1 a0_2 a0_3 a0_4 a0_5 l0_6 (y617 ++ y620) a0_0 a0_1 a0_2 a0_3 a0_4 a0_5 l0_6 ([] : List (S71))) else (none)))) else (none))) = some r := H
    have A19 := Aside0.mk A190
    clear A190
    obtain ⟨y614, hy614⟩ : ∃ y_ : List (S71), y_ = (([] : List (S71))) := ⟨_, rfl⟩
    replace H : (if y614.length + l0_7.length < 5864062014805 then ((some (y614 ++ l0_7 : List (S71))).bind fun y617 => ((some (([(⟨a1_0, (⟨a1_1, a1_2⟩ : S23)⟩ : S71)] : List (S71)) : List (S71))).bind fun y620 => (if y617.length + y620.length < 5864062014805 then (remontoirlaw04_ScaleMore.l0 kj3 t611 (wrap64 ((l0_7.length : Int) - 1)) a0_0 a0_1 a0_2 a0_3 a0_4 a0_5 l0_6 l0_7 a0_0 a0_1 a0_2 a0_3 a0_4 a0_5 l0_6 (y617 ++ y620) a0_0 a0_1 a0_2 a0_3 a0_4 a0_5 l0_6 ([] : List (S71))) else (none)))) else (none)) = some r := by first | (rw [hy614]; with_reducible exact H) | (have H2_ := (Option.bind_some _ _).symm.trans H; rw [hy614]; with_reducible exact H2_) | (have H2_ := (Option.bind_some _ _).symm.trans H; with_reducible exact H2_) | with_reducible exact H | (rw [hy614]; exact H) | exact H
    have Ny614 := Aside0.mk hy614
    clear hy614
    by_cases c20 : y614.length + l0_7.length < 5864062014805
    ·
     rw [if_pos c20] at H
     have LMc20 := Aside0.mk c20
     clear c20
     obtain ⟨y617, hy617⟩ : ∃ y_ : List (S71), y_ = (y614 ++ l0_7) := ⟨_, rfl⟩
     replace H : ((some (([(⟨a1_0, (⟨a1_1, a1_2⟩ : S23)⟩ : S71)] : List (S71)) : List (S71))).bind fun y620 => (if y617.length + y620.length < 5864062014805 then (remontoirlaw04_ScaleMore.l0 kj3 t611 (wrap64 ((l0_7.length : Int) - 1)) a0_0 a0_1 a0_2 a0_3 a0_4 a0_5 l0_6 l0_7 a0_0 a0_1 a0_2 a0_3 a0_4 a0_5 l0_6 (y617 ++ y620) a0_0 a0_1 a0_2 a0_3 a0_4 a0_5 l0_6 ([] : List (S71))) else (none))) = some r := by first | (rw [hy617]; with_reducible exact H) | (have H2_ := (Option.bind_some _ _).symm.trans H; rw [hy617]; with_reducible exact H2_) | (have H2_ := (Option.bind_some _ _).symm.trans H; with_reducible exact H2_) | with_reducible exact H | (rw [hy617]; exact H) | exact H
     have Ny617 := Aside0.mk hy617
     clear hy617
     obtain ⟨y620, hy620⟩ : ∃ y_ : List (S71), y_ = (([(⟨a1_0, (⟨a1_1, a1_2⟩ : S23)⟩ : S71)] : List (S71))) := ⟨_, rfl⟩
     replace H : (if y617.length + y620.length < 5864062014805 then (remontoirlaw04_ScaleMore.l0 kj3 t611 (wrap64 ((l0_7.length : Int) - 1)) a0_0 a0_1 a0_2 a0_3 a0_4 a0_5 l0_6 l0_7 a0_0 a0_1 a0_2 a0_3 a0_4 a0_5 l0_6 (y617 ++ y620) a0_0 a0_1 a0_2 a0_3 a0_4 a0_5 l0_6 ([] : List (S71))) else (none)) = some r := by first | (rw [hy620]; with_reducible exact H) | (have H2_ := (Option.bind_some _ _).symm.trans H; rw [hy620]; with_reducible exact H2_) | (have H2_ := (Option.bind_some _ _).symm.trans H; with_reducible exact H2_) | with_reducible exact H | (rw [hy620]; exact H) | exact H
     have Ny620 := Aside0.mk hy620
     clear hy620
     by_cases c21 : y617.length + y620.length < 5864062014805
     ·
      rw [if_pos c21] at H
      have LMc21 := Aside0.mk c21
      clear c21
      obtain ⟨y623, hy623⟩ : ∃ y_ : List (S71), y_ = (y617 ++ y620) := ⟨_, rfl⟩
      replace H : (remontoirlaw04_ScaleMore.l0 kj3 t611 (wrap64 ((l0_7.length : Int) - 1)) a0_0 a0_1 a0_2 a0_3 a0_4 a0_5 l0_6 l0_7 a0_0 a0_1 a0_2 a0_3 a0_4 a0_5 l0_6 y623 a0_0 a0_1 a0_2 a0_3 a0_4 a0_5 l0_6 ([] : List (S71))) = some r := by first | (rw [hy623]; with_reducible exact H) | (have H2_ := (Option.bind_some _ _).symm.trans H; rw [hy623]; with_reducible exact H2_) | (have H2_ := (Option.bind_some _ _).symm.trans H; with_reducible exact H2_) | with_reducible exact H | (rw [hy623]; exact H) | exact H
      have Ny623 := Aside0.mk hy623
      clear hy623
      have H' := Aside0.mk H
      clear H
      have hnb22 := NB607_608.out
      have hnc22 := NB608_607.out
      have hcz23_0 : wc.cell? ⟨gb607, 0, none⟩ = some (.int .i64 a0_0) := bc BK607 0
      have hcz23_1 : wc.cell? ⟨gb607, 1, none⟩ = some (.int .i64 a0_1) := bc BK607 1
      have hcz23_2 : wc.cell? ⟨gb607, 2, none⟩ = some (.int .i64 a0_2) := bc BK607 2
      have hcz23_3 : wc.cell? ⟨gb607, 3, none⟩ = some (.int .i64 a0_3) := bc BK607 3
      have hcz23_4 : wc.cell? ⟨gb607, 4, none⟩ = some (.int .i64 a0_4) := bc BK607 4
      have hcz23_5 : wc.cell? ⟨gb607, 5, none⟩ = some (.int .i64 a0_5) := bc BK607 5
      have hcz23_6 : wc.cell? ⟨gb607, 6, none⟩ = some (.slice A0_6 l0_6.length c0_6) := bc BK607 6
      have hcz23_7 : wc.cell? ⟨gb607, 7, none⟩ = some (.slice A0_7 l0_7.length c0_7) := bc BK607 7
      have hfz23_0 := blk_frozen BK607.out 0
      have hfz23_1 := blk_frozen BK607.out 1
      have hfz23_2 := blk_frozen BK607.out 2
      have hfz23_3 := blk_frozen BK607.out 3
      have hfz23_4 := blk_frozen BK607.out 4
      have hfz23_5 := blk_frozen BK607.out 5
      have hfz23_6 := blk_frozen BK607.out 6
      have hfz23_7 := blk_frozen BK607.out 7
      try go_wp2_with (first | ((with_reducible refine gate_callee (f := 38) rfl ?_); refine goesL_ (some 32) rfl rfl Tryd.func38 (by kernel_rfl) rfl #[.int .i64 a2, .int .i64 a0_5] rfl (by (try simp only [List.map_toArray, List.map_cons, List.map_nil]); first | done | rfl | (simp only [List.length_drop, List.length_take]; rfl)) ?_; (with_reducible refine (remontoirref00_Rest.calls a2 a0_5 t611 _ A19.out).mono ?_); rintro e w' ⟨rfl, ⟨nd, rfl⟩⟩; refine ⟨_, rfl, ?_⟩; (try (rw [drewN_self wc]; generalize hq_ : World.drewN wc _ = wc; have n0_ : Aside0 (wc.heap[gb607]? = some (.cells #[.int .i64 a0_0, .int .i64 a0_1, .int .i64 a0_2, .int .i64 a0_3, .int .i64 a0_4, .int .i64 a0_5, .slice A0_6 l0_6.length c0_6, .slice A0_7 l0_7.length c0_7] 44 (0, 0))) := ⟨by rw [← hq_]; exact (bk BK607)⟩; have n1_ : Aside0 (wc.heap[gb608]? = some (.cells #[.int .i64 a1_0, .int .i64 a1_1, .int .i64 a1_2] 71 (0, 0))) := ⟨by rw [← hq_]; exact (bk BK608)⟩; have n2_ : Aside0 (Below w.heap.size w wc) := ⟨by rw [← hq_]; exact (bl HB)⟩; clear BK607 BK608 HB hq_; have BK607 := n0_; have BK608 := n1_; have HB := n2_; clear n0_ n1_ n2_))))
      replace BK607 := Aside0.mk (blk_drew BK607.out)
      replace BK608 := Aside0.mk (blk_drew BK608.out)
      replace HB := Aside0.mk (below_drew1 HB.out)
      refine start_ (n := 6) (S := fun w' => w'.cell? ⟨gb607, 0, none⟩ = some (.int .i64 a0_0) ∧ w'.cell? ⟨gb607, 1, none⟩ = some (.int .i64 a0_1) ∧ w'.cell? ⟨gb607, 2, none⟩ = some (.int .i64 a0_2) ∧ w'.cell? ⟨gb607, 3, none⟩ = some (.int .i64 a0_3) ∧ w'.cell? ⟨gb607, 4, none⟩ = some (.int .i64 a0_4) ∧ w'.cell? ⟨gb607, 5, none⟩ = some (.int .i64 a0_5) ∧ w'.cell? ⟨gb607, 6, none⟩ = some (.slice A0_6 l0_6.length c0_6) ∧ w'.cell? ⟨gb607, 7, none⟩ = some (.slice A0_7 l0_7.length c0_7)) (ds := []) #[false, false, false, false, false, false] (by kernel_rfl) rfl rfl ⟨bc BK607 0, bc BK607 1, bc BK607 2, bc BK607 3, bc BK607 4, bc BK607 5, bc BK607 6, bc BK607 7⟩ (fun hHeld => ?_)
      generalize wc.drew = w24 at BK607 BK608 HB hHeld ⊢
      refine take_ (i := 0) (N := some 33) (v := ?_) (a' := ?_) #[true, false, false, false, false, false] rfl rfl (by kernel_rfl) (fun _ _ _ h => h) (Or.inl ⟨by rfl, ?_⟩) hHeld ?_ ?_
      rotate_left
      ·
       rintro w' ⟨s0, s1, s2, s3, s4, s5, s6, s7⟩
       go_simp
       with_reducible rfl
      rotate_left
      ·
       simp only [Act.put, List.setIfInBounds_toArray, List.set_cons_zero, List.set_cons_succ, i64_w, i32_w]
       rfl
      refine take_ (i := 1) (N := some 34) (v := ?_) (a' := ?_) #[true, true, false, false, false, false] rfl rfl (by kernel_rfl) (fun _ _ _ h => h) (Or.inl ⟨by rfl, ?_⟩) hHeld ?_ ?_
      rotate_left
      ·
       rintro w' ⟨s0, s1, s2, s3, s4, s5, s6, s7⟩
       go_simp
       with_reducible rfl
      rotate_left
      ·
       simp only [Act.put, List.setIfInBounds_toArray, List.set_cons_zero, List.set_cons_succ, i64_w, i32_w]
       rfl
      refine join_ (σ := Nat × Nat) 2 #[true, true, true, true, false, false] (fun s_ => [(8, .pointer (some ⟨s_.1, 0, none⟩)), (9, .pointer (some ⟨s_.2, 0, none⟩))]) (fun s_ w' => (w'.cell? ⟨gb607, 0, none⟩ = some (.int .i64 a0_0) ∧ w'.cell? ⟨gb607, 1, none⟩ = some (.int .i64 a0_1) ∧ w'.cell? ⟨gb607, 2, none⟩ = some (.int .i64 a0_2) ∧ w'.cell? ⟨gb607, 3, none⟩ = some (.int .i64 a0_3) ∧ w'.cell? ⟨gb607, 4, none⟩ = some (.int .i64 a0_4) ∧ w'.cell? ⟨gb607, 5, none⟩ = some (.int .i64 a0_5) ∧ w'.cell? ⟨gb607, 6, none⟩ = some (.slice A0_6 l0_6.length c0_6) ∧ w'.cell? ⟨gb607, 7, none⟩ = some (.slice A0_7 l0_7.length c0_7)) ∧ (w'.heap[gb607]? = some (.cells #[.int .i64 a0_0, .int .i64 a0_1, .int .i64 a0_2, .int .i64 a0_3, .int .i64 a0_4, .int .i64 a0_5, .slice A0_6 l0_6.length c0_6, .slice A0_7 l0_7.length c0_7] 44 (0, 0))) ∧ (w'.heap[gb608]? = some (.cells #[.int .i64 a1_0, .int .i64 a1_1, .int .i64 a1_2] 71 (0, 0))) ∧ (w'.heap[s_.1]? = some (.cells #[.int .i64 0, .int .i64 0, .int .i64 0, .int .i64 0, .int .i64 0, .int .i64 0, .slice none 0 0, .slice none 0 0] 44 (0, 0))) ∧ (w'.heap[s_.2]? = some (.cells #[.int .i64 0, .int .i64 0, .int .i64 0, .int .i64 0, .int .i64 0, .int .i64 0, .slice none 0 0, .slice none 0 0] 44 (0, 0))) ∧ (w.heap.size ≤ s_.1) ∧ (w.heap.size ≤ s_.1) ∧ (gb607 ≠ s_.1) ∧ (s_.1 ≠ gb607) ∧ (gb608 ≠ s_.1) ∧ (s_.1 ≠ gb608) ∧ (s_.2 ≠ s_.1) ∧ (s_.1 ≠ s_.2) ∧ (w.heap.size ≤ s_.2) ∧ (w.heap.size ≤ s_.2) ∧ (gb607 ≠ s_.2) ∧ (s_.2 ≠ gb607) ∧ (gb608 ≠ s_.2) ∧ (s_.2 ≠ gb608) ∧ (Below w.heap.size w w')) ?_ ?_
      rotate_left
      ·
       intro hCont
       refine two_ (i := 2) (j := 3) (Ni := some 8) (Nj := some 9) #[true, true, true, false, false, false] #[true, true, false, true, false, false] rfl rfl rfl rfl (by kernel_rfl) (by decide) (by decide) (fun K hK => ?_) (fun K hK => ?_)
       ·
        skip
        refine box_step ?hg (N := 8) ?hd (cs := #[.int .i64 0, .int .i64 0, .int .i64 0, .int .i64 0, .int .i64 0, .int .i64 0, .slice none 0 0, .slice none 0 0]) (t := 44) ?hr ?_; (case hd => rfl); (case hg => rfl); (case hr => first | (go_simp; done) | (go_simp; rfl))
        intro gb612 hg w25 hbox hb
        have BK612 := Aside0.mk (hbox)
        have GW612 := geB hg (bl HB)
        have GE612 := geB hg (bl HB)
        replace HB := Aside0.mk (below_step (bl HB) hb)
        have NB607_612 := nlt hg (bk BK607)
        have NB612_607 := ngt hg (bk BK607)
        replace BK607 := Aside0.mk (blk_below (bk BK607) hb)
        have NB608_612 := nlt hg (bk BK608)
        have NB612_608 := ngt hg (bk BK608)
        replace BK608 := Aside0.mk (blk_below (bk BK608) hb)
        clear hb hbox hg
        refine hK.out _ _ ⟨bc BK607 0, bc BK607 1, bc BK607 2, bc BK607 3, bc BK607 4, bc BK607 5, bc BK607 6, bc BK607 7⟩ (fun hHeld => ?_)
        clear hK K
        refine normA 8 ?_
        refine one_ (i := 3) (N := some 9) #[true, true, true, true, false, false] rfl rfl (by kernel_rfl) (by decide) (fun K hK => ?_)
        refine box_step ?hg (N := 9) ?hd (cs := #[.int .i64 0, .int .i64 0, .int .i64 0, .int .i64 0, .int .i64 0, .int .i64 0, .slice none 0 0, .slice none 0 0]) (t := 44) ?hr ?_; (case hd => rfl); (case hg => rfl); (case hr => first | (go_simp; done) | (go_simp; rfl))
        intro gb613 hg w26 hbox hb
        have BK613 := Aside0.mk (hbox)
        have GW613 := geB hg (bl HB)
        have GE613 := geB hg (bl HB)
        replace HB := Aside0.mk (below_step (bl HB) hb)
        have NB607_613 := nlt hg (bk BK607)
        have NB613_607 := ngt hg (bk BK607)
        replace BK607 := Aside0.mk (blk_below (bk BK607) hb)
        have NB608_613 := nlt hg (bk BK608)
        have NB613_608 := ngt hg (bk BK608)
        replace BK608 := Aside0.mk (blk_below (bk BK608) hb)
        have NB612_613 := nlt hg (bk BK612)
        have NB613_612 := ngt hg (bk BK612)
        replace BK612 := Aside0.mk (blk_below (bk BK612) hb)
        clear hb hbox hg
        refine hK.out _ _ ⟨bc BK607 0, bc BK607 1, bc BK607 2, bc BK607 3, bc BK607 4, bc BK607 5, bc BK607 6, bc BK607 7⟩ (fun hHeld => ?_)
        clear hK K
        refine normA 9 ?_
        exact norm_ (by simp only [putAll, Act.put, List.setIfInBounds_toArray, List.set_cons_zero, List.set_cons_succ]) (hCont (gb612, gb613) _ ⟨hHeld, (bk BK607), (bk BK608), (bk BK612), (bk BK613), GW612.out, GE612.out, NB607_612.out, NB612_607.out, NB608_612.out, NB612_608.out, NB613_612.out, NB612_613.out, GW613.out, GE613.out, NB607_613.out, NB613_607.out, NB608_613.out, NB613_608.out, (bl HB)⟩)
       ·
        skip
        refine box_step ?hg (N := 9) ?hd (cs := #[.int .i64 0, .int .i64 0, .int .i64 0, .int .i64 0, .int .i64 0, .int .i64 0, .slice none 0 0, .slice none 0 0]) (t := 44) ?hr ?_; (case hd => rfl); (case hg => rfl); (case hr => first | (go_simp; done) | (go_simp; rfl))
        intro gb613 hg w25 hbox hb
        have BK613 := Aside0.mk (hbox)
        have GW613 := geB hg (bl HB)
        have GE613 := geB hg (bl HB)
        replace HB := Aside0.mk (below_step (bl HB) hb)
        have NB607_613 := nlt hg (bk BK607)
        have NB613_607 := ngt hg (bk BK607)
        replace BK607 := Aside0.mk (blk_below (bk BK607) hb)
        have NB608_613 := nlt hg (bk BK608)
        have NB613_608 := ngt hg (bk BK608)
        replace BK608 := Aside0.mk (blk_below (bk BK608) hb)
        clear hb hbox hg
        refine hK.out _ _ ⟨bc BK607 0, bc BK607 1, bc BK607 2, bc BK607 3, bc BK607 4, bc BK607 5, bc BK607 6, bc BK607 7⟩ (fun hHeld => ?_)
        clear hK K
        refine normA 9 ?_
        refine one_ (i := 2) (N := some 8) #[true, true, true, true, false, false] rfl rfl (by kernel_rfl) (by decide) (fun K hK => ?_)
        refine box_step ?hg (N := 8) ?hd (cs := #[.int .i64 0, .int .i64 0, .int .i64 0, .int .i64 0, .int .i64 0, .int .i64 0, .slice none 0 0, .slice none 0 0]) (t := 44) ?hr ?_; (case hd => rfl); (case hg => rfl); (case hr => first | (go_simp; done) | (go_simp; rfl))
        intro gb612 hg w26 hbox hb
        have BK612 := Aside0.mk (hbox)
        have GW612 := geB hg (bl HB)
        have GE612 := geB hg (bl HB)
        replace HB := Aside0.mk (below_step (bl HB) hb)
        have NB607_612 := nlt hg (bk BK607)
        have NB612_607 := ngt hg (bk BK607)
        replace BK607 := Aside0.mk (blk_below (bk BK607) hb)
        have NB608_612 := nlt hg (bk BK608)
        have NB612_608 := ngt hg (bk BK608)
        replace BK608 := Aside0.mk (blk_below (bk BK608) hb)
        have NB613_612 := nlt hg (bk BK613)
        have NB612_613 := ngt hg (bk BK613)
        replace BK613 := Aside0.mk (blk_below (bk BK613) hb)
        clear hb hbox hg
        refine hK.out _ _ ⟨bc BK607 0, bc BK607 1, bc BK607 2, bc BK607 3, bc BK607 4, bc BK607 5, bc BK607 6, bc BK607 7⟩ (fun hHeld => ?_)
        clear hK K
        refine normA 8 ?_
        exact norm_ (by simp only [putAll, Act.put, List.setIfInBounds_toArray, List.set_cons_zero, List.set_cons_succ]) (hCont (gb612, gb613) _ ⟨hHeld, (bk BK607), (bk BK608), (bk BK612), (bk BK613), GW612.out, GE612.out, NB607_612.out, NB612_607.out, NB608_612.out, NB612_608.out, NB613_612.out, NB612_613.out, GW613.out, GE613.out, NB607_613.out, NB613_607.out, NB608_613.out, NB613_608.out, (bl HB)⟩)
      rintro ⟨gb612, gb613⟩ w27 ⟨hS_, h0_, h1_, h2_, h3_, h4_, h5_, h6_, h7_, h8_, h9_, h10_, h11_, h12_, h13_, h14_, h15_, h16_, h17_, h18_⟩
      have n0_ : Aside0 (w27.heap[gb607]? = some (.cells #[.int .i64 a0_0, .int .i64 a0_1, .int .i64 a0_2, .int .i64 a0_3, .int .i64 a0_4, .int .i64 a0_5, .slice A0_6 l0_6.length c0_6, .slice A0_7 l0_7.length c0_7] 44 (0, 0))) := ⟨h0_⟩
      have n1_ : Aside0 (w27.heap[gb608]? = some (.cells #[.int .i64 a1_0, .int .i64 a1_1, .int .i64 a1_2] 71 (0, 0))) := ⟨h1_⟩
      have n2_ : Aside0 (w27.heap[gb612]? = some (.cells #[.int .i64 0, .int .i64 0, .int .i64 0, .int .i64 0, .int .i64 0, .int .i64 0, .slice none 0 0, .slice none 0 0] 44 (0, 0))) := ⟨h2_⟩
      have n3_ : Aside0 (w27.heap[gb613]? = some (.cells #[.int .i64 0, .int .i64 0, .int .i64 0, .int .i64 0, .int .i64 0, .int .i64 0, .slice none 0 0, .slice none 0 0] 44 (0, 0))) := ⟨h3_⟩
      have n4_ : Aside0 (w.heap.size ≤ gb612) := ⟨h4_⟩
      have n5_ : Aside0 (w.heap.size ≤ gb612) := ⟨h5_⟩
      have n6_ : Aside0 (gb607 ≠ gb612) := ⟨h6_⟩
      have n7_ : Aside0 (gb612 ≠ gb607) := ⟨h7_⟩
      have n8_ : Aside0 (gb608 ≠ gb612) := ⟨h8_⟩
      have n9_ : Aside0 (gb612 ≠ gb608) := ⟨h9_⟩
      have n10_ : Aside0 (gb613 ≠ gb612) := ⟨h10_⟩
      have n11_ : Aside0 (gb612 ≠ gb613) := ⟨h11_⟩
      have n12_ : Aside0 (w.heap.size ≤ gb613) := ⟨h12_⟩
      have n13_ : Aside0 (w.heap.size ≤ gb613) := ⟨h13_⟩
      have n14_ : Aside0 (gb607 ≠ gb613) := ⟨h14_⟩
      have n15_ : Aside0 (gb613 ≠ gb607) := ⟨h15_⟩
      have n16_ : Aside0 (gb608 ≠ gb613) := ⟨h16_⟩
      have n17_ : Aside0 (gb613 ≠ gb608) := ⟨h17_⟩
      have n18_ : Aside0 (Below w.heap.size w w27) := ⟨h18_⟩
      clear BK607
      clear BK608
      clear HB
      clear h0_ h1_ h2_ h3_ h4_ h5_ h6_ h7_ h8_ h9_ h10_ h11_ h12_ h13_ h14_ h15_ h16_ h17_ h18_
      have BK607 := n0_
      have BK608 := n1_
      have BK612 := n2_
      have BK613 := n3_
      have GW612 := n4_
      have GE612 := n5_
      have NB607_612 := n6_
      have NB612_607 := n7_
      have NB608_612 := n8_
      have NB612_608 := n9_
      have NB613_612 := n10_
      have NB612_613 := n11_
      have GW613 := n12_
      have GE613 := n13_
      have NB607_613 := n14_
      have NB613_607 := n15_
      have NB608_613 := n16_
      have NB613_608 := n17_
      have HB := n18_
      clear n0_ n1_ n2_ n3_ n4_ n5_ n6_ n7_ n8_ n9_ n10_ n11_ n12_ n13_ n14_ n15_ n16_ n17_ n18_
      have hHeld : w27.cell? ⟨gb607, 0, none⟩ = some (.int .i64 a0_0) ∧ w27.cell? ⟨gb607, 1, none⟩ = some (.int .i64 a0_1) ∧ w27.cell? ⟨gb607, 2, none⟩ = some (.int .i64 a0_2) ∧ w27.cell? ⟨gb607, 3, none⟩ = some (.int .i64 a0_3) ∧ w27.cell? ⟨gb607, 4, none⟩ = some (.int .i64 a0_4) ∧ w27.cell? ⟨gb607, 5, none⟩ = some (.int .i64 a0_5) ∧ w27.cell? ⟨gb607, 6, none⟩ = some (.slice A0_6 l0_6.length c0_6) ∧ w27.cell? ⟨gb607, 7, none⟩ = some (.slice A0_7 l0_7.length c0_7) := hS_
      refine norm_ (a' := ?_) ?_ ?_
      rotate_left
      ·
       simp only [putAll, Act.put, List.setIfInBounds_toArray, List.set_cons_zero, List.set_cons_succ]
       rfl
      refine one_ (i := 4) (N := none) #[true, true, true, true, true, false] rfl rfl (by kernel_rfl) (by decide) (fun K hK => ?_)
      have hs28 : w27.cell? ⟨gb612, 0, none⟩ = some (.int .i64 0) := bc BK612 0
      have hfs28 := blk_frozen BK612.out 0
      have hns28_0 := NB607_612.out
      have hns28_1 := NB608_612.out
      have hns28_3 := NB613_612.out
      have hms28_0 := NB612_607.out
      have hms28_1 := NB612_608.out
      have hms28_3 := NB612_613.out
      have hs29 : w27.cell? ⟨gb612, 1, none⟩ = some (.int .i64 0) := bc BK612 1
      have hfs29 := blk_frozen BK612.out 1
      have hns29_0 := NB607_612.out
      have hns29_1 := NB608_612.out
      have hns29_3 := NB613_612.out
      have hms29_0 := NB612_607.out
      have hms29_1 := NB612_608.out
      have hms29_3 := NB612_613.out
      have hs30 : w27.cell? ⟨gb612, 2, none⟩ = some (.int .i64 0) := bc BK612 2
      have hfs30 := blk_frozen BK612.out 2
      have hns30_0 := NB607_612.out
      have hns30_1 := NB608_612.out
      have hns30_3 := NB613_612.out
      have hms30_0 := NB612_607.out
      have hms30_1 := NB612_608.out
      have hms30_3 := NB612_613.out
      have hs31 : w27.cell? ⟨gb612, 3, none⟩ = some (.int .i64 0) := bc BK612 3
      have hfs31 := blk_frozen BK612.out 3
      have hns31_0 := NB607_612.out
      have hns31_1 := NB608_612.out
      have hns31_3 := NB613_612.out
      have hms31_0 := NB612_607.out
      have hms31_1 := NB612_608.out
      have hms31_3 := NB612_613.out
      have hs32 : w27.cell? ⟨gb612, 4, none⟩ = some (.int .i64 0) := bc BK612 4
      have hfs32 := blk_frozen BK612.out 4
      have hns32_0 := NB607_612.out
      have hns32_1 := NB608_612.out
      have hns32_3 := NB613_612.out
      have hms32_0 := NB612_607.out
      have hms32_1 := NB612_608.out
      have hms32_3 := NB612_613.out
      have hs33 : w27.cell? ⟨gb612, 5, none⟩ = some (.int .i64 0) := bc BK612 5
      have hfs33 := blk_frozen BK612.out 5
      have hns33_0 := NB607_612.out
      have hns33_1 := NB608_612.out
      have hns33_3 := NB613_612.out
      have hms33_0 := NB612_607.out
      have hms33_1 := NB612_608.out
      have hms33_3 := NB612_613.out
      have hs34 : w27.cell? ⟨gb612, 6, none⟩ = some (.slice none 0 0) := bc BK612 6
      have hfs34 := blk_frozen BK612.out 6
      have hns34_0 := NB607_612.out
      have hns34_1 := NB608_612.out
      have hns34_3 := NB613_612.out
      have hms34_0 := NB612_607.out
      have hms34_1 := NB612_608.out
      have hms34_3 := NB612_613.out
      have hs35 : w27.cell? ⟨gb612, 7, none⟩ = some (.slice none 0 0) := bc BK612 7
      have hfs35 := blk_frozen BK612.out 7
      have hns35_0 := NB607_612.out
      have hns35_1 := NB608_612.out
      have hns35_3 := NB613_612.out
      have hms35_0 := NB612_607.out
      have hms35_1 := NB612_608.out
      have hms35_3 := NB612_613.out
      refine skip_ (w1 := ((((((((w27.setCell ⟨gb612, 0, none⟩ (.int .i64 a0_0)).setCell ⟨gb612, 1, none⟩ (.int .i64 a0_1)).setCell ⟨gb612, 2, none⟩ (.int .i64 a0_2)).setCell ⟨gb612, 3, none⟩ (.int .i64 a0_3)).setCell ⟨gb612, 4, none⟩ (.int .i64 a0_4)).setCell ⟨gb612, 5, none⟩ (.int .i64 a0_5)).setCell ⟨gb612, 6, none⟩ (.slice A0_6 l0_6.length c0_6)).setCell ⟨gb612, 7, none⟩ (.slice A0_7 l0_7.length c0_7))) (by rfl) rfl (exec_store8 BK612.out (by rfl) (by rfl) (by rfl) (by rfl) (by kernel_rfl) rfl rfl rfl rfl rfl rfl rfl rfl) ?_
      refine hK.out _ _ ⟨((cell_far (p := ⟨gb612, _, none⟩) NB607_612.out _).trans (((cell_far (p := ⟨gb612, _, none⟩) NB607_612.out _).trans (((cell_far (p := ⟨gb612, _, none⟩) NB607_612.out _).trans (((cell_far (p := ⟨gb612, _, none⟩) NB607_612.out _).trans (((cell_far (p := ⟨gb612, _, none⟩) NB607_612.out _).trans (((cell_far (p := ⟨gb612, _, none⟩) NB607_612.out _).trans (((cell_far (p := ⟨gb612, _, none⟩) NB607_612.out _).trans (((cell_far (p := ⟨gb612, _, none⟩) NB607_612.out _).trans (hHeld.1)))))))))))))))), ((cell_far (p := ⟨gb612, _, none⟩) NB607_612.out _).trans (((cell_far (p := ⟨gb612, _, none⟩) NB607_612.out _).trans (((cell_far (p := ⟨gb612, _, none⟩) NB607_612.out _).trans (((cell_far (p := ⟨gb612, _, none⟩) NB607_612.out _).trans (((cell_far (p := ⟨gb612, _, none⟩) NB607_612.out _).trans (((cell_far (p := ⟨gb612, _, none⟩) NB607_612.out _).trans (((cell_far (p := ⟨gb612, _, none⟩) NB607_612.out _).trans (((cell_far (p := ⟨gb612, _, none⟩) NB607_612.out _).trans (hHeld.2.1)))))))))))))))), ((cell_far (p := ⟨gb612, _, none⟩) NB607_612.out _).trans (((cell_far (p := ⟨gb612, _, none⟩) NB607_612.out _).trans (((cell_far (p := ⟨gb612, _, none⟩) NB607_612.out _).trans (((cell_far (p := ⟨gb612, _, none⟩) NB607_612.out _).trans (((cell_far (p := ⟨gb612, _, none⟩) NB607_612.out _).trans (((cell_far (p := ⟨gb612, _, none⟩) NB607_612.out _).trans (((cell_far (p := ⟨gb612, _, none⟩) NB607_612.out _).trans (((cell_far (p := ⟨gb612, _, none⟩) NB607_612.out _).trans (hHeld.2.2.1)))))))))))))))), ((cell_far (p := ⟨gb612, _, none⟩) NB607_612.out _).trans (((cell_far (p := ⟨gb612, _, none⟩) NB607_612.out _).trans (((cell_far (p := ⟨gb612, _, none⟩) NB607_612.out _).trans (((cell_far (p := ⟨gb612, _, none⟩) NB607_612.out _).trans (((cell_far (p := ⟨gb612, _, none⟩) NB607_612.out _).trans (((cell_far (p := ⟨gb612, _, none⟩) NB607_612.out _).trans (((cell_far (p := ⟨gb612, _, none⟩) NB607_612.out _).trans (((cell_far (p := ⟨gb612, _, none⟩) NB607_612.out _).trans (hHeld.2.2.2.1)))))))))))))))), ((cell_far (p := ⟨gb612, _, none⟩) NB607_612.out _).trans (((cell_far (p := ⟨gb612, _, none⟩) NB607_612.out _).trans (((cell_far (p := ⟨gb612, _, none⟩) NB607_612.out _).trans (((cell_far (p := ⟨gb612, _, none⟩) NB607_612.out _).trans (((cell_far (p := ⟨gb612, _, none⟩) NB607_612.out _).trans (((cell_far (p := ⟨gb612, _, none⟩) NB607_612.out _).trans (((cell_far (p := ⟨gb612, _, none⟩) NB607_612.out _).trans (((cell_far (p := ⟨gb612, _, none⟩) NB607_612.out _).trans (hHeld.2.2.2.2.1)))))))))))))))), ((cell_far (p := ⟨gb612, _, none⟩) NB607_612.out _).trans (((cell_far (p := ⟨gb612, _, none⟩) NB607_612.out _).trans (((cell_far (p := ⟨gb612, _, none⟩) NB607_612.out _).trans (((cell_far (p := ⟨gb612, _, none⟩) NB607_612.out _).trans (((cell_far (p := ⟨gb612, _, none⟩) NB607_612.out _).trans (((cell_far (p := ⟨gb612, _, none⟩) NB607_612.out _).trans (((cell_far (p := ⟨gb612, _, none⟩) NB607_612.out _).trans (((cell_far (p := ⟨gb612, _, none⟩) NB607_612.out _).trans (hHeld.2.2.2.2.2.1)))))))))))))))), ((cell_far (p := ⟨gb612, _, none⟩) NB607_612.out _).trans (((cell_far (p := ⟨gb612, _, none⟩) NB607_612.out _).trans (((cell_far (p := ⟨gb612, _, none⟩) NB607_612.out _).trans (((cell_far (p := ⟨gb612, _, none⟩) NB607_612.out _).trans (((cell_far (p := ⟨gb612, _, none⟩) NB607_612.out _).trans (((cell_far (p := ⟨gb612, _, none⟩) NB607_612.out _).trans (((cell_far (p := ⟨gb612, _, none⟩) NB607_612.out _).trans (((cell_far (p := ⟨gb612, _, none⟩) NB607_612.out _).trans (hHeld.2.2.2.2.2.2.1)))))))))))))))), ((cell_far (p := ⟨gb612, _, none⟩) NB607_612.out _).trans (((cell_far (p := ⟨gb612, _, none⟩) NB607_612.out _).trans (((cell_far (p := ⟨gb612, _, none⟩) NB607_612.out _).trans (((cell_far (p := ⟨gb612, _, none⟩) NB607_612.out _).trans (((cell_far (p := ⟨gb612, _, none⟩) NB607_612.out _).trans (((cell_far (p := ⟨gb612, _, none⟩) NB607_612.out _).trans (((cell_far (p := ⟨gb612, _, none⟩) NB607_612.out _).trans (((cell_far (p := ⟨gb612, _, none⟩) NB607_612.out _).trans (hHeld.2.2.2.2.2.2.2))))))))))))))))⟩ (fun hHeld => ?_)
      clear hK K
      have n0_ : Aside0 (((((((((w27.setCell ⟨gb612, 0, none⟩ (.int .i64 a0_0)).setCell ⟨gb612, 1, none⟩ (.int .i64 a0_1)).setCell ⟨gb612, 2, none⟩ (.int .i64 a0_2)).setCell ⟨gb612, 3, none⟩ (.int .i64 a0_3)).setCell ⟨gb612, 4, none⟩ (.int .i64 a0_4)).setCell ⟨gb612, 5, none⟩ (.int .i64 a0_5)).setCell ⟨gb612, 6, none⟩ (.slice A0_6 l0_6.length c0_6)).setCell ⟨gb612, 7, none⟩ (.slice A0_7 l0_7.length c0_7)).heap[gb607]? = some (.cells #[.int .i64 a0_0, .int .i64 a0_1, .int .i64 a0_2, .int .i64 a0_3, .int .i64 a0_4, .int .i64 a0_5, .slice A0_6 l0_6.length c0_6, .slice A0_7 l0_7.length c0_7] 44 (0, 0))) := ⟨bk BK607⟩
      have n1_ : Aside0 (((((((((w27.setCell ⟨gb612, 0, none⟩ (.int .i64 a0_0)).setCell ⟨gb612, 1, none⟩ (.int .i64 a0_1)).setCell ⟨gb612, 2, none⟩ (.int .i64 a0_2)).setCell ⟨gb612, 3, none⟩ (.int .i64 a0_3)).setCell ⟨gb612, 4, none⟩ (.int .i64 a0_4)).setCell ⟨gb612, 5, none⟩ (.int .i64 a0_5)).setCell ⟨gb612, 6, none⟩ (.slice A0_6 l0_6.length c0_6)).setCell ⟨gb612, 7, none⟩ (.slice A0_7 l0_7.length c0_7)).heap[gb608]? = some (.cells #[.int .i64 a1_0, .int .i64 a1_1, .int .i64 a1_2] 71 (0, 0))) := ⟨bk BK608⟩
      have n2_ : Aside0 (((((((((w27.setCell ⟨gb612, 0, none⟩ (.int .i64 a0_0)).setCell ⟨gb612, 1, none⟩ (.int .i64 a0_1)).setCell ⟨gb612, 2, none⟩ (.int .i64 a0_2)).setCell ⟨gb612, 3, none⟩ (.int .i64 a0_3)).setCell ⟨gb612, 4, none⟩ (.int .i64 a0_4)).setCell ⟨gb612, 5, none⟩ (.int .i64 a0_5)).setCell ⟨gb612, 6, none⟩ (.slice A0_6 l0_6.length c0_6)).setCell ⟨gb612, 7, none⟩ (.slice A0_7 l0_7.length c0_7)).heap[gb612]? = some (.cells #[.int .i64 a0_0, .int .i64 a0_1, .int .i64 a0_2, .int .i64 a0_3, .int .i64 a0_4, .int .i64 a0_5, .slice A0_6 l0_6.length c0_6, .slice A0_7 l0_7.length c0_7] 44 (0, 0))) := ⟨by (with_reducible repeat (first | refine blk_drewN ?_ _ | refine blk_drew ?_ | refine blk_alloc ?_ _)); refine blk_put (cs := #[.int .i64 a0_0, .int .i64 a0_1, .int .i64 a0_2, .int .i64 a0_3, .int .i64 a0_4, .int .i64 a0_5, .slice A0_6 l0_6.length c0_6, .slice none 0 0]) ?_ 7 _ rfl; (with_reducible repeat (first | refine blk_drewN ?_ _ | refine blk_drew ?_ | refine blk_alloc ?_ _)); refine blk_put (cs := #[.int .i64 a0_0, .int .i64 a0_1, .int .i64 a0_2, .int .i64 a0_3, .int .i64 a0_4, .int .i64 a0_5, .slice none 0 0, .slice none 0 0]) ?_ 6 _ rfl; (with_reducible repeat (first | refine blk_drewN ?_ _ | refine blk_drew ?_ | refine blk_alloc ?_ _)); refine blk_put (cs := #[.int .i64 a0_0, .int .i64 a0_1, .int .i64 a0_2, .int .i64 a0_3, .int .i64 a0_4, .int .i64 0, .slice none 0 0, .slice none 0 0]) ?_ 5 _ rfl; (with_reducible repeat (first | refine blk_drewN ?_ _ | refine blk_drew ?_ | refine blk_alloc ?_ _)); refine blk_put (cs := #[.int .i64 a0_0, .int .i64 a0_1, .int .i64 a0_2, .int .i64 a0_3, .int .i64 0, .int .i64 0, .slice none 0 0, .slice none 0 0]) ?_ 4 _ rfl; (with_reducible repeat (first | refine blk_drewN ?_ _ | refine blk_drew ?_ | refine blk_alloc ?_ _)); refine blk_put (cs := #[.int .i64 a0_0, .int .i64 a0_1, .int .i64 a0_2, .int .i64 0, .int .i64 0, .int .i64 0, .slice none 0 0, .slice none 0 0]) ?_ 3 _ rfl; (with_reducible repeat (first | refine blk_drewN ?_ _ | refine blk_drew ?_ | refine blk_alloc ?_ _)); refine blk_put (cs := #[.int .i64 a0_0, .int .i64 a0_1, .int .i64 0, .int .i64 0, .int .i64 0, .int .i64 0, .slice none 0 0, .slice none 0 0]) ?_ 2 _ rfl; (with_reducible repeat (first | refine blk_drewN ?_ _ | refine blk_drew ?_ | refine blk_alloc ?_ _)); refine blk_put (cs := #[.int .i64 a0_0, .int .i64 0, .int .i64 0, .int .i64 0, .int .i64 0, .int .i64 0, .slice none 0 0, .slice none 0 0]) ?_ 1 _ rfl; (with_reducible repeat (first | refine blk_drewN ?_ _ | refine blk_drew ?_ | refine blk_alloc ?_ _)); refine blk_put (cs := #[.int .i64 0, .int .i64 0, .int .i64 0, .int .i64 0, .int .i64 0, .int .i64 0, .slice none 0 0, .slice none 0 0]) ?_ 0 _ rfl; (with_reducible repeat (first | refine blk_drewN ?_ _ | refine blk_drew ?_ | refine blk_alloc ?_ _)); exact BK612.out⟩
      have n3_ : Aside0 (((((((((w27.setCell ⟨gb612, 0, none⟩ (.int .i64 a0_0)).setCell ⟨gb612, 1, none⟩ (.int .i64 a0_1)).setCell ⟨gb612, 2, none⟩ (.int .i64 a0_2)).setCell ⟨gb612, 3, none⟩ (.int .i64 a0_3)).setCell ⟨gb612, 4, none⟩ (.int .i64 a0_4)).setCell ⟨gb612, 5, none⟩ (.int .i64 a0_5)).setCell ⟨gb612, 6, none⟩ (.slice A0_6 l0_6.length c0_6)).setCell ⟨gb612, 7, none⟩ (.slice A0_7 l0_7.length c0_7)).heap[gb613]? = some (.cells #[.int .i64 0, .int .i64 0, .int .i64 0, .int .i64 0, .int .i64 0, .int .i64 0, .slice none 0 0, .slice none 0 0] 44 (0, 0))) := ⟨bk BK613⟩
      have n4_ : Aside0 (Below w.heap.size w ((((((((w27.setCell ⟨gb612, 0, none⟩ (.int .i64 a0_0)).setCell ⟨gb612, 1, none⟩ (.int .i64 a0_1)).setCell ⟨gb612, 2, none⟩ (.int .i64 a0_2)).setCell ⟨gb612, 3, none⟩ (.int .i64 a0_3)).setCell ⟨gb612, 4, none⟩ (.int .i64 a0_4)).setCell ⟨gb612, 5, none⟩ (.int .i64 a0_5)).setCell ⟨gb612, 6, none⟩ (.slice A0_6 l0_6.length c0_6)).setCell ⟨gb612, 7, none⟩ (.slice A0_7 l0_7.length c0_7))) := ⟨bl HB⟩
      clear BK607 BK608 BK612 BK613 HB
      generalize ((((((((w27.setCell ⟨gb612, 0, none⟩ (.int .i64 a0_0)).setCell ⟨gb612, 1, none⟩ (.int .i64 a0_1)).setCell ⟨gb612, 2, none⟩ (.int .i64 a0_2)).setCell ⟨gb612, 3, none⟩ (.int .i64 a0_3)).setCell ⟨gb612, 4, none⟩ (.int .i64 a0_4)).setCell ⟨gb612, 5, none⟩ (.int .i64 a0_5)).setCell ⟨gb612, 6, none⟩ (.slice A0_6 l0_6.length c0_6)).setCell ⟨gb612, 7, none⟩ (.slice A0_7 l0_7.length c0_7)) = w27b at n0_ n1_ n2_ n3_ n4_ hHeld ⊢
      have BK607 := n0_
      have BK608 := n1_
      have BK612 := n2_
      have BK613 := n3_
      have HB := n4_
      clear n0_ n1_ n2_ n3_ n4_
      refine one_ (i := 5) (N := none) #[true, true, true, true, true, true] rfl rfl (by kernel_rfl) (by decide) (fun K hK => ?_)
      have hs36 : w27b.cell? ⟨gb613, 0, none⟩ = some (.int .i64 0) := bc BK613 0
      have hfs36 := blk_frozen BK613.out 0
      have hns36_0 := NB607_613.out
      have hns36_1 := NB608_613.out
      have hns36_2 := NB612_613.out
      have hms36_0 := NB613_607.out
      have hms36_1 := NB613_608.out
      have hms36_2 := NB613_612.out
      have hs37 : w27b.cell? ⟨gb613, 1, none⟩ = some (.int .i64 0) := bc BK613 1
      have hfs37 := blk_frozen BK613.out 1
      have hns37_0 := NB607_613.out
      have hns37_1 := NB608_613.out
      have hns37_2 := NB612_613.out
      have hms37_0 := NB613_607.out
      have hms37_1 := NB613_608.out
      have hms37_2 := NB613_612.out
      have hs38 : w27b.cell? ⟨gb613, 2, none⟩ = some (.int .i64 0) := bc BK613 2
      have hfs38 := blk_frozen BK613.out 2
      have hns38_0 := NB607_613.out
      have hns38_1 := NB608_613.out
      have hns38_2 := NB612_613.out
      have hms38_0 := NB613_607.out
      have hms38_1 := NB613_608.out
      have hms38_2 := NB613_612.out
      have hs39 : w27b.cell? ⟨gb613, 3, none⟩ = some (.int .i64 0) := bc BK613 3
      have hfs39 := blk_frozen BK613.out 3
      have hns39_0 := NB607_613.out
      have hns39_1 := NB608_613.out
      have hns39_2 := NB612_613.out
      have hms39_0 := NB613_607.out
      have hms39_1 := NB613_608.out
      have hms39_2 := NB613_612.out
      have hs40 : w27b.cell? ⟨gb613, 4, none⟩ = some (.int .i64 0) := bc BK613 4
      have hfs40 := blk_frozen BK613.out 4
      have hns40_0 := NB607_613.out
      have hns40_1 := NB608_613.out
      have hns40_2 := NB612_613.out
      have hms40_0 := NB613_607.out
      have hms40_1 := NB613_608.out
      have hms40_2 := NB613_612.out
      have hs41 : w27b.cell? ⟨gb613, 5, none⟩ = some (.int .i64 0) := bc BK613 5
      have hfs41 := blk_frozen BK613.out 5
      have hns41_0 := NB607_613.out
      have hns41_1 := NB608_613.out
      have hns41_2 := NB612_613.out
      have hms41_0 := NB613_607.out
      have hms41_1 := NB613_608.out
      have hms41_2 := NB613_612.out
      have hs42 : w27b.cell? ⟨gb613, 6, none⟩ = some (.slice none 0 0) := bc BK613 6
      have hfs42 := blk_frozen BK613.out 6
      have hns42_0 := NB607_613.out
      have hns42_1 := NB608_613.out
      have hns42_2 := NB612_613.out
      have hms42_0 := NB613_607.out
      have hms42_1 := NB613_608.out
      have hms42_2 := NB613_612.out
      have hs43 : w27b.cell? ⟨gb613, 7, none⟩ = some (.slice none 0 0) := bc BK613 7
      have hfs43 := blk_frozen BK613.out 7
      have hns43_0 := NB607_613.out
      have hns43_1 := NB608_613.out
      have hns43_2 := NB612_613.out
      have hms43_0 := NB613_607.out
      have hms43_1 := NB613_608.out
      have hms43_2 := NB613_612.out
      refine skip_ (w1 := ((((((((w27b.setCell ⟨gb613, 0, none⟩ (.int .i64 a0_0)).setCell ⟨gb613, 1, none⟩ (.int .i64 a0_1)).setCell ⟨gb613, 2, none⟩ (.int .i64 a0_2)).setCell ⟨gb613, 3, none⟩ (.int .i64 a0_3)).setCell ⟨gb613, 4, none⟩ (.int .i64 a0_4)).setCell ⟨gb613, 5, none⟩ (.int .i64 a0_5)).setCell ⟨gb613, 6, none⟩ (.slice A0_6 l0_6.length c0_6)).setCell ⟨gb613, 7, none⟩ (.slice A0_7 l0_7.length c0_7))) (by rfl) rfl (exec_store8 BK613.out (by rfl) (by rfl) (by rfl) (by rfl) (by kernel_rfl) rfl rfl rfl rfl rfl rfl rfl rfl) ?_
      refine hK.out _ _ ⟨((cell_far (p := ⟨gb613, _, none⟩) NB607_613.out _).trans (((cell_far (p := ⟨gb613, _, none⟩) NB607_613.out _).trans (((cell_far (p := ⟨gb613, _, none⟩) NB607_613.out _).trans (((cell_far (p := ⟨gb613, _, none⟩) NB607_613.out _).trans (((cell_far (p := ⟨gb613, _, none⟩) NB607_613.out _).trans (((cell_far (p := ⟨gb613, _, none⟩) NB607_613.out _).trans (((cell_far (p := ⟨gb613, _, none⟩) NB607_613.out _).trans (((cell_far (p := ⟨gb613, _, none⟩) NB607_613.out _).trans (hHeld.1)))))))))))))))), ((cell_far (p := ⟨gb613, _, none⟩) NB607_613.out _).trans (((cell_far (p := ⟨gb613, _, none⟩) NB607_613.out _).trans (((cell_far (p := ⟨gb613, _, none⟩) NB607_613.out _).trans (((cell_far (p := ⟨gb613, _, none⟩) NB607_613.out _).trans (((cell_far (p := ⟨gb613, _, none⟩) NB607_613.out _).trans (((cell_far (p := ⟨gb613, _, none⟩) NB607_613.out _).trans (((cell_far (p := ⟨gb613, _, none⟩) NB607_613.out _).trans (((cell_far (p := ⟨gb613, _, none⟩) NB607_613.out _).trans (hHeld.2.1)))))))))))))))), ((cell_far (p := ⟨gb613, _, none⟩) NB607_613.out _).trans (((cell_far (p := ⟨gb613, _, none⟩) NB607_613.out _).trans (((cell_far (p := ⟨gb613, _, none⟩) NB607_613.out _).trans (((cell_far (p := ⟨gb613, _, none⟩) NB607_613.out _).trans (((cell_far (p := ⟨gb613, _, none⟩) NB607_613.out _).trans (((cell_far (p := ⟨gb613, _, none⟩) NB607_613.out _).trans (((cell_far (p := ⟨gb613, _, none⟩) NB607_613.out _).trans (((cell_far (p := ⟨gb613, _, none⟩) NB607_613.out _).trans (hHeld.2.2.1)))))))))))))))), ((cell_far (p := ⟨gb613, _, none⟩) NB607_613.out _).trans (((cell_far (p := ⟨gb613, _, none⟩) NB607_613.out _).trans (((cell_far (p := ⟨gb613, _, none⟩) NB607_613.out _).trans (((cell_far (p := ⟨gb613, _, none⟩) NB607_613.out _).trans (((cell_far (p := ⟨gb613, _, none⟩) NB607_613.out _).trans (((cell_far (p := ⟨gb613, _, none⟩) NB607_613.out _).trans (((cell_far (p := ⟨gb613, _, none⟩) NB607_613.out _).trans (((cell_far (p := ⟨gb613, _, none⟩) NB607_613.out _).trans (hHeld.2.2.2.1)))))))))))))))), ((cell_far (p := ⟨gb613, _, none⟩) NB607_613.out _).trans (((cell_far (p := ⟨gb613, _, none⟩) NB607_613.out _).trans (((cell_far (p := ⟨gb613, _, none⟩) NB607_613.out _).trans (((cell_far (p := ⟨gb613, _, none⟩) NB607_613.out _).trans (((cell_far (p := ⟨gb613, _, none⟩) NB607_613.out _).trans (((cell_far (p := ⟨gb613, _, none⟩) NB607_613.out _).trans (((cell_far (p := ⟨gb613, _, none⟩) NB607_613.out _).trans (((cell_far (p := ⟨gb613, _, none⟩) NB607_613.out _).trans (hHeld.2.2.2.2.1)))))))))))))))), ((cell_far (p := ⟨gb613, _, none⟩) NB607_613.out _).trans (((cell_far (p := ⟨gb613, _, none⟩) NB607_613.out _).trans (((cell_far (p := ⟨gb613, _, none⟩) NB607_613.out _).trans (((cell_far (p := ⟨gb613, _, none⟩) NB607_613.out _).trans (((cell_far (p := ⟨gb613, _, none⟩) NB607_613.out _).trans (((cell_far (p := ⟨gb613, _, none⟩) NB607_613.out _).trans (((cell_far (p := ⟨gb613, _, none⟩) NB607_613.out _).trans (((cell_far (p := ⟨gb613, _, none⟩) NB607_613.out _).trans (hHeld.2.2.2.2.2.1)))))))))))))))), ((cell_far (p := ⟨gb613, _, none⟩) NB607_613.out _).trans (((cell_far (p := ⟨gb613, _, none⟩) NB607_613.out _).trans (((cell_far (p := ⟨gb613, _, none⟩) NB607_613.out _).trans (((cell_far (p := ⟨gb613, _, none⟩) NB607_613.out _).trans (((cell_far (p := ⟨gb613, _, none⟩) NB607_613.out _).trans (((cell_far (p := ⟨gb613, _, none⟩) NB607_613.out _).trans (((cell_far (p := ⟨gb613, _, none⟩) NB607_613.out _).trans (((cell_far (p := ⟨gb613, _, none⟩) NB607_613.out _).trans (hHeld.2.2.2.2.2.2.1)))))))))))))))), ((cell_far (p := ⟨gb613, _, none⟩) NB607_613.out _).trans (((cell_far (p := ⟨gb613, _, none⟩) NB607_613.out _).trans (((cell_far (p := ⟨gb613, _, none⟩) NB607_613.out _).trans (((cell_far (p := ⟨gb613, _, none⟩) NB607_613.out _).trans (((cell_far (p := ⟨gb613, _, none⟩) NB607_613.out _).trans (((cell_far (p := ⟨gb613, _, none⟩) NB607_613.out _).trans (((cell_far (p := ⟨gb613, _, none⟩) NB607_613.out _).trans (((cell_far (p := ⟨gb613, _, none⟩) NB607_613.out _).trans (hHeld.2.2.2.2.2.2.2))))))))))))))))⟩ (fun hHeld => ?_)
      clear hK K
      refine done_ (by kernel_rfl) ?_
      try go_wp2
      have n0_ : Aside0 (((((((((w27b.setCell ⟨gb613, 0, none⟩ (.int .i64 a0_0)).setCell ⟨gb613, 1, none⟩ (.int .i64 a0_1)).setCell ⟨gb613, 2, none⟩ (.int .i64 a0_2)).setCell ⟨gb613, 3, none⟩ (.int .i64 a0_3)).setCell ⟨gb613, 4, none⟩ (.int .i64 a0_4)).setCell ⟨gb613, 5, none⟩ (.int .i64 a0_5)).setCell ⟨gb613, 6, none⟩ (.slice A0_6 l0_6.length c0_6)).setCell ⟨gb613, 7, none⟩ (.slice A0_7 l0_7.length c0_7)).heap[gb607]? = some (.cells #[.int .i64 a0_0, .int .i64 a0_1, .int .i64 a0_2, .int .i64 a0_3, .int .i64 a0_4, .int .i64 a0_5, .slice A0_6 l0_6.length c0_6, .slice A0_7 l0_7.length c0_7] 44 (0, 0))) := ⟨bk BK607⟩
      have n1_ : Aside0 (((((((((w27b.setCell ⟨gb613, 0, none⟩ (.int .i64 a0_0)).setCell ⟨gb613, 1, none⟩ (.int .i64 a0_1)).setCell ⟨gb613, 2, none⟩ (.int .i64 a0_2)).setCell ⟨gb613, 3, none⟩ (.int .i64 a0_3)).setCell ⟨gb613, 4, none⟩ (.int .i64 a0_4)).setCell ⟨gb613, 5, none⟩ (.int .i64 a0_5)).setCell ⟨gb613, 6, none⟩ (.slice A0_6 l0_6.length c0_6)).setCell ⟨gb613, 7, none⟩ (.slice A0_7 l0_7.length c0_7)).heap[gb608]? = some (.cells #[.int .i64 a1_0, .int .i64 a1_1, .int .i64 a1_2] 71 (0, 0))) := ⟨bk BK608⟩
      have n2_ : Aside0 (((((((((w27b.setCell ⟨gb613, 0, none⟩ (.int .i64 a0_0)).setCell ⟨gb613, 1, none⟩ (.int .i64 a0_1)).setCell ⟨gb613, 2, none⟩ (.int .i64 a0_2)).setCell ⟨gb613, 3, none⟩ (.int .i64 a0_3)).setCell ⟨gb613, 4, none⟩ (.int .i64 a0_4)).setCell ⟨gb613, 5, none⟩ (.int .i64 a0_5)).setCell ⟨gb613, 6, none⟩ (.slice A0_6 l0_6.length c0_6)).setCell ⟨gb613, 7, none⟩ (.slice A0_7 l0_7.length c0_7)).heap[gb612]? = some (.cells #[.int .i64 a0_0, .int .i64 a0_1, .int .i64 a0_2, .int .i64 a0_3, .int .i64 a0_4, .int .i64 a0_5, .slice A0_6 l0_6.length c0_6, .slice A0_7 l0_7.length c0_7] 44 (0, 0))) := ⟨bk BK612⟩
      have n3_ : Aside0 (((((((((w27b.setCell ⟨gb613, 0, none⟩ (.int .i64 a0_0)).setCell ⟨gb613, 1, none⟩ (.int .i64 a0_1)).setCell ⟨gb613, 2, none⟩ (.int .i64 a0_2)).setCell ⟨gb613, 3, none⟩ (.int .i64 a0_3)).setCell ⟨gb613, 4, none⟩ (.int .i64 a0_4)).setCell ⟨gb613, 5, none⟩ (.int .i64 a0_5)).setCell ⟨gb613, 6, none⟩ (.slice A0_6 l0_6.length c0_6)).setCell ⟨gb613, 7, none⟩ (.slice A0_7 l0_7.length c0_7)).heap[gb613]? = some (.cells #[.int .i64 a0_0, .int .i64 a0_1, .int .i64 a0_2, .int .i64 a0_3, .int .i64 a0_4, .int .i64 a0_5, .slice A0_6 l0_6.length c0_6, .slice A0_7 l0_7.length c0_7] 44 (0, 0))) := ⟨by (with_reducible repeat (first | refine blk_drewN ?_ _ | refine blk_drew ?_ | refine blk_alloc ?_ _)); refine blk_put (cs := #[.int .i64 a0_0, .int .i64 a0_1, .int .i64 a0_2, .int .i64 a0_3, .int .i64 a0_4, .int .i64 a0_5, .slice A0_6 l0_6.length c0_6, .slice none 0 0]) ?_ 7 _ rfl; (with_reducible repeat (first | refine blk_drewN ?_ _ | refine blk_drew ?_ | refine blk_alloc ?_ _)); refine blk_put (cs := #[.int .i64 a0_0, .int .i64 a0_1, .int .i64 a0_2, .int .i64 a0_3, .int .i64 a0_4, .int .i64 a0_5, .slice none 0 0, .slice none 0 0]) ?_ 6 _ rfl; (with_reducible repeat (first | refine blk_drewN ?_ _ | refine blk_drew ?_ | refine blk_alloc ?_ _)); refine blk_put (cs := #[.int .i64 a0_0, .int .i64 a0_1, .int .i64 a0_2, .int .i64 a0_3, .int .i64 a0_4, .int .i64 0, .slice none 0 0, .slice none 0 0]) ?_ 5 _ rfl; (with_reducible repeat (first | refine blk_drewN ?_ _ | refine blk_drew ?_ | refine blk_alloc ?_ _)); refine blk_put (cs := #[.int .i64 a0_0, .int .i64 a0_1, .int .i64 a0_2, .int .i64 a0_3, .int .i64 0, .int .i64 0, .slice none 0 0, .slice none 0 0]) ?_ 4 _ rfl; (with_reducible repeat (first | refine blk_drewN ?_ _ | refine blk_drew ?_ | refine blk_alloc ?_ _)); refine blk_put (cs := #[.int .i64 a0_0, .int .i64 a0_1, .int .i64 a0_2, .int .i64 0, .int .i64 0, .int .i64 0, .slice none 0 0, .slice none 0 0]) ?_ 3 _ rfl; (with_reducible repeat (first | refine blk_drewN ?_ _ | refine blk_drew ?_ | refine blk_alloc ?_ _)); refine blk_put (cs := #[.int .i64 a0_0, .int .i64 a0_1, .int .i64 0, .int .i64 0, .int .i64 0, .int .i64 0, .slice none 0 0, .slice none 0 0]) ?_ 2 _ rfl; (with_reducible repeat (first | refine blk_drewN ?_ _ | refine blk_drew ?_ | refine blk_alloc ?_ _)); refine blk_put (cs := #[.int .i64 a0_0, .int .i64 0, .int .i64 0, .int .i64 0, .int .i64 0, .int .i64 0, .slice none 0 0, .slice none 0 0]) ?_ 1 _ rfl; (with_reducible repeat (first | refine blk_drewN ?_ _ | refine blk_drew ?_ | refine blk_alloc ?_ _)); refine blk_put (cs := #[.int .i64 0, .int .i64 0, .int .i64 0, .int .i64 0, .int .i64 0, .int .i64 0, .slice none 0 0, .slice none 0 0]) ?_ 0 _ rfl; (with_reducible repeat (first | refine blk_drewN ?_ _ | refine blk_drew ?_ | refine blk_alloc ?_ _)); exact BK613.out⟩
      have n4_ : Aside0 (Below w.heap.size w ((((((((w27b.setCell ⟨gb613, 0, none⟩ (.int .i64 a0_0)).setCell ⟨gb613, 1, none⟩ (.int .i64 a0_1)).setCell ⟨gb613, 2, none⟩ (.int .i64 a0_2)).setCell ⟨gb613, 3, none⟩ (.int .i64 a0_3)).setCell ⟨gb613, 4, none⟩ (.int .i64 a0_4)).setCell ⟨gb613, 5, none⟩ (.int .i64 a0_5)).setCell ⟨gb613, 6, none⟩ (.slice A0_6 l0_6.length c0_6)).setCell ⟨gb613, 7, none⟩ (.slice A0_7 l0_7.length c0_7))) := ⟨bl HB⟩
      (try clear BK607)
      (try clear BK608)
      (try clear BK612)
      (try clear BK613)
      (try clear HB)
      generalize ((((((((w27b.setCell ⟨gb613, 0, none⟩ (.int .i64 a0_0)).setCell ⟨gb613, 1, none⟩ (.int .i64 a0_1)).setCell ⟨gb613, 2, none⟩ (.int .i64 a0_2)).setCell ⟨gb613, 3, none⟩ (.int .i64 a0_3)).setCell ⟨gb613, 4, none⟩ (.int .i64 a0_4)).setCell ⟨gb613, 5, none⟩ (.int .i64 a0_5)).setCell ⟨gb613, 6, none⟩ (.slice A0_6 l0_6.length c0_6)).setCell ⟨gb613, 7, none⟩ (.slice A0_7 l0_7.length c0_7)) = w44 at n0_ n1_ n2_ n3_ n4_ ⊢
      have BK607 := n0_
      have BK608 := n1_
      have BK612 := n2_
      have BK613 := n3_
      have HB := n4_
      clear n0_ n1_ n2_ n3_ n4_
      replace BK607 := Aside0.mk (blk_drew BK607.out)
      replace BK608 := Aside0.mk (blk_drew BK608.out)
      replace BK612 := Aside0.mk (blk_drew BK612.out)
      replace BK613 := Aside0.mk (blk_drew BK613.out)
      replace HB := Aside0.mk (below_drew1 HB.out)
      refine start_ (n := 9) (S := fun w' => w'.cell? ⟨gb607, 0, none⟩ = some (.int .i64 a0_0) ∧ w'.cell? ⟨gb607, 1, none⟩ = some (.int .i64 a0_1) ∧ w'.cell? ⟨gb607, 2, none⟩ = some (.int .i64 a0_2) ∧ w'.cell? ⟨gb607, 3, none⟩ = some (.int .i64 a0_3) ∧ w'.cell? ⟨gb607, 4, none⟩ = some (.int .i64 a0_4) ∧ w'.cell? ⟨gb607, 5, none⟩ = some (.int .i64 a0_5) ∧ w'.cell? ⟨gb607, 6, none⟩ = some (.slice A0_6 l0_6.length c0_6) ∧ w'.cell? ⟨gb607, 7, none⟩ = some (.slice A0_7 l0_7.length c0_7) ∧ w'.cell? ⟨gb608, 0, none⟩ = some (.int .i64 a1_0) ∧ w'.cell? ⟨gb608, 1, none⟩ = some (.int .i64 a1_1) ∧ w'.cell? ⟨gb608, 2, none⟩ = some (.int .i64 a1_2)) (ds := []) #[false, false, false, false, false, false, false, false, false] (by kernel_rfl) rfl rfl ⟨bc BK607 0, bc BK607 1, bc BK607 2, bc BK607 3, bc BK607 4, bc BK607 5, bc BK607 6, bc BK607 7, bc BK608 0, bc BK608 1, bc BK608 2⟩ (fun hHeld => ?_); refine with_tabW remontoirlaw04_ScaleMore.tab5 remontoirlaw04_ScaleMore.bits5 (fun HT_ HW_ => ?_)
      generalize w44.drew = w45 at BK607 BK608 BK612 BK613 HB hHeld ⊢
      refine pureA 1 36 ?_
      refine takeA 2 37 rfl rfl (by rintro w' ⟨s0, s1, s2, s3, s4, s5, s6, s7, s8, s9, s10⟩; go_simp; with_reducible rfl) ?_
      refine takeA 4 39 rfl rfl (by rintro w' ⟨s0, s1, s2, s3, s4, s5, s6, s7, s8, s9, s10⟩; go_simp; with_reducible rfl) ?_
      refine join_ (σ := Value × Value × Value) 3 #[true, true, true, true, true, true, false, false, false] (fun s_ => [(35, s_.1), (38, s_.2.1), (40, s_.2.2)]) (fun s_ w' => (w'.cell? ⟨gb607, 0, none⟩ = some (.int .i64 a0_0) ∧ w'.cell? ⟨gb607, 1, none⟩ = some (.int .i64 a0_1) ∧ w'.cell? ⟨gb607, 2, none⟩ = some (.int .i64 a0_2) ∧ w'.cell? ⟨gb607, 3, none⟩ = some (.int .i64 a0_3) ∧ w'.cell? ⟨gb607, 4, none⟩ = some (.int .i64 a0_4) ∧ w'.cell? ⟨gb607, 5, none⟩ = some (.int .i64 a0_5) ∧ w'.cell? ⟨gb607, 6, none⟩ = some (.slice A0_6 l0_6.length c0_6) ∧ w'.cell? ⟨gb607, 7, none⟩ = some (.slice A0_7 l0_7.length c0_7) ∧ w'.cell? ⟨gb608, 0, none⟩ = some (.int .i64 a1_0) ∧ w'.cell? ⟨gb608, 1, none⟩ = some (.int .i64 a1_1) ∧ w'.cell? ⟨gb608, 2, none⟩ = some (.int .i64 a1_2)) ∧ (Kd.R k71 71 w' w.heap.size (fun k_ => some k_ ≠ (s_.2.2 : Value).ownBlock ∧ k_ ≠ gb608) s_.2.1 y617) ∧ (Kd.R k71 71 w' w.heap.size (fun k_ => some k_ ≠ (s_.2.1 : Value).ownBlock ∧ k_ ≠ gb608) s_.2.2 y620) ∧ (w'.heap[gb607]? = some (.cells #[.int .i64 a0_0, .int .i64 a0_1, .int .i64 a0_2, .int .i64 a0_3, .int .i64 a0_4, .int .i64 a0_5, .slice A0_6 l0_6.length c0_6, .slice A0_7 l0_7.length c0_7] 44 (0, 0))) ∧ (w'.heap[gb608]? = some (.cells #[.int .i64 a1_0, .int .i64 a1_1, .int .i64 a1_2] 71 (0, 0))) ∧ (w'.heap[gb612]? = some (.cells #[.int .i64 a0_0, .int .i64 a0_1, .int .i64 a0_2, .int .i64 a0_3, .int .i64 a0_4, .int .i64 a0_5, .slice A0_6 l0_6.length c0_6, .slice A0_7 l0_7.length c0_7] 44 (0, 0))) ∧ (w'.heap[gb613]? = some (.cells #[.int .i64 a0_0, .int .i64 a0_1, .int .i64 a0_2, .int .i64 a0_3, .int .i64 a0_4, .int .i64 a0_5, .slice A0_6 l0_6.length c0_6, .slice A0_7 l0_7.length c0_7] 44 (0, 0))) ∧ (Below w.heap.size w w')) ?_ ?_
      rotate_left
      ·
       intro hCont
       refine two_ (i := 0) (j := 5) (Ni := some 35) (Nj := some 40) #[true, true, true, false, true, false, false, false, false] #[false, true, true, false, true, true, false, false, false] rfl rfl rfl rfl (two_of HT_.out (by kernel_rfl)) (by decide) (by decide) (fun K hK => ?_) (fun K hK => ?_)
       ·
        skip
        refine Kd.R_lit_step k71 _ 71 ?hg (N := 35) ?hd (xs := ([] : List (S71))) (inner := []) (ok := fun _ => True) (okp := fun _ => True) ?hr ?hp (fun _ hk => hk) trivial (Below.refl _ _) (Nat.le_refl _) (by simp) ?_; (case hd => rfl); (case hg => rfl); (case hr => first | (go_simp; done) | (go_simp; rfl)); (case hp => exact (Reps.none _ _))
        intro v615 w46 ho47 hb hg_ hnew_
        clear hg_ hnew_
        (first | rw [← Ny614.out] at ho47 | (simp only [Int.reduceToNat] at ho47; rw [← Ny614.out] at ho47))
        have HO616 := Aside0.mk (Kd.R_lower (Kd.R_newB ho47 (bk BK608)) (below_size (bl HB)))
        replace BK607 := Aside0.mk (blk_below (bk BK607) hb)
        replace BK608 := Aside0.mk (blk_below (bk BK608) hb)
        replace BK612 := Aside0.mk (blk_below (bk BK612) hb)
        replace BK613 := Aside0.mk (blk_below (bk BK613) hb)
        replace HB := Aside0.mk (below_step (bl HB) hb)
        clear hb ho47
        refine hK.out _ _ ⟨bc BK607 0, bc BK607 1, bc BK607 2, bc BK607 3, bc BK607 4, bc BK607 5, bc BK607 6, bc BK607 7, bc BK608 0, bc BK608 1, bc BK608 2⟩ (fun hHeld => ?_)
        clear hK K
        refine normA 35 ?_
        refine two_ (i := 3) (j := 5) (Ni := some 38) (Nj := some 40) #[true, true, true, true, true, false, false, false, false] #[true, true, true, false, true, true, false, false, false] rfl rfl rfl rfl (two_of HT_.out (by kernel_rfl)) (by decide) (by decide) (fun K hK => ?_) (fun K hK => ?_)
        ·
         skip
         refine Kd.R_append_rows_step k71 (w0 := w) w.heap.size (by rfl) (.tmp 35) (.tmp 37) 42 71 (.agg #[(.int .i64 0), (.int .i64 0), (.int .i64 0)]) 24 rfl Tryd.underlying42 info71 rfl (by decide) (by omega) v615 y614 l0_7 _ _ _ (fun k_ => k_ ≠ gb608) (fun _ => False) rfl rfl ?aO ?aR (fun _ _ h => h) (fun _ h => h.elim) ?aF ?aB ?aS ?aL ?_
         (case aR => repeat (first | exact (Kd.C_below HR0_7.out HB.out) | (with_reducible refine Kd.C_alloc ?_ _) | (with_reducible refine Kd.C_drewN ?_ _) | (with_reducible refine Kd.C_drew ?_)))
         (case aB => exact (bl HB))
         (case aF => exact (fun k_ hk => Kd.freshB (g := gb608) (o := .cells #[.int .i64 a1_0, .int .i64 a1_1, .int .i64 a1_2] 71 (0, 0)) (bk BK608) k_ hk))
         (case aO => exact (by (with_reducible repeat (first | apply Kd.R_alloc | apply Kd.R_drewN | apply Kd.R_drew)); exact Kd.R_mono HO616.out (fun _ hk => hk.2)))
         (case aS => exact (below_size (bl HB)))
         (case aL => have := LMc20.out; omega)
         intro v618 w48 ho hb hg hat
         rw [← Ny617.out] at ho
         have n0_ := Aside0.mk (blk_grown (bk BK607) hg (Kd.R_ne HO616.out BK607.out (by decide)))
         have n1_ := Aside0.mk (blk_grown (bk BK608) hg (Kd.R_away HO616.out (fun _ hk => hk.2)))
         have n2_ := Aside0.mk (blk_grown (bk BK612) hg (Kd.R_ne HO616.out BK612.out (by decide)))
         have n3_ := Aside0.mk (blk_grown (bk BK613) hg (Kd.R_ne HO616.out BK613.out (by decide)))
         have n4_ := Aside0.mk (hb)
         have n5_ := Aside0.mk (ho)
         clear BK607
         clear BK608
         clear BK612
         clear BK613
         clear HB
         clear HO616
         have BK607 := n0_
         have BK608 := n1_
         have BK612 := n2_
         have BK613 := n3_
         have HB := n4_
         have HO619 := n5_
         clear n0_ n1_ n2_ n3_ n4_ n5_
         clear ho hb hg hat
         refine hK.out _ _ ⟨bc BK607 0, bc BK607 1, bc BK607 2, bc BK607 3, bc BK607 4, bc BK607 5, bc BK607 6, bc BK607 7, bc BK608 0, bc BK608 1, bc BK608 2⟩ (fun hHeld => ?_)
         clear hK K
         refine normA 38 ?_
         refine oneA 5 (some 40) (fun K hK => ?_)
         refine Kd.R_lit_step k71 _ 71 ?hg (N := 40) ?hd (xs := ([(⟨a1_0, (⟨a1_1, a1_2⟩ : S23)⟩ : S71)] : List (S71))) (inner := [.int .i64 a1_0, .int .i64 a1_1, .int .i64 a1_2]) (ok := fun _ => True) (okp := fun _ => True) ?hr ?hp (fun _ hk => hk) trivial (Below.refl _ _) (Nat.le_refl _) (by simp) ?_; (case hd => rfl); (case hg => rfl); (case hr => first | (go_simp; done) | (go_simp; rfl)); (case hp => exact (Reps.c3 (show Kd.M k71 _ _ _ (⟨a1_0, (⟨a1_1, a1_2⟩ : S23)⟩ : S71) [.int .i64 a1_0, .int .i64 a1_1, .int .i64 a1_2] from (k71_mkM _ _ _ (⟨a1_0, (⟨a1_1, a1_2⟩ : S23)⟩ : S71) )) (Reps.none _ _)))
         intro v621 w49 ho50 hb hg_ hnew_
         clear hg_ hnew_
         (first | rw [← Ny620.out] at ho50 | (simp only [Int.reduceToNat] at ho50; rw [← Ny620.out] at ho50))
         have HO622 := Aside0.mk (Kd.R_lower (Kd.R_newB (Kd.R_new' ho50 (Kd.R_lt (rk HO619))) (bk BK608)) (below_size (bl HB)))
         replace HO619 := Aside0.mk (Kd.R_elder' (rk HO619) (Kd.R_base ho50) hb)
         replace BK607 := Aside0.mk (blk_below (bk BK607) hb)
         replace BK608 := Aside0.mk (blk_below (bk BK608) hb)
         replace BK612 := Aside0.mk (blk_below (bk BK612) hb)
         replace BK613 := Aside0.mk (blk_below (bk BK613) hb)
         replace HB := Aside0.mk (below_step (bl HB) hb)
         clear hb ho50
         refine hK.out _ _ ⟨bc BK607 0, bc BK607 1, bc BK607 2, bc BK607 3, bc BK607 4, bc BK607 5, bc BK607 6, bc BK607 7, bc BK608 0, bc BK608 1, bc BK608 2⟩ (fun hHeld => ?_)
         clear hK K
         refine normA 40 ?_
         exact norm_ (by simp only [putAll, Act.put, List.setIfInBounds_toArray, List.set_cons_zero, List.set_cons_succ]) (hCont (v615, v618, v621) _ ⟨hHeld, (by (with_reducible repeat (first | apply Kd.R_alloc | apply Kd.R_drewN | apply Kd.R_drew)); exact Kd.R_mono HO619.out (fun _ hk => ⟨hk.2, hk.1⟩)), (by (with_reducible repeat (first | apply Kd.R_alloc | apply Kd.R_drewN | apply Kd.R_drew)); exact Kd.R_mono HO622.out (fun _ hk => ⟨hk.1.2, hk.2⟩)), (bk BK607), (bk BK608), (bk BK612), (bk BK613), (bl HB)⟩)
        ·
         skip
         refine Kd.R_lit_step k71 _ 71 ?hg (N := 40) ?hd (xs := ([(⟨a1_0, (⟨a1_1, a1_2⟩ : S23)⟩ : S71)] : List (S71))) (inner := [.int .i64 a1_0, .int .i64 a1_1, .int .i64 a1_2]) (ok := fun _ => True) (okp := fun _ => True) ?hr ?hp (fun _ hk => hk) trivial (Below.refl _ _) (Nat.le_refl _) (by simp) ?_; (case hd => rfl); (case hg => rfl); (case hr => first | (go_simp; done) | (go_simp; rfl)); (case hp => exact (Reps.c3 (show Kd.M k71 _ _ _ (⟨a1_0, (⟨a1_1, a1_2⟩ : S23)⟩ : S71) [.int .i64 a1_0, .int .i64 a1_1, .int .i64 a1_2] from (k71_mkM _ _ _ (⟨a1_0, (⟨a1_1, a1_2⟩ : S23)⟩ : S71) )) (Reps.none _ _)))
         intro v621 w48 ho49 hb hg_ hnew_
         clear hg_ hnew_
         (first | rw [← Ny620.out] at ho49 | (simp only [Int.reduceToNat] at ho49; rw [← Ny620.out] at ho49))
         have HO622 := Aside0.mk (Kd.R_lower (Kd.R_newB (Kd.R_new' ho49 (Kd.R_lt (rk HO616))) (bk BK608)) (below_size (bl HB)))
         replace HO616 := Aside0.mk (Kd.R_elder' (rk HO616) (Kd.R_base ho49) hb)
         replace BK607 := Aside0.mk (blk_below (bk BK607) hb)
         replace BK608 := Aside0.mk (blk_below (bk BK608) hb)
         replace BK612 := Aside0.mk (blk_below (bk BK612) hb)
         replace BK613 := Aside0.mk (blk_below (bk BK613) hb)
         replace HB := Aside0.mk (below_step (bl HB) hb)
         clear hb ho49
         refine hK.out _ _ ⟨bc BK607 0, bc BK607 1, bc BK607 2, bc BK607 3, bc BK607 4, bc BK607 5, bc BK607 6, bc BK607 7, bc BK608 0, bc BK608 1, bc BK608 2⟩ (fun hHeld => ?_)
         clear hK K
         refine normA 40 ?_
         refine oneA 3 (some 38) (fun K hK => ?_)
         refine Kd.R_append_rows_step k71 (w0 := w) w.heap.size (by rfl) (.tmp 35) (.tmp 37) 42 71 (.agg #[(.int .i64 0), (.int .i64 0), (.int .i64 0)]) 24 rfl Tryd.underlying42 info71 rfl (by decide) (by omega) v615 y614 l0_7 _ _ _ (fun k_ => some k_ ≠ (v621 : Value).ownBlock ∧ k_ ≠ gb608) (fun _ => False) rfl rfl ?aO ?aR (fun _ _ h => h) (fun _ h => h.elim) ?aF ?aB ?aS ?aL ?_
         (case aR => repeat (first | exact (Kd.C_below HR0_7.out HB.out) | (with_reducible refine Kd.C_alloc ?_ _) | (with_reducible refine Kd.C_drewN ?_ _) | (with_reducible refine Kd.C_drew ?_)))
         (case aB => exact (bl HB))
         (case aF => exact (fun k_ hk => ⟨Kd.fresh' (Kd.R_lt (rk HO622)) k_ hk, Kd.freshB (g := gb608) (o := .cells #[.int .i64 a1_0, .int .i64 a1_1, .int .i64 a1_2] 71 (0, 0)) (bk BK608) k_ hk⟩))
         (case aO => exact (by (with_reducible repeat (first | apply Kd.R_alloc | apply Kd.R_drewN | apply Kd.R_drew)); exact Kd.R_mono HO616.out (fun _ hk => ⟨hk.2, hk.1.2⟩)))
         (case aS => exact (below_size (bl HB)))
         (case aL => have := LMc20.out; omega)
         intro v618 w50 ho hb hg hat
         rw [← Ny617.out] at ho
         have n0_ := Aside0.mk (blk_grown (bk BK607) hg (Kd.R_ne HO616.out BK607.out (by decide)))
         have n1_ := Aside0.mk (blk_grown (bk BK608) hg (Kd.R_away HO616.out (fun _ hk => hk.1.2)))
         have n2_ := Aside0.mk (blk_grown (bk BK612) hg (Kd.R_ne HO616.out BK612.out (by decide)))
         have n3_ := Aside0.mk (blk_grown (bk BK613) hg (Kd.R_ne HO616.out BK613.out (by decide)))
         have n4_ := Aside0.mk (Kd.R_after (ok := (fun k_ => k_ ≠ gb608)) (by (with_reducible repeat (first | apply Kd.R_alloc | apply Kd.R_drewN | apply Kd.R_drew)); exact Kd.R_mono HO622.out (fun _ hk => ⟨hk.2, hk.1.2⟩)) hg hat)
         have n5_ := Aside0.mk (hb)
         have n6_ := Aside0.mk (ho)
         clear BK607
         clear BK608
         clear BK612
         clear BK613
         clear HO622
         clear HB
         clear HO616
         have BK607 := n0_
         have BK608 := n1_
         have BK612 := n2_
         have BK613 := n3_
         have HO622 := n4_
         have HB := n5_
         have HO619 := n6_
         clear n0_ n1_ n2_ n3_ n4_ n5_ n6_
         clear ho hb hg hat
         refine hK.out _ _ ⟨bc BK607 0, bc BK607 1, bc BK607 2, bc BK607 3, bc BK607 4, bc BK607 5, bc BK607 6, bc BK607 7, bc BK608 0, bc BK608 1, bc BK608 2⟩ (fun hHeld => ?_)
         clear hK K
         refine normA 38 ?_
         exact norm_ (by simp only [putAll, Act.put, List.setIfInBounds_toArray, List.set_cons_zero, List.set_cons_succ]) (hCont (v615, v618, v621) _ ⟨hHeld, (rk HO619), (by (with_reducible repeat (first | apply Kd.R_alloc | apply Kd.R_drewN | apply Kd.R_drew)); exact Kd.R_mono HO622.out (fun _ hk => ⟨hk.2, hk.1⟩)), (bk BK607), (bk BK608), (bk BK612), (bk BK613), (bl HB)⟩)
       ·
        skip
        refine Kd.R_lit_step k71 _ 71 ?hg (N := 40) ?hd (xs := ([(⟨a1_0, (⟨a1_1, a1_2⟩ : S23)⟩ : S71)] : List (S71))) (inner := [.int .i64 a1_0, .int .i64 a1_1, .int .i64 a1_2]) (ok := fun _ => True) (okp := fun _ => True) ?hr ?hp (fun _ hk => hk) trivial (Below.refl _ _) (Nat.le_refl _) (by simp) ?_; (case hd => rfl); (case hg => rfl); (case hr => first | (go_simp; done) | (go_simp; rfl)); (case hp => exact (Reps.c3 (show Kd.M k71 _ _ _ (⟨a1_0, (⟨a1_1, a1_2⟩ : S23)⟩ : S71) [.int .i64 a1_0, .int .i64 a1_1, .int .i64 a1_2] from (k71_mkM _ _ _ (⟨a1_0, (⟨a1_1, a1_2⟩ : S23)⟩ : S71) )) (Reps.none _ _)))
        intro v621 w46 ho47 hb hg_ hnew_
        clear hg_ hnew_
        (first | rw [← Ny620.out] at ho47 | (simp only [Int.reduceToNat] at ho47; rw [← Ny620.out] at ho47))
        have HO622 := Aside0.mk (Kd.R_lower (Kd.R_newB ho47 (bk BK608)) (below_size (bl HB)))
        replace BK607 := Aside0.mk (blk_below (bk BK607) hb)
        replace BK608 := Aside0.mk (blk_below (bk BK608) hb)
        replace BK612 := Aside0.mk (blk_below (bk BK612) hb)
        replace BK613 := Aside0.mk (blk_below (bk BK613) hb)
        replace HB := Aside0.mk (below_step (bl HB) hb)
        clear hb ho47
        refine hK.out _ _ ⟨bc BK607 0, bc BK607 1, bc BK607 2, bc BK607 3, bc BK607 4, bc BK607 5, bc BK607 6, bc BK607 7, bc BK608 0, bc BK608 1, bc BK608 2⟩ (fun hHeld => ?_)
        clear hK K
        refine normA 40 ?_
        refine oneA 0 (some 35) (fun K hK => ?_)
        refine Kd.R_lit_step k71 _ 71 ?hg (N := 35) ?hd (xs := ([] : List (S71))) (inner := []) (ok := fun _ => True) (okp := fun _ => True) ?hr ?hp (fun _ hk => hk) trivial (Below.refl _ _) (Nat.le_refl _) (by simp) ?_; (case hd => rfl); (case hg => rfl); (case hr => first | (go_simp; done) | (go_simp; rfl)); (case hp => exact (Reps.none _ _))
        intro v615 w48 ho49 hb hg_ hnew_
        clear hg_ hnew_
        (first | rw [← Ny614.out] at ho49 | (simp only [Int.reduceToNat] at ho49; rw [← Ny614.out] at ho49))
        have HO616 := Aside0.mk (Kd.R_lower (Kd.R_newB (Kd.R_new' ho49 (Kd.R_lt (rk HO622))) (bk BK608)) (below_size (bl HB)))
        replace HO622 := Aside0.mk (Kd.R_elder' (rk HO622) (Kd.R_base ho49) hb)
        replace BK607 := Aside0.mk (blk_below (bk BK607) hb)
        replace BK608 := Aside0.mk (blk_below (bk BK608) hb)
        replace BK612 := Aside0.mk (blk_below (bk BK612) hb)
        replace BK613 := Aside0.mk (blk_below (bk BK613) hb)
        replace HB := Aside0.mk (below_step (bl HB) hb)
        clear hb ho49
        refine hK.out _ _ ⟨bc BK607 0, bc BK607 1, bc BK607 2, bc BK607 3, bc BK607 4, bc BK607 5, bc BK607 6, bc BK607 7, bc BK608 0, bc BK608 1, bc BK608 2⟩ (fun hHeld => ?_)
        clear hK K
        refine normA 35 ?_
        refine oneA 3 (some 38) (fun K hK => ?_)
        refine Kd.R_append_rows_step k71 (w0 := w) w.heap.size (by rfl) (.tmp 35) (.tmp 37) 42 71 (.agg #[(.int .i64 0), (.int .i64 0), (.int .i64 0)]) 24 rfl Tryd.underlying42 info71 rfl (by decide) (by omega) v615 y614 l0_7 _ _ _ (fun k_ => some k_ ≠ (v621 : Value).ownBlock ∧ k_ ≠ gb608) (fun _ => False) rfl rfl ?aO ?aR (fun _ _ h => h) (fun _ h => h.elim) ?aF ?aB ?aS ?aL ?_
        (case aR => repeat (first | exact (Kd.C_below HR0_7.out HB.out) | (with_reducible refine Kd.C_alloc ?_ _) | (with_reducible refine Kd.C_drewN ?_ _) | (with_reducible refine Kd.C_drew ?_)))
        (case aB => exact (bl HB))
        (case aF => exact (fun k_ hk => ⟨Kd.fresh' (Kd.R_lt (rk HO622)) k_ hk, Kd.freshB (g := gb608) (o := .cells #[.int .i64 a1_0, .int .i64 a1_1, .int .i64 a1_2] 71 (0, 0)) (bk BK608) k_ hk⟩))
        (case aO => exact (by (with_reducible repeat (first | apply Kd.R_alloc | apply Kd.R_drewN | apply Kd.R_drew)); exact Kd.R_mono HO616.out (fun _ hk => ⟨hk.1.2, hk.2⟩)))
        (case aS => exact (below_size (bl HB)))
        (case aL => have := LMc20.out; omega)
        intro v618 w50 ho hb hg hat
        rw [← Ny617.out] at ho
        have n0_ := Aside0.mk (blk_grown (bk BK607) hg (Kd.R_ne HO616.out BK607.out (by decide)))
        have n1_ := Aside0.mk (blk_grown (bk BK608) hg (Kd.R_away HO616.out (fun _ hk => hk.2)))
        have n2_ := Aside0.mk (blk_grown (bk BK612) hg (Kd.R_ne HO616.out BK612.out (by decide)))
        have n3_ := Aside0.mk (blk_grown (bk BK613) hg (Kd.R_ne HO616.out BK613.out (by decide)))
        have n4_ := Aside0.mk (Kd.R_after (ok := (fun k_ => k_ ≠ gb608)) (by (with_reducible repeat (first | apply Kd.R_alloc | apply Kd.R_drewN | apply Kd.R_drew)); exact Kd.R_mono HO622.out (fun _ hk => ⟨hk.1.2, hk.2⟩)) hg hat)
        have n5_ := Aside0.mk (hb)
        have n6_ := Aside0.mk (ho)
        clear BK607
        clear BK608
        clear BK612
        clear BK613
        clear HO622
        clear HB
        clear HO616
        have BK607 := n0_
        have BK608 := n1_
        have BK612 := n2_
        have BK613 := n3_
        have HO622 := n4_
        have HB := n5_
        have HO619 := n6_
        clear n0_ n1_ n2_ n3_ n4_ n5_ n6_
        clear ho hb hg hat
        refine hK.out _ _ ⟨bc BK607 0, bc BK607 1, bc BK607 2, bc BK607 3, bc BK607 4, bc BK607 5, bc BK607 6, bc BK607 7, bc BK608 0, bc BK608 1, bc BK608 2⟩ (fun hHeld => ?_)
        clear hK K
        refine normA 38 ?_
        exact norm_ (by simp only [putAll, Act.put, List.setIfInBounds_toArray, List.set_cons_zero, List.set_cons_succ]) (hCont (v615, v618, v621) _ ⟨hHeld, (rk HO619), (by (with_reducible repeat (first | apply Kd.R_alloc | apply Kd.R_drewN | apply Kd.R_drew)); exact Kd.R_mono HO622.out (fun _ hk => ⟨hk.2, hk.1⟩)), (bk BK607), (bk BK608), (bk BK612), (bk BK613), (bl HB)⟩)
      rintro ⟨v615, v618, v621⟩ w51 ⟨hS_, h0_, h1_, h2_, h3_, h4_, h5_, h6_⟩
      have n0_ : Aside0 (Kd.R k71 71 w51 w.heap.size (fun k_ => some k_ ≠ (v621 : Value).ownBlock ∧ k_ ≠ gb608) v618 y617) := ⟨h0_⟩
      have n1_ : Aside0 (Kd.R k71 71 w51 w.heap.size (fun k_ => some k_ ≠ (v618 : Value).ownBlock ∧ k_ ≠ gb608) v621 y620) := ⟨h1_⟩
      have n2_ : Aside0 (w51.heap[gb607]? = some (.cells #[.int .i64 a0_0, .int .i64 a0_1, .int .i64 a0_2, .int .i64 a0_3, .int .i64 a0_4, .int .i64 a0_5, .slice A0_6 l0_6.length c0_6, .slice A0_7 l0_7.length c0_7] 44 (0, 0))) := ⟨h2_⟩
      have n3_ : Aside0 (w51.heap[gb608]? = some (.cells #[.int .i64 a1_0, .int .i64 a1_1, .int .i64 a1_2] 71 (0, 0))) := ⟨h3_⟩
      have n4_ : Aside0 (w51.heap[gb612]? = some (.cells #[.int .i64 a0_0, .int .i64 a0_1, .int .i64 a0_2, .int .i64 a0_3, .int .i64 a0_4, .int .i64 a0_5, .slice A0_6 l0_6.length c0_6, .slice A0_7 l0_7.length c0_7] 44 (0, 0))) := ⟨h4_⟩
      have n5_ : Aside0 (w51.heap[gb613]? = some (.cells #[.int .i64 a0_0, .int .i64 a0_1, .int .i64 a0_2, .int .i64 a0_3, .int .i64 a0_4, .int .i64 a0_5, .slice A0_6 l0_6.length c0_6, .slice A0_7 l0_7.length c0_7] 44 (0, 0))) := ⟨h5_⟩
      have n6_ : Aside0 (Below w.heap.size w w51) := ⟨h6_⟩
      clear BK607
      clear BK608
      clear BK612
      clear BK613
      clear HB
      clear h0_ h1_ h2_ h3_ h4_ h5_ h6_
      have HO619 := n0_
      have HO622 := n1_
      have BK607 := n2_
      have BK608 := n3_
      have BK612 := n4_
      have BK613 := n5_
      have HB := n6_
      clear n0_ n1_ n2_ n3_ n4_ n5_ n6_
      have hHeld : w51.cell? ⟨gb607, 0, none⟩ = some (.int .i64 a0_0) ∧ w51.cell? ⟨gb607, 1, none⟩ = some (.int .i64 a0_1) ∧ w51.cell? ⟨gb607, 2, none⟩ = some (.int .i64 a0_2) ∧ w51.cell? ⟨gb607, 3, none⟩ = some (.int .i64 a0_3) ∧ w51.cell? ⟨gb607, 4, none⟩ = some (.int .i64 a0_4) ∧ w51.cell? ⟨gb607, 5, none⟩ = some (.int .i64 a0_5) ∧ w51.cell? ⟨gb607, 6, none⟩ = some (.slice A0_6 l0_6.length c0_6) ∧ w51.cell? ⟨gb607, 7, none⟩ = some (.slice A0_7 l0_7.length c0_7) ∧ w51.cell? ⟨gb608, 0, none⟩ = some (.int .i64 a1_0) ∧ w51.cell? ⟨gb608, 1, none⟩ = some (.int .i64 a1_1) ∧ w51.cell? ⟨gb608, 2, none⟩ = some (.int .i64 a1_2) := hS_
      obtain ⟨Ao53, co53, eo53⟩ := Kd.R_slice HO622.out
      (first | subst eo53 | (injection eo53 with f1_ f2_ f3_; have f4_ := f1_.symm; have f5_ := f3_.symm; clear f1_ f2_ f3_; subst f4_; subst f5_))
      refine norm_ (a' := ?_) ?_ ?_
      rotate_left
      ·
       simp only [putAll, Act.put, List.setIfInBounds_toArray, List.set_cons_zero, List.set_cons_succ]
       rfl
      refine oneA 6 (some 41) (fun K hK => ?_)
      refine Kd.R_append_rows_step k71 (w0 := w) w.heap.size (by rfl) (.tmp 38) (.tmp 40) 42 71 (.agg #[(.int .i64 0), (.int .i64 0), (.int .i64 0)]) 24 rfl Tryd.underlying42 info71 rfl (by decide) (by omega) v618 y617 y620 _ _ _ (fun k_ => some k_ ≠ (.slice Ao53 y620.length co53 : Value).ownBlock ∧ k_ ≠ gb608) (fun _ => False) rfl rfl ?aO ?aR (fun _ _ h => h) (fun _ h => h.elim) ?aF ?aB ?aS ?aL ?_
      (case aR => repeat (first | exact (Kd.R_reads' HO622.out).2.2 | (with_reducible refine Kd.C_alloc ?_ _) | (with_reducible refine Kd.C_drewN ?_ _) | (with_reducible refine Kd.C_drew ?_)))
      (case aB => exact (bl HB))
      (case aF => exact (fun k_ hk => ⟨Kd.fresh' (Kd.R_lt (rk HO622)) k_ hk, Kd.freshB (g := gb608) (o := .cells #[.int .i64 a1_0, .int .i64 a1_1, .int .i64 a1_2] 71 (0, 0)) (bk BK608) k_ hk⟩))
      (case aO => exact (rk HO619))
      (case aS => exact (below_size (bl HB)))
      (case aL => have := LMc21.out; omega)
      intro v624 w52 ho hb hg hat
      rw [← Ny623.out] at ho
      have n0_ := Aside0.mk (blk_grown (bk BK607) hg (Kd.R_ne HO619.out BK607.out (by decide)))
      have n1_ := Aside0.mk (blk_grown (bk BK608) hg (Kd.R_away HO619.out (fun _ hk => hk.2)))
      have n2_ := Aside0.mk (blk_grown (bk BK612) hg (Kd.R_ne HO619.out BK612.out (by decide)))
      have n3_ := Aside0.mk (blk_grown (bk BK613) hg (Kd.R_ne HO619.out BK613.out (by decide)))
      have n4_ := Aside0.mk (Kd.R_after (ok := (fun k_ => k_ ≠ gb608)) (by (with_reducible repeat (first | apply Kd.R_alloc | apply Kd.R_drewN | apply Kd.R_drew)); exact Kd.R_mono HO622.out (fun _ hk => ⟨hk.2, hk.1⟩)) hg hat)
      have n5_ := Aside0.mk (hb)
      have n6_ := Aside0.mk (ho)
      clear BK607
      clear BK608
      clear BK612
      clear BK613
      clear HO622
      clear HB
      clear HO619
      have BK607 := n0_
      have BK608 := n1_
      have BK612 := n2_
      have BK613 := n3_
      have HO622 := n4_
      have HB := n5_
      have HO625 := n6_
      clear n0_ n1_ n2_ n3_ n4_ n5_ n6_
      clear ho hb hg hat
      obtain ⟨Ao54, co54, eo54⟩ := Kd.R_slice HO625.out
      (first | subst eo54 | (injection eo54 with f1_ f2_ f3_; have f4_ := f1_.symm; have f5_ := f3_.symm; clear f1_ f2_ f3_; subst f4_; subst f5_))
      refine hK.out _ _ ⟨bc BK607 0, bc BK607 1, bc BK607 2, bc BK607 3, bc BK607 4, bc BK607 5, bc BK607 6, bc BK607 7, bc BK608 0, bc BK608 1, bc BK608 2⟩ (fun hHeld => ?_)
      clear hK K
      refine normA 41 ?_
      refine pureA 7 42 ?_
      refine oneA 8 none (fun K hK => ?_)
      have hs55 : w52.cell? ⟨gb612, 7, none⟩ = some (.slice A0_7 l0_7.length c0_7) := bc BK612 7
      have hfs55 := blk_frozen BK612.out 7
      have hns55_0 := NB607_612.out
      have hns55_1 := NB608_612.out
      have hns55_3 := NB613_612.out
      have hms55_0 := NB612_607.out
      have hms55_1 := NB612_608.out
      have hms55_3 := NB612_613.out
      refine skip_ (w1 := ?_) (by rfl) rfl ?_ ?_
      rotate_left
      ·
       go_simp
       rfl
      refine hK.out _ _ ⟨((cell_far (p := ⟨gb612, _, none⟩) NB607_612.out _).trans (hHeld.1)), ((cell_far (p := ⟨gb612, _, none⟩) NB607_612.out _).trans (hHeld.2.1)), ((cell_far (p := ⟨gb612, _, none⟩) NB607_612.out _).trans (hHeld.2.2.1)), ((cell_far (p := ⟨gb612, _, none⟩) NB607_612.out _).trans (hHeld.2.2.2.1)), ((cell_far (p := ⟨gb612, _, none⟩) NB607_612.out _).trans (hHeld.2.2.2.2.1)), ((cell_far (p := ⟨gb612, _, none⟩) NB607_612.out _).trans (hHeld.2.2.2.2.2.1)), ((cell_far (p := ⟨gb612, _, none⟩) NB607_612.out _).trans (hHeld.2.2.2.2.2.2.1)), ((cell_far (p := ⟨gb612, _, none⟩) NB607_612.out _).trans (hHeld.2.2.2.2.2.2.2.1)), ((cell_far (p := ⟨gb612, _, none⟩) NB608_612.out _).trans (hHeld.2.2.2.2.2.2.2.2.1)), ((cell_far (p := ⟨gb612, _, none⟩) NB608_612.out _).trans (hHeld.2.2.2.2.2.2.2.2.2.1)), ((cell_far (p := ⟨gb612, _, none⟩) NB608_612.out _).trans (hHeld.2.2.2.2.2.2.2.2.2.2))⟩ (fun hHeld => ?_)
      clear hK K
      refine done_ (done_of HT_.out (by kernel_rfl)) ?_
      have hnb56 := NB613_607.out
      have hnc56 := NB607_613.out
      have hnb57 := NB613_608.out
      have hnc57 := NB608_613.out
      have hnb58 := NB613_612.out
      have hnc58 := NB612_613.out
      have hcz59_0 : w52.cell? ⟨gb613, 0, none⟩ = some (.int .i64 a0_0) := bc BK613 0
      have hcz59_1 : w52.cell? ⟨gb613, 1, none⟩ = some (.int .i64 a0_1) := bc BK613 1
      have hcz59_2 : w52.cell? ⟨gb613, 2, none⟩ = some (.int .i64 a0_2) := bc BK613 2
      have hcz59_3 : w52.cell? ⟨gb613, 3, none⟩ = some (.int .i64 a0_3) := bc BK613 3
      have hcz59_4 : w52.cell? ⟨gb613, 4, none⟩ = some (.int .i64 a0_4) := bc BK613 4
      have hcz59_5 : w52.cell? ⟨gb613, 5, none⟩ = some (.int .i64 a0_5) := bc BK613 5
      have hcz59_6 : w52.cell? ⟨gb613, 6, none⟩ = some (.slice A0_6 l0_6.length c0_6) := bc BK613 6
      have hcz59_7 : w52.cell? ⟨gb613, 7, none⟩ = some (.slice A0_7 l0_7.length c0_7) := bc BK613 7
      have hfz59_0 := blk_frozen BK613.out 0
      have hfz59_1 := blk_frozen BK613.out 1
      have hfz59_2 := blk_frozen BK613.out 2
      have hfz59_3 := blk_frozen BK613.out 3
      have hfz59_4 := blk_frozen BK613.out 4
      have hfz59_5 := blk_frozen BK613.out 5
      have hfz59_6 := blk_frozen BK613.out 6
      have hfz59_7 := blk_frozen BK613.out 7
      have hnb60 := NB607_612.out
      have hnc60 := NB612_607.out
      have hcz61_0 : w52.cell? ⟨gb607, 0, none⟩ = some (.int .i64 a0_0) := bc BK607 0
      have hcz61_1 : w52.cell? ⟨gb607, 1, none⟩ = some (.int .i64 a0_1) := bc BK607 1
      have hcz61_2 : w52.cell? ⟨gb607, 2, none⟩ = some (.int .i64 a0_2) := bc BK607 2
      have hcz61_3 : w52.cell? ⟨gb607, 3, none⟩ = some (.int .i64 a0_3) := bc BK607 3
      have hcz61_4 : w52.cell? ⟨gb607, 4, none⟩ = some (.int .i64 a0_4) := bc BK607 4
      have hcz61_5 : w52.cell? ⟨gb607, 5, none⟩ = some (.int .i64 a0_5) := bc BK607 5
      have hcz61_6 : w52.cell? ⟨gb607, 6, none⟩ = some (.slice A0_6 l0_6.length c0_6) := bc BK607 6
      have hcz61_7 : w52.cell? ⟨gb607, 7, none⟩ = some (.slice A0_7 l0_7.length c0_7) := bc BK607 7
      have hfz61_0 := blk_frozen BK607.out 0
      have hfz61_1 := blk_frozen BK607.out 1
      have hfz61_2 := blk_frozen BK607.out 2
      have hfz61_3 := blk_frozen BK607.out 3
      have hfz61_4 := blk_frozen BK607.out 4
      have hfz61_5 := blk_frozen BK607.out 5
      have hfz61_6 := blk_frozen BK607.out 6
      have hfz61_7 := blk_frozen BK607.out 7
      try go_wp2
      go_loopg [10] kj3 (fun kq v10 w' => ∃ (x10_2 : Int) (x614007_2 : List (S71)) (u614007 : Value), v10 = .int .i64 x10_2 ∧ Aside0 (remontoirlaw04_ScaleMore.l0 kq t611 x10_2 a0_0 a0_1 a0_2 a0_3 a0_4 a0_5 l0_6 l0_7 a0_0 a0_1 a0_2 a0_3 a0_4 a0_5 l0_6 y623 a0_0 a0_1 a0_2 a0_3 a0_4 a0_5 l0_6 x614007_2 = some r) ∧ Aside0 (kq ≤ kj3) ∧ Aside0 (Kd.R k71 71 w' w.heap.size (fun k_ => some k_ ≠ (u614007 : Value).ownBlock ∧ k_ ≠ gb608) (.slice Ao54 y623.length co54) y623) ∧ Aside0 (Kd.R k71 71 w' w.heap.size (fun k_ => some k_ ≠ ((.slice Ao54 y623.length co54) : Value).ownBlock ∧ k_ ≠ gb608) u614007 x614007_2) ∧ Aside0 (w'.heap[gb607]? = some (.cells #[.int .i64 a0_0, .int .i64 a0_1, .int .i64 a0_2, .int .i64 a0_3, .int .i64 a0_4, .int .i64 a0_5, (.slice A0_6 l0_6.length c0_6), (.slice A0_7 l0_7.length c0_7)] 44 (0, 0))) ∧ Aside0 (w'.heap[gb608]? = some (.cells #[.int .i64 a1_0, .int .i64 a1_1, .int .i64 a1_2] 71 (0, 0))) ∧ Aside0 (w'.heap[gb612]? = some (.cells #[.int .i64 a0_0, .int .i64 a0_1, .int .i64 a0_2, .int .i64 a0_3, .int .i64 a0_4, .int .i64 a0_5, (.slice A0_6 l0_6.length c0_6), (.slice Ao54 y623.length co54)] 44 (0, 0))) ∧ Aside0 (w'.heap[gb613]? = some (.cells #[.int .i64 a0_0, .int .i64 a0_1, .int .i64 a0_2, .int .i64 a0_3, .int .i64 a0_4, .int .i64 a0_5, (.slice A0_6 l0_6.length c0_6), u614007] 44 (0, 0))) ∧ Aside0 (Below w.heap.size w w'))
      case atStart => exact ⟨(wrap64 ((l0_7.length : Int) - 1)), (([] : List (S71))), (.slice none 0 0), (by first | rfl | (simp; done) | (simp [*]; done)), H', ⟨Nat.le_refl _⟩, ⟨by (with_reducible repeat (first | apply Kd.R_alloc | apply Kd.R_drewN | apply Kd.R_drew)); exact Kd.R_mono (Kd.R_far (p := ⟨gb613, 7, none⟩) (Kd.R_far (p := ⟨gb612, 7, none⟩) (Kd.R_types (Kd.R_types HO625.out BK612.out (by decide)) BK613.out (by decide)) (fun _ hk => hk.1.2) (.slice Ao54 y623.length co54)) (fun _ hk => hk.2) (.slice none 0 0)) (fun _ hk => ⟨(by simp [Value.ownBlock]), hk.1.1.2⟩)⟩, ⟨by first | exact Kd.R_nil _ _ _ _ _ | exact Kd.N_nil _ _ _ _ _ | exact Kd.V_nil _ _ _ _ _ | exact Kd.Q_nil _ _ _ _ _ | exact Kd.S_nil _ _ _ _ _⟩, ⟨bk BK607⟩, ⟨bk BK608⟩, ⟨by (with_reducible repeat (first | refine blk_drewN ?_ _ | refine blk_drew ?_ | refine blk_alloc ?_ _)); refine blk_far ?_ NB612_613.out _; (with_reducible repeat (first | refine blk_drewN ?_ _ | refine blk_drew ?_ | refine blk_alloc ?_ _)); refine blk_put (cs := #[.int .i64 a0_0, .int .i64 a0_1, .int .i64 a0_2, .int .i64 a0_3, .int .i64 a0_4, .int .i64 a0_5, .slice A0_6 l0_6.length c0_6, .slice A0_7 l0_7.length c0_7]) ?_ 7 _ rfl; (with_reducible repeat (first | refine blk_drewN ?_ _ | refine blk_drew ?_ | refine blk_alloc ?_ _)); exact BK612.out⟩, ⟨by (with_reducible repeat (first | refine blk_drewN ?_ _ | refine blk_drew ?_ | refine blk_alloc ?_ _)); refine blk_put (cs := #[.int .i64 a0_0, .int .i64 a0_1, .int .i64 a0_2, .int .i64 a0_3, .int .i64 a0_4, .int .i64 a0_5, .slice A0_6 l0_6.length c0_6, .slice A0_7 l0_7.length c0_7]) ?_ 7 _ rfl; (with_reducible repeat (first | refine blk_drewN ?_ _ | refine blk_drew ?_ | refine blk_alloc ?_ _)); refine blk_far ?_ NB613_612.out _; (with_reducible repeat (first | refine blk_drewN ?_ _ | refine blk_drew ?_ | refine blk_alloc ?_ _)); exact BK613.out⟩, ⟨bl HB⟩⟩
      case round =>
       clear H'
       (try clear c2); (try clear p2); (try clear c3); (try clear c5); (try clear c6); (try clear p6); (try clear c20); (try clear c21); (try clear c56); (try clear c57); (try clear c58); (try clear c60); (try clear hcz59_0); (try clear hcz59_1); (try clear hcz59_2); (try clear hcz59_3); (try clear hcz59_4); (try clear hcz59_5); (try clear hcz59_6); (try clear hcz59_7); (try clear hcz61_0); (try clear hcz61_1); (try clear hcz61_2); (try clear hcz61_3); (try clear hcz61_4); (try clear hcz61_5); (try clear hcz61_6); (try clear hcz61_7); (try clear hfz59_0); (try clear hfz59_1); (try clear hfz59_2); (try clear hfz59_3); (try clear hfz59_4); (try clear hfz59_5); (try clear hfz59_6); (try clear hfz59_7); (try clear hfz61_0); (try clear hfz61_1); (try clear hfz61_2); (try clear hfz61_3); (try clear hfz61_4); (try clear hfz61_5); (try clear hfz61_6); (try clear hfz61_7)
       (try clear HO_613007); (try clear HO_614007); (try clear BK607); (try clear BK608); (try clear BK612); (try clear BK613); (try clear HB)
       obtain ⟨x10_2, x614007_2, u614007, rfl, HA, HK2, HO_613007, HO_614007, BK607, BK608, BK612, BK613, HB⟩ := hrel
       cases gk with
       | zero => exact absurd HA.out (by simp [remontoirlaw04_ScaleMore.l0])
       | succ k2 =>
        have H := HA.out
        clear HA
        simp only [remontoirlaw04_ScaleMore.l0] at H
        by_cases c62 : x10_2 ≥ 0
        ·
         rw [if_pos c62] at H
         have c62b0 : decide (0 ≤ x10_2) = true := decide_eq_true c62
         clear c62
         by_cases c63 : 0 ≤ x10_2
         ·
          rw [if_pos c63] at H
          have c63b0 : decide (0 ≤ x10_2) = true := decide_eq_true c63
          clear c63
          by_cases c64 : x10_2 < (l0_7.length : Int)
          ·
           rw [if_pos c64] at H
           have c64b0 : decide (x10_2 < (l0_7.length : Int)) = true := decide_eq_true c64
           clear c64
           obtain ⟨y627, hy627⟩ : ∃ y_ : List (S71), y_ = (([(⟨(rd_T71 l0_7 x10_2).f0, (⟨(rd_T71 l0_7 x10_2).f1.f0, (rd_T71 l0_7 x10_2).f1.f1⟩ : S23)⟩ : S71)] : List (S71))) := ⟨_, rfl⟩
           replace H : (if x614007_2.length + y627.length < 5864062014805 then (remontoirlaw04_ScaleMore.l0 k2 t611 (wrap64 (x10_2 - 1)) a0_0 a0_1 a0_2 a0_3 a0_4 a0_5 l0_6 l0_7 a0_0 a0_1 a0_2 a0_3 a0_4 a0_5 l0_6 y623 a0_0 a0_1 a0_2 a0_3 a0_4 a0_5 l0_6 (x614007_2 ++ y627)) else (none)) = some r := by first | (rw [hy627]; with_reducible exact H) | (have H2_ := (Option.bind_some _ _).symm.trans H; rw [hy627]; with_reducible exact H2_) | (have H2_ := (Option.bind_some _ _).symm.trans H; with_reducible exact H2_) | with_reducible exact H | (rw [hy627]; exact H) | exact H
           have Ny627 := Aside0.mk hy627
           clear hy627
           by_cases c65 : x614007_2.length + y627.length < 5864062014805
           ·
            rw [if_pos c65] at H
            have LMc65 := Aside0.mk c65
            clear c65
            obtain ⟨y630, hy630⟩ : ∃ y_ : List (S71), y_ = (x614007_2 ++ y627) := ⟨_, rfl⟩
            replace H : (remontoirlaw04_ScaleMore.l0 k2 t611 (wrap64 (x10_2 - 1)) a0_0 a0_1 a0_2 a0_3 a0_4 a0_5 l0_6 l0_7 a0_0 a0_1 a0_2 a0_3 a0_4 a0_5 l0_6 y623 a0_0 a0_1 a0_2 a0_3 a0_4 a0_5 l0_6 y630) = some r := by first | (rw [hy630]; with_reducible exact H) | (have H2_ := (Option.bind_some _ _).symm.trans H; rw [hy630]; with_reducible exact H2_) | (have H2_ := (Option.bind_some _ _).symm.trans H; with_reducible exact H2_) | with_reducible exact H | (rw [hy630]; exact H) | exact H
            have Ny630 := Aside0.mk hy630
            clear hy630
            have H' := Aside0.mk H
            clear H
            try go_wp2
            replace HO_613007 := Aside0.mk (Kd.R_drew HO_613007.out)
            replace HO_614007 := Aside0.mk (Kd.R_drew HO_614007.out)
            replace BK607 := Aside0.mk (blk_drew BK607.out)
            replace BK608 := Aside0.mk (blk_drew BK608.out)
            replace BK612 := Aside0.mk (blk_drew BK612.out)
            replace BK613 := Aside0.mk (blk_drew BK613.out)
            replace HB := Aside0.mk (below_drew1 HB.out)
            have p626 : 0 ≤ (x10_2 : Int) := of_decide_eq_true (by first | (with_reducible assumption) | assumption)
            have q626 : x10_2 < (l0_7.length : Int) := of_decide_eq_true (by first | (with_reducible assumption) | assumption)
            obtain ⟨ad626, e626, hx626_0, hx626_1, hx626_2⟩ := at_T71 HR0_7.out x10_2 p626 q626
            have hw626_2 := hx626_2
            have hw626_1 := hx626_1
            have hw626_0 := hx626_0
            cases e626
            replace hx626_0 := (HB.out.cell (World.block_lt_of_cell? w _ hx626_0)).trans hx626_0
            replace hx626_1 := (HB.out.cell (World.block_lt_of_cell? w _ hx626_1)).trans hx626_1
            replace hx626_2 := (HB.out.cell (World.block_lt_of_cell? w _ hx626_2)).trans hx626_2
            replace p626 := eq_true p626
            replace q626 := eq_true q626
            refine start_ (n := 11) (S := fun w' => w'.cell? ⟨gb613, 0, none⟩ = some (.int .i64 a0_0) ∧ w'.cell? ⟨gb613, 1, none⟩ = some (.int .i64 a0_1) ∧ w'.cell? ⟨gb613, 2, none⟩ = some (.int .i64 a0_2) ∧ w'.cell? ⟨gb613, 3, none⟩ = some (.int .i64 a0_3) ∧ w'.cell? ⟨gb613, 4, none⟩ = some (.int .i64 a0_4) ∧ w'.cell? ⟨gb613, 5, none⟩ = some (.int .i64 a0_5) ∧ w'.cell? ⟨gb613, 6, none⟩ = some (.slice A0_6 l0_6.length c0_6) ∧ w'.cell? ⟨gb613, 7, none⟩ = some (u614007) ∧ w'.cell? ⟨gb607, 0, none⟩ = some (.int .i64 a0_0) ∧ w'.cell? ⟨gb607, 1, none⟩ = some (.int .i64 a0_1) ∧ w'.cell? ⟨gb607, 2, none⟩ = some (.int .i64 a0_2) ∧ w'.cell? ⟨gb607, 3, none⟩ = some (.int .i64 a0_3) ∧ w'.cell? ⟨gb607, 4, none⟩ = some (.int .i64 a0_4) ∧ w'.cell? ⟨gb607, 5, none⟩ = some (.int .i64 a0_5) ∧ w'.cell? ⟨gb607, 6, none⟩ = some (.slice A0_6 l0_6.length c0_6) ∧ w'.cell? ⟨gb607, 7, none⟩ = some (.slice (some ad626) l0_7.length c0_7) ∧ w'.cell? (ad626.add ((x10_2).toNat * 3)) = some (.int .i64 ((rd_T71 l0_7 x10_2).f0)) ∧ w'.cell? ⟨(ad626.add ((x10_2).toNat * 3)).block, (ad626.add ((x10_2).toNat * 3)).off + 1, none⟩ = some (.int .i64 ((rd_T71 l0_7 x10_2).f1.f0)) ∧ w'.cell? ⟨(ad626.add ((x10_2).toNat * 3)).block, (ad626.add ((x10_2).toNat * 3)).off + 2, none⟩ = some (.int .i64 ((rd_T71 l0_7 x10_2).f1.f1))) (ds := [10]) #[false, false, false, false, false, false, false, false, false, false, false] (by kernel_rfl) rfl rfl ⟨bc BK613 0, bc BK613 1, bc BK613 2, bc BK613 3, bc BK613 4, bc BK613 5, bc BK613 6, bc BK613 7, bc BK607 0, bc BK607 1, bc BK607 2, bc BK607 3, bc BK607 4, bc BK607 5, bc BK607 6, bc BK607 7, ((HB.out.cell (World.block_lt_of_cell? w _ hw626_0)).trans hw626_0), ((HB.out.cell (World.block_lt_of_cell? w _ hw626_1)).trans hw626_1), ((HB.out.cell (World.block_lt_of_cell? w _ hw626_2)).trans hw626_2)⟩ (fun hHeld => ?_); refine with_tabW remontoirlaw04_ScaleMore.tab10 remontoirlaw04_ScaleMore.bits10 (fun HT_ HW_ => ?_)
            generalize wr.drew = w66 at HO_613007 HO_614007 BK607 BK608 BK612 BK613 HB hx626_0 hx626_1 hx626_2 hHeld ⊢
            refine pureA 0 52 ?_
            refine pureA 2 54 ?_
            refine pureA 4 56 ?_
            refine takeA 1 53 rfl rfl (by rintro w' ⟨s0, s1, s2, s3, s4, s5, s6, s7, s8, s9, s10, s11, s12, s13, s14, s15, s16, s17, s18⟩; go_simp; with_reducible rfl) ?_
            refine takeA 3 55 rfl rfl (by rintro w' ⟨s0, s1, s2, s3, s4, s5, s6, s7, s8, s9, s10, s11, s12, s13, s14, s15, s16, s17, s18⟩; go_simp; with_reducible rfl) ?_
            refine pureA 5 57 ?_
            refine takeA 6 58 rfl rfl (by rintro w' ⟨s0, s1, s2, s3, s4, s5, s6, s7, s8, s9, s10, s11, s12, s13, s14, s15, s16, s17, s18⟩; go_simp; with_reducible rfl) ?_
            refine oneA 7 (some 59) (fun K hK => ?_)
            refine Kd.R_lit_step k71 _ 71 ?hg (N := 59) ?hd (xs := ([(⟨(rd_T71 l0_7 x10_2).f0, (⟨(rd_T71 l0_7 x10_2).f1.f0, (rd_T71 l0_7 x10_2).f1.f1⟩ : S23)⟩ : S71)] : List (S71))) (inner := [.int .i64 ((rd_T71 l0_7 x10_2).f0), .int .i64 ((rd_T71 l0_7 x10_2).f1.f0), .int .i64 ((rd_T71 l0_7 x10_2).f1.f1)]) (ok := fun _ => True) (okp := fun _ => True) ?hr ?hp (fun _ hk => hk) trivial (Below.refl _ _) (Nat.le_refl _) (by simp) ?_; (case hd => rfl); (case hg => rfl); (case hr => first | (go_simp; done) | (go_simp; rfl)); (case hp => exact (Reps.c3 (show Kd.M k71 _ _ _ (⟨(rd_T71 l0_7 x10_2).f0, (⟨(rd_T71 l0_7 x10_2).f1.f0, (rd_T71 l0_7 x10_2).f1.f1⟩ : S23)⟩ : S71) [.int .i64 ((rd_T71 l0_7 x10_2).f0), .int .i64 ((rd_T71 l0_7 x10_2).f1.f0), .int .i64 ((rd_T71 l0_7 x10_2).f1.f1)] from (k71_mkM _ _ _ (⟨(rd_T71 l0_7 x10_2).f0, (⟨(rd_T71 l0_7 x10_2).f1.f0, (rd_T71 l0_7 x10_2).f1.f1⟩ : S23)⟩ : S71) )) (Reps.none _ _)))
            intro v628 w67 ho68 hb hg_ hnew_
            clear hg_ hnew_
            (first | rw [← Ny627.out] at ho68 | (simp only [Int.reduceToNat] at ho68; rw [← Ny627.out] at ho68))
            have HO629 := Aside0.mk (Kd.R_lower (Kd.R_newB (Kd.R_new' (Kd.R_new' ho68 (Kd.R_lt (rk HO_613007))) (Kd.R_lt (rk HO_614007))) (bk BK608)) (below_size (bl HB)))
            replace HO_613007 := Aside0.mk (Kd.R_elder' (rk HO_613007) (Kd.R_base ho68) hb)
            replace HO_614007 := Aside0.mk (Kd.R_elder' (rk HO_614007) (Kd.R_base ho68) hb)
            replace BK607 := Aside0.mk (blk_below (bk BK607) hb)
            replace BK608 := Aside0.mk (blk_below (bk BK608) hb)
            replace BK612 := Aside0.mk (blk_below (bk BK612) hb)
            replace BK613 := Aside0.mk (blk_below (bk BK613) hb)
            replace HB := Aside0.mk (below_step (bl HB) hb)
            clear hb ho68
            obtain ⟨Ao70, co70, eo70⟩ := Kd.R_slice HO629.out
            (first | subst eo70 | (injection eo70 with f1_ f2_ f3_; have f4_ := f1_.symm; have f5_ := f3_.symm; clear f1_ f2_ f3_; subst f4_; subst f5_))
            refine hK.out _ _ ⟨bc BK613 0, bc BK613 1, bc BK613 2, bc BK613 3, bc BK613 4, bc BK613 5, bc BK613 6, bc BK613 7, bc BK607 0, bc BK607 1, bc BK607 2, bc BK607 3, bc BK607 4, bc BK607 5, bc BK607 6, bc BK607 7, ((HB.out.cell (World.block_lt_of_cell? w _ hw626_0)).trans hw626_0), ((HB.out.cell (World.block_lt_of_cell? w _ hw626_1)).trans hw626_1), ((HB.out.cell (World.block_lt_of_cell? w _ hw626_2)).trans hw626_2)⟩ (fun hHeld => ?_)
            clear hK K
            refine normA 59 ?_
            refine oneA 8 (some 60) (fun K hK => ?_)
            refine Kd.R_append_rows_step k71 (w0 := w) w.heap.size (by rfl) (.tmp 53) (.tmp 59) 42 71 (.agg #[(.int .i64 0), (.int .i64 0), (.int .i64 0)]) 24 rfl Tryd.underlying42 info71 rfl (by decide) (by omega) u614007 x614007_2 y627 _ _ _ (fun k_ => some k_ ≠ (.slice Ao54 y623.length co54 : Value).ownBlock ∧ some k_ ≠ (.slice Ao70 y627.length co70 : Value).ownBlock ∧ k_ ≠ gb608) (fun _ => False) rfl rfl ?aO ?aR (fun _ _ h => h) (fun _ h => h.elim) ?aF ?aB ?aS ?aL ?_
            (case aR => repeat (first | exact (Kd.R_reads' HO629.out).2.2 | (with_reducible refine Kd.C_alloc ?_ _) | (with_reducible refine Kd.C_drewN ?_ _) | (with_reducible refine Kd.C_drew ?_)))
            (case aB => exact (bl HB))
            (case aF => exact (fun k_ hk => ⟨Kd.fresh' (Kd.R_lt (rk HO_613007)) k_ hk, Kd.fresh' (Kd.R_lt (rk HO629)) k_ hk, Kd.freshB (g := gb608) (o := .cells #[.int .i64 a1_0, .int .i64 a1_1, .int .i64 a1_2] 71 (0, 0)) (bk BK608) k_ hk⟩))
            (case aO => exact (by (with_reducible repeat (first | apply Kd.R_alloc | apply Kd.R_drewN | apply Kd.R_drew)); exact Kd.R_mono HO_614007.out (fun _ hk => ⟨hk.1.1, ⟨hk.2, hk.1.2⟩⟩)))
            (case aS => exact (below_size (bl HB)))
            (case aL => have := LMc65.out; omega)
            intro v631 w69 ho hb hg hat
            rw [← Ny630.out] at ho
            have n0_ := Aside0.mk (Kd.R_after (ok := (fun k_ => some k_ ≠ (.slice Ao70 y627.length co70 : Value).ownBlock ∧ k_ ≠ gb608)) (by (with_reducible repeat (first | apply Kd.R_alloc | apply Kd.R_drewN | apply Kd.R_drew)); exact Kd.R_mono HO_613007.out (fun _ hk => ⟨⟨hk.2, hk.1.2⟩, hk.1.1⟩)) hg hat)
            have n1_ := Aside0.mk (blk_grown (bk BK607) hg (Kd.R_ne HO_614007.out BK607.out (by decide)))
            have n2_ := Aside0.mk (blk_grown (bk BK608) hg (Kd.R_away HO_614007.out (fun _ hk => hk.1.2)))
            have n3_ := Aside0.mk (blk_grown (bk BK612) hg (Kd.R_ne HO_614007.out BK612.out (by decide)))
            have n4_ := Aside0.mk (blk_grown (bk BK613) hg (Kd.R_ne HO_614007.out BK613.out (by decide)))
            have n5_ := Aside0.mk (Kd.R_after (ok := (fun k_ => some k_ ≠ (.slice Ao54 y623.length co54 : Value).ownBlock ∧ k_ ≠ gb608)) (by (with_reducible repeat (first | apply Kd.R_alloc | apply Kd.R_drewN | apply Kd.R_drew)); exact Kd.R_mono HO629.out (fun _ hk => ⟨⟨hk.1.1.2, hk.2⟩, hk.1.2⟩)) hg hat)
            have n6_ := Aside0.mk (hb)
            have n7_ := Aside0.mk (ho)
            clear HO_613007
            clear BK607
            clear BK608
            clear BK612
            clear BK613
            clear HO629
            clear HB
            clear HO_614007
            have HO_613007 := n0_
            have BK607 := n1_
            have BK608 := n2_
            have BK612 := n3_
            have BK613 := n4_
            have HO629 := n5_
            have HB := n6_
            have HO632 := n7_
            clear n0_ n1_ n2_ n3_ n4_ n5_ n6_ n7_
            clear ho hb hg hat
            obtain ⟨Ao71, co71, eo71⟩ := Kd.R_slice HO632.out
            (first | subst eo71 | (injection eo71 with f1_ f2_ f3_; have f4_ := f1_.symm; have f5_ := f3_.symm; clear f1_ f2_ f3_; subst f4_; subst f5_))
            refine hK.out _ _ ⟨bc BK613 0, bc BK613 1, bc BK613 2, bc BK613 3, bc BK613 4, bc BK613 5, bc BK613 6, bc BK613 7, bc BK607 0, bc BK607 1, bc BK607 2, bc BK607 3, bc BK607 4, bc BK607 5, bc BK607 6, bc BK607 7, ((HB.out.cell (World.block_lt_of_cell? w _ hw626_0)).trans hw626_0), ((HB.out.cell (World.block_lt_of_cell? w _ hw626_1)).trans hw626_1), ((HB.out.cell (World.block_lt_of_cell? w _ hw626_2)).trans hw626_2)⟩ (fun hHeld => ?_)
            clear hK K
            refine normA 60 ?_
            refine pureA 9 61 ?_
            refine lastA 10 none (fun K hK => ?_)
            have hs72 : w69.cell? ⟨gb613, 7, none⟩ = some (u614007) := bc BK613 7
            have hfs72 := blk_frozen BK613.out 7
            have hns72_0 := NB607_613.out
            have hns72_1 := NB608_613.out
            have hns72_2 := NB612_613.out
            have hms72_0 := NB613_607.out
            have hms72_1 := NB613_608.out
            have hms72_2 := NB613_612.out
            refine skip_ (w1 := ?_) (by rfl) rfl ?_ ?_
            rotate_left
            ·
             go_simp
             rfl
            refine hK.out _ _ ?_
            clear hK K
            refine done_ (done_of HT_.out (by kernel_rfl)) ?_
            try go_wp2
            go_roundg k2
            case measure => have := HJ3.out; have := HK2.out; omega
            case rel => exact ⟨(wrap64 (x10_2 - 1)), (y630), (.slice Ao71 y630.length co71), (by first | rfl | (simp; done) | (simp [*]; done)), H', ⟨by have := HJ3.out; have := HK2.out; omega⟩, ⟨by (with_reducible repeat (first | apply Kd.R_alloc | apply Kd.R_drewN | apply Kd.R_drew)); exact Kd.R_mono (Kd.R_far (p := ⟨gb613, 7, none⟩) (Kd.R_types HO_613007.out BK613.out (by decide)) (fun _ hk => hk.2) (.slice Ao71 y630.length co71)) (fun _ hk => ⟨hk.1.2, hk.1.1.2⟩)⟩, ⟨by (with_reducible repeat (first | apply Kd.R_alloc | apply Kd.R_drewN | apply Kd.R_drew)); exact Kd.R_mono (Kd.R_far (p := ⟨gb613, 7, none⟩) (Kd.R_types HO632.out BK613.out (by decide)) (fun _ hk => hk.2) (.slice Ao71 y630.length co71)) (fun _ hk => ⟨hk.1.1, hk.1.2.2⟩)⟩, ⟨bk BK607⟩, ⟨bk BK608⟩, ⟨bk BK612⟩, ⟨by (with_reducible repeat (first | refine blk_drewN ?_ _ | refine blk_drew ?_ | refine blk_alloc ?_ _)); refine blk_put (cs := #[.int .i64 a0_0, .int .i64 a0_1, .int .i64 a0_2, .int .i64 a0_3, .int .i64 a0_4, .int .i64 a0_5, .slice A0_6 l0_6.length c0_6, u614007]) ?_ 7 _ rfl; (with_reducible repeat (first | refine blk_drewN ?_ _ | refine blk_drew ?_ | refine blk_alloc ?_ _)); exact BK613.out⟩, ⟨bl HB⟩⟩
           ·
            rw [if_neg c65] at H
            exact absurd H (by simp)
          ·
           rw [if_neg c64] at H
           exact absurd H (by simp)
         ·
          rw [if_neg c63] at H
          exact absurd H (by simp)
        ·
         rw [if_neg c62] at H
         have c62b0 : decide (0 ≤ x10_2) = false := decide_eq_false c62
         clear c62
         have HC73 := Aside0.mk H
         clear H
         have hnb74 := NB607_608.out
         have hnc74 := NB608_607.out
         have hnb75 := NB607_612.out
         have hnc75 := NB612_607.out
         have hnb76 := NB607_613.out
         have hnc76 := NB613_607.out
         have hcz77_0 : wr.cell? ⟨gb607, 0, none⟩ = some (.int .i64 a0_0) := bc BK607 0
         have hcz77_1 : wr.cell? ⟨gb607, 1, none⟩ = some (.int .i64 a0_1) := bc BK607 1
         have hcz77_2 : wr.cell? ⟨gb607, 2, none⟩ = some (.int .i64 a0_2) := bc BK607 2
         have hcz77_3 : wr.cell? ⟨gb607, 3, none⟩ = some (.int .i64 a0_3) := bc BK607 3
         have hcz77_4 : wr.cell? ⟨gb607, 4, none⟩ = some (.int .i64 a0_4) := bc BK607 4
         have hcz77_5 : wr.cell? ⟨gb607, 5, none⟩ = some (.int .i64 a0_5) := bc BK607 5
         have hcz77_6 : wr.cell? ⟨gb607, 6, none⟩ = some (.slice A0_6 l0_6.length c0_6) := bc BK607 6
         have hcz77_7 : wr.cell? ⟨gb607, 7, none⟩ = some (.slice A0_7 l0_7.length c0_7) := bc BK607 7
         have hfz77_0 := blk_frozen BK607.out 0
         have hfz77_1 := blk_frozen BK607.out 1
         have hfz77_2 := blk_frozen BK607.out 2
         have hfz77_3 := blk_frozen BK607.out 3
         have hfz77_4 := blk_frozen BK607.out 4
         have hfz77_5 := blk_frozen BK607.out 5
         have hfz77_6 := blk_frozen BK607.out 6
         have hfz77_7 := blk_frozen BK607.out 7
         go_upto_if 65 with (fail)
         go_cut [] (fun wc => ∃ (kq : Nat) (x614007_72 : List (S71)) (u614007 : Value), Aside0 (remontoirlaw04_ScaleMore.j2 kq t611 a0_0 a0_1 a0_2 a0_3 a0_4 a0_5 l0_6 l0_7 a0_0 a0_1 a0_2 a0_3 a0_4 a0_5 l0_6 y623 a0_0 a0_1 a0_2 a0_3 a0_4 a0_5 l0_6 x614007_72 = some r) ∧ Aside0 (kq ≤ k2) ∧ Aside0 (Kd.R k71 71 wc w.heap.size (fun k_ => some k_ ≠ (u614007 : Value).ownBlock ∧ k_ ≠ gb608) (.slice Ao54 y623.length co54) y623) ∧ Aside0 (Kd.R k71 71 wc w.heap.size (fun k_ => some k_ ≠ ((.slice Ao54 y623.length co54) : Value).ownBlock ∧ k_ ≠ gb608) u614007 x614007_72) ∧ Aside0 (wc.heap[gb607]? = some (.cells #[.int .i64 a0_0, .int .i64 a0_1, .int .i64 a0_2, .int .i64 a0_3, .int .i64 a0_4, .int .i64 a0_5, (.slice A0_6 l0_6.length c0_6), (.slice A0_7 l0_7.length c0_7)] 44 (0, 0))) ∧ Aside0 (wc.heap[gb608]? = some (.cells #[.int .i64 a1_0, .int .i64 a1_1, .int .i64 a1_2] 71 (0, 0))) ∧ Aside0 (wc.heap[gb612]? = some (.cells #[.int .i64 a0_0, .int .i64 a0_1, .int .i64 a0_2, .int .i64 a0_3, .int .i64 a0_4, .int .i64 a0_5, (.slice A0_6 l0_6.length c0_6), (.slice Ao54 y623.length co54)] 44 (0, 0))) ∧ Aside0 (wc.heap[gb613]? = some (.cells #[.int .i64 a0_0, .int .i64 a0_1, .int .i64 a0_2, .int .i64 a0_3, .int .i64 a0_4, .int .i64 a0_5, (.slice A0_6 l0_6.length c0_6), u614007] 44 (0, 0))) ∧ Aside0 (Below w.heap.size w wc))
         case first =>
          have H := HC73.out
          clear HC73
          by_cases c78 : (l0_7.length : Int) > 0
          ·
           rw [if_pos c78] at H
           have c78b0 : decide (0 < (l0_7.length : Int)) = true := decide_eq_true c78
           have c78b1 : decide (0 < l0_7.length) = true := decide_eq_true (by omega)
           clear c78
           (first | rw [c78b0] | rw [c78b1] | (simp only [i64_w, i32_w]; first | rw [c78b0] | rw [c78b1]) | skip)
           by_cases c79 : 0 < (l0_7.length : Int)
           ·
            rw [if_pos c79] at H
            have c79b0 : decide (0 < (l0_7.length : Int)) = true := decide_eq_true c79
            have c79b1 : decide (0 < l0_7.length) = true := decide_eq_true (by omega)
            clear c79
            obtain ⟨y634, hy634⟩ : ∃ y_ : List (S71), y_ = (([(⟨(rd_T71 l0_7 0).f0, (⟨(rd_T71 l0_7 0).f1.f0, (rd_T71 l0_7 0).f1.f1⟩ : S23)⟩ : S71)] : List (S71))) := ⟨_, rfl⟩
            replace H : (if x614007_2.length + y634.length < 5864062014805 then (remontoirlaw04_ScaleMore.j2 k2 t611 a0_0 a0_1 a0_2 a0_3 a0_4 a0_5 l0_6 l0_7 a0_0 a0_1 a0_2 a0_3 a0_4 a0_5 l0_6 y623 a0_0 a0_1 a0_2 a0_3 a0_4 a0_5 l0_6 (x614007_2 ++ y634)) else (none)) = some r := by first | (rw [hy634]; with_reducible exact H) | (have H2_ := (Option.bind_some _ _).symm.trans H; rw [hy634]; with_reducible exact H2_) | (have H2_ := (Option.bind_some _ _).symm.trans H; with_reducible exact H2_) | with_reducible exact H | (rw [hy634]; exact H) | exact H
            have Ny634 := Aside0.mk hy634
            clear hy634
            by_cases c80 : x614007_2.length + y634.length < 5864062014805
            ·
             rw [if_pos c80] at H
             have LMc80 := Aside0.mk c80
             clear c80
             obtain ⟨y637, hy637⟩ : ∃ y_ : List (S71), y_ = (x614007_2 ++ y634) := ⟨_, rfl⟩
             replace H : (remontoirlaw04_ScaleMore.j2 k2 t611 a0_0 a0_1 a0_2 a0_3 a0_4 a0_5 l0_6 l0_7 a0_0 a0_1 a0_2 a0_3 a0_4 a0_5 l0_6 y623 a0_0 a0_1 a0_2 a0_3 a0_4 a0_5 l0_6 y637) = some r := by first | (rw [hy637]; with_reducible exact H) | (have H2_ := (Option.bind_some _ _).symm.trans H; rw [hy637]; with_reducible exact H2_) | (have H2_ := (Option.bind_some _ _).symm.trans H; with_reducible exact H2_) | with_reducible exact H | (rw [hy637]; exact H) | exact H
             have Ny637 := Aside0.mk hy637
             clear hy637
             have H' := Aside0.mk H
             clear H
             try go_wp2
             replace HO_613007 := Aside0.mk (Kd.R_drew HO_613007.out)
             replace HO_614007 := Aside0.mk (Kd.R_drew HO_614007.out)
             replace BK607 := Aside0.mk (blk_drew BK607.out)
             replace BK608 := Aside0.mk (blk_drew BK608.out)
             replace BK612 := Aside0.mk (blk_drew BK612.out)
             replace BK613 := Aside0.mk (blk_drew BK613.out)
             replace HB := Aside0.mk (below_drew1 HB.out)
             have p633 : 0 ≤ (0 : Int) := (by omega)
             have q633 : 0 < (l0_7.length : Int) := of_decide_eq_true (by first | (with_reducible assumption) | assumption)
             obtain ⟨ad633, e633, hx633_0, hx633_1, hx633_2⟩ := at_T71 HR0_7.out 0 p633 q633
             have hw633_2 := hx633_2
             (try rw [show ((0 : Int)).toNat = 0 from rfl] at hw633_2)
             (try rw [show 0 * 3 = 0 from rfl] at hw633_2)
             (try rw [Addr.add_zero'] at hw633_2)
             have hw633_1 := hx633_1
             (try rw [show ((0 : Int)).toNat = 0 from rfl] at hw633_1)
             (try rw [show 0 * 3 = 0 from rfl] at hw633_1)
             (try rw [Addr.add_zero'] at hw633_1)
             have hw633_0 := hx633_0
             (try rw [show ((0 : Int)).toNat = 0 from rfl] at hw633_0)
             (try rw [show 0 * 3 = 0 from rfl] at hw633_0)
             (try rw [Addr.add_zero'] at hw633_0)
             cases e633
             have qi633 : (0 < l0_7.length) = True := eq_true (by omega)
             (try rw [show ((0 : Int)).toNat = 0 from rfl] at hx633_0)
             (try rw [show 0 * 3 = 0 from rfl] at hx633_0)
             (try rw [Addr.add_zero'] at hx633_0)
             (try rw [show ((0 : Int)).toNat = 0 from rfl] at hx633_1)
             (try rw [show 0 * 3 = 0 from rfl] at hx633_1)
             (try rw [Addr.add_zero'] at hx633_1)
             (try rw [show ((0 : Int)).toNat = 0 from rfl] at hx633_2)
             (try rw [show 0 * 3 = 0 from rfl] at hx633_2)
             (try rw [Addr.add_zero'] at hx633_2)
             replace hx633_0 := (HB.out.cell (World.block_lt_of_cell? w _ hx633_0)).trans hx633_0
             replace hx633_1 := (HB.out.cell (World.block_lt_of_cell? w _ hx633_1)).trans hx633_1
             replace hx633_2 := (HB.out.cell (World.block_lt_of_cell? w _ hx633_2)).trans hx633_2
             replace p633 := eq_true p633
             replace q633 := eq_true q633
             refine start_ (n := 10) (S := fun w' => w'.cell? ⟨gb613, 0, none⟩ = some (.int .i64 a0_0) ∧ w'.cell? ⟨gb613, 1, none⟩ = some (.int .i64 a0_1) ∧ w'.cell? ⟨gb613, 2, none⟩ = some (.int .i64 a0_2) ∧ w'.cell? ⟨gb613, 3, none⟩ = some (.int .i64 a0_3) ∧ w'.cell? ⟨gb613, 4, none⟩ = some (.int .i64 a0_4) ∧ w'.cell? ⟨gb613, 5, none⟩ = some (.int .i64 a0_5) ∧ w'.cell? ⟨gb613, 6, none⟩ = some (.slice A0_6 l0_6.length c0_6) ∧ w'.cell? ⟨gb613, 7, none⟩ = some (u614007) ∧ w'.cell? ⟨gb607, 0, none⟩ = some (.int .i64 a0_0) ∧ w'.cell? ⟨gb607, 1, none⟩ = some (.int .i64 a0_1) ∧ w'.cell? ⟨gb607, 2, none⟩ = some (.int .i64 a0_2) ∧ w'.cell? ⟨gb607, 3, none⟩ = some (.int .i64 a0_3) ∧ w'.cell? ⟨gb607, 4, none⟩ = some (.int .i64 a0_4) ∧ w'.cell? ⟨gb607, 5, none⟩ = some (.int .i64 a0_5) ∧ w'.cell? ⟨gb607, 6, none⟩ = some (.slice A0_6 l0_6.length c0_6) ∧ w'.cell? ⟨gb607, 7, none⟩ = some (.slice (some ad633) l0_7.length c0_7) ∧ w'.cell? ad633 = some (.int .i64 ((rd_T71 l0_7 0).f0)) ∧ w'.cell? ⟨ad633.block, ad633.off + 1, none⟩ = some (.int .i64 ((rd_T71 l0_7 0).f1.f0)) ∧ w'.cell? ⟨ad633.block, ad633.off + 2, none⟩ = some (.int .i64 ((rd_T71 l0_7 0).f1.f1))) (ds := [9]) #[false, false, false, false, false, false, false, false, false, false] (by kernel_rfl) rfl rfl ⟨bc BK613 0, bc BK613 1, bc BK613 2, bc BK613 3, bc BK613 4, bc BK613 5, bc BK613 6, bc BK613 7, bc BK607 0, bc BK607 1, bc BK607 2, bc BK607 3, bc BK607 4, bc BK607 5, bc BK607 6, bc BK607 7, ((HB.out.cell (World.block_lt_of_cell? w _ hw633_0)).trans hw633_0), ((HB.out.cell (World.block_lt_of_cell? w _ hw633_1)).trans hw633_1), ((HB.out.cell (World.block_lt_of_cell? w _ hw633_2)).trans hw633_2)⟩ (fun hHeld => ?_); refine with_tabW remontoirlaw04_ScaleMore.tab12 remontoirlaw04_ScaleMore.bits12 (fun HT_ HW_ => ?_)
             generalize wr.drew = w81 at HO_613007 HO_614007 BK607 BK608 BK612 BK613 HB hx633_0 hx633_1 hx633_2 hHeld ⊢
             refine pureA 0 66 ?_
             refine pureA 2 68 ?_
             refine takeA 1 67 rfl rfl (by rintro w' ⟨s0, s1, s2, s3, s4, s5, s6, s7, s8, s9, s10, s11, s12, s13, s14, s15, s16, s17, s18⟩; go_simp; with_reducible rfl) ?_
             refine takeA 3 69 rfl rfl (by rintro w' ⟨s0, s1, s2, s3, s4, s5, s6, s7, s8, s9, s10, s11, s12, s13, s14, s15, s16, s17, s18⟩; go_simp; with_reducible rfl) ?_
             refine pureA 4 70 ?_
             refine takeA 5 71 rfl rfl (by rintro w' ⟨s0, s1, s2, s3, s4, s5, s6, s7, s8, s9, s10, s11, s12, s13, s14, s15, s16, s17, s18⟩; go_simp; with_reducible rfl) ?_
             refine oneA 6 (some 72) (fun K hK => ?_)
             refine Kd.R_lit_step k71 _ 71 ?hg (N := 72) ?hd (xs := ([(⟨(rd_T71 l0_7 0).f0, (⟨(rd_T71 l0_7 0).f1.f0, (rd_T71 l0_7 0).f1.f1⟩ : S23)⟩ : S71)] : List (S71))) (inner := [.int .i64 ((rd_T71 l0_7 0).f0), .int .i64 ((rd_T71 l0_7 0).f1.f0), .int .i64 ((rd_T71 l0_7 0).f1.f1)]) (ok := fun _ => True) (okp := fun _ => True) ?hr ?hp (fun _ hk => hk) trivial (Below.refl _ _) (Nat.le_refl _) (by simp) ?_; (case hd => rfl); (case hg => rfl); (case hr => first | (go_simp; done) | (go_simp; rfl)); (case hp => exact (Reps.c3 (show Kd.M k71 _ _ _ (⟨(rd_T71 l0_7 0).f0, (⟨(rd_T71 l0_7 0).f1.f0, (rd_T71 l0_7 0).f1.f1⟩ : S23)⟩ : S71) [.int .i64 ((rd_T71 l0_7 0).f0), .int .i64 ((rd_T71 l0_7 0).f1.f0), .int .i64 ((rd_T71 l0_7 0).f1.f1)] from (k71_mkM _ _ _ (⟨(rd_T71 l0_7 0).f0, (⟨(rd_T71 l0_7 0).f1.f0, (rd_T71 l0_7 0).f1.f1⟩ : S23)⟩ : S71) )) (Reps.none _ _)))
             intro v635 w82 ho83 hb hg_ hnew_
             clear hg_ hnew_
             (first | rw [← Ny634.out] at ho83 | (simp only [Int.reduceToNat] at ho83; rw [← Ny634.out] at ho83))
             have HO636 := Aside0.mk (Kd.R_lower (Kd.R_newB (Kd.R_new' (Kd.R_new' ho83 (Kd.R_lt (rk HO_613007))) (Kd.R_lt (rk HO_614007))) (bk BK608)) (below_size (bl HB)))
             replace HO_613007 := Aside0.mk (Kd.R_elder' (rk HO_613007) (Kd.R_base ho83) hb)
             replace HO_614007 := Aside0.mk (Kd.R_elder' (rk HO_614007) (Kd.R_base ho83) hb)
             replace BK607 := Aside0.mk (blk_below (bk BK607) hb)
             replace BK608 := Aside0.mk (blk_below (bk BK608) hb)
             replace BK612 := Aside0.mk (blk_below (bk BK612) hb)
             replace BK613 := Aside0.mk (blk_below (bk BK613) hb)
             replace HB := Aside0.mk (below_step (bl HB) hb)
             clear hb ho83
             obtain ⟨Ao85, co85, eo85⟩ := Kd.R_slice HO636.out
             (first | subst eo85 | (injection eo85 with f1_ f2_ f3_; have f4_ := f1_.symm; have f5_ := f3_.symm; clear f1_ f2_ f3_; subst f4_; subst f5_))
             refine hK.out _ _ ⟨bc BK613 0, bc BK613 1, bc BK613 2, bc BK613 3, bc BK613 4, bc BK613 5, bc BK613 6, bc BK613 7, bc BK607 0, bc BK607 1, bc BK607 2, bc BK607 3, bc BK607 4, bc BK607 5, bc BK607 6, bc BK607 7, ((HB.out.cell (World.block_lt_of_cell? w _ hw633_0)).trans hw633_0), ((HB.out.cell (World.block_lt_of_cell? w _ hw633_1)).trans hw633_1), ((HB.out.cell (World.block_lt_of_cell? w _ hw633_2)).trans hw633_2)⟩ (fun hHeld => ?_)
             clear hK K
             refine normA 72 ?_
             refine oneA 7 (some 73) (fun K hK => ?_)
             refine Kd.R_append_rows_step k71 (w0 := w) w.heap.size (by rfl) (.tmp 67) (.tmp 72) 42 71 (.agg #[(.int .i64 0), (.int .i64 0), (.int .i64 0)]) 24 rfl Tryd.underlying42 info71 rfl (by decide) (by omega) u614007 x614007_2 y634 _ _ _ (fun k_ => some k_ ≠ (.slice Ao54 y623.length co54 : Value).ownBlock ∧ some k_ ≠ (.slice Ao85 y634.length co85 : Value).ownBlock ∧ k_ ≠ gb608) (fun _ => False) rfl rfl ?aO ?aR (fun _ _ h => h) (fun _ h => h.elim) ?aF ?aB ?aS ?aL ?_
             (case aR => repeat (first | exact (Kd.R_reads' HO636.out).2.2 | (with_reducible refine Kd.C_alloc ?_ _) | (with_reducible refine Kd.C_drewN ?_ _) | (with_reducible refine Kd.C_drew ?_)))
             (case aB => exact (bl HB))
             (case aF => exact (fun k_ hk => ⟨Kd.fresh' (Kd.R_lt (rk HO_613007)) k_ hk, Kd.fresh' (Kd.R_lt (rk HO636)) k_ hk, Kd.freshB (g := gb608) (o := .cells #[.int .i64 a1_0, .int .i64 a1_1, .int .i64 a1_2] 71 (0, 0)) (bk BK608) k_ hk⟩))
             (case aO => exact (by (with_reducible repeat (first | apply Kd.R_alloc | apply Kd.R_drewN | apply Kd.R_drew)); exact Kd.R_mono HO_614007.out (fun _ hk => ⟨hk.1.1, ⟨hk.2, hk.1.2⟩⟩)))
             (case aS => exact (below_size (bl HB)))
             (case aL => have := LMc80.out; omega)
             intro v638 w84 ho hb hg hat
             rw [← Ny637.out] at ho
             have n0_ := Aside0.mk (Kd.R_after (ok := (fun k_ => some k_ ≠ (.slice Ao85 y634.length co85 : Value).ownBlock ∧ k_ ≠ gb608)) (by (with_reducible repeat (first | apply Kd.R_alloc | apply Kd.R_drewN | apply Kd.R_drew)); exact Kd.R_mono HO_613007.out (fun _ hk => ⟨⟨hk.2, hk.1.2⟩, hk.1.1⟩)) hg hat)
             have n1_ := Aside0.mk (blk_grown (bk BK607) hg (Kd.R_ne HO_614007.out BK607.out (by decide)))
             have n2_ := Aside0.mk (blk_grown (bk BK608) hg (Kd.R_away HO_614007.out (fun _ hk => hk.1.2)))
             have n3_ := Aside0.mk (blk_grown (bk BK612) hg (Kd.R_ne HO_614007.out BK612.out (by decide)))
             have n4_ := Aside0.mk (blk_grown (bk BK613) hg (Kd.R_ne HO_614007.out BK613.out (by decide)))
             have n5_ := Aside0.mk (Kd.R_after (ok := (fun k_ => some k_ ≠ (.slice Ao54 y623.length co54 : Value).ownBlock ∧ k_ ≠ gb608)) (by (with_reducible repeat (first | apply Kd.R_alloc | apply Kd.R_drewN | apply Kd.R_drew)); exact Kd.R_mono HO636.out (fun _ hk => ⟨⟨hk.1.1.2, hk.2⟩, hk.1.2⟩)) hg hat)
             have n6_ := Aside0.mk (hb)
             have n7_ := Aside0.mk (ho)
             clear HO_613007
             clear BK607
             clear BK608
             clear BK612
             clear BK613
             clear HO636
             clear HB
             clear HO_614007
             have HO_613007 := n0_
             have BK607 := n1_
             have BK608 := n2_
             have BK612 := n3_
             have BK613 := n4_
             have HO636 := n5_
             have HB := n6_
             have HO639 := n7_
             clear n0_ n1_ n2_ n3_ n4_ n5_ n6_ n7_
             clear ho hb hg hat
             obtain ⟨Ao86, co86, eo86⟩ := Kd.R_slice HO639.out
             (first | subst eo86 | (injection eo86 with f1_ f2_ f3_; have f4_ := f1_.symm; have f5_ := f3_.symm; clear f1_ f2_ f3_; subst f4_; subst f5_))
             refine hK.out _ _ ⟨bc BK613 0, bc BK613 1, bc BK613 2, bc BK613 3, bc BK613 4, bc BK613 5, bc BK613 6, bc BK613 7, bc BK607 0, bc BK607 1, bc BK607 2, bc BK607 3, bc BK607 4, bc BK607 5, bc BK607 6, bc BK607 7, ((HB.out.cell (World.block_lt_of_cell? w _ hw633_0)).trans hw633_0), ((HB.out.cell (World.block_lt_of_cell? w _ hw633_1)).trans hw633_1), ((HB.out.cell (World.block_lt_of_cell? w _ hw633_2)).trans hw633_2)⟩ (fun hHeld => ?_)
             clear hK K
             refine normA 73 ?_
             refine pureA 8 74 ?_
             refine lastA 9 none (fun K hK => ?_)
             have hs87 : w84.cell? ⟨gb613, 7, none⟩ = some (u614007) := bc BK613 7
             have hfs87 := blk_frozen BK613.out 7
             have hns87_0 := NB607_613.out
             have hns87_1 := NB608_613.out
             have hns87_2 := NB612_613.out
             have hms87_0 := NB613_607.out
             have hms87_1 := NB613_608.out
             have hms87_2 := NB613_612.out
             refine skip_ (w1 := ?_) (by rfl) rfl ?_ ?_
             rotate_left
             ·
              go_simp
              rfl
             refine hK.out _ _ ?_
             clear hK K
             refine done_ (done_of HT_.out (by kernel_rfl)) ?_
             try go_wp2
             go_meet
             case rel => exact ⟨_, (y637), (.slice Ao86 y637.length co86), H', ⟨by have := HJ3.out; have := HK2.out; first | omega | exact Nat.le_refl _⟩, ⟨by (with_reducible repeat (first | apply Kd.R_alloc | apply Kd.R_drewN | apply Kd.R_drew)); exact Kd.R_mono (Kd.R_far (p := ⟨gb613, 7, none⟩) (Kd.R_types HO_613007.out BK613.out (by decide)) (fun _ hk => hk.2) (.slice Ao86 y637.length co86)) (fun _ hk => ⟨hk.1.2, hk.1.1.2⟩)⟩, ⟨by (with_reducible repeat (first | apply Kd.R_alloc | apply Kd.R_drewN | apply Kd.R_drew)); exact Kd.R_mono (Kd.R_far (p := ⟨gb613, 7, none⟩) (Kd.R_types HO639.out BK613.out (by decide)) (fun _ hk => hk.2) (.slice Ao86 y637.length co86)) (fun _ hk => ⟨hk.1.1, hk.1.2.2⟩)⟩, ⟨bk BK607⟩, ⟨bk BK608⟩, ⟨bk BK612⟩, ⟨by (with_reducible repeat (first | refine blk_drewN ?_ _ | refine blk_drew ?_ | refine blk_alloc ?_ _)); refine blk_put (cs := #[.int .i64 a0_0, .int .i64 a0_1, .int .i64 a0_2, .int .i64 a0_3, .int .i64 a0_4, .int .i64 a0_5, .slice A0_6 l0_6.length c0_6, u614007]) ?_ 7 _ rfl; (with_reducible repeat (first | refine blk_drewN ?_ _ | refine blk_drew ?_ | refine blk_alloc ?_ _)); exact BK613.out⟩, ⟨bl HB⟩⟩
            ·
             rw [if_neg c80] at H
             exact absurd H (by simp)
           ·
            rw [if_neg c79] at H
            exact absurd H (by simp)
          ·
           rw [if_neg c78] at H
           have c78b0 : decide (0 < (l0_7.length : Int)) = false := decide_eq_false c78
           have c78b1 : decide (0 < l0_7.length) = false := decide_eq_false (by omega)
           clear c78
           (first | rw [c78b0] | rw [c78b1] | (simp only [i64_w, i32_w]; first | rw [c78b0] | rw [c78b1]) | skip)
           have H' := Aside0.mk H
           clear H
           go_wp2
           go_meet
           case rel => exact ⟨_, (x614007_2), (u614007), H', ⟨by have := HJ3.out; have := HK2.out; first | omega | exact Nat.le_refl _⟩, ⟨by (with_reducible repeat (first | apply Kd.R_alloc | apply Kd.R_drewN | apply Kd.R_drew)); exact HO_613007.out⟩, ⟨by (with_reducible repeat (first | apply Kd.R_alloc | apply Kd.R_drewN | apply Kd.R_drew)); exact HO_614007.out⟩, ⟨bk BK607⟩, ⟨bk BK608⟩, ⟨bk BK612⟩, ⟨bk BK613⟩, ⟨bl HB⟩⟩
         case rest =>
          as_aux_lemma =>
          clear HC73
          (try clear c2); (try clear p2); (try clear c3); (try clear c5); (try clear c6); (try clear p6); (try clear q6); (try clear hx6); (try clear qi6); (try clear c7); (try clear c8); (try clear c20); (try clear c21); (try clear c56); (try clear c57); (try clear c58); (try clear c60); (try clear c62); (try clear c62b0); (try clear p62); (try clear q62); (try clear hx62); (try clear c63); (try clear c63b0); (try clear p63); (try clear q63); (try clear hx63); (try clear qi63); (try clear c64); (try clear c64b0); (try clear p64); (try clear c65); (try clear c74); (try clear c75); (try clear c76); (try clear c78); (try clear c78b0); (try clear c78b1); (try clear c79); (try clear c79b0); (try clear c79b1); (try clear c80); (try clear hcz59_0); (try clear hcz59_1); (try clear hcz59_2); (try clear hcz59_3); (try clear hcz59_4); (try clear hcz59_5); (try clear hcz59_6); (try clear hcz59_7); (try clear hcz61_0); (try clear hcz61_1); (try clear hcz61_2); (try clear hcz61_3); (try clear hcz61_4); (try clear hcz61_5); (try clear hcz61_6); (try clear hcz61_7); (try clear hcz77_0); (try clear hcz77_1); (try clear hcz77_2); (try clear hcz77_3); (try clear hcz77_4); (try clear hcz77_5); (try clear hcz77_6); (try clear hcz77_7); (try clear hfz59_0); (try clear hfz59_1); (try clear hfz59_2); (try clear hfz59_3); (try clear hfz59_4); (try clear hfz59_5); (try clear hfz59_6); (try clear hfz59_7); (try clear hfz61_0); (try clear hfz61_1); (try clear hfz61_2); (try clear hfz61_3); (try clear hfz61_4); (try clear hfz61_5); (try clear hfz61_6); (try clear hfz61_7); (try clear hfz77_0); (try clear hfz77_1); (try clear hfz77_2); (try clear hfz77_3); (try clear hfz77_4); (try clear hfz77_5); (try clear hfz77_6); (try clear hfz77_7); (try clear hx626_0); (try clear hx626_1); (try clear hx626_2); (try clear hx633_0); (try clear hx633_1); (try clear hx633_2); (try clear p2); (try clear p6); (try clear p626); (try clear p633); (try clear q626); (try clear q633)
          (try clear HO_613007); (try clear HO_614007); (try clear BK607); (try clear BK608); (try clear BK612); (try clear BK613); (try clear HB)
          obtain ⟨kq, x614007_72, u614007, HA, HJ72, HO_613007, HO_614007, BK607, BK608, BK612, BK613, HB⟩ := hcut
          cases kq with
          | zero => exact absurd HA.out (by simp [remontoirlaw04_ScaleMore.j2])
          | succ kj72 =>
           have H := HA.out
           clear HA
           simp only [remontoirlaw04_ScaleMore.j2] at H
           replace H := Option.bind_eq_some_iff.mp H
           obtain ⟨⟨t640, t641, t642⟩, A880, H⟩ := H
           replace H : ((scale_Error.f a0_0 a0_1 a0_2 a0_3 a0_4 a0_5 l0_6 y623 t611).bind fun bt644 => ((scale_Error.f a0_0 a0_1 a0_2 a0_3 a0_4 a0_5 l0_6 x614007_72 t611).bind fun bt648 => (if (!(t640 == bt648.1) || (!(t641 == bt648.2.1))) = true then (remontoirlaw04_ScaleMore.j3 kj72 t611 t642 bt644.2.2 true a0_0 a0_1 a0_2 a0_3 a0_4 a0_5 l0_6 l0_7 t640 t641 bt644.1 bt644.2.1) else (remontoirlaw04_ScaleMore.j3 kj72 t611 t642 bt644.2.2 (t642 != bt648.2.2) a0_0 a0_1 a0_2 a0_3 a0_4 a0_5 l0_6 l0_7 t640 t641 bt644.1 bt644.2.1)))) = some r := H
           have A88 := Aside0.mk A880
           clear A880
           replace H := Option.bind_eq_some_iff.mp H
           obtain ⟨⟨t644, t645, t646⟩, A890, H⟩ := H
           replace H : ((scale_Error.f a0_0 a0_1 a0_2 a0_3 a0_4 a0_5 l0_6 x614007_72 t611).bind fun bt648 => (if (!(t640 == bt648.1) || (!(t641 == bt648.2.1))) = true then (remontoirlaw04_ScaleMore.j3 kj72 t611 t642 t646 true a0_0 a0_1 a0_2 a0_3 a0_4 a0_5 l0_6 l0_7 t640 t641 t644 t645) else (remontoirlaw04_ScaleMore.j3 kj72 t611 t642 t646 (t642 != bt648.2.2) a0_0 a0_1 a0_2 a0_3 a0_4 a0_5 l0_6 l0_7 t640 t641 t644 t645))) = some r := H
           have A89 := Aside0.mk A890
           clear A890
           replace H := Option.bind_eq_some_iff.mp H
           obtain ⟨⟨t648, t649, t650⟩, A900, H⟩ := H
           replace H : (if (!(t640 == t648) || (!(t641 == t649))) = true then (remontoirlaw04_ScaleMore.j3 kj72 t611 t642 t646 true a0_0 a0_1 a0_2 a0_3 a0_4 a0_5 l0_6 l0_7 t640 t641 t644 t645) else (remontoirlaw04_ScaleMore.j3 kj72 t611 t642 t646 (t642 != t650) a0_0 a0_1 a0_2 a0_3 a0_4 a0_5 l0_6 l0_7 t640 t641 t644 t645)) = some r := H
           have A90 := Aside0.mk A900
           clear A900
           have HC91 := Aside0.mk H
           clear H
           have hnb92 := NB607_608.out
           have hnc92 := NB608_607.out
           have hnb93 := NB607_612.out
           have hnc93 := NB612_607.out
           have hnb94 := NB607_613.out
           have hnc94 := NB613_607.out
           have hcz95_0 : wc.cell? ⟨gb607, 0, none⟩ = some (.int .i64 a0_0) := bc BK607 0
           have hcz95_1 : wc.cell? ⟨gb607, 1, none⟩ = some (.int .i64 a0_1) := bc BK607 1
           have hcz95_2 : wc.cell? ⟨gb607, 2, none⟩ = some (.int .i64 a0_2) := bc BK607 2
           have hcz95_3 : wc.cell? ⟨gb607, 3, none⟩ = some (.int .i64 a0_3) := bc BK607 3
           have hcz95_4 : wc.cell? ⟨gb607, 4, none⟩ = some (.int .i64 a0_4) := bc BK607 4
           have hcz95_5 : wc.cell? ⟨gb607, 5, none⟩ = some (.int .i64 a0_5) := bc BK607 5
           have hcz95_6 : wc.cell? ⟨gb607, 6, none⟩ = some (.slice A0_6 l0_6.length c0_6) := bc BK607 6
           have hcz95_7 : wc.cell? ⟨gb607, 7, none⟩ = some (.slice A0_7 l0_7.length c0_7) := bc BK607 7
           have hfz95_0 := blk_frozen BK607.out 0
           have hfz95_1 := blk_frozen BK607.out 1
           have hfz95_2 := blk_frozen BK607.out 2
           have hfz95_3 := blk_frozen BK607.out 3
           have hfz95_4 := blk_frozen BK607.out 4
           have hfz95_5 := blk_frozen BK607.out 5
           have hfz95_6 := blk_frozen BK607.out 6
           have hfz95_7 := blk_frozen BK607.out 7
           go_upto_region 16 with (first | ((with_reducible refine gate_callee (f := 27) rfl ?_); refine goesL_ (some 78) rfl rfl Tryd.func27 (by kernel_rfl) rfl #[.agg #[.int .i64 a0_0, .int .i64 a0_1, .int .i64 a0_2, .int .i64 a0_3, .int .i64 a0_4, .int .i64 a0_5, .slice A0_6 l0_6.length c0_6, .slice A0_7 l0_7.length c0_7], .int .i64 t611] rfl (by (try simp only [List.map_toArray, List.map_cons, List.map_nil]); first | done | rfl | (simp only [List.length_drop, List.length_take]; rfl)) ?_; (with_reducible refine (scale_Error.calls a0_0 a0_1 a0_2 a0_3 a0_4 a0_5 _ _ l0_6 _ _ l0_7 t611 t640 t641 t642 _ ?side1 ?side2 ?side3 ?side4 ?side5 A88.out).mono ?_); (case side1 => repeat (first | exact (Kd.C_below HR0_6.out HB.out) | (with_reducible refine Kd.C_alloc ?_ _) | (with_reducible refine Kd.C_drewN ?_ _) | (with_reducible refine Kd.C_drew ?_))); (case side2 => exact HC0_6.out); (case side3 => repeat (first | exact (Kd.C_below HR0_7.out HB.out) | (with_reducible refine Kd.C_alloc ?_ _) | (with_reducible refine Kd.C_drewN ?_ _) | (with_reducible refine Kd.C_drew ?_))); (case side4 => exact HC0_7.out); (case side5 => exact Go.Proofs.YtidnopmjhhmedaaDoor.Ways.below HWays.out (bl HB)); rintro e w96 ⟨rfl, hb⟩; refine ⟨_, rfl, ?_⟩; replace HO_613007 := Aside0.mk (Kd.R_below (rk HO_613007) hb); replace HO_614007 := Aside0.mk (Kd.R_below (rk HO_614007) hb); replace BK607 := Aside0.mk (blk_below (bk BK607) hb); replace BK608 := Aside0.mk (blk_below (bk BK608) hb); replace BK612 := Aside0.mk (blk_below (bk BK612) hb); replace BK613 := Aside0.mk (blk_below (bk BK613) hb); replace HB := Aside0.mk (below_step (bl HB) hb); (try clear hb); (try clear hb2); (try clear hk); (try clear hi)) | ((with_reducible refine gate_dst (N := 11) rfl ?_); (try (refine gate_guard (by rfl) ?_; dsimp only)); refine box_event ?hg (N := 11) ?hd (cs := #[.int .i64 0, .int .i64 0]) (t := 23) ?hr ?_; (case hd => rfl); (case hg => rfl); (case hr => first | (go_simp; done) | (go_simp; rfl)); intro gb643 hg w97 hbox hb; replace HO_613007 := Aside0.mk (Kd.R_below (rk HO_613007) hb); replace HO_614007 := Aside0.mk (Kd.R_below (rk HO_614007) hb); have BK643 := Aside0.mk (hbox); have GW643 := geB hg (bl HB); have GE643 := geB hg (bl HB); replace HB := Aside0.mk (below_step (bl HB) hb); have NB607_643 := nlt hg (bk BK607); have NB643_607 := ngt hg (bk BK607); replace BK607 := Aside0.mk (blk_below (bk BK607) hb); have NB608_643 := nlt hg (bk BK608); have NB643_608 := ngt hg (bk BK608); replace BK608 := Aside0.mk (blk_below (bk BK608) hb); have NB612_643 := nlt hg (bk BK612); have NB643_612 := ngt hg (bk BK612); replace BK612 := Aside0.mk (blk_below (bk BK612) hb); have NB613_643 := nlt hg (bk BK613); have NB643_613 := ngt hg (bk BK613); replace BK613 := Aside0.mk (blk_below (bk BK613) hb); clear hb hbox hg; have hnb98 := NB643_607.out; have hnc98 := NB607_643.out; have hnb99 := NB643_608.out; have hnc99 := NB608_643.out; have hnb100 := NB643_612.out; have hnc100 := NB612_643.out; have hnb101 := NB643_613.out; have hnc101 := NB613_643.out; have hcz102_0 : w97.cell? ⟨gb643, 0, none⟩ = some (.int .i64 0) := bc BK643 0; have hcz102_1 : w97.cell? ⟨gb643, 1, none⟩ = some (.int .i64 0) := bc BK643 1; have hfz102_0 := blk_frozen BK643.out 0; have hfz102_1 := blk_frozen BK643.out 1; have hnb103 := NB612_608.out; have hnc103 := NB608_612.out; have hnb104 := NB612_613.out; have hnc104 := NB613_612.out; have hcz105_0 : w97.cell? ⟨gb612, 0, none⟩ = some (.int .i64 a0_0) := bc BK612 0; have hcz105_1 : w97.cell? ⟨gb612, 1, none⟩ = some (.int .i64 a0_1) := bc BK612 1; have hcz105_2 : w97.cell? ⟨gb612, 2, none⟩ = some (.int .i64 a0_2) := bc BK612 2; have hcz105_3 : w97.cell? ⟨gb612, 3, none⟩ = some (.int .i64 a0_3) := bc BK612 3; have hcz105_4 : w97.cell? ⟨gb612, 4, none⟩ = some (.int .i64 a0_4) := bc BK612 4; have hcz105_5 : w97.cell? ⟨gb612, 5, none⟩ = some (.int .i64 a0_5) := bc BK612 5; have hcz105_6 : w97.cell? ⟨gb612, 6, none⟩ = some (.slice A0_6 l0_6.length c0_6) := bc BK612 6; have hcz105_7 : w97.cell? ⟨gb612, 7, none⟩ = some (.slice Ao54 y623.length co54) := bc BK612 7; have hfz105_0 := blk_frozen BK612.out 0; have hfz105_1 := blk_frozen BK612.out 1; have hfz105_2 := blk_frozen BK612.out 2; have hfz105_3 := blk_frozen BK612.out 3; have hfz105_4 := blk_frozen BK612.out 4; have hfz105_5 := blk_frozen BK612.out 5; have hfz105_6 := blk_frozen BK612.out 6; have hfz105_7 := blk_frozen BK612.out 7) | ((with_reducible refine gate_callee (f := 27) rfl ?_); refine goesL_ (some 84) rfl rfl Tryd.func27 (by kernel_rfl) rfl #[.agg #[.int .i64 a0_0, .int .i64 a0_1, .int .i64 a0_2, .int .i64 a0_3, .int .i64 a0_4, .int .i64 a0_5, .slice A0_6 l0_6.length c0_6, .slice Ao54 y623.length co54], .int .i64 t611] rfl (by (try simp only [List.map_toArray, List.map_cons, List.map_nil]); first | done | rfl | (simp only [List.length_drop, List.length_take]; rfl)) ?_; (with_reducible refine (scale_Error.calls a0_0 a0_1 a0_2 a0_3 a0_4 a0_5 _ _ l0_6 _ _ y623 t611 t644 t645 t646 _ ?side1 ?side2 ?side3 ?side4 ?side5 A89.out).mono ?_); (case side1 => exact Kd.C_below HR0_6.out (bl HB)); (case side2 => exact HC0_6.out); (case side3 => refine (Kd.R_reads' (e := 71) (base := w.heap.size) (ok := fun k_ => (some k_ ≠ (u614007 : Value).ownBlock ∧ k_ ≠ gb608)) (n := y623.length) (c := co54) ?_).2.2; exact (by (with_reducible repeat (first | apply Kd.R_alloc | apply Kd.R_drewN | apply Kd.R_drew)); exact (Kd.R_mono (Kd.R_far (p := ⟨gb643, 1, none⟩) (Kd.R_far (p := ⟨gb643, 0, none⟩) (Kd.R_types HO_613007.out BK643.out (by decide)) (fun _ hk => hk.2) (.int .i64 t640)) (fun _ hk => hk.2) (.int .i64 t641)) (fun _ h_ => h_.1)))); (case side4 => exact (Kd.R_reads' HO_613007.out).2.1); (case side5 => exact Go.Proofs.YtidnopmjhhmedaaDoor.Ways.below HWays.out (bl HB)); rintro e w106 ⟨rfl, hb⟩; refine ⟨_, rfl, ?_⟩; replace HO_613007 := Aside0.mk (Kd.R_below (by (with_reducible repeat (first | apply Kd.R_alloc | apply Kd.R_drewN | apply Kd.R_drew)); exact (Kd.R_mono (Kd.R_far (p := ⟨gb643, 1, none⟩) (Kd.R_far (p := ⟨gb643, 0, none⟩) (Kd.R_types HO_613007.out BK643.out (by decide)) (fun _ hk => hk.2) (.int .i64 t640)) (fun _ hk => hk.2) (.int .i64 t641)) (fun _ h_ => h_.1))) hb); replace HO_614007 := Aside0.mk (Kd.R_below (by (with_reducible repeat (first | apply Kd.R_alloc | apply Kd.R_drewN | apply Kd.R_drew)); exact (Kd.R_mono (Kd.R_far (p := ⟨gb643, 1, none⟩) (Kd.R_far (p := ⟨gb643, 0, none⟩) (Kd.R_types HO_614007.out BK643.out (by decide)) (fun _ hk => hk.2) (.int .i64 t640)) (fun _ hk => hk.2) (.int .i64 t641)) (fun _ h_ => h_.1))) hb); replace BK607 := Aside0.mk (blk_below (bk BK607) hb); replace BK608 := Aside0.mk (blk_below (bk BK608) hb); replace BK612 := Aside0.mk (blk_below (bk BK612) hb); replace BK613 := Aside0.mk (blk_below (bk BK613) hb); replace BK643 := Aside0.mk (blk_below (g := gb643) (o := .cells #[.int .i64 t640, .int .i64 t641] 23 (0, 0)) (by (with_reducible repeat (first | refine blk_drewN ?_ _ | refine blk_drew ?_ | refine blk_alloc ?_ _)); refine blk_put (cs := #[.int .i64 t640, .int .i64 0]) ?_ 1 _ rfl; (with_reducible repeat (first | refine blk_drewN ?_ _ | refine blk_drew ?_ | refine blk_alloc ?_ _)); refine blk_put (cs := #[.int .i64 0, .int .i64 0]) ?_ 0 _ rfl; (with_reducible repeat (first | refine blk_drewN ?_ _ | refine blk_drew ?_ | refine blk_alloc ?_ _)); exact BK643.out) hb); replace HB := Aside0.mk (below_step (bl HB) hb); (try clear hb); (try clear hb2); (try clear hk); (try clear hi)) | ((with_reducible refine gate_dst (N := 13) rfl ?_); (try (refine gate_guard (by rfl) ?_; dsimp only)); refine box_event ?hg (N := 13) ?hd (cs := #[.int .i64 0, .int .i64 0]) (t := 23) ?hr ?_; (case hd => rfl); (case hg => rfl); (case hr => first | (go_simp; done) | (go_simp; rfl)); intro gb647 hg w107 hbox hb; replace HO_613007 := Aside0.mk (Kd.R_below (rk HO_613007) hb); replace HO_614007 := Aside0.mk (Kd.R_below (rk HO_614007) hb); have BK647 := Aside0.mk (hbox); have GW647 := geB hg (bl HB); have GE647 := geB hg (bl HB); replace HB := Aside0.mk (below_step (bl HB) hb); have NB607_647 := nlt hg (bk BK607); have NB647_607 := ngt hg (bk BK607); replace BK607 := Aside0.mk (blk_below (bk BK607) hb); have NB608_647 := nlt hg (bk BK608); have NB647_608 := ngt hg (bk BK608); replace BK608 := Aside0.mk (blk_below (bk BK608) hb); have NB612_647 := nlt hg (bk BK612); have NB647_612 := ngt hg (bk BK612); replace BK612 := Aside0.mk (blk_below (bk BK612) hb); have NB613_647 := nlt hg (bk BK613); have NB647_613 := ngt hg (bk BK613); replace BK613 := Aside0.mk (blk_below (bk BK613) hb); have NB643_647 := nlt hg (bk BK643); have NB647_643 := ngt hg (bk BK643); replace BK643 := Aside0.mk (blk_below (bk BK643) hb); clear hb hbox hg; have hnb108 := NB647_607.out; have hnc108 := NB607_647.out; have hnb109 := NB647_608.out; have hnc109 := NB608_647.out; have hnb110 := NB647_612.out; have hnc110 := NB612_647.out; have hnb111 := NB647_613.out; have hnc111 := NB613_647.out; have hnb112 := NB647_643.out; have hnc112 := NB643_647.out; have hcz113_0 : w107.cell? ⟨gb647, 0, none⟩ = some (.int .i64 0) := bc BK647 0; have hcz113_1 : w107.cell? ⟨gb647, 1, none⟩ = some (.int .i64 0) := bc BK647 1; have hfz113_0 := blk_frozen BK647.out 0; have hfz113_1 := blk_frozen BK647.out 1; have hnb114 := NB613_608.out; have hnc114 := NB608_613.out; have hcz115_0 : w107.cell? ⟨gb613, 0, none⟩ = some (.int .i64 a0_0) := bc BK613 0; have hcz115_1 : w107.cell? ⟨gb613, 1, none⟩ = some (.int .i64 a0_1) := bc BK613 1; have hcz115_2 : w107.cell? ⟨gb613, 2, none⟩ = some (.int .i64 a0_2) := bc BK613 2; have hcz115_3 : w107.cell? ⟨gb613, 3, none⟩ = some (.int .i64 a0_3) := bc BK613 3; have hcz115_4 : w107.cell? ⟨gb613, 4, none⟩ = some (.int .i64 a0_4) := bc BK613 4; have hcz115_5 : w107.cell? ⟨gb613, 5, none⟩ = some (.int .i64 a0_5) := bc BK613 5; have hcz115_6 : w107.cell? ⟨gb613, 6, none⟩ = some (.slice A0_6 l0_6.length c0_6) := bc BK613 6; have hcz115_7 : w107.cell? ⟨gb613, 7, none⟩ = some (u614007) := bc BK613 7; have hfz115_0 := blk_frozen BK613.out 0; have hfz115_1 := blk_frozen BK613.out 1; have hfz115_2 := blk_frozen BK613.out 2; have hfz115_3 := blk_frozen BK613.out 3; have hfz115_4 := blk_frozen BK613.out 4; have hfz115_5 := blk_frozen BK613.out 5; have hfz115_6 := blk_frozen BK613.out 6; have hfz115_7 := blk_frozen BK613.out 7; obtain ⟨Ao116, co116, eo116⟩ := Kd.R_slice HO_614007.out; subst eo116) | ((with_reducible refine gate_callee (f := 27) rfl ?_); refine goesL_ (some 90) rfl rfl Tryd.func27 (by kernel_rfl) rfl #[.agg #[.int .i64 a0_0, .int .i64 a0_1, .int .i64 a0_2, .int .i64 a0_3, .int .i64 a0_4, .int .i64 a0_5, .slice A0_6 l0_6.length c0_6, .slice Ao116 x614007_72.length co116], .int .i64 t611] rfl (by (try simp only [List.map_toArray, List.map_cons, List.map_nil]); first | done | rfl | (simp only [List.length_drop, List.length_take]; rfl)) ?_; (with_reducible refine (scale_Error.calls a0_0 a0_1 a0_2 a0_3 a0_4 a0_5 _ _ l0_6 _ _ x614007_72 t611 t648 t649 t650 _ ?side1 ?side2 ?side3 ?side4 ?side5 A90.out).mono ?_); (case side1 => exact Kd.C_below HR0_6.out (bl HB)); (case side2 => exact HC0_6.out); (case side3 => refine (Kd.R_reads' (e := 71) (base := w.heap.size) (ok := fun k_ => (some k_ ≠ (.slice Ao54 y623.length co54 : Value).ownBlock ∧ k_ ≠ gb608)) (n := x614007_72.length) (c := co116) ?_).2.2; exact (by (with_reducible repeat (first | apply Kd.R_alloc | apply Kd.R_drewN | apply Kd.R_drew)); exact (Kd.R_mono (Kd.R_far (p := ⟨gb647, 1, none⟩) (Kd.R_far (p := ⟨gb647, 0, none⟩) (Kd.R_types HO_614007.out BK647.out (by decide)) (fun _ hk => hk.2) (.int .i64 t644)) (fun _ hk => hk.2) (.int .i64 t645)) (fun _ h_ => h_.1)))); (case side4 => exact (Kd.R_reads' HO_614007.out).2.1); (case side5 => exact Go.Proofs.YtidnopmjhhmedaaDoor.Ways.below HWays.out (bl HB)); rintro e w117 ⟨rfl, hb⟩; refine ⟨_, rfl, ?_⟩; replace HO_613007 := Aside0.mk (Kd.R_below (by (with_reducible repeat (first | apply Kd.R_alloc | apply Kd.R_drewN | apply Kd.R_drew)); exact (Kd.R_mono (Kd.R_far (p := ⟨gb647, 1, none⟩) (Kd.R_far (p := ⟨gb647, 0, none⟩) (Kd.R_types HO_613007.out BK647.out (by decide)) (fun _ hk => hk.2) (.int .i64 t644)) (fun _ hk => hk.2) (.int .i64 t645)) (fun _ h_ => h_.1))) hb); replace HO_614007 := Aside0.mk (Kd.R_below (by (with_reducible repeat (first | apply Kd.R_alloc | apply Kd.R_drewN | apply Kd.R_drew)); exact (Kd.R_mono (Kd.R_far (p := ⟨gb647, 1, none⟩) (Kd.R_far (p := ⟨gb647, 0, none⟩) (Kd.R_types HO_614007.out BK647.out (by decide)) (fun _ hk => hk.2) (.int .i64 t644)) (fun _ hk => hk.2) (.int .i64 t645)) (fun _ h_ => h_.1))) hb); replace BK607 := Aside0.mk (blk_below (bk BK607) hb); replace BK608 := Aside0.mk (blk_below (bk BK608) hb); replace BK612 := Aside0.mk (blk_below (bk BK612) hb); replace BK613 := Aside0.mk (blk_below (bk BK613) hb); replace BK643 := Aside0.mk (blk_below (bk BK643) hb); replace BK647 := Aside0.mk (blk_below (g := gb647) (o := .cells #[.int .i64 t644, .int .i64 t645] 23 (0, 0)) (by (with_reducible repeat (first | refine blk_drewN ?_ _ | refine blk_drew ?_ | refine blk_alloc ?_ _)); refine blk_put (cs := #[.int .i64 t644, .int .i64 0]) ?_ 1 _ rfl; (with_reducible repeat (first | refine blk_drewN ?_ _ | refine blk_drew ?_ | refine blk_alloc ?_ _)); refine blk_put (cs := #[.int .i64 0, .int .i64 0]) ?_ 0 _ rfl; (with_reducible repeat (first | refine blk_drewN ?_ _ | refine blk_drew ?_ | refine blk_alloc ?_ _)); exact BK647.out) hb); replace HB := Aside0.mk (below_step (bl HB) hb); (try clear hb); (try clear hb2); (try clear hk); (try clear hi)) | ((with_reducible refine gate_dst (N := 15) rfl ?_); (try (refine gate_guard (by rfl) ?_; dsimp only)); refine box_event ?hg (N := 15) ?hd (cs := #[.int .i64 0, .int .i64 0]) (t := 23) ?hr ?_; (case hd => rfl); (case hg => rfl); (case hr => first | (go_simp; done) | (go_simp; rfl)); intro gb651 hg w118 hbox hb; replace HO_613007 := Aside0.mk (Kd.R_below (rk HO_613007) hb); replace HO_614007 := Aside0.mk (Kd.R_below (rk HO_614007) hb); have BK651 := Aside0.mk (hbox); have GW651 := geB hg (bl HB); have GE651 := geB hg (bl HB); replace HB := Aside0.mk (below_step (bl HB) hb); have NB607_651 := nlt hg (bk BK607); have NB651_607 := ngt hg (bk BK607); replace BK607 := Aside0.mk (blk_below (bk BK607) hb); have NB608_651 := nlt hg (bk BK608); have NB651_608 := ngt hg (bk BK608); replace BK608 := Aside0.mk (blk_below (bk BK608) hb); have NB612_651 := nlt hg (bk BK612); have NB651_612 := ngt hg (bk BK612); replace BK612 := Aside0.mk (blk_below (bk BK612) hb); have NB613_651 := nlt hg (bk BK613); have NB651_613 := ngt hg (bk BK613); replace BK613 := Aside0.mk (blk_below (bk BK613) hb); have NB643_651 := nlt hg (bk BK643); have NB651_643 := ngt hg (bk BK643); replace BK643 := Aside0.mk (blk_below (bk BK643) hb); have NB647_651 := nlt hg (bk BK647); have NB651_647 := ngt hg (bk BK647); replace BK647 := Aside0.mk (blk_below (bk BK647) hb); clear hb hbox hg; have hnb119 := NB651_607.out; have hnc119 := NB607_651.out; have hnb120 := NB651_608.out; have hnc120 := NB608_651.out; have hnb121 := NB651_612.out; have hnc121 := NB612_651.out; have hnb122 := NB651_613.out; have hnc122 := NB613_651.out; have hnb123 := NB651_643.out; have hnc123 := NB643_651.out; have hnb124 := NB651_647.out; have hnc124 := NB647_651.out; have hcz125_0 : w118.cell? ⟨gb651, 0, none⟩ = some (.int .i64 0) := bc BK651 0; have hcz125_1 : w118.cell? ⟨gb651, 1, none⟩ = some (.int .i64 0) := bc BK651 1; have hfz125_0 := blk_frozen BK651.out 0; have hfz125_1 := blk_frozen BK651.out 1))
           (try simp only [Act.put, List.setIfInBounds_toArray, List.set_cons_zero, List.set_cons_succ])
           go_cut [100] (fun v100 wc => ∃ (kq : Nat) (x100_90 : Bool), v100 = .bool x100_90 ∧ Aside0 (remontoirlaw04_ScaleMore.j3 kq t611 t642 t646 x100_90 a0_0 a0_1 a0_2 a0_3 a0_4 a0_5 l0_6 l0_7 t640 t641 t644 t645 = some r) ∧ Aside0 (kq ≤ kj72) ∧ Aside0 (Kd.R k71 71 wc w.heap.size (fun k_ => some k_ ≠ ((.slice Ao116 x614007_72.length co116) : Value).ownBlock ∧ k_ ≠ gb608) (.slice Ao54 y623.length co54) y623) ∧ Aside0 (Kd.R k71 71 wc w.heap.size (fun k_ => some k_ ≠ ((.slice Ao54 y623.length co54) : Value).ownBlock ∧ k_ ≠ gb608) (.slice Ao116 x614007_72.length co116) x614007_72) ∧ Aside0 (wc.heap[gb607]? = some (.cells #[.int .i64 a0_0, .int .i64 a0_1, .int .i64 a0_2, .int .i64 a0_3, .int .i64 a0_4, .int .i64 a0_5, (.slice A0_6 l0_6.length c0_6), (.slice A0_7 l0_7.length c0_7)] 44 (0, 0))) ∧ Aside0 (wc.heap[gb608]? = some (.cells #[.int .i64 a1_0, .int .i64 a1_1, .int .i64 a1_2] 71 (0, 0))) ∧ Aside0 (wc.heap[gb612]? = some (.cells #[.int .i64 a0_0, .int .i64 a0_1, .int .i64 a0_2, .int .i64 a0_3, .int .i64 a0_4, .int .i64 a0_5, (.slice A0_6 l0_6.length c0_6), (.slice Ao54 y623.length co54)] 44 (0, 0))) ∧ Aside0 (wc.heap[gb613]? = some (.cells #[.int .i64 a0_0, .int .i64 a0_1, .int .i64 a0_2, .int .i64 a0_3, .int .i64 a0_4, .int .i64 a0_5, (.slice A0_6 l0_6.length c0_6), (.slice Ao116 x614007_72.length co116)] 44 (0, 0))) ∧ Aside0 (wc.heap[gb643]? = some (.cells #[.int .i64 t640, .int .i64 t641] 23 (0, 0))) ∧ Aside0 (wc.heap[gb647]? = some (.cells #[.int .i64 t644, .int .i64 t645] 23 (0, 0))) ∧ Aside0 (wc.heap[gb651]? = some (.cells #[.int .i64 t648, .int .i64 t649] 23 (0, 0))) ∧ Aside0 (Below w.heap.size w wc))
           case first =>
            have H := HC91.out
            clear HC91
            by_cases c126 : (!(t640 == t648) || (!(t641 == t649))) = true
            ·
             rw [if_pos c126] at H
             have c126b0 : (!(t640 == t648) || (!(t641 == t649))) = true := c126
             clear c126
             (first | rw [c126b0] | rw [c126b1] | (simp only [i64_w, i32_w]; first | rw [c126b0] | rw [c126b1]) | skip)
             have H' := Aside0.mk H
             clear H
             have hnb127 := NB643_607.out
             have hnc127 := NB607_643.out
             have hnb128 := NB643_608.out
             have hnc128 := NB608_643.out
             have hnb129 := NB643_612.out
             have hnc129 := NB612_643.out
             have hnb130 := NB643_613.out
             have hnc130 := NB613_643.out
             have hnb131 := NB643_647.out
             have hnc131 := NB647_643.out
             have hnb132 := NB643_651.out
             have hnc132 := NB651_643.out
             have hcz133_0 : w118.cell? ⟨gb643, 0, none⟩ = some (.int .i64 t640) := bc BK643 0
             have hcz133_1 : w118.cell? ⟨gb643, 1, none⟩ = some (.int .i64 t641) := bc BK643 1
             have hfz133_0 := blk_frozen BK643.out 0
             have hfz133_1 := blk_frozen BK643.out 1
             have hnb134 := NB651_607.out
             have hnc134 := NB607_651.out
             have hnb135 := NB651_608.out
             have hnc135 := NB608_651.out
             have hnb136 := NB651_612.out
             have hnc136 := NB612_651.out
             have hnb137 := NB651_613.out
             have hnc137 := NB613_651.out
             have hnb138 := NB651_647.out
             have hnc138 := NB647_651.out
             have hcz139_0 : w118.cell? ⟨gb651, 0, none⟩ = some (.int .i64 0) := bc BK651 0
             have hcz139_1 : w118.cell? ⟨gb651, 1, none⟩ = some (.int .i64 0) := bc BK651 1
             have hfz139_0 := blk_frozen BK651.out 0
             have hfz139_1 := blk_frozen BK651.out 1
             go_wp2
             go_meet
             case rel => exact ⟨_, (true), (by first | rfl | (simp; done) | (simp [*]; done)), H', ⟨by have := HJ3.out; have := HK2.out; have := HJ72.out; first | omega | exact Nat.le_refl _⟩, ⟨by (with_reducible repeat (first | apply Kd.R_alloc | apply Kd.R_drewN | apply Kd.R_drew)); exact Kd.R_mono (Kd.R_far (p := ⟨gb651, 1, none⟩) (Kd.R_far (p := ⟨gb651, 0, none⟩) (Kd.R_types HO_613007.out BK651.out (by decide)) (fun _ hk => hk.2) (.int .i64 t648)) (fun _ hk => hk.2) (.int .i64 t649)) (fun _ hk => ⟨hk.1.1, hk.1.2⟩)⟩, ⟨by (with_reducible repeat (first | apply Kd.R_alloc | apply Kd.R_drewN | apply Kd.R_drew)); exact Kd.R_mono (Kd.R_far (p := ⟨gb651, 1, none⟩) (Kd.R_far (p := ⟨gb651, 0, none⟩) (Kd.R_types HO_614007.out BK651.out (by decide)) (fun _ hk => hk.2) (.int .i64 t648)) (fun _ hk => hk.2) (.int .i64 t649)) (fun _ hk => ⟨hk.1.1, hk.1.2⟩)⟩, ⟨bk BK607⟩, ⟨bk BK608⟩, ⟨bk BK612⟩, ⟨bk BK613⟩, ⟨bk BK643⟩, ⟨bk BK647⟩, ⟨by (with_reducible repeat (first | refine blk_drewN ?_ _ | refine blk_drew ?_ | refine blk_alloc ?_ _)); refine blk_put (cs := #[.int .i64 t648, .int .i64 0]) ?_ 1 _ rfl; (with_reducible repeat (first | refine blk_drewN ?_ _ | refine blk_drew ?_ | refine blk_alloc ?_ _)); refine blk_put (cs := #[.int .i64 0, .int .i64 0]) ?_ 0 _ rfl; (with_reducible repeat (first | refine blk_drewN ?_ _ | refine blk_drew ?_ | refine blk_alloc ?_ _)); exact BK651.out⟩, ⟨bl HB⟩⟩
            ·
             rw [if_neg c126] at H
             have c126b0 : (!(t640 == t648) || (!(t641 == t649))) = false := by simpa using c126
             clear c126
             (first | rw [c126b0] | rw [c126b1] | (simp only [i64_w, i32_w]; first | rw [c126b0] | rw [c126b1]) | skip)
             have H' := Aside0.mk H
             clear H
             have hnb140 := NB643_607.out
             have hnc140 := NB607_643.out
             have hnb141 := NB643_608.out
             have hnc141 := NB608_643.out
             have hnb142 := NB643_612.out
             have hnc142 := NB612_643.out
             have hnb143 := NB643_613.out
             have hnc143 := NB613_643.out
             have hnb144 := NB643_647.out
             have hnc144 := NB647_643.out
             have hnb145 := NB643_651.out
             have hnc145 := NB651_643.out
             have hcz146_0 : w118.cell? ⟨gb643, 0, none⟩ = some (.int .i64 t640) := bc BK643 0
             have hcz146_1 : w118.cell? ⟨gb643, 1, none⟩ = some (.int .i64 t641) := bc BK643 1
             have hfz146_0 := blk_frozen BK643.out 0
             have hfz146_1 := blk_frozen BK643.out 1
             have hnb147 := NB651_607.out
             have hnc147 := NB607_651.out
             have hnb148 := NB651_608.out
             have hnc148 := NB608_651.out
             have hnb149 := NB651_612.out
             have hnc149 := NB612_651.out
             have hnb150 := NB651_613.out
             have hnc150 := NB613_651.out
             have hnb151 := NB651_647.out
             have hnc151 := NB647_651.out
             have hcz152_0 : w118.cell? ⟨gb651, 0, none⟩ = some (.int .i64 0) := bc BK651 0
             have hcz152_1 : w118.cell? ⟨gb651, 1, none⟩ = some (.int .i64 0) := bc BK651 1
             have hfz152_0 := blk_frozen BK651.out 0
             have hfz152_1 := blk_frozen BK651.out 1
             go_wp2
             go_meet
             case rel => exact ⟨_, ((t642 != t650)), (by first | rfl | (simp; done) | (simp [*]; done)), H', ⟨by have := HJ3.out; have := HK2.out; have := HJ72.out; first | omega | exact Nat.le_refl _⟩, ⟨by (with_reducible repeat (first | apply Kd.R_alloc | apply Kd.R_drewN | apply Kd.R_drew)); exact Kd.R_mono (Kd.R_far (p := ⟨gb651, 1, none⟩) (Kd.R_far (p := ⟨gb651, 0, none⟩) (Kd.R_types HO_613007.out BK651.out (by decide)) (fun _ hk => hk.2) (.int .i64 t648)) (fun _ hk => hk.2) (.int .i64 t649)) (fun _ hk => ⟨hk.1.1, hk.1.2⟩)⟩, ⟨by (with_reducible repeat (first | apply Kd.R_alloc | apply Kd.R_drewN | apply Kd.R_drew)); exact Kd.R_mono (Kd.R_far (p := ⟨gb651, 1, none⟩) (Kd.R_far (p := ⟨gb651, 0, none⟩) (Kd.R_types HO_614007.out BK651.out (by decide)) (fun _ hk => hk.2) (.int .i64 t648)) (fun _ hk => hk.2) (.int .i64 t649)) (fun _ hk => ⟨hk.1.1, hk.1.2⟩)⟩, ⟨bk BK607⟩, ⟨bk BK608⟩, ⟨bk BK612⟩, ⟨bk BK613⟩, ⟨bk BK643⟩, ⟨bk BK647⟩, ⟨by (with_reducible repeat (first | refine blk_drewN ?_ _ | refine blk_drew ?_ | refine blk_alloc ?_ _)); refine blk_put (cs := #[.int .i64 t648, .int .i64 0]) ?_ 1 _ rfl; (with_reducible repeat (first | refine blk_drewN ?_ _ | refine blk_drew ?_ | refine blk_alloc ?_ _)); refine blk_put (cs := #[.int .i64 0, .int .i64 0]) ?_ 0 _ rfl; (with_reducible repeat (first | refine blk_drewN ?_ _ | refine blk_drew ?_ | refine blk_alloc ?_ _)); exact BK651.out⟩, ⟨bl HB⟩⟩
           case rest =>
            as_aux_lemma =>
            clear HC91
            (try clear c1); (try clear c2); (try clear p2); (try clear c3); (try clear c5); (try clear c6); (try clear p6); (try clear q6); (try clear hx6); (try clear qi6); (try clear c7); (try clear c8); (try clear c9); (try clear c10); (try clear c11); (try clear c12); (try clear c13); (try clear c14); (try clear c15); (try clear c20); (try clear c21); (try clear c27); (try clear c56); (try clear c57); (try clear c58); (try clear c60); (try clear c62); (try clear c62b0); (try clear p62); (try clear q62); (try clear hx62); (try clear c63); (try clear c63b0); (try clear p63); (try clear q63); (try clear hx63); (try clear qi63); (try clear c64); (try clear c64b0); (try clear p64); (try clear c65); (try clear c74); (try clear c75); (try clear c76); (try clear c78); (try clear c78b0); (try clear c78b1); (try clear c79); (try clear c79b0); (try clear c79b1); (try clear c80); (try clear c92); (try clear c93); (try clear c94); (try clear c98); (try clear c99); (try clear c100); (try clear c101); (try clear c103); (try clear c104); (try clear c108); (try clear c109); (try clear c110); (try clear c111); (try clear c112); (try clear c114); (try clear c119); (try clear c120); (try clear c121); (try clear c122); (try clear c123); (try clear c124); (try clear c126); (try clear c126b0); (try clear c127); (try clear c128); (try clear c129); (try clear c130); (try clear c131); (try clear c132); (try clear c134); (try clear c135); (try clear c136); (try clear c137); (try clear c138); (try clear c140); (try clear c141); (try clear c142); (try clear c143); (try clear c144); (try clear c145); (try clear c147); (try clear c148); (try clear c149); (try clear c150); (try clear c151); (try clear hcz102_0); (try clear hcz102_1); (try clear hcz105_0); (try clear hcz105_1); (try clear hcz105_2); (try clear hcz105_3); (try clear hcz105_4); (try clear hcz105_5); (try clear hcz105_6); (try clear hcz105_7); (try clear hcz113_0); (try clear hcz113_1); (try clear hcz115_0); (try clear hcz115_1); (try clear hcz115_2)
            (try clear hcz115_3); (try clear hcz115_4); (try clear hcz115_5); (try clear hcz115_6); (try clear hcz115_7); (try clear hcz125_0); (try clear hcz125_1); (try clear hcz133_0); (try clear hcz133_1); (try clear hcz139_0); (try clear hcz139_1); (try clear hcz146_0); (try clear hcz146_1); (try clear hcz152_0); (try clear hcz152_1); (try clear hcz59_0); (try clear hcz59_1); (try clear hcz59_2); (try clear hcz59_3); (try clear hcz59_4); (try clear hcz59_5); (try clear hcz59_6); (try clear hcz59_7); (try clear hcz61_0); (try clear hcz61_1); (try clear hcz61_2); (try clear hcz61_3); (try clear hcz61_4); (try clear hcz61_5); (try clear hcz61_6); (try clear hcz61_7); (try clear hcz77_0); (try clear hcz77_1); (try clear hcz77_2); (try clear hcz77_3); (try clear hcz77_4); (try clear hcz77_5); (try clear hcz77_6); (try clear hcz77_7); (try clear hcz95_0); (try clear hcz95_1); (try clear hcz95_2); (try clear hcz95_3); (try clear hcz95_4); (try clear hcz95_5); (try clear hcz95_6); (try clear hcz95_7); (try clear hfz102_0); (try clear hfz102_1); (try clear hfz105_0); (try clear hfz105_1); (try clear hfz105_2); (try clear hfz105_3); (try clear hfz105_4); (try clear hfz105_5); (try clear hfz105_6); (try clear hfz105_7); (try clear hfz113_0); (try clear hfz113_1); (try clear hfz115_0); (try clear hfz115_1); (try clear hfz115_2); (try clear hfz115_3); (try clear hfz115_4); (try clear hfz115_5); (try clear hfz115_6); (try clear hfz115_7); (try clear hfz125_0); (try clear hfz125_1); (try clear hfz133_0); (try clear hfz133_1); (try clear hfz139_0); (try clear hfz139_1); (try clear hfz146_0); (try clear hfz146_1); (try clear hfz152_0); (try clear hfz152_1); (try clear hfz59_0); (try clear hfz59_1); (try clear hfz59_2); (try clear hfz59_3); (try clear hfz59_4); (try clear hfz59_5); (try clear hfz59_6); (try clear hfz59_7); (try clear hfz61_0); (try clear hfz61_1); (try clear hfz61_2); (try clear hfz61_3); (try clear hfz61_4); (try clear hfz61_5); (try clear hfz61_6); (try clear hfz61_7)
            (try clear hfz77_0); (try clear hfz77_1); (try clear hfz77_2); (try clear hfz77_3); (try clear hfz77_4); (try clear hfz77_5); (try clear hfz77_6); (try clear hfz77_7); (try clear hfz95_0); (try clear hfz95_1); (try clear hfz95_2); (try clear hfz95_3); (try clear hfz95_4); (try clear hfz95_5); (try clear hfz95_6); (try clear hfz95_7); (try clear hx626_0); (try clear hx626_1); (try clear hx626_2); (try clear hx633_0); (try clear hx633_1); (try clear hx633_2); (try clear p2); (try clear p6); (try clear p62); (try clear p626); (try clear p63); (try clear p633); (try clear p64); (try clear q6); (try clear q62); (try clear q626); (try clear q63); (try clear q633)
            (try clear HO_613007); (try clear HO_614007); (try clear BK607); (try clear BK608); (try clear BK612); (try clear BK613); (try clear BK643); (try clear BK647); (try clear BK651); (try clear HB)
            obtain ⟨kq, x100_90, rfl, HA, HJ90, HO_613007, HO_614007, BK607, BK608, BK612, BK613, BK643, BK647, BK651, HB⟩ := hcut
            cases kq with
            | zero => exact absurd HA.out (by simp [remontoirlaw04_ScaleMore.j3])
            | succ kj90 =>
             have H := HA.out
             clear HA
             simp only [remontoirlaw04_ScaleMore.j3] at H
             by_cases c153 : x100_90 = true
             ·
              subst c153
              have H1 : (some false) = some r := by rw [if_pos rfl] at H; exact H
              clear H
              have H := H1
              clear H1
              obtain rfl := Option.some.inj H
              go_wp2
              go_ret
              exact ⟨by first | rfl | (simp [errW_none, errW_some] <;> rfl) | (simp [*, errW_none, errW_some] <;> rfl), by repeat (first | (with_reducible first | exact HB.out | apply below_alloc | apply pw_below_drewN | apply below_drew1 | refine below_set ?_ GE607.out | refine below_set ?_ GE608.out | refine below_set ?_ GE612.out | refine below_set ?_ GE613.out | refine below_set ?_ GE643.out | refine below_set ?_ GE647.out | refine below_set ?_ GE651.out) | exact HB.out)⟩
             ·
              replace c153 := Bool.eq_false_iff.mpr c153
              subst c153
              have H1 : (if t646 = 0 then (if t642 = 0 then ((remontoirref00_Within.f t644 t645 t640 t641).bind fun t654 => (remontoirlaw04_ScaleMore.j4 kj90 t611 (!t654) a0_0 a0_1 a0_2 a0_3 a0_4 a0_5 l0_6 l0_7 t640 t641)) else (remontoirlaw04_ScaleMore.j4 kj90 t611 true a0_0 a0_1 a0_2 a0_3 a0_4 a0_5 l0_6 l0_7 t640 t641)) else (if t646 = 40 then (if (t644 == 0 && (t645 == 0)) = true then ((remontoirlaw04_works.f).bind fun t652 => (some t652)) else (some false)) else (if t646 = 42 then (if (t644 == 0 && (t645 == 0)) = true then ((remontoirlaw04_works.f).bind fun t653 => (some t653)) else (some false)) else (some false)))) = some r := by rw [if_neg (show ¬ (false = true) by decide)] at H; exact H
              clear H
              have H := H1
              clear H1
              by_cases c154 : t646 = 0
              ·
               rw [if_pos c154] at H
               have c154b0 : (t646 == 0) = true := beq_iff_eq.mpr c154
               have c154b1 : (t646 != 0) = false := bne_eq_false_iff_eq.mpr c154
               clear c154
               have HC155 := Aside0.mk H
               clear H
               go_upto_region 20 with (fail)
               go_cut [124] (fun v124 wc => ∃ (kq : Nat) (x124_154 : Bool), v124 = .bool x124_154 ∧ Aside0 (remontoirlaw04_ScaleMore.j4 kq t611 x124_154 a0_0 a0_1 a0_2 a0_3 a0_4 a0_5 l0_6 l0_7 t640 t641 = some r) ∧ Aside0 (kq ≤ kj90) ∧ Aside0 (Kd.R k71 71 wc w.heap.size (fun k_ => some k_ ≠ ((.slice Ao116 x614007_72.length co116) : Value).ownBlock ∧ k_ ≠ gb608) (.slice Ao54 y623.length co54) y623) ∧ Aside0 (Kd.R k71 71 wc w.heap.size (fun k_ => some k_ ≠ ((.slice Ao54 y623.length co54) : Value).ownBlock ∧ k_ ≠ gb608) (.slice Ao116 x614007_72.length co116) x614007_72) ∧ Aside0 (wc.heap[gb607]? = some (.cells #[.int .i64 a0_0, .int .i64 a0_1, .int .i64 a0_2, .int .i64 a0_3, .int .i64 a0_4, .int .i64 a0_5, (.slice A0_6 l0_6.length c0_6), (.slice A0_7 l0_7.length c0_7)] 44 (0, 0))) ∧ Aside0 (wc.heap[gb608]? = some (.cells #[.int .i64 a1_0, .int .i64 a1_1, .int .i64 a1_2] 71 (0, 0))) ∧ Aside0 (wc.heap[gb612]? = some (.cells #[.int .i64 a0_0, .int .i64 a0_1, .int .i64 a0_2, .int .i64 a0_3, .int .i64 a0_4, .int .i64 a0_5, (.slice A0_6 l0_6.length c0_6), (.slice Ao54 y623.length co54)] 44 (0, 0))) ∧ Aside0 (wc.heap[gb613]? = some (.cells #[.int .i64 a0_0, .int .i64 a0_1, .int .i64 a0_2, .int .i64 a0_3, .int .i64 a0_4, .int .i64 a0_5, (.slice A0_6 l0_6.length c0_6), (.slice Ao116 x614007_72.length co116)] 44 (0, 0))) ∧ Aside0 (wc.heap[gb643]? = some (.cells #[.int .i64 t640, .int .i64 t641] 23 (0, 0))) ∧ Aside0 (wc.heap[gb647]? = some (.cells #[.int .i64 t644, .int .i64 t645] 23 (0, 0))) ∧ Aside0 (wc.heap[gb651]? = some (.cells #[.int .i64 t648, .int .i64 t649] 23 (0, 0))) ∧ Aside0 (Below w.heap.size w wc))
               case first =>
                have H := HC155.out
                clear HC155
                by_cases c156 : t642 = 0
                ·
                 rw [if_pos c156] at H
                 have c156b0 : (t642 == 0) = true := beq_iff_eq.mpr c156
                 have c156b1 : (t642 != 0) = false := bne_eq_false_iff_eq.mpr c156
                 clear c156
                 (first | rw [c156b0] | rw [c156b1] | (simp only [i64_w, i32_w]; first | rw [c156b0] | rw [c156b1]) | skip)
                 replace H := Option.bind_eq_some_iff.mp H
                 obtain ⟨t654, A1570, H⟩ := H
                 replace H : (remontoirlaw04_ScaleMore.j4 kj90 t611 (!t654) a0_0 a0_1 a0_2 a0_3 a0_4 a0_5 l0_6 l0_7 t640 t641) = some r := H
                 have A157 := Aside0.mk A1570
                 clear A1570
                 have H' := Aside0.mk H
                 clear H
                 have hnb158 := NB647_607.out
                 have hnc158 := NB607_647.out
                 have hnb159 := NB647_608.out
                 have hnc159 := NB608_647.out
                 have hnb160 := NB647_612.out
                 have hnc160 := NB612_647.out
                 have hnb161 := NB647_613.out
                 have hnc161 := NB613_647.out
                 have hnb162 := NB647_643.out
                 have hnc162 := NB643_647.out
                 have hnb163 := NB647_651.out
                 have hnc163 := NB651_647.out
                 have hcz164_0 : wc.cell? ⟨gb647, 0, none⟩ = some (.int .i64 t644) := bc BK647 0
                 have hcz164_1 : wc.cell? ⟨gb647, 1, none⟩ = some (.int .i64 t645) := bc BK647 1
                 have hfz164_0 := blk_frozen BK647.out 0
                 have hfz164_1 := blk_frozen BK647.out 1
                 have hnb165 := NB643_607.out
                 have hnc165 := NB607_643.out
                 have hnb166 := NB643_608.out
                 have hnc166 := NB608_643.out
                 have hnb167 := NB643_612.out
                 have hnc167 := NB612_643.out
                 have hnb168 := NB643_613.out
                 have hnc168 := NB613_643.out
                 have hnb169 := NB643_651.out
                 have hnc169 := NB651_643.out
                 have hcz170_0 : wc.cell? ⟨gb643, 0, none⟩ = some (.int .i64 t640) := bc BK643 0
                 have hcz170_1 : wc.cell? ⟨gb643, 1, none⟩ = some (.int .i64 t641) := bc BK643 1
                 have hfz170_0 := blk_frozen BK643.out 0
                 have hfz170_1 := blk_frozen BK643.out 1
                 go_wp2_with (first | (go_at_call 45; (with_reducible refine (remontoirref00_Within.calls t644 t645 t640 t641 t654 _ A157.out).mono ?_); rintro e w171 ⟨rfl, hb⟩; replace HO_613007 := Aside0.mk (Kd.R_below (rk HO_613007) hb); replace HO_614007 := Aside0.mk (Kd.R_below (rk HO_614007) hb); replace BK607 := Aside0.mk (blk_below (bk BK607) hb); replace BK608 := Aside0.mk (blk_below (bk BK608) hb); replace BK612 := Aside0.mk (blk_below (bk BK612) hb); replace BK613 := Aside0.mk (blk_below (bk BK613) hb); replace BK643 := Aside0.mk (blk_below (bk BK643) hb); replace BK647 := Aside0.mk (blk_below (bk BK647) hb); replace BK651 := Aside0.mk (blk_below (bk BK651) hb); replace HB := Aside0.mk (below_step (bl HB) hb); (try clear hb); (try clear hb2); (try clear hk); (try clear hi)))
                 go_meet
                 case rel => exact ⟨_, (!t654), (by first | rfl | (simp; done) | (simp [*]; done)), H', ⟨by have := HJ3.out; have := HK2.out; have := HJ72.out; have := HJ90.out; first | omega | exact Nat.le_refl _⟩, ⟨by (with_reducible repeat (first | apply Kd.R_alloc | apply Kd.R_drewN | apply Kd.R_drew)); exact HO_613007.out⟩, ⟨by (with_reducible repeat (first | apply Kd.R_alloc | apply Kd.R_drewN | apply Kd.R_drew)); exact HO_614007.out⟩, ⟨bk BK607⟩, ⟨bk BK608⟩, ⟨bk BK612⟩, ⟨bk BK613⟩, ⟨bk BK643⟩, ⟨bk BK647⟩, ⟨bk BK651⟩, ⟨bl HB⟩⟩
                ·
                 rw [if_neg c156] at H
                 have c156b0 : (t642 == 0) = false := beq_eq_false_iff_ne.mpr c156
                 have c156b1 : (t642 != 0) = true := bne_iff_ne.mpr c156
                 (first | rw [c156b0] | rw [c156b1] | (simp only [i64_w, i32_w]; first | rw [c156b0] | rw [c156b1]) | skip)
                 have H' := Aside0.mk H
                 clear H
                 go_wp2
                 go_meet
                 case rel => exact ⟨_, (true), (by first | rfl | (simp; done) | (simp [*]; done)), H', ⟨by have := HJ3.out; have := HK2.out; have := HJ72.out; have := HJ90.out; first | omega | exact Nat.le_refl _⟩, ⟨by (with_reducible repeat (first | apply Kd.R_alloc | apply Kd.R_drewN | apply Kd.R_drew)); exact HO_613007.out⟩, ⟨by (with_reducible repeat (first | apply Kd.R_alloc | apply Kd.R_drewN | apply Kd.R_drew)); exact HO_614007.out⟩, ⟨bk BK607⟩, ⟨bk BK608⟩, ⟨bk BK612⟩, ⟨bk BK613⟩, ⟨bk BK643⟩, ⟨bk BK647⟩, ⟨bk BK651⟩, ⟨bl HB⟩⟩
               case rest =>
                as_aux_lemma =>
                clear HC155
                (try clear c1); (try clear c2); (try clear p2); (try clear c3); (try clear c5); (try clear c6); (try clear p6); (try clear q6); (try clear hx6); (try clear qi6); (try clear c7); (try clear c8); (try clear c9); (try clear c10); (try clear c11); (try clear c12); (try clear c13); (try clear c14); (try clear c15); (try clear c16); (try clear c20); (try clear c21); (try clear c27); (try clear c56); (try clear c57); (try clear c58); (try clear c60); (try clear c62); (try clear c62b0); (try clear p62); (try clear q62); (try clear hx62); (try clear c63); (try clear c63b0); (try clear p63); (try clear q63); (try clear hx63); (try clear qi63); (try clear c64); (try clear c64b0); (try clear p64); (try clear c65); (try clear c74); (try clear c75); (try clear c76); (try clear c78); (try clear c78b0); (try clear c78b1); (try clear c79); (try clear c79b0); (try clear c79b1); (try clear c80); (try clear c92); (try clear c93); (try clear c94); (try clear c98); (try clear c99); (try clear c100); (try clear c101); (try clear c103); (try clear c104); (try clear c108); (try clear c109); (try clear c110); (try clear c111); (try clear c112); (try clear c114); (try clear c119); (try clear c120); (try clear c121); (try clear c122); (try clear c123); (try clear c124); (try clear c126); (try clear c126b0); (try clear c127); (try clear c128); (try clear c129); (try clear c130); (try clear c131); (try clear c132); (try clear c134); (try clear c135); (try clear c136); (try clear c137); (try clear c138); (try clear c140); (try clear c141); (try clear c142); (try clear c143); (try clear c144); (try clear c145); (try clear c147); (try clear c148); (try clear c149); (try clear c150); (try clear c151); (try clear c153); (try clear c154); (try clear c154b0); (try clear c154b1); (try clear c156); (try clear c156b0); (try clear c156b1); (try clear c158); (try clear c159); (try clear c160); (try clear c161); (try clear c162); (try clear c163); (try clear c165); (try clear c166); (try clear c167)
                (try clear c168); (try clear c169); (try clear hcz102_0); (try clear hcz102_1); (try clear hcz105_0); (try clear hcz105_1); (try clear hcz105_2); (try clear hcz105_3); (try clear hcz105_4); (try clear hcz105_5); (try clear hcz105_6); (try clear hcz105_7); (try clear hcz113_0); (try clear hcz113_1); (try clear hcz115_0); (try clear hcz115_1); (try clear hcz115_2); (try clear hcz115_3); (try clear hcz115_4); (try clear hcz115_5); (try clear hcz115_6); (try clear hcz115_7); (try clear hcz125_0); (try clear hcz125_1); (try clear hcz133_0); (try clear hcz133_1); (try clear hcz139_0); (try clear hcz139_1); (try clear hcz146_0); (try clear hcz146_1); (try clear hcz152_0); (try clear hcz152_1); (try clear hcz164_0); (try clear hcz164_1); (try clear hcz170_0); (try clear hcz170_1); (try clear hcz59_0); (try clear hcz59_1); (try clear hcz59_2); (try clear hcz59_3); (try clear hcz59_4); (try clear hcz59_5); (try clear hcz59_6); (try clear hcz59_7); (try clear hcz61_0); (try clear hcz61_1); (try clear hcz61_2); (try clear hcz61_3); (try clear hcz61_4); (try clear hcz61_5); (try clear hcz61_6); (try clear hcz61_7); (try clear hcz77_0); (try clear hcz77_1); (try clear hcz77_2); (try clear hcz77_3); (try clear hcz77_4); (try clear hcz77_5); (try clear hcz77_6); (try clear hcz77_7); (try clear hcz95_0); (try clear hcz95_1); (try clear hcz95_2); (try clear hcz95_3); (try clear hcz95_4); (try clear hcz95_5); (try clear hcz95_6); (try clear hcz95_7); (try clear hfz102_0); (try clear hfz102_1); (try clear hfz105_0); (try clear hfz105_1); (try clear hfz105_2); (try clear hfz105_3); (try clear hfz105_4); (try clear hfz105_5); (try clear hfz105_6); (try clear hfz105_7); (try clear hfz113_0); (try clear hfz113_1); (try clear hfz115_0); (try clear hfz115_1); (try clear hfz115_2); (try clear hfz115_3); (try clear hfz115_4); (try clear hfz115_5); (try clear hfz115_6); (try clear hfz115_7); (try clear hfz125_0); (try clear hfz125_1); (try clear hfz133_0); (try clear hfz133_1); (try clear hfz139_0)
                (try clear hfz139_1); (try clear hfz146_0); (try clear hfz146_1); (try clear hfz152_0); (try clear hfz152_1); (try clear hfz164_0); (try clear hfz164_1); (try clear hfz170_0); (try clear hfz170_1); (try clear hfz59_0); (try clear hfz59_1); (try clear hfz59_2); (try clear hfz59_3); (try clear hfz59_4); (try clear hfz59_5); (try clear hfz59_6); (try clear hfz59_7); (try clear hfz61_0); (try clear hfz61_1); (try clear hfz61_2); (try clear hfz61_3); (try clear hfz61_4); (try clear hfz61_5); (try clear hfz61_6); (try clear hfz61_7); (try clear hfz77_0); (try clear hfz77_1); (try clear hfz77_2); (try clear hfz77_3); (try clear hfz77_4); (try clear hfz77_5); (try clear hfz77_6); (try clear hfz77_7); (try clear hfz95_0); (try clear hfz95_1); (try clear hfz95_2); (try clear hfz95_3); (try clear hfz95_4); (try clear hfz95_5); (try clear hfz95_6); (try clear hfz95_7); (try clear hx626_0); (try clear hx626_1); (try clear hx626_2); (try clear hx633_0); (try clear hx633_1); (try clear hx633_2); (try clear p2); (try clear p6); (try clear p62); (try clear p626); (try clear p63); (try clear p633); (try clear p64); (try clear q6); (try clear q62); (try clear q626); (try clear q63); (try clear q633)
                (try clear HO_613007); (try clear HO_614007); (try clear BK607); (try clear BK608); (try clear BK612); (try clear BK613); (try clear BK643); (try clear BK647); (try clear BK651); (try clear HB)
                obtain ⟨kq, x124_154, rfl, HA, HJ154, HO_613007, HO_614007, BK607, BK608, BK612, BK613, BK643, BK647, BK651, HB⟩ := hcut
                cases kq with
                | zero => exact absurd HA.out (by simp [remontoirlaw04_ScaleMore.j4])
                | succ kj154 =>
                 have H := HA.out
                 clear HA
                 simp only [remontoirlaw04_ScaleMore.j4] at H
                 by_cases c172 : x124_154 = true
                 ·
                  subst c172
                  have H1 : (some false) = some r := by rw [if_pos rfl] at H; exact H
                  clear H
                  have H := H1
                  clear H1
                  obtain rfl := Option.some.inj H
                  go_wp2
                  go_ret
                  exact ⟨by first | rfl | (simp [errW_none, errW_some] <;> rfl) | (simp [*, errW_none, errW_some] <;> rfl), by repeat (first | (with_reducible first | exact HB.out | apply below_alloc | apply pw_below_drewN | apply below_drew1 | refine below_set ?_ GE607.out | refine below_set ?_ GE608.out | refine below_set ?_ GE612.out | refine below_set ?_ GE613.out | refine below_set ?_ GE643.out | refine below_set ?_ GE647.out | refine below_set ?_ GE651.out) | exact HB.out)⟩
                 ·
                  replace c172 := Bool.eq_false_iff.mpr c172
                  subst c172
                  have H1 : (if t611 < (l0_6.length : Int) then (if 0 ≤ t611 then (remontoirlaw04_ScaleMore.j5 kj154 t611 (rd l0_6 t611) a0_0 a0_1 a0_2 a0_3 a0_4 a0_5 l0_6 l0_7 t640 t641) else (none)) else (remontoirlaw04_ScaleMore.j5 kj154 t611 0 a0_0 a0_1 a0_2 a0_3 a0_4 a0_5 l0_6 l0_7 t640 t641)) = some r := by rw [if_neg (show ¬ (false = true) by decide)] at H; exact H
                  clear H
                  have H := H1
                  clear H1
                  have HC173 := Aside0.mk H
                  clear H
                  have hnb174 := NB607_608.out
                  have hnc174 := NB608_607.out
                  have hnb175 := NB607_612.out
                  have hnc175 := NB612_607.out
                  have hnb176 := NB607_613.out
                  have hnc176 := NB613_607.out
                  have hnb177 := NB607_643.out
                  have hnc177 := NB643_607.out
                  have hnb178 := NB607_647.out
                  have hnc178 := NB647_607.out
                  have hnb179 := NB607_651.out
                  have hnc179 := NB651_607.out
                  have hcz180_0 : wc.cell? ⟨gb607, 0, none⟩ = some (.int .i64 a0_0) := bc BK607 0
                  have hcz180_1 : wc.cell? ⟨gb607, 1, none⟩ = some (.int .i64 a0_1) := bc BK607 1
                  have hcz180_2 : wc.cell? ⟨gb607, 2, none⟩ = some (.int .i64 a0_2) := bc BK607 2
                  have hcz180_3 : wc.cell? ⟨gb607, 3, none⟩ = some (.int .i64 a0_3) := bc BK607 3
                  have hcz180_4 : wc.cell? ⟨gb607, 4, none⟩ = some (.int .i64 a0_4) := bc BK607 4
                  have hcz180_5 : wc.cell? ⟨gb607, 5, none⟩ = some (.int .i64 a0_5) := bc BK607 5
                  have hcz180_6 : wc.cell? ⟨gb607, 6, none⟩ = some (.slice A0_6 l0_6.length c0_6) := bc BK607 6
                  have hcz180_7 : wc.cell? ⟨gb607, 7, none⟩ = some (.slice A0_7 l0_7.length c0_7) := bc BK607 7
                  have hfz180_0 := blk_frozen BK607.out 0
                  have hfz180_1 := blk_frozen BK607.out 1
                  have hfz180_2 := blk_frozen BK607.out 2
                  have hfz180_3 := blk_frozen BK607.out 3
                  have hfz180_4 := blk_frozen BK607.out 4
                  have hfz180_5 := blk_frozen BK607.out 5
                  have hfz180_6 := blk_frozen BK607.out 6
                  have hfz180_7 := blk_frozen BK607.out 7
                  go_upto_if 129 with (fail)
                  go_cut [17] (fun v17 wc => ∃ (kq : Nat) (x17_172 : Int), v17 = .int .i64 x17_172 ∧ Aside0 (remontoirlaw04_ScaleMore.j5 kq t611 x17_172 a0_0 a0_1 a0_2 a0_3 a0_4 a0_5 l0_6 l0_7 t640 t641 = some r) ∧ Aside0 (kq ≤ kj154) ∧ Aside0 (Kd.R k71 71 wc w.heap.size (fun k_ => some k_ ≠ ((.slice Ao116 x614007_72.length co116) : Value).ownBlock ∧ k_ ≠ gb608) (.slice Ao54 y623.length co54) y623) ∧ Aside0 (Kd.R k71 71 wc w.heap.size (fun k_ => some k_ ≠ ((.slice Ao54 y623.length co54) : Value).ownBlock ∧ k_ ≠ gb608) (.slice Ao116 x614007_72.length co116) x614007_72) ∧ Aside0 (wc.heap[gb607]? = some (.cells #[.int .i64 a0_0, .int .i64 a0_1, .int .i64 a0_2, .int .i64 a0_3, .int .i64 a0_4, .int .i64 a0_5, (.slice A0_6 l0_6.length c0_6), (.slice A0_7 l0_7.length c0_7)] 44 (0, 0))) ∧ Aside0 (wc.heap[gb608]? = some (.cells #[.int .i64 a1_0, .int .i64 a1_1, .int .i64 a1_2] 71 (0, 0))) ∧ Aside0 (wc.heap[gb612]? = some (.cells #[.int .i64 a0_0, .int .i64 a0_1, .int .i64 a0_2, .int .i64 a0_3, .int .i64 a0_4, .int .i64 a0_5, (.slice A0_6 l0_6.length c0_6), (.slice Ao54 y623.length co54)] 44 (0, 0))) ∧ Aside0 (wc.heap[gb613]? = some (.cells #[.int .i64 a0_0, .int .i64 a0_1, .int .i64 a0_2, .int .i64 a0_3, .int .i64 a0_4, .int .i64 a0_5, (.slice A0_6 l0_6.length c0_6), (.slice Ao116 x614007_72.length co116)] 44 (0, 0))) ∧ Aside0 (wc.heap[gb643]? = some (.cells #[.int .i64 t640, .int .i64 t641] 23 (0, 0))) ∧ Aside0 (wc.heap[gb647]? = some (.cells #[.int .i64 t644, .int .i64 t645] 23 (0, 0))) ∧ Aside0 (wc.heap[gb651]? = some (.cells #[.int .i64 t648, .int .i64 t649] 23 (0, 0))) ∧ Aside0 (Below w.heap.size w wc))
                  case first =>
                   have H := HC173.out
                   clear HC173
                   by_cases c181 : t611 < (l0_6.length : Int)
                   ·
                    rw [if_pos c181] at H
                    have c181b0 : decide (t611 < (l0_6.length : Int)) = true := decide_eq_true c181
                    clear c181
                    (first | rw [c181b0] | rw [c181b1] | (simp only [i64_w, i32_w]; first | rw [c181b0] | rw [c181b1]) | skip)
                    by_cases c182 : 0 ≤ t611
                    ·
                     rw [if_pos c182] at H
                     have c182b0 : decide (0 ≤ t611) = true := decide_eq_true c182
                     clear c182
                     have H' := Aside0.mk H
                     clear H
                     have hnb183 := NB607_608.out
                     have hnc183 := NB608_607.out
                     have hnb184 := NB607_612.out
                     have hnc184 := NB612_607.out
                     have hnb185 := NB607_613.out
                     have hnc185 := NB613_607.out
                     have hnb186 := NB607_643.out
                     have hnc186 := NB643_607.out
                     have hnb187 := NB607_647.out
                     have hnc187 := NB647_607.out
                     have hnb188 := NB607_651.out
                     have hnc188 := NB651_607.out
                     have hcz189_0 : wc.cell? ⟨gb607, 0, none⟩ = some (.int .i64 a0_0) := bc BK607 0
                     have hcz189_1 : wc.cell? ⟨gb607, 1, none⟩ = some (.int .i64 a0_1) := bc BK607 1
                     have hcz189_2 : wc.cell? ⟨gb607, 2, none⟩ = some (.int .i64 a0_2) := bc BK607 2
                     have hcz189_3 : wc.cell? ⟨gb607, 3, none⟩ = some (.int .i64 a0_3) := bc BK607 3
                     have hcz189_4 : wc.cell? ⟨gb607, 4, none⟩ = some (.int .i64 a0_4) := bc BK607 4
                     have hcz189_5 : wc.cell? ⟨gb607, 5, none⟩ = some (.int .i64 a0_5) := bc BK607 5
                     have hcz189_6 : wc.cell? ⟨gb607, 6, none⟩ = some (.slice A0_6 l0_6.length c0_6) := bc BK607 6
                     have hcz189_7 : wc.cell? ⟨gb607, 7, none⟩ = some (.slice A0_7 l0_7.length c0_7) := bc BK607 7
                     have hfz189_0 := blk_frozen BK607.out 0
                     have hfz189_1 := blk_frozen BK607.out 1
                     have hfz189_2 := blk_frozen BK607.out 2
                     have hfz189_3 := blk_frozen BK607.out 3
                     have hfz189_4 := blk_frozen BK607.out 4
                     have hfz189_5 := blk_frozen BK607.out 5
                     have hfz189_6 := blk_frozen BK607.out 6
                     have hfz189_7 := blk_frozen BK607.out 7
                     have p655 : 0 ≤ (t611 : Int) := of_decide_eq_true (by first | (with_reducible assumption) | assumption)
                     have q655 : t611 < (l0_6.length : Int) := of_decide_eq_true (by first | (with_reducible assumption) | assumption)
                     obtain ⟨ad655, e655, hx655_0⟩ := Kd.at_int HR0_6.out t611 p655 q655
                     cases e655
                     replace hx655_0 := (HB.out.cell (World.block_lt_of_cell? w _ hx655_0)).trans hx655_0
                     replace p655 := eq_true p655
                     replace q655 := eq_true q655
                     go_wp2
                     go_meet
                     case rel => exact ⟨_, (rd l0_6 t611), (by first | rfl | (simp; done) | (simp [*]; done)), H', ⟨by have := HJ3.out; have := HK2.out; have := HJ72.out; have := HJ90.out; have := HJ154.out; first | omega | exact Nat.le_refl _⟩, ⟨by (with_reducible repeat (first | apply Kd.R_alloc | apply Kd.R_drewN | apply Kd.R_drew)); exact HO_613007.out⟩, ⟨by (with_reducible repeat (first | apply Kd.R_alloc | apply Kd.R_drewN | apply Kd.R_drew)); exact HO_614007.out⟩, ⟨bk BK607⟩, ⟨bk BK608⟩, ⟨bk BK612⟩, ⟨bk BK613⟩, ⟨bk BK643⟩, ⟨bk BK647⟩, ⟨bk BK651⟩, ⟨bl HB⟩⟩
                    ·
                     rw [if_neg c182] at H
                     exact absurd H (by simp)
                   ·
                    rw [if_neg c181] at H
                    have c181b0 : decide (t611 < (l0_6.length : Int)) = false := decide_eq_false c181
                    clear c181
                    (first | rw [c181b0] | rw [c181b1] | (simp only [i64_w, i32_w]; first | rw [c181b0] | rw [c181b1]) | skip)
                    have H' := Aside0.mk H
                    clear H
                    go_wp2
                    go_meet
                    case rel => exact ⟨_, (0), (by first | rfl | (simp; done) | (simp [*]; done)), H', ⟨by have := HJ3.out; have := HK2.out; have := HJ72.out; have := HJ90.out; have := HJ154.out; first | omega | exact Nat.le_refl _⟩, ⟨by (with_reducible repeat (first | apply Kd.R_alloc | apply Kd.R_drewN | apply Kd.R_drew)); exact HO_613007.out⟩, ⟨by (with_reducible repeat (first | apply Kd.R_alloc | apply Kd.R_drewN | apply Kd.R_drew)); exact HO_614007.out⟩, ⟨bk BK607⟩, ⟨bk BK608⟩, ⟨bk BK612⟩, ⟨bk BK613⟩, ⟨bk BK643⟩, ⟨bk BK647⟩, ⟨bk BK651⟩, ⟨bl HB⟩⟩
                  case rest =>
                   as_aux_lemma =>
                   clear HC173
                   (try clear c1); (try clear c2); (try clear p2); (try clear c3); (try clear c5); (try clear c6); (try clear p6); (try clear q6); (try clear hx6); (try clear qi6); (try clear c7); (try clear c8); (try clear c9); (try clear c10); (try clear c11); (try clear c12); (try clear c13); (try clear c14); (try clear c15); (try clear c16); (try clear c17); (try clear c18); (try clear c20); (try clear c21); (try clear c27); (try clear c56); (try clear c57); (try clear c58); (try clear c60); (try clear c62); (try clear c62b0); (try clear p62); (try clear q62); (try clear hx62); (try clear c63); (try clear c63b0); (try clear p63); (try clear q63); (try clear hx63); (try clear qi63); (try clear c64); (try clear c64b0); (try clear p64); (try clear c65); (try clear p65); (try clear q65); (try clear hx65); (try clear c74); (try clear c75); (try clear c76); (try clear c78); (try clear c78b0); (try clear c78b1); (try clear c79); (try clear c79b0); (try clear c79b1); (try clear c80); (try clear c92); (try clear c93); (try clear c94); (try clear c98); (try clear c99); (try clear c100); (try clear c101); (try clear c103); (try clear c104); (try clear c108); (try clear c109); (try clear c110); (try clear c111); (try clear c112); (try clear c114); (try clear c119); (try clear c120); (try clear c121); (try clear c122); (try clear c123); (try clear c124); (try clear c126); (try clear c126b0); (try clear c127); (try clear c128); (try clear c129); (try clear c130); (try clear c131); (try clear c132); (try clear c134); (try clear c135); (try clear c136); (try clear c137); (try clear c138); (try clear c140); (try clear c141); (try clear c142); (try clear c143); (try clear c144); (try clear c145); (try clear c147); (try clear c148); (try clear c149); (try clear c150); (try clear c151); (try clear c153); (try clear c154); (try clear c154b0); (try clear c154b1); (try clear c156); (try clear c156b0); (try clear c156b1); (try clear c158); (try clear c159); (try clear c160); (try clear c161)
                   (try clear c162); (try clear c163); (try clear c165); (try clear c166); (try clear c167); (try clear c168); (try clear c169); (try clear c172); (try clear c174); (try clear c175); (try clear c176); (try clear c177); (try clear c178); (try clear c179); (try clear c181); (try clear c181b0); (try clear c182); (try clear c182b0); (try clear c183); (try clear c184); (try clear c185); (try clear c186); (try clear c187); (try clear c188); (try clear hcz102_0); (try clear hcz102_1); (try clear hcz105_0); (try clear hcz105_1); (try clear hcz105_2); (try clear hcz105_3); (try clear hcz105_4); (try clear hcz105_5); (try clear hcz105_6); (try clear hcz105_7); (try clear hcz113_0); (try clear hcz113_1); (try clear hcz115_0); (try clear hcz115_1); (try clear hcz115_2); (try clear hcz115_3); (try clear hcz115_4); (try clear hcz115_5); (try clear hcz115_6); (try clear hcz115_7); (try clear hcz125_0); (try clear hcz125_1); (try clear hcz133_0); (try clear hcz133_1); (try clear hcz139_0); (try clear hcz139_1); (try clear hcz146_0); (try clear hcz146_1); (try clear hcz152_0); (try clear hcz152_1); (try clear hcz164_0); (try clear hcz164_1); (try clear hcz170_0); (try clear hcz170_1); (try clear hcz180_0); (try clear hcz180_1); (try clear hcz180_2); (try clear hcz180_3); (try clear hcz180_4); (try clear hcz180_5); (try clear hcz180_6); (try clear hcz180_7); (try clear hcz189_0); (try clear hcz189_1); (try clear hcz189_2); (try clear hcz189_3); (try clear hcz189_4); (try clear hcz189_5); (try clear hcz189_6); (try clear hcz189_7); (try clear hcz59_0); (try clear hcz59_1); (try clear hcz59_2); (try clear hcz59_3); (try clear hcz59_4); (try clear hcz59_5); (try clear hcz59_6); (try clear hcz59_7); (try clear hcz61_0); (try clear hcz61_1); (try clear hcz61_2); (try clear hcz61_3); (try clear hcz61_4); (try clear hcz61_5); (try clear hcz61_6); (try clear hcz61_7); (try clear hcz77_0); (try clear hcz77_1); (try clear hcz77_2); (try clear hcz77_3); (try clear hcz77_4); (try clear hcz77_5)
                   (try clear hcz77_6); (try clear hcz77_7); (try clear hcz95_0); (try clear hcz95_1); (try clear hcz95_2); (try clear hcz95_3); (try clear hcz95_4); (try clear hcz95_5); (try clear hcz95_6); (try clear hcz95_7); (try clear hfz102_0); (try clear hfz102_1); (try clear hfz105_0); (try clear hfz105_1); (try clear hfz105_2); (try clear hfz105_3); (try clear hfz105_4); (try clear hfz105_5); (try clear hfz105_6); (try clear hfz105_7); (try clear hfz113_0); (try clear hfz113_1); (try clear hfz115_0); (try clear hfz115_1); (try clear hfz115_2); (try clear hfz115_3); (try clear hfz115_4); (try clear hfz115_5); (try clear hfz115_6); (try clear hfz115_7); (try clear hfz125_0); (try clear hfz125_1); (try clear hfz133_0); (try clear hfz133_1); (try clear hfz139_0); (try clear hfz139_1); (try clear hfz146_0); (try clear hfz146_1); (try clear hfz152_0); (try clear hfz152_1); (try clear hfz164_0); (try clear hfz164_1); (try clear hfz170_0); (try clear hfz170_1); (try clear hfz180_0); (try clear hfz180_1); (try clear hfz180_2); (try clear hfz180_3); (try clear hfz180_4); (try clear hfz180_5); (try clear hfz180_6); (try clear hfz180_7); (try clear hfz189_0); (try clear hfz189_1); (try clear hfz189_2); (try clear hfz189_3); (try clear hfz189_4); (try clear hfz189_5); (try clear hfz189_6); (try clear hfz189_7); (try clear hfz59_0); (try clear hfz59_1); (try clear hfz59_2); (try clear hfz59_3); (try clear hfz59_4); (try clear hfz59_5); (try clear hfz59_6); (try clear hfz59_7); (try clear hfz61_0); (try clear hfz61_1); (try clear hfz61_2); (try clear hfz61_3); (try clear hfz61_4); (try clear hfz61_5); (try clear hfz61_6); (try clear hfz61_7); (try clear hfz77_0); (try clear hfz77_1); (try clear hfz77_2); (try clear hfz77_3); (try clear hfz77_4); (try clear hfz77_5); (try clear hfz77_6); (try clear hfz77_7); (try clear hfz95_0); (try clear hfz95_1); (try clear hfz95_2); (try clear hfz95_3); (try clear hfz95_4); (try clear hfz95_5); (try clear hfz95_6); (try clear hfz95_7); (try clear hx626_0)
                   (try clear hx626_1); (try clear hx626_2); (try clear hx633_0); (try clear hx633_1); (try clear hx633_2); (try clear hx655_0); (try clear p2); (try clear p6); (try clear p62); (try clear p626); (try clear p63); (try clear p633); (try clear p64); (try clear p655); (try clear q6); (try clear q62); (try clear q626); (try clear q63); (try clear q633); (try clear q655)
                   (try clear HO_613007); (try clear HO_614007); (try clear BK607); (try clear BK608); (try clear BK612); (try clear BK613); (try clear BK643); (try clear BK647); (try clear BK651); (try clear HB)
                   obtain ⟨kq, x17_172, rfl, HA, HJ172, HO_613007, HO_614007, BK607, BK608, BK612, BK613, BK643, BK647, BK651, HB⟩ := hcut
                   cases kq with
                   | zero => exact absurd HA.out (by simp [remontoirlaw04_ScaleMore.j5])
                   | succ kj172 =>
                    have H := HA.out
                    clear HA
                    simp only [remontoirlaw04_ScaleMore.j5] at H
                    replace H := Option.bind_eq_some_iff.mp H
                    obtain ⟨⟨t656, t657, t658⟩, A1900, H⟩ := H
                    replace H : (if t658 = 0 then ((remontoirref00_To.f (wrap64 ((wrap64 (t640 + a0_3)) + x17_172)) (wrap64 ((wrap64 (t641 + a0_4)) + x17_172))).bind fun bt660 => ((remontoirref00_Within.f t656 t657 bt660.1 bt660.2).bind fun t662 => (if t662 = true then ((remontoirlaw04_works.f).bind fun t663 => (remontoirlaw04_ScaleMore.j6 kj172 t663)) else (remontoirlaw04_ScaleMore.j6 kj172 false)))) else (remontoirlaw04_ScaleMore.j6 kj172 false)) = some r := H
                    have A190 := Aside0.mk A1900
                    clear A1900
                    have HC191 := Aside0.mk H
                    clear H
                    have hnb192 := NB607_608.out
                    have hnc192 := NB608_607.out
                    have hnb193 := NB607_612.out
                    have hnc193 := NB612_607.out
                    have hnb194 := NB607_613.out
                    have hnc194 := NB613_607.out
                    have hnb195 := NB607_643.out
                    have hnc195 := NB643_607.out
                    have hnb196 := NB607_647.out
                    have hnc196 := NB647_607.out
                    have hnb197 := NB607_651.out
                    have hnc197 := NB651_607.out
                    have hcz198_0 : wc.cell? ⟨gb607, 0, none⟩ = some (.int .i64 a0_0) := bc BK607 0
                    have hcz198_1 : wc.cell? ⟨gb607, 1, none⟩ = some (.int .i64 a0_1) := bc BK607 1
                    have hcz198_2 : wc.cell? ⟨gb607, 2, none⟩ = some (.int .i64 a0_2) := bc BK607 2
                    have hcz198_3 : wc.cell? ⟨gb607, 3, none⟩ = some (.int .i64 a0_3) := bc BK607 3
                    have hcz198_4 : wc.cell? ⟨gb607, 4, none⟩ = some (.int .i64 a0_4) := bc BK607 4
                    have hcz198_5 : wc.cell? ⟨gb607, 5, none⟩ = some (.int .i64 a0_5) := bc BK607 5
                    have hcz198_6 : wc.cell? ⟨gb607, 6, none⟩ = some (.slice A0_6 l0_6.length c0_6) := bc BK607 6
                    have hcz198_7 : wc.cell? ⟨gb607, 7, none⟩ = some (.slice A0_7 l0_7.length c0_7) := bc BK607 7
                    have hfz198_0 := blk_frozen BK607.out 0
                    have hfz198_1 := blk_frozen BK607.out 1
                    have hfz198_2 := blk_frozen BK607.out 2
                    have hfz198_3 := blk_frozen BK607.out 3
                    have hfz198_4 := blk_frozen BK607.out 4
                    have hfz198_5 := blk_frozen BK607.out 5
                    have hfz198_6 := blk_frozen BK607.out 6
                    have hfz198_7 := blk_frozen BK607.out 7
                    go_upto_region 26 with (first | ((with_reducible refine gate_callee (f := 27) rfl ?_); refine goesL_ (some 139) rfl rfl Tryd.func27 (by kernel_rfl) rfl #[.agg #[.int .i64 a0_0, .int .i64 a0_1, .int .i64 a0_2, .int .i64 a0_3, .int .i64 a0_4, .int .i64 a0_5, .slice A0_6 l0_6.length c0_6, .slice A0_7 l0_7.length c0_7], .int .i64 (wrap64 (t611 + 1))] rfl (by (try simp only [List.map_toArray, List.map_cons, List.map_nil]); first | done | rfl | (simp only [List.length_drop, List.length_take]; rfl)) ?_; (with_reducible refine (scale_Error.calls a0_0 a0_1 a0_2 a0_3 a0_4 a0_5 _ _ l0_6 _ _ l0_7 (wrap64 (t611 + 1)) t656 t657 t658 _ ?side1 ?side2 ?side3 ?side4 ?side5 A190.out).mono ?_); (case side1 => repeat (first | exact (Kd.C_below HR0_6.out HB.out) | (with_reducible refine Kd.C_alloc ?_ _) | (with_reducible refine Kd.C_drewN ?_ _) | (with_reducible refine Kd.C_drew ?_))); (case side2 => exact HC0_6.out); (case side3 => repeat (first | exact (Kd.C_below HR0_7.out HB.out) | (with_reducible refine Kd.C_alloc ?_ _) | (with_reducible refine Kd.C_drewN ?_ _) | (with_reducible refine Kd.C_drew ?_))); (case side4 => exact HC0_7.out); (case side5 => exact Go.Proofs.YtidnopmjhhmedaaDoor.Ways.below HWays.out (bl HB)); rintro e w199 ⟨rfl, hb⟩; refine ⟨_, rfl, ?_⟩; replace HO_613007 := Aside0.mk (Kd.R_below (rk HO_613007) hb); replace HO_614007 := Aside0.mk (Kd.R_below (rk HO_614007) hb); replace BK607 := Aside0.mk (blk_below (bk BK607) hb); replace BK608 := Aside0.mk (blk_below (bk BK608) hb); replace BK612 := Aside0.mk (blk_below (bk BK612) hb); replace BK613 := Aside0.mk (blk_below (bk BK613) hb); replace BK643 := Aside0.mk (blk_below (bk BK643) hb); replace BK647 := Aside0.mk (blk_below (bk BK647) hb); replace BK651 := Aside0.mk (blk_below (bk BK651) hb); replace HB := Aside0.mk (below_step (bl HB) hb); (try clear hb); (try clear hb2); (try clear hk); (try clear hi)) | ((with_reducible refine gate_dst (N := 18) rfl ?_); (try (refine gate_guard (by rfl) ?_; dsimp only)); refine box_event ?hg (N := 18) ?hd (cs := #[.int .i64 0, .int .i64 0]) (t := 23) ?hr ?_; (case hd => rfl); (case hg => rfl); (case hr => first | (go_simp; done) | (go_simp; rfl)); intro gb659 hg w200 hbox hb; replace HO_613007 := Aside0.mk (Kd.R_below (rk HO_613007) hb); replace HO_614007 := Aside0.mk (Kd.R_below (rk HO_614007) hb); have BK659 := Aside0.mk (hbox); have GW659 := geB hg (bl HB); have GE659 := geB hg (bl HB); replace HB := Aside0.mk (below_step (bl HB) hb); have NB607_659 := nlt hg (bk BK607); have NB659_607 := ngt hg (bk BK607); replace BK607 := Aside0.mk (blk_below (bk BK607) hb); have NB608_659 := nlt hg (bk BK608); have NB659_608 := ngt hg (bk BK608); replace BK608 := Aside0.mk (blk_below (bk BK608) hb); have NB612_659 := nlt hg (bk BK612); have NB659_612 := ngt hg (bk BK612); replace BK612 := Aside0.mk (blk_below (bk BK612) hb); have NB613_659 := nlt hg (bk BK613); have NB659_613 := ngt hg (bk BK613); replace BK613 := Aside0.mk (blk_below (bk BK613) hb); have NB643_659 := nlt hg (bk BK643); have NB659_643 := ngt hg (bk BK643); replace BK643 := Aside0.mk (blk_below (bk BK643) hb); have NB647_659 := nlt hg (bk BK647); have NB659_647 := ngt hg (bk BK647); replace BK647 := Aside0.mk (blk_below (bk BK647) hb); have NB651_659 := nlt hg (bk BK651); have NB659_651 := ngt hg (bk BK651); replace BK651 := Aside0.mk (blk_below (bk BK651) hb); clear hb hbox hg; have hnb201 := NB659_607.out; have hnc201 := NB607_659.out; have hnb202 := NB659_608.out; have hnc202 := NB608_659.out; have hnb203 := NB659_612.out; have hnc203 := NB612_659.out; have hnb204 := NB659_613.out; have hnc204 := NB613_659.out; have hnb205 := NB659_643.out; have hnc205 := NB643_659.out; have hnb206 := NB659_647.out; have hnc206 := NB647_659.out; have hnb207 := NB659_651.out; have hnc207 := NB651_659.out; have hcz208_0 : w200.cell? ⟨gb659, 0, none⟩ = some (.int .i64 0) := bc BK659 0; have hcz208_1 : w200.cell? ⟨gb659, 1, none⟩ = some (.int .i64 0) := bc BK659 1; have hfz208_0 := blk_frozen BK659.out 0; have hfz208_1 := blk_frozen BK659.out 1))
                    (try simp only [Act.put, List.setIfInBounds_toArray, List.set_cons_zero, List.set_cons_succ])
                    go_cut [6] (fun v6 wc => ∃ (kq : Nat) (x6_190 : Bool), v6 = .bool x6_190 ∧ Aside0 (remontoirlaw04_ScaleMore.j6 kq x6_190 = some r) ∧ Aside0 (kq ≤ kj172) ∧ Aside0 (Kd.R k71 71 wc w.heap.size (fun k_ => some k_ ≠ ((.slice Ao116 x614007_72.length co116) : Value).ownBlock ∧ k_ ≠ gb608) (.slice Ao54 y623.length co54) y623) ∧ Aside0 (Kd.R k71 71 wc w.heap.size (fun k_ => some k_ ≠ ((.slice Ao54 y623.length co54) : Value).ownBlock ∧ k_ ≠ gb608) (.slice Ao116 x614007_72.length co116) x614007_72) ∧ Aside0 (wc.heap[gb607]? = some (.cells #[.int .i64 a0_0, .int .i64 a0_1, .int .i64 a0_2, .int .i64 a0_3, .int .i64 a0_4, .int .i64 a0_5, (.slice A0_6 l0_6.length c0_6), (.slice A0_7 l0_7.length c0_7)] 44 (0, 0))) ∧ Aside0 (wc.heap[gb608]? = some (.cells #[.int .i64 a1_0, .int .i64 a1_1, .int .i64 a1_2] 71 (0, 0))) ∧ Aside0 (wc.heap[gb612]? = some (.cells #[.int .i64 a0_0, .int .i64 a0_1, .int .i64 a0_2, .int .i64 a0_3, .int .i64 a0_4, .int .i64 a0_5, (.slice A0_6 l0_6.length c0_6), (.slice Ao54 y623.length co54)] 44 (0, 0))) ∧ Aside0 (wc.heap[gb613]? = some (.cells #[.int .i64 a0_0, .int .i64 a0_1, .int .i64 a0_2, .int .i64 a0_3, .int .i64 a0_4, .int .i64 a0_5, (.slice A0_6 l0_6.length c0_6), (.slice Ao116 x614007_72.length co116)] 44 (0, 0))) ∧ Aside0 (wc.heap[gb643]? = some (.cells #[.int .i64 t640, .int .i64 t641] 23 (0, 0))) ∧ Aside0 (wc.heap[gb647]? = some (.cells #[.int .i64 t644, .int .i64 t645] 23 (0, 0))) ∧ Aside0 (wc.heap[gb651]? = some (.cells #[.int .i64 t648, .int .i64 t649] 23 (0, 0))) ∧ Aside0 (wc.heap[gb659]? = some (.cells #[.int .i64 t656, .int .i64 t657] 23 (0, 0))) ∧ Aside0 (Below w.heap.size w wc))
                    case first =>
                     have H := HC191.out
                     clear HC191
                     by_cases c209 : t658 = 0
                     ·
                      rw [if_pos c209] at H
                      have c209b0 : (t658 == 0) = true := beq_iff_eq.mpr c209
                      have c209b1 : (t658 != 0) = false := bne_eq_false_iff_eq.mpr c209
                      clear c209
                      (first | rw [c209b0] | rw [c209b1] | (simp only [i64_w, i32_w]; first | rw [c209b0] | rw [c209b1]) | skip)
                      replace H := Option.bind_eq_some_iff.mp H
                      obtain ⟨⟨t660, t661⟩, A2100, H⟩ := H
                      replace H : ((remontoirref00_Within.f t656 t657 t660 t661).bind fun t662 => (if t662 = true then ((remontoirlaw04_works.f).bind fun t663 => (remontoirlaw04_ScaleMore.j6 kj172 t663)) else (remontoirlaw04_ScaleMore.j6 kj172 false))) = some r := H
                      have A210 := Aside0.mk A2100
                      clear A2100
                      replace H := Option.bind_eq_some_iff.mp H
                      obtain ⟨t662, A2110, H⟩ := H
                      replace H : (if t662 = true then ((remontoirlaw04_works.f).bind fun t663 => (remontoirlaw04_ScaleMore.j6 kj172 t663)) else (remontoirlaw04_ScaleMore.j6 kj172 false)) = some r := H
                      have A211 := Aside0.mk A2110
                      clear A2110
                      by_cases c212 : t662 = true
                      ·
                       subst c212
                       have H1 : ((remontoirlaw04_works.f).bind fun t663 => (remontoirlaw04_ScaleMore.j6 kj172 t663)) = some r := by rw [if_pos rfl] at H; exact H
                       clear H
                       have H := H1
                       clear H1
                       replace H := Option.bind_eq_some_iff.mp H
                       obtain ⟨t663, A2130, H⟩ := H
                       replace H : (remontoirlaw04_ScaleMore.j6 kj172 t663) = some r := H
                       have A213 := Aside0.mk A2130
                       clear A2130
                       have H' := Aside0.mk H
                       clear H
                       try go_wp2
                       have n0_ : Aside0 (Kd.R k71 71 ((w200.setCell ⟨gb659, 0, none⟩ (.int .i64 t656)).setCell ⟨gb659, 1, none⟩ (.int .i64 t657)) w.heap.size (fun k_ => some k_ ≠ (.slice Ao116 x614007_72.length co116 : Value).ownBlock ∧ k_ ≠ gb608) (.slice Ao54 y623.length co54) y623) := ⟨by (with_reducible repeat (first | apply Kd.R_alloc | apply Kd.R_drewN | apply Kd.R_drew)); exact Kd.R_mono (Kd.R_far (p := ⟨gb659, 1, none⟩) (Kd.R_far (p := ⟨gb659, 0, none⟩) (Kd.R_types HO_613007.out BK659.out (by decide)) (fun _ hk => hk.2) (.int .i64 t656)) (fun _ hk => hk.2) (.int .i64 t657)) (fun _ hk => ⟨hk.1.1, hk.1.2⟩)⟩
                       have n1_ : Aside0 (Kd.R k71 71 ((w200.setCell ⟨gb659, 0, none⟩ (.int .i64 t656)).setCell ⟨gb659, 1, none⟩ (.int .i64 t657)) w.heap.size (fun k_ => some k_ ≠ (.slice Ao54 y623.length co54 : Value).ownBlock ∧ k_ ≠ gb608) (.slice Ao116 x614007_72.length co116) x614007_72) := ⟨by (with_reducible repeat (first | apply Kd.R_alloc | apply Kd.R_drewN | apply Kd.R_drew)); exact Kd.R_mono (Kd.R_far (p := ⟨gb659, 1, none⟩) (Kd.R_far (p := ⟨gb659, 0, none⟩) (Kd.R_types HO_614007.out BK659.out (by decide)) (fun _ hk => hk.2) (.int .i64 t656)) (fun _ hk => hk.2) (.int .i64 t657)) (fun _ hk => ⟨hk.1.1, hk.1.2⟩)⟩
                       have n2_ : Aside0 (((w200.setCell ⟨gb659, 0, none⟩ (.int .i64 t656)).setCell ⟨gb659, 1, none⟩ (.int .i64 t657)).heap[gb607]? = some (.cells #[.int .i64 a0_0, .int .i64 a0_1, .int .i64 a0_2, .int .i64 a0_3, .int .i64 a0_4, .int .i64 a0_5, .slice A0_6 l0_6.length c0_6, .slice A0_7 l0_7.length c0_7] 44 (0, 0))) := ⟨bk BK607⟩
                       have n3_ : Aside0 (((w200.setCell ⟨gb659, 0, none⟩ (.int .i64 t656)).setCell ⟨gb659, 1, none⟩ (.int .i64 t657)).heap[gb608]? = some (.cells #[.int .i64 a1_0, .int .i64 a1_1, .int .i64 a1_2] 71 (0, 0))) := ⟨bk BK608⟩
                       have n4_ : Aside0 (((w200.setCell ⟨gb659, 0, none⟩ (.int .i64 t656)).setCell ⟨gb659, 1, none⟩ (.int .i64 t657)).heap[gb612]? = some (.cells #[.int .i64 a0_0, .int .i64 a0_1, .int .i64 a0_2, .int .i64 a0_3, .int .i64 a0_4, .int .i64 a0_5, .slice A0_6 l0_6.length c0_6, .slice Ao54 y623.length co54] 44 (0, 0))) := ⟨bk BK612⟩
                       have n5_ : Aside0 (((w200.setCell ⟨gb659, 0, none⟩ (.int .i64 t656)).setCell ⟨gb659, 1, none⟩ (.int .i64 t657)).heap[gb613]? = some (.cells #[.int .i64 a0_0, .int .i64 a0_1, .int .i64 a0_2, .int .i64 a0_3, .int .i64 a0_4, .int .i64 a0_5, .slice A0_6 l0_6.length c0_6, .slice Ao116 x614007_72.length co116] 44 (0, 0))) := ⟨bk BK613⟩
                       have n6_ : Aside0 (((w200.setCell ⟨gb659, 0, none⟩ (.int .i64 t656)).setCell ⟨gb659, 1, none⟩ (.int .i64 t657)).heap[gb643]? = some (.cells #[.int .i64 t640, .int .i64 t641] 23 (0, 0))) := ⟨bk BK643⟩
                       have n7_ : Aside0 (((w200.setCell ⟨gb659, 0, none⟩ (.int .i64 t656)).setCell ⟨gb659, 1, none⟩ (.int .i64 t657)).heap[gb647]? = some (.cells #[.int .i64 t644, .int .i64 t645] 23 (0, 0))) := ⟨bk BK647⟩
                       have n8_ : Aside0 (((w200.setCell ⟨gb659, 0, none⟩ (.int .i64 t656)).setCell ⟨gb659, 1, none⟩ (.int .i64 t657)).heap[gb651]? = some (.cells #[.int .i64 t648, .int .i64 t649] 23 (0, 0))) := ⟨bk BK651⟩
                       have n9_ : Aside0 (((w200.setCell ⟨gb659, 0, none⟩ (.int .i64 t656)).setCell ⟨gb659, 1, none⟩ (.int .i64 t657)).heap[gb659]? = some (.cells #[.int .i64 t656, .int .i64 t657] 23 (0, 0))) := ⟨by (with_reducible repeat (first | refine blk_drewN ?_ _ | refine blk_drew ?_ | refine blk_alloc ?_ _)); refine blk_put (cs := #[.int .i64 t656, .int .i64 0]) ?_ 1 _ rfl; (with_reducible repeat (first | refine blk_drewN ?_ _ | refine blk_drew ?_ | refine blk_alloc ?_ _)); refine blk_put (cs := #[.int .i64 0, .int .i64 0]) ?_ 0 _ rfl; (with_reducible repeat (first | refine blk_drewN ?_ _ | refine blk_drew ?_ | refine blk_alloc ?_ _)); exact BK659.out⟩
                       have n10_ : Aside0 (Below w.heap.size w ((w200.setCell ⟨gb659, 0, none⟩ (.int .i64 t656)).setCell ⟨gb659, 1, none⟩ (.int .i64 t657))) := ⟨bl HB⟩
                       (try clear HO_613007)
                       (try clear HO_614007)
                       (try clear BK607)
                       (try clear BK608)
                       (try clear BK612)
                       (try clear BK613)
                       (try clear BK643)
                       (try clear BK647)
                       (try clear BK651)
                       (try clear BK659)
                       (try clear HB)
                       generalize ((w200.setCell ⟨gb659, 0, none⟩ (.int .i64 t656)).setCell ⟨gb659, 1, none⟩ (.int .i64 t657)) = w214 at n0_ n1_ n2_ n3_ n4_ n5_ n6_ n7_ n8_ n9_ n10_ ⊢
                       have HO_613007 := n0_
                       have HO_614007 := n1_
                       have BK607 := n2_
                       have BK608 := n3_
                       have BK612 := n4_
                       have BK613 := n5_
                       have BK643 := n6_
                       have BK647 := n7_
                       have BK651 := n8_
                       have BK659 := n9_
                       have HB := n10_
                       clear n0_ n1_ n2_ n3_ n4_ n5_ n6_ n7_ n8_ n9_ n10_
                       replace HO_613007 := Aside0.mk (Kd.R_drew HO_613007.out)
                       replace HO_614007 := Aside0.mk (Kd.R_drew HO_614007.out)
                       replace BK607 := Aside0.mk (blk_drew BK607.out)
                       replace BK608 := Aside0.mk (blk_drew BK608.out)
                       replace BK612 := Aside0.mk (blk_drew BK612.out)
                       replace BK613 := Aside0.mk (blk_drew BK613.out)
                       replace BK643 := Aside0.mk (blk_drew BK643.out)
                       replace BK647 := Aside0.mk (blk_drew BK647.out)
                       replace BK651 := Aside0.mk (blk_drew BK651.out)
                       replace BK659 := Aside0.mk (blk_drew BK659.out)
                       replace HB := Aside0.mk (below_drew1 HB.out)
                       refine start_ (n := 29) (S := fun w' => w'.cell? ⟨gb659, 0, none⟩ = some (.int .i64 t656) ∧ w'.cell? ⟨gb659, 1, none⟩ = some (.int .i64 t657) ∧ w'.cell? ⟨gb643, 0, none⟩ = some (.int .i64 t640) ∧ w'.cell? ⟨gb643, 1, none⟩ = some (.int .i64 t641) ∧ w'.cell? ⟨gb607, 0, none⟩ = some (.int .i64 a0_0) ∧ w'.cell? ⟨gb607, 1, none⟩ = some (.int .i64 a0_1) ∧ w'.cell? ⟨gb607, 2, none⟩ = some (.int .i64 a0_2) ∧ w'.cell? ⟨gb607, 3, none⟩ = some (.int .i64 a0_3) ∧ w'.cell? ⟨gb607, 4, none⟩ = some (.int .i64 a0_4) ∧ w'.cell? ⟨gb607, 5, none⟩ = some (.int .i64 a0_5) ∧ w'.cell? ⟨gb607, 6, none⟩ = some (.slice A0_6 l0_6.length c0_6) ∧ w'.cell? ⟨gb607, 7, none⟩ = some (.slice A0_7 l0_7.length c0_7)) (ds := []) #[false, false, false, false, false, false, false, false, false, false, false, false, false, false, false, false, false, false, false, false, false, false, false, false, false, false, false, false, false] (by kernel_rfl) rfl rfl ⟨bc BK659 0, bc BK659 1, bc BK643 0, bc BK643 1, bc BK607 0, bc BK607 1, bc BK607 2, bc BK607 3, bc BK607 4, bc BK607 5, bc BK607 6, bc BK607 7⟩ (fun hHeld => ?_); refine with_tabW remontoirlaw04_ScaleMore.tab26 remontoirlaw04_ScaleMore.bits26 (fun HT_ HW_ => ?_)
                       generalize w214.drew = w215 at HO_613007 HO_614007 BK607 BK608 BK612 BK613 BK643 BK647 BK651 BK659 HB hHeld ⊢
                       refine pureA 0 142 ?_
                       refine pureA 1 143 ?_
                       refine pureA 2 144 ?_
                       refine pureA 4 146 ?_
                       refine pureA 6 148 ?_
                       refine pureA 7 149 ?_
                       refine pureA 8 150 ?_
                       refine pureA 11 153 ?_
                       refine pureA 13 155 ?_
                       refine pureA 15 157 ?_
                       refine pureA 16 158 ?_
                       refine pureA 17 159 ?_
                       refine pureA 20 162 ?_
                       refine takeA 3 145 rfl rfl (by rintro w' ⟨s0, s1, s2, s3, s4, s5, s6, s7, s8, s9, s10, s11⟩; go_simp; with_reducible rfl) ?_
                       refine takeA 5 147 rfl rfl (by rintro w' ⟨s0, s1, s2, s3, s4, s5, s6, s7, s8, s9, s10, s11⟩; go_simp; with_reducible rfl) ?_
                       refine takeA 9 151 rfl rfl (by rintro w' ⟨s0, s1, s2, s3, s4, s5, s6, s7, s8, s9, s10, s11⟩; go_simp; with_reducible rfl) ?_
                       refine pureA 10 152 ?_
                       refine pureA 12 154 ?_
                       refine takeA 14 156 rfl rfl (by rintro w' ⟨s0, s1, s2, s3, s4, s5, s6, s7, s8, s9, s10, s11⟩; go_simp; with_reducible rfl) ?_
                       refine takeA 18 160 rfl rfl (by rintro w' ⟨s0, s1, s2, s3, s4, s5, s6, s7, s8, s9, s10, s11⟩; go_simp; with_reducible rfl) ?_
                       refine pureA 19 161 ?_
                       refine pureA 21 163 ?_
                       refine oneA 22 (some 164) (fun K hK => ?_)
                       refine goes_ Tryd.func49 (by kernel_rfl) rfl #[.int .i64 (wrap64 ((wrap64 (t640 + a0_3)) + x17_172)), .int .i64 (wrap64 ((wrap64 (t641 + a0_4)) + x17_172))] (by rfl) rfl rfl (by (try simp only [List.map_toArray, List.map_cons, List.map_nil]); first | done | rfl | (simp only [List.length_drop, List.length_take]; rfl)) ?_
                       with_reducible refine (remontoirref00_To.calls (wrap64 ((wrap64 (t640 + a0_3)) + x17_172)) (wrap64 ((wrap64 (t641 + a0_4)) + x17_172)) t660 t661 _ A210.out).mono ?_
                       rintro e w216 ⟨rfl, hb⟩
                       refine ⟨_, rfl, ?_⟩
                       replace HO_613007 := Aside0.mk (Kd.R_below (rk HO_613007) hb)
                       replace HO_614007 := Aside0.mk (Kd.R_below (rk HO_614007) hb)
                       replace BK607 := Aside0.mk (blk_below (bk BK607) hb)
                       replace BK608 := Aside0.mk (blk_below (bk BK608) hb)
                       replace BK612 := Aside0.mk (blk_below (bk BK612) hb)
                       replace BK613 := Aside0.mk (blk_below (bk BK613) hb)
                       replace BK643 := Aside0.mk (blk_below (bk BK643) hb)
                       replace BK647 := Aside0.mk (blk_below (bk BK647) hb)
                       replace BK651 := Aside0.mk (blk_below (bk BK651) hb)
                       replace BK659 := Aside0.mk (blk_below (bk BK659) hb)
                       replace HB := Aside0.mk (below_step (bl HB) hb)
                       (try clear hb)
                       (try clear hb2)
                       (try clear hk)
                       (try clear hi)
                       refine hK.out _ _ ⟨bc BK659 0, bc BK659 1, bc BK643 0, bc BK643 1, bc BK607 0, bc BK607 1, bc BK607 2, bc BK607 3, bc BK607 4, bc BK607 5, bc BK607 6, bc BK607 7⟩ (fun hHeld => ?_)
                       clear hK K
                       refine normA 164 ?_
                       refine oneA 23 (some 165) (fun K hK => ?_)
                       refine goes_ Tryd.func45 (by kernel_rfl) rfl #[.agg #[.int .i64 t656, .int .i64 t657], .agg #[.int .i64 t660, .int .i64 t661]] (by rfl) rfl rfl (by (try simp only [List.map_toArray, List.map_cons, List.map_nil]); first | done | rfl | (simp only [List.length_drop, List.length_take]; rfl)) ?_
                       with_reducible refine (remontoirref00_Within.calls t656 t657 t660 t661 true _ A211.out).mono ?_
                       rintro e w217 ⟨rfl, hb⟩
                       refine ⟨_, rfl, ?_⟩
                       replace HO_613007 := Aside0.mk (Kd.R_below (rk HO_613007) hb)
                       replace HO_614007 := Aside0.mk (Kd.R_below (rk HO_614007) hb)
                       replace BK607 := Aside0.mk (blk_below (bk BK607) hb)
                       replace BK608 := Aside0.mk (blk_below (bk BK608) hb)
                       replace BK612 := Aside0.mk (blk_below (bk BK612) hb)
                       replace BK613 := Aside0.mk (blk_below (bk BK613) hb)
                       replace BK643 := Aside0.mk (blk_below (bk BK643) hb)
                       replace BK647 := Aside0.mk (blk_below (bk BK647) hb)
                       replace BK651 := Aside0.mk (blk_below (bk BK651) hb)
                       replace BK659 := Aside0.mk (blk_below (bk BK659) hb)
                       replace HB := Aside0.mk (below_step (bl HB) hb)
                       (try clear hb)
                       (try clear hb2)
                       (try clear hk)
                       (try clear hi)
                       refine hK.out _ _ ⟨bc BK659 0, bc BK659 1, bc BK643 0, bc BK643 1, bc BK607 0, bc BK607 1, bc BK607 2, bc BK607 3, bc BK607 4, bc BK607 5, bc BK607 6, bc BK607 7⟩ (fun hHeld => ?_)
                       clear hK K
                       refine normA 165 ?_
                       refine pureA 24 166 ?_
                       refine pureA 25 167 ?_
                       refine oneA 26 (some 168) (fun K hK => ?_)
                       refine goes_ Tryd.func21 (by kernel_rfl) rfl #[] (by rfl) rfl rfl (by (try simp only [List.map_toArray, List.map_cons, List.map_nil]); first | done | rfl | (simp only [List.length_drop, List.length_take]; rfl)) ?_
                       with_reducible refine (remontoirlaw04_works.calls  t663 _ ?side1 A213.out).mono ?_
                       (case side1 => exact Go.Proofs.YtidnopmjhhmedaaDoor.Ways.below HWays.out (bl HB))
                       rintro e w218 ⟨rfl, hb⟩
                       refine ⟨_, rfl, ?_⟩
                       replace HO_613007 := Aside0.mk (Kd.R_below (rk HO_613007) hb)
                       replace HO_614007 := Aside0.mk (Kd.R_below (rk HO_614007) hb)
                       replace BK607 := Aside0.mk (blk_below (bk BK607) hb)
                       replace BK608 := Aside0.mk (blk_below (bk BK608) hb)
                       replace BK612 := Aside0.mk (blk_below (bk BK612) hb)
                       replace BK613 := Aside0.mk (blk_below (bk BK613) hb)
                       replace BK643 := Aside0.mk (blk_below (bk BK643) hb)
                       replace BK647 := Aside0.mk (blk_below (bk BK647) hb)
                       replace BK651 := Aside0.mk (blk_below (bk BK651) hb)
                       replace BK659 := Aside0.mk (blk_below (bk BK659) hb)
                       replace HB := Aside0.mk (below_step (bl HB) hb)
                       (try clear hb)
                       (try clear hb2)
                       (try clear hk)
                       (try clear hi)
                       refine hK.out _ _ ⟨bc BK659 0, bc BK659 1, bc BK643 0, bc BK643 1, bc BK607 0, bc BK607 1, bc BK607 2, bc BK607 3, bc BK607 4, bc BK607 5, bc BK607 6, bc BK607 7⟩ (fun hHeld => ?_)
                       clear hK K
                       refine normA 168 ?_
                       refine pureA 27 169 ?_
                       refine pureA 28 6 ?_
                       refine done_ (done_of HT_.out (by kernel_rfl)) ?_
                       try go_wp2
                       go_meet
                       case rel => exact ⟨_, (t663), (by first | rfl | (simp; done) | (simp [*]; done)), H', ⟨by have := HJ3.out; have := HK2.out; have := HJ72.out; have := HJ90.out; have := HJ154.out; have := HJ172.out; first | omega | exact Nat.le_refl _⟩, ⟨by (with_reducible repeat (first | apply Kd.R_alloc | apply Kd.R_drewN | apply Kd.R_drew)); exact HO_613007.out⟩, ⟨by (with_reducible repeat (first | apply Kd.R_alloc | apply Kd.R_drewN | apply Kd.R_drew)); exact HO_614007.out⟩, ⟨bk BK607⟩, ⟨bk BK608⟩, ⟨bk BK612⟩, ⟨bk BK613⟩, ⟨bk BK643⟩, ⟨bk BK647⟩, ⟨bk BK651⟩, ⟨bk BK659⟩, ⟨bl HB⟩⟩
                      ·
                       replace c212 := Bool.eq_false_iff.mpr c212
                       subst c212
                       have H1 : (remontoirlaw04_ScaleMore.j6 kj172 false) = some r := by rw [if_neg (show ¬ (false = true) by decide)] at H; exact H
                       clear H
                       have H := H1
                       clear H1
                       have H' := Aside0.mk H
                       clear H
                       try go_wp2
                       have n0_ : Aside0 (Kd.R k71 71 ((w200.setCell ⟨gb659, 0, none⟩ (.int .i64 t656)).setCell ⟨gb659, 1, none⟩ (.int .i64 t657)) w.heap.size (fun k_ => some k_ ≠ (.slice Ao116 x614007_72.length co116 : Value).ownBlock ∧ k_ ≠ gb608) (.slice Ao54 y623.length co54) y623) := ⟨by (with_reducible repeat (first | apply Kd.R_alloc | apply Kd.R_drewN | apply Kd.R_drew)); exact Kd.R_mono (Kd.R_far (p := ⟨gb659, 1, none⟩) (Kd.R_far (p := ⟨gb659, 0, none⟩) (Kd.R_types HO_613007.out BK659.out (by decide)) (fun _ hk => hk.2) (.int .i64 t656)) (fun _ hk => hk.2) (.int .i64 t657)) (fun _ hk => ⟨hk.1.1, hk.1.2⟩)⟩
                       have n1_ : Aside0 (Kd.R k71 71 ((w200.setCell ⟨gb659, 0, none⟩ (.int .i64 t656)).setCell ⟨gb659, 1, none⟩ (.int .i64 t657)) w.heap.size (fun k_ => some k_ ≠ (.slice Ao54 y623.length co54 : Value).ownBlock ∧ k_ ≠ gb608) (.slice Ao116 x614007_72.length co116) x614007_72) := ⟨by (with_reducible repeat (first | apply Kd.R_alloc | apply Kd.R_drewN | apply Kd.R_drew)); exact Kd.R_mono (Kd.R_far (p := ⟨gb659, 1, none⟩) (Kd.R_far (p := ⟨gb659, 0, none⟩) (Kd.R_types HO_614007.out BK659.out (by decide)) (fun _ hk => hk.2) (.int .i64 t656)) (fun _ hk => hk.2) (.int .i64 t657)) (fun _ hk => ⟨hk.1.1, hk.1.2⟩)⟩
                       have n2_ : Aside0 (((w200.setCell ⟨gb659, 0, none⟩ (.int .i64 t656)).setCell ⟨gb659, 1, none⟩ (.int .i64 t657)).heap[gb607]? = some (.cells #[.int .i64 a0_0, .int .i64 a0_1, .int .i64 a0_2, .int .i64 a0_3, .int .i64 a0_4, .int .i64 a0_5, .slice A0_6 l0_6.length c0_6, .slice A0_7 l0_7.length c0_7] 44 (0, 0))) := ⟨bk BK607⟩
                       have n3_ : Aside0 (((w200.setCell ⟨gb659, 0, none⟩ (.int .i64 t656)).setCell ⟨gb659, 1, none⟩ (.int .i64 t657)).heap[gb608]? = some (.cells #[.int .i64 a1_0, .int .i64 a1_1, .int .i64 a1_2] 71 (0, 0))) := ⟨bk BK608⟩
                       have n4_ : Aside0 (((w200.setCell ⟨gb659, 0, none⟩ (.int .i64 t656)).setCell ⟨gb659, 1, none⟩ (.int .i64 t657)).heap[gb612]? = some (.cells #[.int .i64 a0_0, .int .i64 a0_1, .int .i64 a0_2, .int .i64 a0_3, .int .i64 a0_4, .int .i64 a0_5, .slice A0_6 l0_6.length c0_6, .slice Ao54 y623.length co54] 44 (0, 0))) := ⟨bk BK612⟩
                       have n5_ : Aside0 (((w200.setCell ⟨gb659, 0, none⟩ (.int .i64 t656)).setCell ⟨gb659, 1, none⟩ (.int .i64 t657)).heap[gb613]? = some (.cells #[.int .i64 a0_0, .int .i64 a0_1, .int .i64 a0_2, .int .i64 a0_3, .int .i64 a0_4, .int .i64 a0_5, .slice A0_6 l0_6.length c0_6, .slice Ao116 x614007_72.length co116] 44 (0, 0))) := ⟨bk BK613⟩
                       have n6_ : Aside0 (((w200.setCell ⟨gb659, 0, none⟩ (.int .i64 t656)).setCell ⟨gb659, 1, none⟩ (.int .i64 t657)).heap[gb643]? = some (.cells #[.int .i64 t640, .int .i64 t641] 23 (0, 0))) := ⟨bk BK643⟩
                       have n7_ : Aside0 (((w200.setCell ⟨gb659, 0, none⟩ (.int .i64 t656)).setCell ⟨gb659, 1, none⟩ (.int .i64 t657)).heap[gb647]? = some (.cells #[.int .i64 t644, .int .i64 t645] 23 (0, 0))) := ⟨bk BK647⟩
                       have n8_ : Aside0 (((w200.setCell ⟨gb659, 0, none⟩ (.int .i64 t656)).setCell ⟨gb659, 1, none⟩ (.int .i64 t657)).heap[gb651]? = some (.cells #[.int .i64 t648, .int .i64 t649] 23 (0, 0))) := ⟨bk BK651⟩
                       have n9_ : Aside0 (((w200.setCell ⟨gb659, 0, none⟩ (.int .i64 t656)).setCell ⟨gb659, 1, none⟩ (.int .i64 t657)).heap[gb659]? = some (.cells #[.int .i64 t656, .int .i64 t657] 23 (0, 0))) := ⟨by (with_reducible repeat (first | refine blk_drewN ?_ _ | refine blk_drew ?_ | refine blk_alloc ?_ _)); refine blk_put (cs := #[.int .i64 t656, .int .i64 0]) ?_ 1 _ rfl; (with_reducible repeat (first | refine blk_drewN ?_ _ | refine blk_drew ?_ | refine blk_alloc ?_ _)); refine blk_put (cs := #[.int .i64 0, .int .i64 0]) ?_ 0 _ rfl; (with_reducible repeat (first | refine blk_drewN ?_ _ | refine blk_drew ?_ | refine blk_alloc ?_ _)); exact BK659.out⟩
                       have n10_ : Aside0 (Below w.heap.size w ((w200.setCell ⟨gb659, 0, none⟩ (.int .i64 t656)).setCell ⟨gb659, 1, none⟩ (.int .i64 t657))) := ⟨bl HB⟩
                       (try clear HO_613007)
                       (try clear HO_614007)
                       (try clear BK607)
                       (try clear BK608)
                       (try clear BK612)
                       (try clear BK613)
                       (try clear BK643)
                       (try clear BK647)
                       (try clear BK651)
                       (try clear BK659)
                       (try clear HB)
                       generalize ((w200.setCell ⟨gb659, 0, none⟩ (.int .i64 t656)).setCell ⟨gb659, 1, none⟩ (.int .i64 t657)) = w219 at n0_ n1_ n2_ n3_ n4_ n5_ n6_ n7_ n8_ n9_ n10_ ⊢
                       have HO_613007 := n0_
                       have HO_614007 := n1_
                       have BK607 := n2_
                       have BK608 := n3_
                       have BK612 := n4_
                       have BK613 := n5_
                       have BK643 := n6_
                       have BK647 := n7_
                       have BK651 := n8_
                       have BK659 := n9_
                       have HB := n10_
                       clear n0_ n1_ n2_ n3_ n4_ n5_ n6_ n7_ n8_ n9_ n10_
                       replace HO_613007 := Aside0.mk (Kd.R_drew HO_613007.out)
                       replace HO_614007 := Aside0.mk (Kd.R_drew HO_614007.out)
                       replace BK607 := Aside0.mk (blk_drew BK607.out)
                       replace BK608 := Aside0.mk (blk_drew BK608.out)
                       replace BK612 := Aside0.mk (blk_drew BK612.out)
                       replace BK613 := Aside0.mk (blk_drew BK613.out)
                       replace BK643 := Aside0.mk (blk_drew BK643.out)
                       replace BK647 := Aside0.mk (blk_drew BK647.out)
                       replace BK651 := Aside0.mk (blk_drew BK651.out)
                       replace BK659 := Aside0.mk (blk_drew BK659.out)
                       replace HB := Aside0.mk (below_drew1 HB.out)
                       refine start_ (n := 29) (S := fun w' => w'.cell? ⟨gb659, 0, none⟩ = some (.int .i64 t656) ∧ w'.cell? ⟨gb659, 1, none⟩ = some (.int .i64 t657) ∧ w'.cell? ⟨gb643, 0, none⟩ = some (.int .i64 t640) ∧ w'.cell? ⟨gb643, 1, none⟩ = some (.int .i64 t641) ∧ w'.cell? ⟨gb607, 0, none⟩ = some (.int .i64 a0_0) ∧ w'.cell? ⟨gb607, 1, none⟩ = some (.int .i64 a0_1) ∧ w'.cell? ⟨gb607, 2, none⟩ = some (.int .i64 a0_2) ∧ w'.cell? ⟨gb607, 3, none⟩ = some (.int .i64 a0_3) ∧ w'.cell? ⟨gb607, 4, none⟩ = some (.int .i64 a0_4) ∧ w'.cell? ⟨gb607, 5, none⟩ = some (.int .i64 a0_5) ∧ w'.cell? ⟨gb607, 6, none⟩ = some (.slice A0_6 l0_6.length c0_6) ∧ w'.cell? ⟨gb607, 7, none⟩ = some (.slice A0_7 l0_7.length c0_7)) (ds := []) #[false, false, false, false, false, false, false, false, false, false, false, false, false, false, false, false, false, false, false, false, false, false, false, false, false, false, false, false, false] (by kernel_rfl) rfl rfl ⟨bc BK659 0, bc BK659 1, bc BK643 0, bc BK643 1, bc BK607 0, bc BK607 1, bc BK607 2, bc BK607 3, bc BK607 4, bc BK607 5, bc BK607 6, bc BK607 7⟩ (fun hHeld => ?_); refine with_tabW remontoirlaw04_ScaleMore.tab26 remontoirlaw04_ScaleMore.bits26 (fun HT_ HW_ => ?_)
                       generalize w219.drew = w220 at HO_613007 HO_614007 BK607 BK608 BK612 BK613 BK643 BK647 BK651 BK659 HB hHeld ⊢
                       refine pureA 0 142 ?_
                       refine pureA 1 143 ?_
                       refine pureA 2 144 ?_
                       refine pureA 4 146 ?_
                       refine pureA 6 148 ?_
                       refine pureA 7 149 ?_
                       refine pureA 8 150 ?_
                       refine pureA 11 153 ?_
                       refine pureA 13 155 ?_
                       refine pureA 15 157 ?_
                       refine pureA 16 158 ?_
                       refine pureA 17 159 ?_
                       refine pureA 20 162 ?_
                       refine takeA 3 145 rfl rfl (by rintro w' ⟨s0, s1, s2, s3, s4, s5, s6, s7, s8, s9, s10, s11⟩; go_simp; with_reducible rfl) ?_
                       refine takeA 5 147 rfl rfl (by rintro w' ⟨s0, s1, s2, s3, s4, s5, s6, s7, s8, s9, s10, s11⟩; go_simp; with_reducible rfl) ?_
                       refine takeA 9 151 rfl rfl (by rintro w' ⟨s0, s1, s2, s3, s4, s5, s6, s7, s8, s9, s10, s11⟩; go_simp; with_reducible rfl) ?_
                       refine pureA 10 152 ?_
                       refine pureA 12 154 ?_
                       refine takeA 14 156 rfl rfl (by rintro w' ⟨s0, s1, s2, s3, s4, s5, s6, s7, s8, s9, s10, s11⟩; go_simp; with_reducible rfl) ?_
                       refine takeA 18 160 rfl rfl (by rintro w' ⟨s0, s1, s2, s3, s4, s5, s6, s7, s8, s9, s10, s11⟩; go_simp; with_reducible rfl) ?_
                       refine pureA 19 161 ?_
                       refine pureA 21 163 ?_
                       refine oneA 22 (some 164) (fun K hK => ?_)
                       refine goes_ Tryd.func49 (by kernel_rfl) rfl #[.int .i64 (wrap64 ((wrap64 (t640 + a0_3)) + x17_172)), .int .i64 (wrap64 ((wrap64 (t641 + a0_4)) + x17_172))] (by rfl) rfl rfl (by (try simp only [List.map_toArray, List.map_cons, List.map_nil]); first | done | rfl | (simp only [List.length_drop, List.length_take]; rfl)) ?_
                       with_reducible refine (remontoirref00_To.calls (wrap64 ((wrap64 (t640 + a0_3)) + x17_172)) (wrap64 ((wrap64 (t641 + a0_4)) + x17_172)) t660 t661 _ A210.out).mono ?_
                       rintro e w221 ⟨rfl, hb⟩
                       refine ⟨_, rfl, ?_⟩
                       replace HO_613007 := Aside0.mk (Kd.R_below (rk HO_613007) hb)
                       replace HO_614007 := Aside0.mk (Kd.R_below (rk HO_614007) hb)
                       replace BK607 := Aside0.mk (blk_below (bk BK607) hb)
                       replace BK608 := Aside0.mk (blk_below (bk BK608) hb)
                       replace BK612 := Aside0.mk (blk_below (bk BK612) hb)
                       replace BK613 := Aside0.mk (blk_below (bk BK613) hb)
                       replace BK643 := Aside0.mk (blk_below (bk BK643) hb)
                       replace BK647 := Aside0.mk (blk_below (bk BK647) hb)
                       replace BK651 := Aside0.mk (blk_below (bk BK651) hb)
                       replace BK659 := Aside0.mk (blk_below (bk BK659) hb)
                       replace HB := Aside0.mk (below_step (bl HB) hb)
                       (try clear hb)
                       (try clear hb2)
                       (try clear hk)
                       (try clear hi)
                       refine hK.out _ _ ⟨bc BK659 0, bc BK659 1, bc BK643 0, bc BK643 1, bc BK607 0, bc BK607 1, bc BK607 2, bc BK607 3, bc BK607 4, bc BK607 5, bc BK607 6, bc BK607 7⟩ (fun hHeld => ?_)
                       clear hK K
                       refine normA 164 ?_
                       refine oneA 23 (some 165) (fun K hK => ?_)
                       refine goes_ Tryd.func45 (by kernel_rfl) rfl #[.agg #[.int .i64 t656, .int .i64 t657], .agg #[.int .i64 t660, .int .i64 t661]] (by rfl) rfl rfl (by (try simp only [List.map_toArray, List.map_cons, List.map_nil]); first | done | rfl | (simp only [List.length_drop, List.length_take]; rfl)) ?_
                       with_reducible refine (remontoirref00_Within.calls t656 t657 t660 t661 false _ A211.out).mono ?_
                       rintro e w222 ⟨rfl, hb⟩
                       refine ⟨_, rfl, ?_⟩
                       replace HO_613007 := Aside0.mk (Kd.R_below (rk HO_613007) hb)
                       replace HO_614007 := Aside0.mk (Kd.R_below (rk HO_614007) hb)
                       replace BK607 := Aside0.mk (blk_below (bk BK607) hb)
                       replace BK608 := Aside0.mk (blk_below (bk BK608) hb)
                       replace BK612 := Aside0.mk (blk_below (bk BK612) hb)
                       replace BK613 := Aside0.mk (blk_below (bk BK613) hb)
                       replace BK643 := Aside0.mk (blk_below (bk BK643) hb)
                       replace BK647 := Aside0.mk (blk_below (bk BK647) hb)
                       replace BK651 := Aside0.mk (blk_below (bk BK651) hb)
                       replace BK659 := Aside0.mk (blk_below (bk BK659) hb)
                       replace HB := Aside0.mk (below_step (bl HB) hb)
                       (try clear hb)
                       (try clear hb2)
                       (try clear hk)
                       (try clear hi)
                       refine hK.out _ _ ⟨bc BK659 0, bc BK659 1, bc BK643 0, bc BK643 1, bc BK607 0, bc BK607 1, bc BK607 2, bc BK607 3, bc BK607 4, bc BK607 5, bc BK607 6, bc BK607 7⟩ (fun hHeld => ?_)
                       clear hK K
                       refine normA 165 ?_
                       refine pureA 24 166 ?_
                       refine pureA 25 167 ?_
                       refine pureU 26 168 ?_
                       refine pureA 27 169 ?_
                       refine pureA 28 6 ?_
                       refine done_ (done_of HT_.out (by kernel_rfl)) ?_
                       try go_wp2
                       go_meet
                       case rel => exact ⟨_, (false), (by first | rfl | (simp; done) | (simp [*]; done)), H', ⟨by have := HJ3.out; have := HK2.out; have := HJ72.out; have := HJ90.out; have := HJ154.out; have := HJ172.out; first | omega | exact Nat.le_refl _⟩, ⟨by (with_reducible repeat (first | apply Kd.R_alloc | apply Kd.R_drewN | apply Kd.R_drew)); exact HO_613007.out⟩, ⟨by (with_reducible repeat (first | apply Kd.R_alloc | apply Kd.R_drewN | apply Kd.R_drew)); exact HO_614007.out⟩, ⟨bk BK607⟩, ⟨bk BK608⟩, ⟨bk BK612⟩, ⟨bk BK613⟩, ⟨bk BK643⟩, ⟨bk BK647⟩, ⟨bk BK651⟩, ⟨bk BK659⟩, ⟨bl HB⟩⟩
                     ·
                      rw [if_neg c209] at H
                      have c209b0 : (t658 == 0) = false := beq_eq_false_iff_ne.mpr c209
                      have c209b1 : (t658 != 0) = true := bne_iff_ne.mpr c209
                      (first | rw [c209b0] | rw [c209b1] | (simp only [i64_w, i32_w]; first | rw [c209b0] | rw [c209b1]) | skip)
                      have H' := Aside0.mk H
                      clear H
                      try go_wp2
                      have n0_ : Aside0 (Kd.R k71 71 ((w200.setCell ⟨gb659, 0, none⟩ (.int .i64 t656)).setCell ⟨gb659, 1, none⟩ (.int .i64 t657)) w.heap.size (fun k_ => some k_ ≠ (.slice Ao116 x614007_72.length co116 : Value).ownBlock ∧ k_ ≠ gb608) (.slice Ao54 y623.length co54) y623) := ⟨by (with_reducible repeat (first | apply Kd.R_alloc | apply Kd.R_drewN | apply Kd.R_drew)); exact Kd.R_mono (Kd.R_far (p := ⟨gb659, 1, none⟩) (Kd.R_far (p := ⟨gb659, 0, none⟩) (Kd.R_types HO_613007.out BK659.out (by decide)) (fun _ hk => hk.2) (.int .i64 t656)) (fun _ hk => hk.2) (.int .i64 t657)) (fun _ hk => ⟨hk.1.1, hk.1.2⟩)⟩
                      have n1_ : Aside0 (Kd.R k71 71 ((w200.setCell ⟨gb659, 0, none⟩ (.int .i64 t656)).setCell ⟨gb659, 1, none⟩ (.int .i64 t657)) w.heap.size (fun k_ => some k_ ≠ (.slice Ao54 y623.length co54 : Value).ownBlock ∧ k_ ≠ gb608) (.slice Ao116 x614007_72.length co116) x614007_72) := ⟨by (with_reducible repeat (first | apply Kd.R_alloc | apply Kd.R_drewN | apply Kd.R_drew)); exact Kd.R_mono (Kd.R_far (p := ⟨gb659, 1, none⟩) (Kd.R_far (p := ⟨gb659, 0, none⟩) (Kd.R_types HO_614007.out BK659.out (by decide)) (fun _ hk => hk.2) (.int .i64 t656)) (fun _ hk => hk.2) (.int .i64 t657)) (fun _ hk => ⟨hk.1.1, hk.1.2⟩)⟩
                      have n2_ : Aside0 (((w200.setCell ⟨gb659, 0, none⟩ (.int .i64 t656)).setCell ⟨gb659, 1, none⟩ (.int .i64 t657)).heap[gb607]? = some (.cells #[.int .i64 a0_0, .int .i64 a0_1, .int .i64 a0_2, .int .i64 a0_3, .int .i64 a0_4, .int .i64 a0_5, .slice A0_6 l0_6.length c0_6, .slice A0_7 l0_7.length c0_7] 44 (0, 0))) := ⟨bk BK607⟩
                      have n3_ : Aside0 (((w200.setCell ⟨gb659, 0, none⟩ (.int .i64 t656)).setCell ⟨gb659, 1, none⟩ (.int .i64 t657)).heap[gb608]? = some (.cells #[.int .i64 a1_0, .int .i64 a1_1, .int .i64 a1_2] 71 (0, 0))) := ⟨bk BK608⟩
                      have n4_ : Aside0 (((w200.setCell ⟨gb659, 0, none⟩ (.int .i64 t656)).setCell ⟨gb659, 1, none⟩ (.int .i64 t657)).heap[gb612]? = some (.cells #[.int .i64 a0_0, .int .i64 a0_1, .int .i64 a0_2, .int .i64 a0_3, .int .i64 a0_4, .int .i64 a0_5, .slice A0_6 l0_6.length c0_6, .slice Ao54 y623.length co54] 44 (0, 0))) := ⟨bk BK612⟩
                      have n5_ : Aside0 (((w200.setCell ⟨gb659, 0, none⟩ (.int .i64 t656)).setCell ⟨gb659, 1, none⟩ (.int .i64 t657)).heap[gb613]? = some (.cells #[.int .i64 a0_0, .int .i64 a0_1, .int .i64 a0_2, .int .i64 a0_3, .int .i64 a0_4, .int .i64 a0_5, .slice A0_6 l0_6.length c0_6, .slice Ao116 x614007_72.length co116] 44 (0, 0))) := ⟨bk BK613⟩
                      have n6_ : Aside0 (((w200.setCell ⟨gb659, 0, none⟩ (.int .i64 t656)).setCell ⟨gb659, 1, none⟩ (.int .i64 t657)).heap[gb643]? = some (.cells #[.int .i64 t640, .int .i64 t641] 23 (0, 0))) := ⟨bk BK643⟩
                      have n7_ : Aside0 (((w200.setCell ⟨gb659, 0, none⟩ (.int .i64 t656)).setCell ⟨gb659, 1, none⟩ (.int .i64 t657)).heap[gb647]? = some (.cells #[.int .i64 t644, .int .i64 t645] 23 (0, 0))) := ⟨bk BK647⟩
                      have n8_ : Aside0 (((w200.setCell ⟨gb659, 0, none⟩ (.int .i64 t656)).setCell ⟨gb659, 1, none⟩ (.int .i64 t657)).heap[gb651]? = some (.cells #[.int .i64 t648, .int .i64 t649] 23 (0, 0))) := ⟨bk BK651⟩
                      have n9_ : Aside0 (((w200.setCell ⟨gb659, 0, none⟩ (.int .i64 t656)).setCell ⟨gb659, 1, none⟩ (.int .i64 t657)).heap[gb659]? = some (.cells #[.int .i64 t656, .int .i64 t657] 23 (0, 0))) := ⟨by (with_reducible repeat (first | refine blk_drewN ?_ _ | refine blk_drew ?_ | refine blk_alloc ?_ _)); refine blk_put (cs := #[.int .i64 t656, .int .i64 0]) ?_ 1 _ rfl; (with_reducible repeat (first | refine blk_drewN ?_ _ | refine blk_drew ?_ | refine blk_alloc ?_ _)); refine blk_put (cs := #[.int .i64 0, .int .i64 0]) ?_ 0 _ rfl; (with_reducible repeat (first | refine blk_drewN ?_ _ | refine blk_drew ?_ | refine blk_alloc ?_ _)); exact BK659.out⟩
                      have n10_ : Aside0 (Below w.heap.size w ((w200.setCell ⟨gb659, 0, none⟩ (.int .i64 t656)).setCell ⟨gb659, 1, none⟩ (.int .i64 t657))) := ⟨bl HB⟩
                      (try clear HO_613007)
                      (try clear HO_614007)
                      (try clear BK607)
                      (try clear BK608)
                      (try clear BK612)
                      (try clear BK613)
                      (try clear BK643)
                      (try clear BK647)
                      (try clear BK651)
                      (try clear BK659)
                      (try clear HB)
                      generalize ((w200.setCell ⟨gb659, 0, none⟩ (.int .i64 t656)).setCell ⟨gb659, 1, none⟩ (.int .i64 t657)) = w223 at n0_ n1_ n2_ n3_ n4_ n5_ n6_ n7_ n8_ n9_ n10_ ⊢
                      have HO_613007 := n0_
                      have HO_614007 := n1_
                      have BK607 := n2_
                      have BK608 := n3_
                      have BK612 := n4_
                      have BK613 := n5_
                      have BK643 := n6_
                      have BK647 := n7_
                      have BK651 := n8_
                      have BK659 := n9_
                      have HB := n10_
                      clear n0_ n1_ n2_ n3_ n4_ n5_ n6_ n7_ n8_ n9_ n10_
                      replace HO_613007 := Aside0.mk (Kd.R_drew HO_613007.out)
                      replace HO_614007 := Aside0.mk (Kd.R_drew HO_614007.out)
                      replace BK607 := Aside0.mk (blk_drew BK607.out)
                      replace BK608 := Aside0.mk (blk_drew BK608.out)
                      replace BK612 := Aside0.mk (blk_drew BK612.out)
                      replace BK613 := Aside0.mk (blk_drew BK613.out)
                      replace BK643 := Aside0.mk (blk_drew BK643.out)
                      replace BK647 := Aside0.mk (blk_drew BK647.out)
                      replace BK651 := Aside0.mk (blk_drew BK651.out)
                      replace BK659 := Aside0.mk (blk_drew BK659.out)
                      replace HB := Aside0.mk (below_drew1 HB.out)
                      refine start_ (n := 29) (S := fun w' => True) (ds := []) #[false, false, false, false, false, false, false, false, false, false, false, false, false, false, false, false, false, false, false, false, false, false, false, false, false, false, false, false, false] (by kernel_rfl) rfl rfl trivial (fun hHeld => ?_); refine with_tabW remontoirlaw04_ScaleMore.tab26 remontoirlaw04_ScaleMore.bits26 (fun HT_ HW_ => ?_)
                      generalize w223.drew = w224 at HO_613007 HO_614007 BK607 BK608 BK612 BK613 BK643 BK647 BK651 BK659 HB hHeld ⊢
                      refine pureA 0 142 ?_
                      refine pureA 1 143 ?_
                      refine pureA 2 144 ?_
                      refine pureU 3 145 ?_
                      refine pureU 4 146 ?_
                      refine pureU 5 147 ?_
                      refine pureU 6 148 ?_
                      refine pureU 7 149 ?_
                      refine pureU 8 150 ?_
                      refine pureU 9 151 ?_
                      refine pureU 10 152 ?_
                      refine pureU 11 153 ?_
                      refine pureU 12 154 ?_
                      refine pureU 13 155 ?_
                      refine pureU 14 156 ?_
                      refine pureU 15 157 ?_
                      refine pureU 16 158 ?_
                      refine pureU 17 159 ?_
                      refine pureU 18 160 ?_
                      refine pureU 19 161 ?_
                      refine pureU 20 162 ?_
                      refine pureU 21 163 ?_
                      refine pureU 22 164 ?_
                      refine pureU 23 165 ?_
                      refine pureA 24 166 ?_
                      refine pureA 25 167 ?_
                      refine pureU 26 168 ?_
                      refine pureA 27 169 ?_
                      refine pureA 28 6 ?_
                      refine done_ (done_of HT_.out (by kernel_rfl)) ?_
                      try go_wp2
                      go_meet
                      case rel => exact ⟨_, (false), (by first | rfl | (simp; done) | (simp [*]; done)), H', ⟨by have := HJ3.out; have := HK2.out; have := HJ72.out; have := HJ90.out; have := HJ154.out; have := HJ172.out; first | omega | exact Nat.le_refl _⟩, ⟨by (with_reducible repeat (first | apply Kd.R_alloc | apply Kd.R_drewN | apply Kd.R_drew)); exact HO_613007.out⟩, ⟨by (with_reducible repeat (first | apply Kd.R_alloc | apply Kd.R_drewN | apply Kd.R_drew)); exact HO_614007.out⟩, ⟨bk BK607⟩, ⟨bk BK608⟩, ⟨bk BK612⟩, ⟨bk BK613⟩, ⟨bk BK643⟩, ⟨bk BK647⟩, ⟨bk BK651⟩, ⟨bk BK659⟩, ⟨bl HB⟩⟩
                    case rest =>
                     as_aux_lemma =>
                     clear HC191
                     (try clear c2); (try clear p2); (try clear c4); (try clear p6); (try clear c20); (try clear c45); (try clear c49); (try clear p64); (try clear c209); (try clear c209b0); (try clear c209b1)
                     (try clear HO_613007); (try clear HO_614007); (try clear BK607); (try clear BK608); (try clear BK612); (try clear BK613); (try clear BK643); (try clear BK647); (try clear BK651); (try clear BK659); (try clear HB)
                     obtain ⟨kq, x6_190, rfl, HA, HJ190, HO_613007, HO_614007, BK607, BK608, BK612, BK613, BK643, BK647, BK651, BK659, HB⟩ := hcut
                     cases kq with
                     | zero => exact absurd HA.out (by simp [remontoirlaw04_ScaleMore.j6])
                     | succ kj190 =>
                      have H := HA.out
                      clear HA
                      simp only [remontoirlaw04_ScaleMore.j6] at H
                      obtain rfl := Option.some.inj H
                      go_wp2
                      go_ret
                      exact ⟨by first | rfl | (simp [errW_none, errW_some] <;> rfl) | (simp [*, errW_none, errW_some] <;> rfl), by repeat (first | (with_reducible first | exact HB.out | apply below_alloc | apply pw_below_drewN | apply below_drew1 | refine below_set ?_ GE607.out | refine below_set ?_ GE608.out | refine below_set ?_ GE612.out | refine below_set ?_ GE613.out | refine below_set ?_ GE643.out | refine below_set ?_ GE647.out | refine below_set ?_ GE651.out | refine below_set ?_ GE659.out) | exact HB.out)⟩
              ·
               rw [if_neg c154] at H
               have c154b0 : (t646 == 0) = false := beq_eq_false_iff_ne.mpr c154
               have c154b1 : (t646 != 0) = true := bne_iff_ne.mpr c154
               by_cases c225 : t646 = 40
               ·
                rw [if_pos c225] at H
                have c225b0 : (t646 == 40) = true := beq_iff_eq.mpr c225
                have c225b1 : (t646 != 40) = false := bne_eq_false_iff_eq.mpr c225
                clear c225
                by_cases c226 : (t644 == 0 && (t645 == 0)) = true
                ·
                 rw [if_pos c226] at H
                 have c226b0 : (t644 == 0 && (t645 == 0)) = true := c226
                 (try (have c226b1 : decide (t644 = 0 && (t645 == 0)) = true := by simpa using c226))
                 (try (have c226b2 : (t644 == 0 && (t645 == 0)) = true := by simpa using c226))
                 clear c226
                 replace H := Option.bind_eq_some_iff.mp H
                 obtain ⟨t652, A2270, H⟩ := H
                 replace H : (some t652) = some r := H
                 have A227 := Aside0.mk A2270
                 clear A2270
                 obtain rfl := Option.some.inj H
                 have hnb228 := NB647_607.out
                 have hnc228 := NB607_647.out
                 have hnb229 := NB647_608.out
                 have hnc229 := NB608_647.out
                 have hnb230 := NB647_612.out
                 have hnc230 := NB612_647.out
                 have hnb231 := NB647_613.out
                 have hnc231 := NB613_647.out
                 have hnb232 := NB647_643.out
                 have hnc232 := NB643_647.out
                 have hnb233 := NB647_651.out
                 have hnc233 := NB651_647.out
                 have hcz234_0 : wc.cell? ⟨gb647, 0, none⟩ = some (.int .i64 t644) := bc BK647 0
                 have hcz234_1 : wc.cell? ⟨gb647, 1, none⟩ = some (.int .i64 t645) := bc BK647 1
                 have hfz234_0 := blk_frozen BK647.out 0
                 have hfz234_1 := blk_frozen BK647.out 1
                 go_wp2_with (first | (go_at_call 21; (with_reducible refine (remontoirlaw04_works.calls  t652 _ ?side1 A227.out).mono ?_); (case side1 => exact Go.Proofs.YtidnopmjhhmedaaDoor.Ways.below HWays.out (bl HB)); rintro e w235 ⟨rfl, hb⟩; replace HO_613007 := Aside0.mk (Kd.R_below (rk HO_613007) hb); replace HO_614007 := Aside0.mk (Kd.R_below (rk HO_614007) hb); replace BK607 := Aside0.mk (blk_below (bk BK607) hb); replace BK608 := Aside0.mk (blk_below (bk BK608) hb); replace BK612 := Aside0.mk (blk_below (bk BK612) hb); replace BK613 := Aside0.mk (blk_below (bk BK613) hb); replace BK643 := Aside0.mk (blk_below (bk BK643) hb); replace BK647 := Aside0.mk (blk_below (bk BK647) hb); replace BK651 := Aside0.mk (blk_below (bk BK651) hb); replace HB := Aside0.mk (below_step (bl HB) hb); (try clear hb); (try clear hb2); (try clear hk); (try clear hi)))
                 go_ret
                 exact ⟨by first | rfl | (simp [errW_none, errW_some] <;> rfl) | (simp [*, errW_none, errW_some] <;> rfl), by repeat (first | (with_reducible first | exact HB.out | apply below_alloc | apply pw_below_drewN | apply below_drew1 | refine below_set ?_ GE607.out | refine below_set ?_ GE608.out | refine below_set ?_ GE612.out | refine below_set ?_ GE613.out | refine below_set ?_ GE643.out | refine below_set ?_ GE647.out | refine below_set ?_ GE651.out) | exact HB.out)⟩
                ·
                 rw [if_neg c226] at H
                 have c226b0 : (t644 == 0 && (t645 == 0)) = false := by simpa using c226
                 (try (have c226b1 : decide (t644 = 0 && (t645 == 0)) = false := by simpa using c226))
                 (try (have c226b2 : (t644 == 0 && (t645 == 0)) = false := by simpa using c226))
                 (try (have c226b3 : ¬ (t644 = 0 && (t645 == 0)) := by simpa using c226))
                 clear c226
                 obtain rfl := Option.some.inj H
                 have hnb236 := NB647_607.out
                 have hnc236 := NB607_647.out
                 have hnb237 := NB647_608.out
                 have hnc237 := NB608_647.out
                 have hnb238 := NB647_612.out
                 have hnc238 := NB612_647.out
                 have hnb239 := NB647_613.out
                 have hnc239 := NB613_647.out
                 have hnb240 := NB647_643.out
                 have hnc240 := NB643_647.out
                 have hnb241 := NB647_651.out
                 have hnc241 := NB651_647.out
                 have hcz242_0 : wc.cell? ⟨gb647, 0, none⟩ = some (.int .i64 t644) := bc BK647 0
                 have hcz242_1 : wc.cell? ⟨gb647, 1, none⟩ = some (.int .i64 t645) := bc BK647 1
                 have hfz242_0 := blk_frozen BK647.out 0
                 have hfz242_1 := blk_frozen BK647.out 1
                 go_wp2
                 go_ret
                 exact ⟨by first | rfl | (simp [errW_none, errW_some] <;> rfl) | (simp [*, errW_none, errW_some] <;> rfl), by repeat (first | (with_reducible first | exact HB.out | apply below_alloc | apply pw_below_drewN | apply below_drew1 | refine below_set ?_ GE607.out | refine below_set ?_ GE608.out | refine below_set ?_ GE612.out | refine below_set ?_ GE613.out | refine below_set ?_ GE643.out | refine below_set ?_ GE647.out | refine below_set ?_ GE651.out) | exact HB.out)⟩
               ·
                rw [if_neg c225] at H
                have c225b0 : (t646 == 40) = false := beq_eq_false_iff_ne.mpr c225
                have c225b1 : (t646 != 40) = true := bne_iff_ne.mpr c225
                by_cases c243 : t646 = 42
                ·
                 rw [if_pos c243] at H
                 have c243b0 : (t646 == 42) = true := beq_iff_eq.mpr c243
                 have c243b1 : (t646 != 42) = false := bne_eq_false_iff_eq.mpr c243
                 clear c243
                 by_cases c244 : (t644 == 0 && (t645 == 0)) = true
                 ·
                  rw [if_pos c244] at H
                  have c244b0 : (t644 == 0 && (t645 == 0)) = true := c244
                  (try (have c244b1 : decide (t644 = 0 && (t645 == 0)) = true := by simpa using c244))
                  (try (have c244b2 : (t644 == 0 && (t645 == 0)) = true := by simpa using c244))
                  clear c244
                  replace H := Option.bind_eq_some_iff.mp H
                  obtain ⟨t653, A2450, H⟩ := H
                  replace H : (some t653) = some r := H
                  have A245 := Aside0.mk A2450
                  clear A2450
                  obtain rfl := Option.some.inj H
                  have hnb246 := NB647_607.out
                  have hnc246 := NB607_647.out
                  have hnb247 := NB647_608.out
                  have hnc247 := NB608_647.out
                  have hnb248 := NB647_612.out
                  have hnc248 := NB612_647.out
                  have hnb249 := NB647_613.out
                  have hnc249 := NB613_647.out
                  have hnb250 := NB647_643.out
                  have hnc250 := NB643_647.out
                  have hnb251 := NB647_651.out
                  have hnc251 := NB651_647.out
                  have hcz252_0 : wc.cell? ⟨gb647, 0, none⟩ = some (.int .i64 t644) := bc BK647 0
                  have hcz252_1 : wc.cell? ⟨gb647, 1, none⟩ = some (.int .i64 t645) := bc BK647 1
                  have hfz252_0 := blk_frozen BK647.out 0
                  have hfz252_1 := blk_frozen BK647.out 1
                  go_wp2_with (first | (go_at_call 21; (with_reducible refine (remontoirlaw04_works.calls  t653 _ ?side1 A245.out).mono ?_); (case side1 => exact Go.Proofs.YtidnopmjhhmedaaDoor.Ways.below HWays.out (bl HB)); rintro e w253 ⟨rfl, hb⟩; replace HO_613007 := Aside0.mk (Kd.R_below (rk HO_613007) hb); replace HO_614007 := Aside0.mk (Kd.R_below (rk HO_614007) hb); replace BK607 := Aside0.mk (blk_below (bk BK607) hb); replace BK608 := Aside0.mk (blk_below (bk BK608) hb); replace BK612 := Aside0.mk (blk_below (bk BK612) hb); replace BK613 := Aside0.mk (blk_below (bk BK613) hb); replace BK643 := Aside0.mk (blk_below (bk BK643) hb); replace BK647 := Aside0.mk (blk_below (bk BK647) hb); replace BK651 := Aside0.mk (blk_below (bk BK651) hb); replace HB := Aside0.mk (below_step (bl HB) hb); (try clear hb); (try clear hb2); (try clear hk); (try clear hi)))
                  go_ret
                  exact ⟨by first | rfl | (simp [errW_none, errW_some] <;> rfl) | (simp [*, errW_none, errW_some] <;> rfl), by repeat (first | (with_reducible first | exact HB.out | apply below_alloc | apply pw_below_drewN | apply below_drew1 | refine below_set ?_ GE607.out | refine below_set ?_ GE608.out | refine below_set ?_ GE612.out | refine below_set ?_ GE613.out | refine below_set ?_ GE643.out | refine below_set ?_ GE647.out | refine below_set ?_ GE651.out) | exact HB.out)⟩
                 ·
                  rw [if_neg c244] at H
                  have c244b0 : (t644 == 0 && (t645 == 0)) = false := by simpa using c244
                  (try (have c244b1 : decide (t644 = 0 && (t645 == 0)) = false := by simpa using c244))
                  (try (have c244b2 : (t644 == 0 && (t645 == 0)) = false := by simpa using c244))
                  (try (have c244b3 : ¬ (t644 = 0 && (t645 == 0)) := by simpa using c244))
                  clear c244
                  obtain rfl := Option.some.inj H
                  have hnb254 := NB647_607.out
                  have hnc254 := NB607_647.out
                  have hnb255 := NB647_608.out
                  have hnc255 := NB608_647.out
                  have hnb256 := NB647_612.out
                  have hnc256 := NB612_647.out
                  have hnb257 := NB647_613.out
                  have hnc257 := NB613_647.out
                  have hnb258 := NB647_643.out
                  have hnc258 := NB643_647.out
                  have hnb259 := NB647_651.out
                  have hnc259 := NB651_647.out
                  have hcz260_0 : wc.cell? ⟨gb647, 0, none⟩ = some (.int .i64 t644) := bc BK647 0
                  have hcz260_1 : wc.cell? ⟨gb647, 1, none⟩ = some (.int .i64 t645) := bc BK647 1
                  have hfz260_0 := blk_frozen BK647.out 0
                  have hfz260_1 := blk_frozen BK647.out 1
                  go_wp2
                  go_ret
                  exact ⟨by first | rfl | (simp [errW_none, errW_some] <;> rfl) | (simp [*, errW_none, errW_some] <;> rfl), by repeat (first | (with_reducible first | exact HB.out | apply below_alloc | apply pw_below_drewN | apply below_drew1 | refine below_set ?_ GE607.out | refine below_set ?_ GE608.out | refine below_set ?_ GE612.out | refine below_set ?_ GE613.out | refine below_set ?_ GE643.out | refine below_set ?_ GE647.out | refine below_set ?_ GE651.out) | exact HB.out)⟩
                ·
                 rw [if_neg c243] at H
                 have c243b0 : (t646 == 42) = false := beq_eq_false_iff_ne.mpr c243
                 have c243b1 : (t646 != 42) = true := bne_iff_ne.mpr c243
                 obtain rfl := Option.some.inj H
                 go_wp2
                 go_ret
                 exact ⟨by first | rfl | (simp [errW_none, errW_some] <;> rfl) | (simp [*, errW_none, errW_some] <;> rfl), by repeat (first | (with_reducible first | exact HB.out | apply below_alloc | apply pw_below_drewN | apply below_drew1 | refine below_set ?_ GE607.out | refine below_set ?_ GE608.out | refine below_set ?_ GE612.out | refine below_set ?_ GE613.out | refine below_set ?_ GE643.out | refine below_set ?_ GE647.out | refine below_set ?_ GE651.out) | exact HB.out)⟩
     ·
      rw [if_neg c21] at H
      exact absurd H (by simp)
    ·
     rw [if_neg c20] at H
     exact absurd H (by simp)

end Go.Proofs.TrydX.X
end
