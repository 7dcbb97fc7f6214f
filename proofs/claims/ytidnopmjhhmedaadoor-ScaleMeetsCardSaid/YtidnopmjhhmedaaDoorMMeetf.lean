/- PROVED: ScaleMeetsCardSaid, for every input, where the listed variable reads as the program's text lays it. Part 6 of 6: of this session; merged by wip/tools/mkClaim.py. -/
import Derived.Test.YtidnopmjhhmedaaDoorMMeete
import Derived.Test.YtidnopmjhhmedaaDoorMMeetb
import Derived.Test.YtidnopmjhhmedaaDoorMMeetc
import Derived.Test.YtidnopmjhhmedaaDoorMMeetd
import Derived.Test.YtidnopmjhhmedaaDoorCards
import Derived.Test.YtidnopmjhhmedaaDoorTie
import Derived.WalkKit
import Derived.Below
import Derived.Carry
import Derived.SevenTiedAt
section
/- The chapter's examples work. Written by wip/tools/mkXW.py. -/
set_option linter.unusedSimpArgs false
set_option linter.unusedVariables false
namespace Go.Proofs.TrydX.X
open Go.RowKit Go.Proofs.YtidnopmjhhmedaaDoorW.PrintWords Go.Proofs.YtidnopmjhhmedaaDoorW.PrintLast
attribute [local go_sem] Oper.semAt_some

theorem ex_rule (w : World) : Calls Tryd.prog 53 #[] w fun e w' => e = .returned (.agg #[.int .i64 10, .int .i64 5, .int .i64 4, .int .i64 (-1), .int .i64 2]) ∧ Below w.heap.size w w' := remontoirlaw04_rule.calls 10 5 4 (-1) 2 w (by rfl)
theorem ex_reach (w : World) (hw : YtidnopmjhhmedaaDoor.Ways w) : Calls Tryd.prog 22 #[.agg #[.int .i64 10, .int .i64 5, .int .i64 4, .int .i64 (-1), .int .i64 2], .int .i64 5] w fun e w' => e = .returned (.tuple #[.agg #[.int .i64 (-23), .int .i64 34], .int .i64 0]) ∧ Below w.heap.size w w' :=
  scale_Reach.calls 10 5 4 (-1) 2 5 (-23) 34 0 w hw (by decide +kernel)
theorem ex_few (w : World) (hw : YtidnopmjhhmedaaDoor.Ways w) : Calls Tryd.prog 18 #[.agg #[.int .i64 10, .int .i64 5, .int .i64 4, .int .i64 (-1), .int .i64 2], .int .i64 20] w fun e w' => e = .returned (.tuple #[.int .i64 5, .int .i64 0]) ∧ Below w.heap.size w w' :=
  scale_Fewest.calls 10 5 4 (-1) 2 20 5 0 w hw (by decide +kernel)
theorem ex_plan (w : World) (hw : YtidnopmjhhmedaaDoor.Ways w) : Calls Tryd.prog 20 #[.agg #[.int .i64 10, .int .i64 5, .int .i64 4, .int .i64 (-1), .int .i64 2], .int .i64 (-20)] w fun e w' => ∃ A c, e = .returned (.tuple #[.slice A 4 c, .int .i64 0]) ∧ Below w.heap.size w w' := by
  refine (scale_Plan.calls 10 5 4 (-1) 2 (-20) [4, 6, 6, 4] 0 w hw (by decide +kernel)).mono ?_
  rintro e w' ⟨v, rfl, hv, hb⟩
  obtain ⟨A, c, rfl⟩ := Kd.V_slice hv
  exact ⟨A, c, rfl, hb⟩
theorem ex_isplan (A : Option Addr) (c : Nat) (w : World) (hw : YtidnopmjhhmedaaDoor.Ways w) (h : Kd.C (Kd.int .i64) w A 5 [-4, -5, -5, -4, -2]) (hc : 5 ≤ c) : Calls Tryd.prog 16 #[.agg #[.int .i64 10, .int .i64 5, .int .i64 4, .int .i64 (-1), .int .i64 2], .int .i64 20, .slice A 5 c] w fun e w' => e = .returned (.tuple #[.bool true, .int .i64 0]) ∧ Below w.heap.size w w' :=
  scale_IsPlan.calls 10 5 4 (-1) 2 20 A c [-4, -5, -5, -4, -2] true 0 w h hc hw (by decide +kernel)
theorem ex_shown (A : Option Addr) (c : Nat) (w : World) (hw : YtidnopmjhhmedaaDoor.Ways w) (h : Kd.C (Kd.int .i64) w A 2 [4, 8]) (hc : 2 ≤ c) : Calls Tryd.prog 24 #[.agg #[.int .i64 10, .int .i64 5, .int .i64 4, .int .i64 (-1), .int .i64 2], .int .i64 7000, .slice A 2 c] w fun e w' => ∃ A c, e = .returned (.tuple #[.slice A 3 c, .int .i64 0]) ∧ Kd.C (Kd.int .i64) w' A 3 [7000, 8004, 9012] ∧ 3 ≤ c ∧ Below w.heap.size w w' := by
  refine (scale_Shown.calls 10 5 4 (-1) 2 7000 A c [4, 8] [7000, 8004, 9012] 0 w h hc hw (by decide +kernel)).mono ?_
  rintro e w' ⟨v, rfl, hv, hb⟩
  obtain ⟨A, c, rfl⟩ := Kd.V_slice hv
  have := Kd.V_reads' hv
  exact ⟨A, c, rfl, this.2.2, this.2.1, hb⟩
theorem ex_book (w : World) : Calls Tryd.prog 52 #[.slice none 0 0] w fun e w' => ∃ A6 c6 A7 c7, e = .returned (.agg #[.int .i64 10, .int .i64 5, .int .i64 4, .int .i64 (-1), .int .i64 2, .int .i64 10, .slice A6 3 c6, .slice A7 2 c7]) ∧ Kd.C (Kd.int .i64) w' A6 3 [-4, -5, -4] ∧ 3 ≤ c6 ∧ Kd.C k71 w' A7 2 [⟨0, ⟨18, 22⟩⟩, ⟨6, ⟨-3, 4⟩⟩] ∧ 2 ≤ c7 ∧ Below w.heap.size w w' := by
  refine (remontoirlaw04_book.calls none 0 [] 10 5 4 (-1) 2 10 [-4, -5, -4] [⟨0, ⟨18, 22⟩⟩, ⟨6, ⟨-3, 4⟩⟩] w (Kd.C_nil _ _) (Nat.le_refl _) (by rfl)).mono ?_
  rintro e w' ⟨v6, v7, rfl, h6, h7, hb⟩
  obtain ⟨A6, c6, rfl⟩ := Kd.R_slice h6
  obtain ⟨A7, c7, rfl⟩ := Kd.R_slice h7
  have a6 := Kd.R_reads' h6
  have a7 := Kd.R_reads' h7
  exact ⟨A6, c6, A7, c7, rfl, a6.2.2, a6.2.1, a7.2.2, a7.2.1, hb⟩
theorem ex_err (A6 A7 : Option Addr) (c6 c7 : Nat) (w : World) (hw : YtidnopmjhhmedaaDoor.Ways w) (h6 : Kd.C (Kd.int .i64) w A6 3 [-4, -5, -4]) (hc6 : 3 ≤ c6) (h7 : Kd.C k71 w A7 2 [⟨0, ⟨18, 22⟩⟩, ⟨6, ⟨-3, 4⟩⟩]) (hc7 : 2 ≤ c7) : Calls Tryd.prog 27 #[.agg #[.int .i64 10, .int .i64 5, .int .i64 4, .int .i64 (-1), .int .i64 2, .int .i64 10, .slice A6 3 c6, .slice A7 2 c7], .int .i64 3] w fun e w' => e = .returned (.tuple #[.agg #[.int .i64 2, .int .i64 7], .int .i64 0]) ∧ Below w.heap.size w w' :=
  scale_Error.calls 10 5 4 (-1) 2 10 A6 c6 [-4, -5, -4] A7 c7 [⟨0, ⟨18, 22⟩⟩, ⟨6, ⟨-3, 4⟩⟩] 3 2 7 0 w h6 hc6 h7 hc7 hw (by decide +kernel)
theorem ex_stated (A6 A7 : Option Addr) (c6 c7 : Nat) (w : World) (hw : YtidnopmjhhmedaaDoor.Ways w) (h6 : Kd.C (Kd.int .i64) w A6 3 [-4, -5, -4]) (hc6 : 3 ≤ c6) (h7 : Kd.C k71 w A7 2 [⟨0, ⟨18, 22⟩⟩, ⟨6, ⟨-3, 4⟩⟩]) (hc7 : 2 ≤ c7) : Calls Tryd.prog 31 #[.agg #[.int .i64 10, .int .i64 5, .int .i64 4, .int .i64 (-1), .int .i64 2, .int .i64 10, .slice A6 3 c6, .slice A7 2 c7], .int .i64 10] w fun e w' => e = .returned (.tuple #[.int .i64 12, .int .i64 0]) ∧ Below w.heap.size w w' :=
  scale_Stated.calls 10 5 4 (-1) 2 10 A6 c6 [-4, -5, -4] A7 c7 [⟨0, ⟨18, 22⟩⟩, ⟨6, ⟨-3, 4⟩⟩] 10 12 0 w h6 hc6 h7 hc7 hw (by decide +kernel)
theorem ex_worst (A6 A7 : Option Addr) (c6 c7 : Nat) (w : World) (hw : YtidnopmjhhmedaaDoor.Ways w) (h6 : Kd.C (Kd.int .i64) w A6 3 [-4, -5, -4]) (hc6 : 3 ≤ c6) (h7 : Kd.C k71 w A7 2 [⟨0, ⟨18, 22⟩⟩, ⟨6, ⟨-3, 4⟩⟩]) (hc7 : 2 ≤ c7) : Calls Tryd.prog 33 #[.agg #[.int .i64 10, .int .i64 5, .int .i64 4, .int .i64 (-1), .int .i64 2, .int .i64 10, .slice A6 3 c6, .slice A7 2 c7]] w fun e w' => e = .returned (.tuple #[.int .i64 0, .int .i64 22, .int .i64 0]) ∧ Below w.heap.size w w' :=
  scale_Worst.calls 10 5 4 (-1) 2 10 A6 c6 [-4, -5, -4] A7 c7 [⟨0, ⟨18, 22⟩⟩, ⟨6, ⟨-3, 4⟩⟩] 0 22 0 w h6 hc6 h7 hc7 hw (by decide +kernel)
theorem ex_meets (A6 A7 : Option Addr) (c6 c7 : Nat) (w : World) (hw : YtidnopmjhhmedaaDoor.Ways w) (h6 : Kd.C (Kd.int .i64) w A6 3 [-4, -5, -4]) (hc6 : 3 ≤ c6) (h7 : Kd.C k71 w A7 2 [⟨0, ⟨18, 22⟩⟩, ⟨6, ⟨-3, 4⟩⟩]) (hc7 : 2 ≤ c7) : Calls Tryd.prog 35 #[.agg #[.int .i64 10, .int .i64 5, .int .i64 4, .int .i64 (-1), .int .i64 2, .int .i64 10, .slice A6 3 c6, .slice A7 2 c7]] w fun e w' => e = .returned (.tuple #[.int .i64 3, .int .i64 0, .int .i64 0]) ∧ Below w.heap.size w w' :=
  scale_Meets.calls 10 5 4 (-1) 2 10 A6 c6 [-4, -5, -4] A7 c7 [⟨0, ⟨18, 22⟩⟩, ⟨6, ⟨-3, 4⟩⟩] 3 0 0 w h6 hc6 h7 hc7 hw (by decide +kernel)
theorem ex_check (A6 A7 : Option Addr) (c6 c7 : Nat) (w : World) (hw : YtidnopmjhhmedaaDoor.Ways w) (h6 : Kd.C (Kd.int .i64) w A6 3 [-4, -5, -4]) (hc6 : 3 ≤ c6) (h7 : Kd.C k71 w A7 2 [⟨0, ⟨18, 22⟩⟩, ⟨6, ⟨-3, 4⟩⟩]) (hc7 : 2 ≤ c7) : Calls Tryd.prog 29 #[.agg #[.int .i64 10, .int .i64 5, .int .i64 4, .int .i64 (-1), .int .i64 2, .int .i64 10, .slice A6 3 c6, .slice A7 2 c7]] w fun e w' => e = .returned (.int .i64 0) ∧ Below w.heap.size w w' :=
  scale_Check.calls 10 5 4 (-1) 2 10 A6 c6 [-4, -5, -4] A7 c7 [⟨0, ⟨18, 22⟩⟩, ⟨6, ⟨-3, 4⟩⟩] 0 w h6 hc6 h7 hc7 hw (by decide +kernel)

theorem C_lit (w : World) (l : List Int) (e : TypeId) (hl : l.length ≤ 1000) : Kd.C (Kd.int .i64) (w.alloc (.cells (l.map (Value.int .i64)).toArray e)) (some ⟨w.heap.size, 0, none⟩) l.length l := by
  refine Kd.C_of_reads (d := (0 : Int)) (h1 := fun _ => rfl) ⟨rfl, by omega, fun _ => ⟨_, rfl, fun j hj => ?_⟩⟩
  rw [Addr.add_mid, cell_of_row _ _ _ _ _ _ (World.alloc_heap_new w _)]
  simp [List.getD_eq_getElem?_getD, hj]
/-- What stays known while the examples are compared. -/
structure WK (w : World) (A9 : Option Addr) (W : World) : Prop where
  c9 : Kd.C (Kd.int .i64) W A9 3 [7000, 8004, 9012]
  bel : Below w.heap.size w W
theorem WK.drew {w W : World} {A9 : Option Addr} (h : WK w A9 W) : WK w A9 W.drew := ⟨Kd.C_drew h.c9, h.bel.drew⟩
theorem WK.below {w W W1 : World} {A9 : Option Addr} (h : WK w A9 W) (hb : Below W.heap.size W W1) : WK w A9 W1 := ⟨Kd.C_below h.c9 hb, below_step h.bel hb⟩
theorem wk_call {w W W1 : World} {A9 : Option Addr} {B : Nat} (h : (W.cell? ⟨B, 0, none⟩ = some (.int .i64 (-23)) ∧ W.cell? ⟨B, 1, none⟩ = some (.int .i64 34)) ∧ WK w A9 W) (hb : Below W.heap.size W W1) :
    (W1.cell? ⟨B, 0, none⟩ = some (.int .i64 (-23)) ∧ W1.cell? ⟨B, 1, none⟩ = some (.int .i64 34)) ∧ WK w A9 W1 :=
  ⟨⟨YtidnopmjhhmedaaDoor.cell_below hb h.1.1, YtidnopmjhhmedaaDoor.cell_below hb h.1.2⟩, h.2.below hb⟩
theorem wk_alloc {w W : World} {A9 : Option Addr} {B : Nat} {o : Obj} (h : (W.cell? ⟨B, 0, none⟩ = some (.int .i64 (-23)) ∧ W.cell? ⟨B, 1, none⟩ = some (.int .i64 34)) ∧ WK w A9 W) :
    ((W.alloc o).cell? ⟨B, 0, none⟩ = some (.int .i64 (-23)) ∧ (W.alloc o).cell? ⟨B, 1, none⟩ = some (.int .i64 34)) ∧ WK w A9 (W.alloc o) := wk_call h ((Below.refl _ _).alloc (Nat.le_refl _) _)
theorem wk_drewN {w W : World} {A9 : Option Addr} {B n : Nat} (h : (W.cell? ⟨B, 0, none⟩ = some (.int .i64 (-23)) ∧ W.cell? ⟨B, 1, none⟩ = some (.int .i64 34)) ∧ WK w A9 W) :
    ((W.drewN n).cell? ⟨B, 0, none⟩ = some (.int .i64 (-23)) ∧ (W.drewN n).cell? ⟨B, 1, none⟩ = some (.int .i64 34)) ∧ WK w A9 (W.drewN n) := wk_call h (pw_below_drewN (Below.refl _ _) n)
theorem wb_call {w W W1 : World} {B : Nat} (h : (W.cell? ⟨B, 0, none⟩ = some (.int .i64 2) ∧ W.cell? ⟨B, 1, none⟩ = some (.int .i64 7)) ∧ Below w.heap.size w W) (hb : Below W.heap.size W W1) :
    (W1.cell? ⟨B, 0, none⟩ = some (.int .i64 2) ∧ W1.cell? ⟨B, 1, none⟩ = some (.int .i64 7)) ∧ Below w.heap.size w W1 :=
  ⟨⟨YtidnopmjhhmedaaDoor.cell_below hb h.1.1, YtidnopmjhhmedaaDoor.cell_below hb h.1.2⟩, below_step h.2 hb⟩
set_option maxRecDepth 100000 in
set_option maxHeartbeats 16000000 in
theorem works_calls (w : World) (hWays : YtidnopmjhhmedaaDoor.Ways w) : Calls Tryd.prog 21 #[] w fun e w' => e = .returned (.bool true) ∧ Below w.heap.size w w' := by
  have hB : Below w.heap.size w w := Below.refl _ _
  go_enter Tryd.func21, Tryd.ntmps21
  go_wp2_with fail
  refine (ex_rule _).mono ?_
  rintro e w1 ⟨rfl, hb⟩
  have hB1 := below_step (by repeat (first | (with_reducible first | exact hB | apply below_alloc | apply pw_below_drewN | apply below_drew1) | exact hB)) hb
  clear hb
  go_wp2_with fail
  refine (ex_reach _ (hWays.below (by repeat (first | (with_reducible first | exact hB1 | apply below_alloc | apply pw_below_drewN | apply below_drew1) | exact hB1)))).mono ?_
  rintro e w2 ⟨rfl, hb⟩
  have hB2 := below_step (by repeat (first | (with_reducible first | exact hB1 | apply below_alloc | apply pw_below_drewN | apply below_drew1) | exact hB1)) hb
  clear hb
  go_wp2_with fail
  refine (ex_rule _).mono ?_
  rintro e w3 ⟨rfl, hb⟩
  have hB3 := below_step (by repeat (first | (with_reducible first | exact hB2 | apply below_alloc | apply pw_below_drewN | apply below_drew1) | exact hB2)) hb
  have hq0_3 : w3.cell? ⟨w2.heap.size, 0, none⟩ = some (.int .i64 (-23)) := YtidnopmjhhmedaaDoor.cell_below hb (by first | exact hq0_2 | exact YtidnopmjhhmedaaDoor.cell_below ((Below.refl _ _).alloc (Nat.le_refl _) _) hq0_2 | (simp [go_sem]; done))
  have hq1_3 : w3.cell? ⟨w2.heap.size, 1, none⟩ = some (.int .i64 34) := YtidnopmjhhmedaaDoor.cell_below hb (by first | exact hq1_2 | exact YtidnopmjhhmedaaDoor.cell_below ((Below.refl _ _).alloc (Nat.le_refl _) _) hq1_2 | (simp [go_sem]; done))
  clear hb
  go_wp2_with fail
  refine (ex_few _ (hWays.below (by repeat (first | (with_reducible first | exact hB3 | apply below_alloc | apply pw_below_drewN | apply below_drew1) | exact hB3)))).mono ?_
  rintro e w4 ⟨rfl, hb⟩
  have hB4 := below_step (by repeat (first | (with_reducible first | exact hB3 | apply below_alloc | apply pw_below_drewN | apply below_drew1) | exact hB3)) hb
  have hq0_4 : w4.cell? ⟨w2.heap.size, 0, none⟩ = some (.int .i64 (-23)) := YtidnopmjhhmedaaDoor.cell_below hb (by first | exact hq0_3 | exact YtidnopmjhhmedaaDoor.cell_below ((Below.refl _ _).alloc (Nat.le_refl _) _) hq0_3 | (simp [go_sem]; done))
  have hq1_4 : w4.cell? ⟨w2.heap.size, 1, none⟩ = some (.int .i64 34) := YtidnopmjhhmedaaDoor.cell_below hb (by first | exact hq1_3 | exact YtidnopmjhhmedaaDoor.cell_below ((Below.refl _ _).alloc (Nat.le_refl _) _) hq1_3 | (simp [go_sem]; done))
  clear hb
  go_wp2_with fail
  refine (ex_rule _).mono ?_
  rintro e w5 ⟨rfl, hb⟩
  have hB5 := below_step (by repeat (first | (with_reducible first | exact hB4 | apply below_alloc | apply pw_below_drewN | apply below_drew1) | exact hB4)) hb
  have hq0_5 : w5.cell? ⟨w2.heap.size, 0, none⟩ = some (.int .i64 (-23)) := YtidnopmjhhmedaaDoor.cell_below hb (by first | exact hq0_4 | exact YtidnopmjhhmedaaDoor.cell_below ((Below.refl _ _).alloc (Nat.le_refl _) _) hq0_4 | (simp [go_sem]; done))
  have hq1_5 : w5.cell? ⟨w2.heap.size, 1, none⟩ = some (.int .i64 34) := YtidnopmjhhmedaaDoor.cell_below hb (by first | exact hq1_4 | exact YtidnopmjhhmedaaDoor.cell_below ((Below.refl _ _).alloc (Nat.le_refl _) _) hq1_4 | (simp [go_sem]; done))
  clear hb
  go_wp2_with fail
  refine (ex_plan _ (hWays.below (by repeat (first | (with_reducible first | exact hB5 | apply below_alloc | apply pw_below_drewN | apply below_drew1) | exact hB5)))).mono ?_
  rintro e w6 ⟨A5, c5, rfl, hb⟩
  have hB6 := below_step (by repeat (first | (with_reducible first | exact hB5 | apply below_alloc | apply pw_below_drewN | apply below_drew1) | exact hB5)) hb
  have hq0_6 : w6.cell? ⟨w2.heap.size, 0, none⟩ = some (.int .i64 (-23)) := YtidnopmjhhmedaaDoor.cell_below hb (by first | exact hq0_5 | exact YtidnopmjhhmedaaDoor.cell_below ((Below.refl _ _).alloc (Nat.le_refl _) _) hq0_5 | (simp [go_sem]; done))
  have hq1_6 : w6.cell? ⟨w2.heap.size, 1, none⟩ = some (.int .i64 34) := YtidnopmjhhmedaaDoor.cell_below hb (by first | exact hq1_5 | exact YtidnopmjhhmedaaDoor.cell_below ((Below.refl _ _).alloc (Nat.le_refl _) _) hq1_5 | (simp [go_sem]; done))
  clear hb
  go_wp2_with fail
  refine (ex_rule _).mono ?_
  rintro e w7 ⟨rfl, hb⟩
  have hB7 := below_step (by repeat (first | (with_reducible first | exact hB6 | apply below_alloc | apply pw_below_drewN | apply below_drew1) | exact hB6)) hb
  have hq0_7 : w7.cell? ⟨w2.heap.size, 0, none⟩ = some (.int .i64 (-23)) := YtidnopmjhhmedaaDoor.cell_below hb (by first | exact hq0_6 | exact YtidnopmjhhmedaaDoor.cell_below ((Below.refl _ _).alloc (Nat.le_refl _) _) hq0_6 | (simp [go_sem]; done))
  have hq1_7 : w7.cell? ⟨w2.heap.size, 1, none⟩ = some (.int .i64 34) := YtidnopmjhhmedaaDoor.cell_below hb (by first | exact hq1_6 | exact YtidnopmjhhmedaaDoor.cell_below ((Below.refl _ _).alloc (Nat.le_refl _) _) hq1_6 | (simp [go_sem]; done))
  clear hb
  go_wp2_with fail
  refine (ex_isplan _ _ _ (hWays.below (by repeat (first | (with_reducible first | exact hB7 | apply below_alloc | apply pw_below_drewN | apply below_drew1) | exact hB7))) (C_lit _ [-4, -5, -5, -4, -2] 3 (by decide)) (by decide)).mono ?_
  rintro e w8 ⟨rfl, hb⟩
  have hB8 := below_step (by repeat (first | (with_reducible first | exact hB7 | apply below_alloc | apply pw_below_drewN | apply below_drew1) | exact hB7)) hb
  have hq0_8 : w8.cell? ⟨w2.heap.size, 0, none⟩ = some (.int .i64 (-23)) := YtidnopmjhhmedaaDoor.cell_below hb (by first | exact hq0_7 | exact YtidnopmjhhmedaaDoor.cell_below ((Below.refl _ _).alloc (Nat.le_refl _) _) hq0_7 | (simp [go_sem]; done))
  have hq1_8 : w8.cell? ⟨w2.heap.size, 1, none⟩ = some (.int .i64 34) := YtidnopmjhhmedaaDoor.cell_below hb (by first | exact hq1_7 | exact YtidnopmjhhmedaaDoor.cell_below ((Below.refl _ _).alloc (Nat.le_refl _) _) hq1_7 | (simp [go_sem]; done))
  clear hb
  go_wp2_with fail
  refine (ex_rule _).mono ?_
  rintro e w9 ⟨rfl, hb⟩
  have hB9 := below_step (by repeat (first | (with_reducible first | exact hB8 | apply below_alloc | apply pw_below_drewN | apply below_drew1) | exact hB8)) hb
  have hq0_9 : w9.cell? ⟨w2.heap.size, 0, none⟩ = some (.int .i64 (-23)) := YtidnopmjhhmedaaDoor.cell_below hb (by first | exact hq0_8 | exact YtidnopmjhhmedaaDoor.cell_below ((Below.refl _ _).alloc (Nat.le_refl _) _) hq0_8 | (simp [go_sem]; done))
  have hq1_9 : w9.cell? ⟨w2.heap.size, 1, none⟩ = some (.int .i64 34) := YtidnopmjhhmedaaDoor.cell_below hb (by first | exact hq1_8 | exact YtidnopmjhhmedaaDoor.cell_below ((Below.refl _ _).alloc (Nat.le_refl _) _) hq1_8 | (simp [go_sem]; done))
  clear hb
  go_wp2_with fail
  refine (ex_shown _ _ _ (hWays.below (by repeat (first | (with_reducible first | exact hB9 | apply below_alloc | apply pw_below_drewN | apply below_drew1) | exact hB9))) (C_lit _ [4, 8] 3 (by decide)) (by decide)).mono ?_
  rintro e w10 ⟨A9, c9, rfl, h9, hc9, hb⟩
  have hB10 := below_step (by repeat (first | (with_reducible first | exact hB9 | apply below_alloc | apply pw_below_drewN | apply below_drew1) | exact hB9)) hb
  have hq0_10 : w10.cell? ⟨w2.heap.size, 0, none⟩ = some (.int .i64 (-23)) := YtidnopmjhhmedaaDoor.cell_below hb (by first | exact hq0_9 | exact YtidnopmjhhmedaaDoor.cell_below ((Below.refl _ _).alloc (Nat.le_refl _) _) hq0_9 | (simp [go_sem]; done))
  have hq1_10 : w10.cell? ⟨w2.heap.size, 1, none⟩ = some (.int .i64 34) := YtidnopmjhhmedaaDoor.cell_below hb (by first | exact hq1_9 | exact YtidnopmjhhmedaaDoor.cell_below ((Below.refl _ _).alloc (Nat.le_refl _) _) hq1_9 | (simp [go_sem]; done))
  clear hb
  go_wp2_with fail
  go_region_held3 (fun W : World => (W.cell? ⟨w2.heap.size, 0, none⟩ = some (.int .i64 (-23)) ∧ W.cell? ⟨w2.heap.size, 1, none⟩ = some (.int .i64 34)) ∧ WK w A9 W)
    (first | with_reducible exact wk_call (by assumption) (by assumption) | with_reducible exact wk_alloc (by assumption) | with_reducible exact wk_drewN (by assumption) | exact wk_alloc ⟨⟨by assumption, by assumption⟩, by assumption⟩ | exact ⟨⟨hq0_10, hq1_10⟩, (WK.mk h9 hB10).drew⟩ | assumption)
    (first | (go_at_call 49; refine (remontoirref00_To.calls _ _ _ _ _ rfl).mono ?_; rintro e wT ⟨rfl, hbT⟩) | (go_at_call 26; rename_i hx _ _; refine (remontoirref00_Alike.calls 10 _ _ [7000, 8004, 9012] _ _ [7000, 8004, 9012] true _ hx.2.c9 hc9 (by first | exact C_lit _ [7000, 8004, 9012] 3 (by decide) | exact Kd.C_below (C_lit _ [7000, 8004, 9012] 3 (by decide)) hbT) (by decide) (by decide +kernel)).mono ?_; rintro e w' ⟨rfl, ⟨nd, rfl⟩⟩))
  rename_i hh
  have hB0 := hh.2.bel
  clear hh h9 hc9 hq0_10 hq1_10 hB
  clear hB1 hB2 hB3 hB4 hB5 hB6 hB7 hB8 hB9 hB10
  have hB := hB0
  clear hB0
  go_wp2_with fail
  refine (ex_book _).mono ?_
  rintro e x1 ⟨B1, d1, C1, f1, rfl, g1, gc1, k1, kc1, hb⟩
  have hD1 := below_step (by repeat (first | (with_reducible first | exact hB | apply below_alloc | apply pw_below_drewN | apply below_drew1) | exact hB)) hb
  clear hb
  go_wp2_with fail
  refine (ex_err B1 C1 d1 f1 _ (hWays.below (by repeat (first | (with_reducible first | exact hD1 | apply below_alloc | apply pw_below_drewN | apply below_drew1) | exact hD1))) g1 gc1 k1 kc1).mono ?_
  rintro e x2 ⟨rfl, hb⟩
  have hD2 := below_step (by repeat (first | (with_reducible first | exact hD1 | apply below_alloc | apply pw_below_drewN | apply below_drew1) | exact hD1)) hb
  clear hb
  go_wp2_with fail
  refine (ex_book _).mono ?_
  rintro e x3 ⟨B3, d3, C3, f3, rfl, g3, gc3, k3, kc3, hb⟩
  have hD3 := below_step (by repeat (first | (with_reducible first | exact hD2 | apply below_alloc | apply pw_below_drewN | apply below_drew1) | exact hD2)) hb
  have hr0_3 : x3.cell? ⟨x2.heap.size, 0, none⟩ = some (.int .i64 2) := YtidnopmjhhmedaaDoor.cell_below hb (by first | exact hr0_2 | exact YtidnopmjhhmedaaDoor.cell_below ((Below.refl _ _).alloc (Nat.le_refl _) _) hr0_2 | (simp [go_sem]; done))
  have hr1_3 : x3.cell? ⟨x2.heap.size, 1, none⟩ = some (.int .i64 7) := YtidnopmjhhmedaaDoor.cell_below hb (by first | exact hr1_2 | exact YtidnopmjhhmedaaDoor.cell_below ((Below.refl _ _).alloc (Nat.le_refl _) _) hr1_2 | (simp [go_sem]; done))
  clear hb
  go_wp2_with fail
  refine (ex_stated B3 C3 d3 f3 _ (hWays.below (by repeat (first | (with_reducible first | exact hD3 | apply below_alloc | apply pw_below_drewN | apply below_drew1) | exact hD3))) g3 gc3 k3 kc3).mono ?_
  rintro e x4 ⟨rfl, hb⟩
  have hD4 := below_step (by repeat (first | (with_reducible first | exact hD3 | apply below_alloc | apply pw_below_drewN | apply below_drew1) | exact hD3)) hb
  have hr0_4 : x4.cell? ⟨x2.heap.size, 0, none⟩ = some (.int .i64 2) := YtidnopmjhhmedaaDoor.cell_below hb (by first | exact hr0_3 | exact YtidnopmjhhmedaaDoor.cell_below ((Below.refl _ _).alloc (Nat.le_refl _) _) hr0_3 | (simp [go_sem]; done))
  have hr1_4 : x4.cell? ⟨x2.heap.size, 1, none⟩ = some (.int .i64 7) := YtidnopmjhhmedaaDoor.cell_below hb (by first | exact hr1_3 | exact YtidnopmjhhmedaaDoor.cell_below ((Below.refl _ _).alloc (Nat.le_refl _) _) hr1_3 | (simp [go_sem]; done))
  clear hb
  go_wp2_with fail
  refine (ex_book _).mono ?_
  rintro e x5 ⟨B5, d5, C5, f5, rfl, g5, gc5, k5, kc5, hb⟩
  have hD5 := below_step (by repeat (first | (with_reducible first | exact hD4 | apply below_alloc | apply pw_below_drewN | apply below_drew1) | exact hD4)) hb
  have hr0_5 : x5.cell? ⟨x2.heap.size, 0, none⟩ = some (.int .i64 2) := YtidnopmjhhmedaaDoor.cell_below hb (by first | exact hr0_4 | exact YtidnopmjhhmedaaDoor.cell_below ((Below.refl _ _).alloc (Nat.le_refl _) _) hr0_4 | (simp [go_sem]; done))
  have hr1_5 : x5.cell? ⟨x2.heap.size, 1, none⟩ = some (.int .i64 7) := YtidnopmjhhmedaaDoor.cell_below hb (by first | exact hr1_4 | exact YtidnopmjhhmedaaDoor.cell_below ((Below.refl _ _).alloc (Nat.le_refl _) _) hr1_4 | (simp [go_sem]; done))
  clear hb
  go_wp2_with fail
  refine (ex_worst B5 C5 d5 f5 _ (hWays.below (by repeat (first | (with_reducible first | exact hD5 | apply below_alloc | apply pw_below_drewN | apply below_drew1) | exact hD5))) g5 gc5 k5 kc5).mono ?_
  rintro e x6 ⟨rfl, hb⟩
  have hD6 := below_step (by repeat (first | (with_reducible first | exact hD5 | apply below_alloc | apply pw_below_drewN | apply below_drew1) | exact hD5)) hb
  have hr0_6 : x6.cell? ⟨x2.heap.size, 0, none⟩ = some (.int .i64 2) := YtidnopmjhhmedaaDoor.cell_below hb (by first | exact hr0_5 | exact YtidnopmjhhmedaaDoor.cell_below ((Below.refl _ _).alloc (Nat.le_refl _) _) hr0_5 | (simp [go_sem]; done))
  have hr1_6 : x6.cell? ⟨x2.heap.size, 1, none⟩ = some (.int .i64 7) := YtidnopmjhhmedaaDoor.cell_below hb (by first | exact hr1_5 | exact YtidnopmjhhmedaaDoor.cell_below ((Below.refl _ _).alloc (Nat.le_refl _) _) hr1_5 | (simp [go_sem]; done))
  clear hb
  go_wp2_with fail
  refine (ex_book _).mono ?_
  rintro e x7 ⟨B7, d7, C7, f7, rfl, g7, gc7, k7, kc7, hb⟩
  have hD7 := below_step (by repeat (first | (with_reducible first | exact hD6 | apply below_alloc | apply pw_below_drewN | apply below_drew1) | exact hD6)) hb
  have hr0_7 : x7.cell? ⟨x2.heap.size, 0, none⟩ = some (.int .i64 2) := YtidnopmjhhmedaaDoor.cell_below hb (by first | exact hr0_6 | exact YtidnopmjhhmedaaDoor.cell_below ((Below.refl _ _).alloc (Nat.le_refl _) _) hr0_6 | (simp [go_sem]; done))
  have hr1_7 : x7.cell? ⟨x2.heap.size, 1, none⟩ = some (.int .i64 7) := YtidnopmjhhmedaaDoor.cell_below hb (by first | exact hr1_6 | exact YtidnopmjhhmedaaDoor.cell_below ((Below.refl _ _).alloc (Nat.le_refl _) _) hr1_6 | (simp [go_sem]; done))
  clear hb
  go_wp2_with fail
  refine (ex_meets B7 C7 d7 f7 _ (hWays.below (by repeat (first | (with_reducible first | exact hD7 | apply below_alloc | apply pw_below_drewN | apply below_drew1) | exact hD7))) g7 gc7 k7 kc7).mono ?_
  rintro e x8 ⟨rfl, hb⟩
  have hD8 := below_step (by repeat (first | (with_reducible first | exact hD7 | apply below_alloc | apply pw_below_drewN | apply below_drew1) | exact hD7)) hb
  have hr0_8 : x8.cell? ⟨x2.heap.size, 0, none⟩ = some (.int .i64 2) := YtidnopmjhhmedaaDoor.cell_below hb (by first | exact hr0_7 | exact YtidnopmjhhmedaaDoor.cell_below ((Below.refl _ _).alloc (Nat.le_refl _) _) hr0_7 | (simp [go_sem]; done))
  have hr1_8 : x8.cell? ⟨x2.heap.size, 1, none⟩ = some (.int .i64 7) := YtidnopmjhhmedaaDoor.cell_below hb (by first | exact hr1_7 | exact YtidnopmjhhmedaaDoor.cell_below ((Below.refl _ _).alloc (Nat.le_refl _) _) hr1_7 | (simp [go_sem]; done))
  clear hb
  go_wp2_with fail
  go_region_held3 (fun W : World => (W.cell? ⟨x2.heap.size, 0, none⟩ = some (.int .i64 2) ∧ W.cell? ⟨x2.heap.size, 1, none⟩ = some (.int .i64 7)) ∧ Below w.heap.size w W)
    (first | with_reducible exact wb_call (by assumption) (by assumption) | exact ⟨⟨hr0_8, hr1_8⟩, hD8.drew⟩ | assumption)
    (first | (go_at_call 49; refine (remontoirref00_To.calls _ _ _ _ _ rfl).mono ?_; rintro e wT ⟨rfl, hbT⟩) | (go_at_call 52; refine (ex_book _).mono ?_; rintro e wb ⟨A6, c6, A7, c7, rfl, h6, hc6, h7, hc7, hbb⟩) | (go_at_call 29; rename_i hx _ _; refine (ex_check A6 A7 c6 c7 _ (hWays.below hx.2) h6 hc6 h7 hc7).mono ?_; rintro e wc ⟨rfl, hbc⟩))
  rename_i hh
  go_wp2_with fail
  go_ret
  exact ⟨rfl, hh.2⟩

/-- What the print takes for the examples: they work. -/
def remontoirlaw04_works.f : Option Bool := some true
theorem remontoirlaw04_works.calls (r : Bool) (w : World) (hWays : Go.Proofs.YtidnopmjhhmedaaDoor.Ways w) (h : remontoirlaw04_works.f = some r) : Calls Tryd.prog 21 #[] w fun e w' => e = .returned (.bool r) ∧ Below w.heap.size w w' := by
  obtain rfl : true = r := Option.some.inj h
  exact works_calls w hWays

end Go.Proofs.TrydX.X
end

section
-- Written by wip/tools/pr.py (a program of this repo over the kit's print.py).
namespace Go.Proofs.TrydX.X
open Go.RowKit Go.Proofs.YtidnopmjhhmedaaDoorW.PrintWords Go.Proofs.YtidnopmjhhmedaaDoorW.PrintLast Go.Proofs.YtidnopmjhhmedaaDoorW.PrintMore
attribute [local go_sem] max2_int min2_int max_two min_two max_three min_three max_four min_four   -- for this text's walks alone
set_option linter.unusedVariables false
set_option linter.unusedSimpArgs false

/-! ### remontoirlaw04_ScaleMeets: function 6 -/
def remontoirlaw04_ScaleMeets.j0 : Nat → Bool → Int → Int → Int → Int → Int → Int → List Int → List (S71) → Option (Bool)
  | 0, _, _, _, _, _, _, _, _, _ => none
  | k + 1, x33, x303000, x303001, x303002, x303003, x303004, x303005, x303006, x303007 => if x33 = true then (some false) else ((scale_Meets.f x303000 x303001 x303002 x303003 x303004 x303005 x303006 x303007).bind fun bt309 => ((remontoirref04_Meets.f k x303000 x303001 x303002 x303003 x303004 x303005 x303006 x303007).bind fun bt312 => (if bt309.1 = bt312.1 then (if bt309.2.1 = bt312.2.1 then (if bt309.2.2 = bt312.2.2 then ((remontoirlaw04_works.f).bind fun t315 => (some t315)) else (some false)) else (some false)) else (some false))))
def remontoirlaw04_ScaleMeets.f (k : Nat) (a0_0 : Int) (a0_1 : Int) (a0_2 : Int) (a0_3 : Int) (a0_4 : Int) (a0_5 : Int) (l0_6 : List Int) (l0_7 : List (S71)) : Option (Bool) := (scale_Worst.f a0_0 a0_1 a0_2 a0_3 a0_4 a0_5 l0_6 l0_7).bind fun bt303 => ((remontoirref04_Worst.f k a0_0 a0_1 a0_2 a0_3 a0_4 a0_5 l0_6 l0_7).bind fun bt306 => (if bt303.1 = bt306.1 then (if bt303.2.1 = bt306.2.1 then (remontoirlaw04_ScaleMeets.j0 k (bt303.2.2 != bt306.2.2) a0_0 a0_1 a0_2 a0_3 a0_4 a0_5 l0_6 l0_7) else (remontoirlaw04_ScaleMeets.j0 k true a0_0 a0_1 a0_2 a0_3 a0_4 a0_5 l0_6 l0_7)) else (remontoirlaw04_ScaleMeets.j0 k true a0_0 a0_1 a0_2 a0_3 a0_4 a0_5 l0_6 l0_7)))
set_option maxHeartbeats 8000000 in
set_option maxRecDepth 100000 in
theorem remontoirlaw04_ScaleMeets.calls (k : Nat) (a0_0 : Int) (a0_1 : Int) (a0_2 : Int) (a0_3 : Int) (a0_4 : Int) (a0_5 : Int) (A0_6 : Option Addr) (c0_6 : Nat) (l0_6 : List Int) (A0_7 : Option Addr) (c0_7 : Nat) (l0_7 : List (S71)) (r : Bool) (w : World) (hr0_6 : Kd.C (Kd.int .i64) w A0_6 l0_6.length l0_6) (hc0_6 : l0_6.length ≤ c0_6) (hr0_7 : Kd.C k71 w A0_7 l0_7.length l0_7) (hc0_7 : l0_7.length ≤ c0_7) (hWays : Go.Proofs.YtidnopmjhhmedaaDoor.Ways w) (h : remontoirlaw04_ScaleMeets.f k a0_0 a0_1 a0_2 a0_3 a0_4 a0_5 l0_6 l0_7 = some r) :
    Calls Tryd.prog 6 #[.agg #[.int .i64 a0_0, .int .i64 a0_1, .int .i64 a0_2, .int .i64 a0_3, .int .i64 a0_4, .int .i64 a0_5, .slice A0_6 l0_6.length c0_6, .slice A0_7 l0_7.length c0_7]] w fun e w' => e = .returned (.bool r) ∧ Below w.heap.size w w' := by
  have hu44 := Tryd.underlying44
  have HR0_6 := Aside0.mk hr0_6
  have HC0_6 := Aside0.mk hc0_6
  clear hr0_6 hc0_6
  have HR0_7 := Aside0.mk hr0_7
  have HC0_7 := Aside0.mk hc0_7
  clear hr0_7 hc0_7
  have HB := Aside0.mk (Below.refl w.heap.size w)
  have HWays := Aside0.mk hWays
  clear hWays
  have H : ((scale_Worst.f a0_0 a0_1 a0_2 a0_3 a0_4 a0_5 l0_6 l0_7).bind fun bt303 => ((remontoirref04_Worst.f k a0_0 a0_1 a0_2 a0_3 a0_4 a0_5 l0_6 l0_7).bind fun bt306 => (if bt303.1 = bt306.1 then (if bt303.2.1 = bt306.2.1 then (remontoirlaw04_ScaleMeets.j0 k (bt303.2.2 != bt306.2.2) a0_0 a0_1 a0_2 a0_3 a0_4 a0_5 l0_6 l0_7) else (remontoirlaw04_ScaleMeets.j0 k true a0_0 a0_1 a0_2 a0_3 a0_4 a0_5 l0_6 l0_7)) else (remontoirlaw04_ScaleMeets.j0 k true a0_0 a0_1 a0_2 a0_3 a0_4 a0_5 l0_6 l0_7)))) = some r := h
  clear h
  replace H := Option.bind_eq_some_iff.mp H
  obtain ⟨⟨t303, t304, t305⟩, A20, H⟩ := H
  replace H : ((remontoirref04_Worst.f k a0_0 a0_1 a0_2 a0_3 a0_4 a0_5 l0_6 l0_7).bind fun bt306 => (if t303 = bt306.1 then (if t304 = bt306.2.1 then (remontoirlaw04_ScaleMeets.j0 k (t305 != bt306.2.2) a0_0 a0_1 a0_2 a0_3 a0_4 a0_5 l0_6 l0_7) else (remontoirlaw04_ScaleMeets.j0 k true a0_0 a0_1 a0_2 a0_3 a0_4 a0_5 l0_6 l0_7)) else (remontoirlaw04_ScaleMeets.j0 k true a0_0 a0_1 a0_2 a0_3 a0_4 a0_5 l0_6 l0_7))) = some r := H
  have A2 := Aside0.mk A20
  clear A20
  replace H := Option.bind_eq_some_iff.mp H
  obtain ⟨⟨t306, t307, t308⟩, A30, H⟩ := H
  replace H : (if t303 = t306 then (if t304 = t307 then (remontoirlaw04_ScaleMeets.j0 k (t305 != t308) a0_0 a0_1 a0_2 a0_3 a0_4 a0_5 l0_6 l0_7) else (remontoirlaw04_ScaleMeets.j0 k true a0_0 a0_1 a0_2 a0_3 a0_4 a0_5 l0_6 l0_7)) else (remontoirlaw04_ScaleMeets.j0 k true a0_0 a0_1 a0_2 a0_3 a0_4 a0_5 l0_6 l0_7)) = some r := H
  have A3 := Aside0.mk A30
  clear A30
  have HC4 := Aside0.mk H
  clear H
  go_enter Tryd.func6, Tryd.ntmps6
  go_upto_region 3 with (first | ((with_reducible refine gate_dst (N := 1) rfl ?_); refine box_event ?hg (N := 1) ?hd (cs := #[.int .i64 a0_0, .int .i64 a0_1, .int .i64 a0_2, .int .i64 a0_3, .int .i64 a0_4, .int .i64 a0_5, .slice A0_6 l0_6.length c0_6, .slice A0_7 l0_7.length c0_7]) (t := 44) ?hr ?_; (case hd => rfl); (case hg => rfl); (case hr => first | (go_simp; done) | (go_simp; rfl)); intro gb302 hg w5 hbox hb; have n0_ := Aside0.mk (below_step (by repeat (first | (with_reducible first | exact HB.out | apply below_alloc | apply pw_below_drewN | apply below_drew1) | exact HB.out)) hb); have n1_ := Aside0.mk (hbox); have n2_ := Aside0.mk ((by rw [hg]; exact (below_size (by repeat (first | (with_reducible first | exact HB.out | apply below_alloc | apply pw_below_drewN | apply below_drew1) | exact HB.out))) : w.heap.size ≤ gb302)); have n3_ := Aside0.mk ((by rw [hg]; exact (below_size (by repeat (first | (with_reducible first | exact HB.out | apply below_alloc | apply pw_below_drewN | apply below_drew1) | exact HB.out))) : w.heap.size ≤ gb302)); clear HB; have HB := n0_; have BK302 := n1_; have GW302 := n2_; have GE302 := n3_; clear n0_ n1_ n2_ n3_; clear hb hbox hg; have hcz6_0 : w5.cell? ⟨gb302, 0, none⟩ = some (.int .i64 a0_0) := (blk_cell BK302.out 0).trans rfl; have hcz6_1 : w5.cell? ⟨gb302, 1, none⟩ = some (.int .i64 a0_1) := (blk_cell BK302.out 1).trans rfl; have hcz6_2 : w5.cell? ⟨gb302, 2, none⟩ = some (.int .i64 a0_2) := (blk_cell BK302.out 2).trans rfl; have hcz6_3 : w5.cell? ⟨gb302, 3, none⟩ = some (.int .i64 a0_3) := (blk_cell BK302.out 3).trans rfl; have hcz6_4 : w5.cell? ⟨gb302, 4, none⟩ = some (.int .i64 a0_4) := (blk_cell BK302.out 4).trans rfl; have hcz6_5 : w5.cell? ⟨gb302, 5, none⟩ = some (.int .i64 a0_5) := (blk_cell BK302.out 5).trans rfl; have hcz6_6 : w5.cell? ⟨gb302, 6, none⟩ = some (.slice A0_6 l0_6.length c0_6) := (blk_cell BK302.out 6).trans rfl; have hcz6_7 : w5.cell? ⟨gb302, 7, none⟩ = some (.slice A0_7 l0_7.length c0_7) := (blk_cell BK302.out 7).trans rfl; have hfz6_0 := blk_frozen BK302.out 0; have hfz6_1 := blk_frozen BK302.out 1; have hfz6_2 := blk_frozen BK302.out 2; have hfz6_3 := blk_frozen BK302.out 3; have hfz6_4 := blk_frozen BK302.out 4; have hfz6_5 := blk_frozen BK302.out 5; have hfz6_6 := blk_frozen BK302.out 6; have hfz6_7 := blk_frozen BK302.out 7) | ((with_reducible refine gate_callee (f := 33) rfl ?_); refine goesL_ (some 11) rfl rfl Tryd.func33 (by kernel_rfl) rfl #[.agg #[.int .i64 a0_0, .int .i64 a0_1, .int .i64 a0_2, .int .i64 a0_3, .int .i64 a0_4, .int .i64 a0_5, .slice A0_6 l0_6.length c0_6, .slice A0_7 l0_7.length c0_7]] rfl (by (try simp only [List.map_toArray, List.map_cons, List.map_nil]); first | done | rfl | (simp only [List.length_drop, List.length_take]; rfl)) ?_; (with_reducible refine (scale_Worst.calls a0_0 a0_1 a0_2 a0_3 a0_4 a0_5 _ _ l0_6 _ _ l0_7 t303 t304 t305 _ ?side1 ?side2 ?side3 ?side4 ?side5 A2.out).mono ?_); (case side1 => repeat (first | exact (Kd.C_below HR0_6.out HB.out) | (with_reducible refine Kd.C_alloc ?_ _) | (with_reducible refine Kd.C_drewN ?_ _) | (with_reducible refine Kd.C_drew ?_))); (case side2 => exact HC0_6.out); (case side3 => repeat (first | exact (Kd.C_below HR0_7.out HB.out) | (with_reducible refine Kd.C_alloc ?_ _) | (with_reducible refine Kd.C_drewN ?_ _) | (with_reducible refine Kd.C_drew ?_))); (case side4 => exact HC0_7.out); (case side5 => exact Go.Proofs.YtidnopmjhhmedaaDoor.Ways.below HWays.out (by repeat (first | (with_reducible first | exact HB.out | apply below_alloc | apply pw_below_drewN | apply below_drew1 | refine below_set ?_ GE302.out) | exact HB.out))); rintro e w7 ⟨rfl, hb⟩; refine ⟨_, rfl, ?_⟩; have n0_ := Aside0.mk (blk_below (g := gb302) (o := .cells #[.int .i64 a0_0, .int .i64 a0_1, .int .i64 a0_2, .int .i64 a0_3, .int .i64 a0_4, .int .i64 a0_5, .slice A0_6 l0_6.length c0_6, .slice A0_7 l0_7.length c0_7] 44 (0, 0)) (by (with_reducible repeat (first | refine blk_drewN ?_ _ | refine blk_drew ?_ | refine blk_alloc ?_ _)); exact BK302.out) hb); have n1_ := Aside0.mk (below_step (by repeat (first | (with_reducible first | exact HB.out | apply below_alloc | apply pw_below_drewN | apply below_drew1 | refine below_set ?_ GE302.out) | exact HB.out)) hb); clear BK302; clear HB; have BK302 := n0_; have HB := n1_; clear n0_ n1_; (try clear hb); (try clear hb2); (try clear hk); (try clear hi); have hcz8_0 : w7.cell? ⟨gb302, 0, none⟩ = some (.int .i64 a0_0) := (blk_cell BK302.out 0).trans rfl; have hcz8_1 : w7.cell? ⟨gb302, 1, none⟩ = some (.int .i64 a0_1) := (blk_cell BK302.out 1).trans rfl; have hcz8_2 : w7.cell? ⟨gb302, 2, none⟩ = some (.int .i64 a0_2) := (blk_cell BK302.out 2).trans rfl; have hcz8_3 : w7.cell? ⟨gb302, 3, none⟩ = some (.int .i64 a0_3) := (blk_cell BK302.out 3).trans rfl; have hcz8_4 : w7.cell? ⟨gb302, 4, none⟩ = some (.int .i64 a0_4) := (blk_cell BK302.out 4).trans rfl; have hcz8_5 : w7.cell? ⟨gb302, 5, none⟩ = some (.int .i64 a0_5) := (blk_cell BK302.out 5).trans rfl; have hcz8_6 : w7.cell? ⟨gb302, 6, none⟩ = some (.slice A0_6 l0_6.length c0_6) := (blk_cell BK302.out 6).trans rfl; have hcz8_7 : w7.cell? ⟨gb302, 7, none⟩ = some (.slice A0_7 l0_7.length c0_7) := (blk_cell BK302.out 7).trans rfl; have hfz8_0 := blk_frozen BK302.out 0; have hfz8_1 := blk_frozen BK302.out 1; have hfz8_2 := blk_frozen BK302.out 2; have hfz8_3 := blk_frozen BK302.out 3; have hfz8_4 := blk_frozen BK302.out 4; have hfz8_5 := blk_frozen BK302.out 5; have hfz8_6 := blk_frozen BK302.out 6; have hfz8_7 := blk_frozen BK302.out 7) | ((with_reducible refine gate_callee (f := 34) rfl ?_); refine goesL_ (some 17) rfl rfl Tryd.func34 (by kernel_rfl) rfl #[.agg #[.int .i64 a0_0, .int .i64 a0_1, .int .i64 a0_2, .int .i64 a0_3, .int .i64 a0_4, .int .i64 a0_5, .slice A0_6 l0_6.length c0_6, .slice A0_7 l0_7.length c0_7]] rfl (by (try simp only [List.map_toArray, List.map_cons, List.map_nil]); first | done | rfl | (simp only [List.length_drop, List.length_take]; rfl)) ?_; (with_reducible refine (remontoirref04_Worst.calls k a0_0 a0_1 a0_2 a0_3 a0_4 a0_5 _ _ l0_6 _ _ l0_7 t306 t307 t308 _ ?side1 ?side2 ?side3 ?side4 A3.out).mono ?_); (case side1 => repeat (first | exact (Kd.C_below HR0_6.out HB.out) | (with_reducible refine Kd.C_alloc ?_ _) | (with_reducible refine Kd.C_drewN ?_ _) | (with_reducible refine Kd.C_drew ?_))); (case side2 => exact HC0_6.out); (case side3 => repeat (first | exact (Kd.C_below HR0_7.out HB.out) | (with_reducible refine Kd.C_alloc ?_ _) | (with_reducible refine Kd.C_drewN ?_ _) | (with_reducible refine Kd.C_drew ?_))); (case side4 => exact HC0_7.out); rintro e w9 ⟨rfl, hb⟩; refine ⟨_, rfl, ?_⟩; have n0_ := Aside0.mk (blk_below (g := gb302) (o := .cells #[.int .i64 a0_0, .int .i64 a0_1, .int .i64 a0_2, .int .i64 a0_3, .int .i64 a0_4, .int .i64 a0_5, .slice A0_6 l0_6.length c0_6, .slice A0_7 l0_7.length c0_7] 44 (0, 0)) (by (with_reducible repeat (first | refine blk_drewN ?_ _ | refine blk_drew ?_ | refine blk_alloc ?_ _)); exact BK302.out) hb); have n1_ := Aside0.mk (below_step (by repeat (first | (with_reducible first | exact HB.out | apply below_alloc | apply pw_below_drewN | apply below_drew1 | refine below_set ?_ GE302.out) | exact HB.out)) hb); clear BK302; clear HB; have BK302 := n0_; have HB := n1_; clear n0_ n1_; (try clear hb); (try clear hb2); (try clear hk); (try clear hi)))
  (try simp only [Act.put, List.setIfInBounds_toArray, List.set_cons_zero, List.set_cons_succ])
  go_cut [33] (fun v33 wc => ∃ (kq : Nat) (x33_3 : Bool), v33 = .bool x33_3 ∧ Aside0 (remontoirlaw04_ScaleMeets.j0 kq x33_3 a0_0 a0_1 a0_2 a0_3 a0_4 a0_5 l0_6 l0_7 = some r) ∧ Aside0 (kq ≤ k) ∧ Aside0 (wc.heap[gb302]? = some (.cells #[.int .i64 a0_0, .int .i64 a0_1, .int .i64 a0_2, .int .i64 a0_3, .int .i64 a0_4, .int .i64 a0_5, (.slice A0_6 l0_6.length c0_6), (.slice A0_7 l0_7.length c0_7)] 44 (0, 0))) ∧ Aside0 (Below w.heap.size w wc))
  case first =>
    have H := HC4.out
    clear HC4
    by_cases c10 : t303 = t306
    · rw [if_pos c10] at H
      have c10b0 : (t303 == t306) = true := beq_iff_eq.mpr c10
      have c10b1 : (t303 != t306) = false := bne_eq_false_iff_eq.mpr c10
      clear c10
      (first | rw [c10b0] | (simp only [i64_w, i32_w]; rw [c10b0]) | skip)
      by_cases c11 : t304 = t307
      · rw [if_pos c11] at H
        have c11b0 : (t304 == t307) = true := beq_iff_eq.mpr c11
        have c11b1 : (t304 != t307) = false := bne_eq_false_iff_eq.mpr c11
        clear c11
        have H' := Aside0.mk H
        clear H
        go_wp2
        go_meet
        case rel => exact ⟨_, ((t305 != t308)), (by first | rfl | (simp; done) | (simp [*]; done)), H', ⟨by first | omega | exact Nat.le_refl _⟩, ⟨by (with_reducible repeat (first | refine blk_drewN ?_ _ | refine blk_drew ?_ | refine blk_alloc ?_ _)); exact BK302.out⟩, ⟨by repeat (first | (with_reducible first | exact HB.out | apply below_alloc | apply pw_below_drewN | apply below_drew1 | refine below_set ?_ GE302.out) | exact HB.out)⟩⟩
      · rw [if_neg c11] at H
        have c11b0 : (t304 == t307) = false := beq_eq_false_iff_ne.mpr c11
        have c11b1 : (t304 != t307) = true := bne_iff_ne.mpr c11
        have H' := Aside0.mk H
        clear H
        go_wp2
        go_meet
        case rel => exact ⟨_, (true), (by first | rfl | (simp; done) | (simp [*]; done)), H', ⟨by first | omega | exact Nat.le_refl _⟩, ⟨by (with_reducible repeat (first | refine blk_drewN ?_ _ | refine blk_drew ?_ | refine blk_alloc ?_ _)); exact BK302.out⟩, ⟨by repeat (first | (with_reducible first | exact HB.out | apply below_alloc | apply pw_below_drewN | apply below_drew1 | refine below_set ?_ GE302.out) | exact HB.out)⟩⟩
    · rw [if_neg c10] at H
      have c10b0 : (t303 == t306) = false := beq_eq_false_iff_ne.mpr c10
      have c10b1 : (t303 != t306) = true := bne_iff_ne.mpr c10
      (first | rw [c10b0] | (simp only [i64_w, i32_w]; rw [c10b0]) | skip)
      have H' := Aside0.mk H
      clear H
      go_wp2
      go_meet
      case rel => exact ⟨_, (true), (by first | rfl | (simp; done) | (simp [*]; done)), H', ⟨by first | omega | exact Nat.le_refl _⟩, ⟨by (with_reducible repeat (first | refine blk_drewN ?_ _ | refine blk_drew ?_ | refine blk_alloc ?_ _)); exact BK302.out⟩, ⟨by repeat (first | (with_reducible first | exact HB.out | apply below_alloc | apply pw_below_drewN | apply below_drew1 | refine below_set ?_ GE302.out) | exact HB.out)⟩⟩
  case rest =>
    clear HC4
    try clear c1
    try clear p2
    try clear c3
    try clear c6
    try clear c10
    try clear c10b0
    try clear c10b1
    try clear c11
    try clear c11b0
    try clear c11b1
    try clear hcz6_0
    try clear hcz6_1
    try clear hcz6_2
    try clear hcz6_3
    try clear hcz6_4
    try clear hcz6_5
    try clear hcz6_6
    try clear hcz6_7
    try clear hcz8_0
    try clear hcz8_1
    try clear hcz8_2
    try clear hcz8_3
    try clear hcz8_4
    try clear hcz8_5
    try clear hcz8_6
    try clear hcz8_7
    try clear hfz6_0
    try clear hfz6_1
    try clear hfz6_2
    try clear hfz6_3
    try clear hfz6_4
    try clear hfz6_5
    try clear hfz6_6
    try clear hfz6_7
    try clear hfz8_0
    try clear hfz8_1
    try clear hfz8_2
    try clear hfz8_3
    try clear hfz8_4
    try clear hfz8_5
    try clear hfz8_6
    try clear hfz8_7
    obtain ⟨kq, x33_3, rfl, HA, HJ3, BK302, HB⟩ := hcut
    cases kq with
    | zero => exact absurd HA.out (by simp [remontoirlaw04_ScaleMeets.j0])
    | succ kj3 =>
      have H := HA.out
      clear HA
      simp only [remontoirlaw04_ScaleMeets.j0] at H
      by_cases c12 : x33_3 = true
      · subst c12
        have H1 : (some false) = some r := by rw [if_pos rfl] at H; exact H
        clear H
        have H := H1
        clear H1
        obtain rfl := Option.some.inj H
        go_wp2
        go_ret
        exact ⟨by first | rfl | (simp [errW_none, errW_some] <;> rfl) | (simp [*, errW_none, errW_some] <;> rfl), by repeat (first | (with_reducible first | exact HB.out | apply below_alloc | apply pw_below_drewN | apply below_drew1 | refine below_set ?_ GE302.out) | exact HB.out)⟩
      · replace c12 := Bool.eq_false_iff.mpr c12
        subst c12
        have H1 : ((scale_Meets.f a0_0 a0_1 a0_2 a0_3 a0_4 a0_5 l0_6 l0_7).bind fun bt309 => ((remontoirref04_Meets.f kj3 a0_0 a0_1 a0_2 a0_3 a0_4 a0_5 l0_6 l0_7).bind fun bt312 => (if bt309.1 = bt312.1 then (if bt309.2.1 = bt312.2.1 then (if bt309.2.2 = bt312.2.2 then ((remontoirlaw04_works.f).bind fun t315 => (some t315)) else (some false)) else (some false)) else (some false)))) = some r := by rw [if_neg (show ¬ (false = true) by decide)] at H; exact H
        clear H
        have H := H1
        clear H1
        replace H := Option.bind_eq_some_iff.mp H
        obtain ⟨⟨t309, t310, t311⟩, A130, H⟩ := H
        replace H : ((remontoirref04_Meets.f kj3 a0_0 a0_1 a0_2 a0_3 a0_4 a0_5 l0_6 l0_7).bind fun bt312 => (if t309 = bt312.1 then (if t310 = bt312.2.1 then (if t311 = bt312.2.2 then ((remontoirlaw04_works.f).bind fun t315 => (some t315)) else (some false)) else (some false)) else (some false))) = some r := H
        have A13 := Aside0.mk A130
        clear A130
        replace H := Option.bind_eq_some_iff.mp H
        obtain ⟨⟨t312, t313, t314⟩, A140, H⟩ := H
        replace H : (if t309 = t312 then (if t310 = t313 then (if t311 = t314 then ((remontoirlaw04_works.f).bind fun t315 => (some t315)) else (some false)) else (some false)) else (some false)) = some r := H
        have A14 := Aside0.mk A140
        clear A140
        by_cases c15 : t309 = t312
        · rw [if_pos c15] at H
          have c15b0 : (t309 == t312) = true := beq_iff_eq.mpr c15
          have c15b1 : (t309 != t312) = false := bne_eq_false_iff_eq.mpr c15
          clear c15
          by_cases c16 : t310 = t313
          · rw [if_pos c16] at H
            have c16b0 : (t310 == t313) = true := beq_iff_eq.mpr c16
            have c16b1 : (t310 != t313) = false := bne_eq_false_iff_eq.mpr c16
            clear c16
            by_cases c17 : t311 = t314
            · rw [if_pos c17] at H
              have c17b0 : (t311 == t314) = true := beq_iff_eq.mpr c17
              have c17b1 : (t311 != t314) = false := bne_eq_false_iff_eq.mpr c17
              clear c17
              replace H := Option.bind_eq_some_iff.mp H
              obtain ⟨t315, A180, H⟩ := H
              replace H : (some t315) = some r := H
              have A18 := Aside0.mk A180
              clear A180
              obtain rfl := Option.some.inj H
              have hcz19_0 : wc.cell? ⟨gb302, 0, none⟩ = some (.int .i64 a0_0) := (blk_cell BK302.out 0).trans rfl
              have hcz19_1 : wc.cell? ⟨gb302, 1, none⟩ = some (.int .i64 a0_1) := (blk_cell BK302.out 1).trans rfl
              have hcz19_2 : wc.cell? ⟨gb302, 2, none⟩ = some (.int .i64 a0_2) := (blk_cell BK302.out 2).trans rfl
              have hcz19_3 : wc.cell? ⟨gb302, 3, none⟩ = some (.int .i64 a0_3) := (blk_cell BK302.out 3).trans rfl
              have hcz19_4 : wc.cell? ⟨gb302, 4, none⟩ = some (.int .i64 a0_4) := (blk_cell BK302.out 4).trans rfl
              have hcz19_5 : wc.cell? ⟨gb302, 5, none⟩ = some (.int .i64 a0_5) := (blk_cell BK302.out 5).trans rfl
              have hcz19_6 : wc.cell? ⟨gb302, 6, none⟩ = some (.slice A0_6 l0_6.length c0_6) := (blk_cell BK302.out 6).trans rfl
              have hcz19_7 : wc.cell? ⟨gb302, 7, none⟩ = some (.slice A0_7 l0_7.length c0_7) := (blk_cell BK302.out 7).trans rfl
              have hfz19_0 := blk_frozen BK302.out 0
              have hfz19_1 := blk_frozen BK302.out 1
              have hfz19_2 := blk_frozen BK302.out 2
              have hfz19_3 := blk_frozen BK302.out 3
              have hfz19_4 := blk_frozen BK302.out 4
              have hfz19_5 := blk_frozen BK302.out 5
              have hfz19_6 := blk_frozen BK302.out 6
              have hfz19_7 := blk_frozen BK302.out 7
              go_wp2_with (first | ((with_reducible refine gate_callee (f := 35) rfl ?_); refine goesL_ (some 36) rfl rfl Tryd.func35 (by kernel_rfl) rfl #[.agg #[.int .i64 a0_0, .int .i64 a0_1, .int .i64 a0_2, .int .i64 a0_3, .int .i64 a0_4, .int .i64 a0_5, .slice A0_6 l0_6.length c0_6, .slice A0_7 l0_7.length c0_7]] rfl (by (try simp only [List.map_toArray, List.map_cons, List.map_nil]); first | done | rfl | (simp only [List.length_drop, List.length_take]; rfl)) ?_; (with_reducible refine (scale_Meets.calls a0_0 a0_1 a0_2 a0_3 a0_4 a0_5 _ _ l0_6 _ _ l0_7 t309 t310 t311 _ ?side1 ?side2 ?side3 ?side4 ?side5 A13.out).mono ?_); (case side1 => repeat (first | exact (Kd.C_below HR0_6.out HB.out) | (with_reducible refine Kd.C_alloc ?_ _) | (with_reducible refine Kd.C_drewN ?_ _) | (with_reducible refine Kd.C_drew ?_))); (case side2 => exact HC0_6.out); (case side3 => repeat (first | exact (Kd.C_below HR0_7.out HB.out) | (with_reducible refine Kd.C_alloc ?_ _) | (with_reducible refine Kd.C_drewN ?_ _) | (with_reducible refine Kd.C_drew ?_))); (case side4 => exact HC0_7.out); (case side5 => exact Go.Proofs.YtidnopmjhhmedaaDoor.Ways.below HWays.out (by repeat (first | (with_reducible first | exact HB.out | apply below_alloc | apply pw_below_drewN | apply below_drew1 | refine below_set ?_ GE302.out) | exact HB.out))); rintro e w20 ⟨rfl, hb⟩; refine ⟨_, rfl, ?_⟩; have n0_ := Aside0.mk (blk_below (g := gb302) (o := .cells #[.int .i64 a0_0, .int .i64 a0_1, .int .i64 a0_2, .int .i64 a0_3, .int .i64 a0_4, .int .i64 a0_5, .slice A0_6 l0_6.length c0_6, .slice A0_7 l0_7.length c0_7] 44 (0, 0)) (by (with_reducible repeat (first | refine blk_drewN ?_ _ | refine blk_drew ?_ | refine blk_alloc ?_ _)); exact BK302.out) hb); have n1_ := Aside0.mk (below_step (by repeat (first | (with_reducible first | exact HB.out | apply below_alloc | apply pw_below_drewN | apply below_drew1 | refine below_set ?_ GE302.out) | exact HB.out)) hb); clear BK302; clear HB; have BK302 := n0_; have HB := n1_; clear n0_ n1_; (try clear hb); (try clear hb2); (try clear hk); (try clear hi); have hcz21_0 : w20.cell? ⟨gb302, 0, none⟩ = some (.int .i64 a0_0) := (blk_cell BK302.out 0).trans rfl; have hcz21_1 : w20.cell? ⟨gb302, 1, none⟩ = some (.int .i64 a0_1) := (blk_cell BK302.out 1).trans rfl; have hcz21_2 : w20.cell? ⟨gb302, 2, none⟩ = some (.int .i64 a0_2) := (blk_cell BK302.out 2).trans rfl; have hcz21_3 : w20.cell? ⟨gb302, 3, none⟩ = some (.int .i64 a0_3) := (blk_cell BK302.out 3).trans rfl; have hcz21_4 : w20.cell? ⟨gb302, 4, none⟩ = some (.int .i64 a0_4) := (blk_cell BK302.out 4).trans rfl; have hcz21_5 : w20.cell? ⟨gb302, 5, none⟩ = some (.int .i64 a0_5) := (blk_cell BK302.out 5).trans rfl; have hcz21_6 : w20.cell? ⟨gb302, 6, none⟩ = some (.slice A0_6 l0_6.length c0_6) := (blk_cell BK302.out 6).trans rfl; have hcz21_7 : w20.cell? ⟨gb302, 7, none⟩ = some (.slice A0_7 l0_7.length c0_7) := (blk_cell BK302.out 7).trans rfl; have hfz21_0 := blk_frozen BK302.out 0; have hfz21_1 := blk_frozen BK302.out 1; have hfz21_2 := blk_frozen BK302.out 2; have hfz21_3 := blk_frozen BK302.out 3; have hfz21_4 := blk_frozen BK302.out 4; have hfz21_5 := blk_frozen BK302.out 5; have hfz21_6 := blk_frozen BK302.out 6; have hfz21_7 := blk_frozen BK302.out 7) | ((with_reducible refine gate_callee (f := 36) rfl ?_); refine goesL_ (some 42) rfl rfl Tryd.func36 (by kernel_rfl) rfl #[.agg #[.int .i64 a0_0, .int .i64 a0_1, .int .i64 a0_2, .int .i64 a0_3, .int .i64 a0_4, .int .i64 a0_5, .slice A0_6 l0_6.length c0_6, .slice A0_7 l0_7.length c0_7]] rfl (by (try simp only [List.map_toArray, List.map_cons, List.map_nil]); first | done | rfl | (simp only [List.length_drop, List.length_take]; rfl)) ?_; (with_reducible refine (remontoirref04_Meets.calls kj3 a0_0 a0_1 a0_2 a0_3 a0_4 a0_5 _ _ l0_6 _ _ l0_7 t312 t313 t314 _ ?side1 ?side2 ?side3 ?side4 A14.out).mono ?_); (case side1 => repeat (first | exact (Kd.C_below HR0_6.out HB.out) | (with_reducible refine Kd.C_alloc ?_ _) | (with_reducible refine Kd.C_drewN ?_ _) | (with_reducible refine Kd.C_drew ?_))); (case side2 => exact HC0_6.out); (case side3 => repeat (first | exact (Kd.C_below HR0_7.out HB.out) | (with_reducible refine Kd.C_alloc ?_ _) | (with_reducible refine Kd.C_drewN ?_ _) | (with_reducible refine Kd.C_drew ?_))); (case side4 => exact HC0_7.out); rintro e w22 ⟨rfl, hb⟩; refine ⟨_, rfl, ?_⟩; have n0_ := Aside0.mk (blk_below (g := gb302) (o := .cells #[.int .i64 a0_0, .int .i64 a0_1, .int .i64 a0_2, .int .i64 a0_3, .int .i64 a0_4, .int .i64 a0_5, .slice A0_6 l0_6.length c0_6, .slice A0_7 l0_7.length c0_7] 44 (0, 0)) (by (with_reducible repeat (first | refine blk_drewN ?_ _ | refine blk_drew ?_ | refine blk_alloc ?_ _)); exact BK302.out) hb); have n1_ := Aside0.mk (below_step (by repeat (first | (with_reducible first | exact HB.out | apply below_alloc | apply pw_below_drewN | apply below_drew1 | refine below_set ?_ GE302.out) | exact HB.out)) hb); clear BK302; clear HB; have BK302 := n0_; have HB := n1_; clear n0_ n1_; (try clear hb); (try clear hb2); (try clear hk); (try clear hi)) | (go_at_call 21; (with_reducible refine (remontoirlaw04_works.calls  t315 _ ?side1 A18.out).mono ?_); (case side1 => exact Go.Proofs.YtidnopmjhhmedaaDoor.Ways.below HWays.out (by repeat (first | (with_reducible first | exact HB.out | apply below_alloc | apply pw_below_drewN | apply below_drew1 | refine below_set ?_ GE302.out) | exact HB.out))); rintro e w23 ⟨rfl, hb⟩; have n0_ := Aside0.mk (blk_below (g := gb302) (o := .cells #[.int .i64 a0_0, .int .i64 a0_1, .int .i64 a0_2, .int .i64 a0_3, .int .i64 a0_4, .int .i64 a0_5, .slice A0_6 l0_6.length c0_6, .slice A0_7 l0_7.length c0_7] 44 (0, 0)) (by (with_reducible repeat (first | refine blk_drewN ?_ _ | refine blk_drew ?_ | refine blk_alloc ?_ _)); exact BK302.out) hb); have n1_ := Aside0.mk (below_step (by repeat (first | (with_reducible first | exact HB.out | apply below_alloc | apply pw_below_drewN | apply below_drew1 | refine below_set ?_ GE302.out) | exact HB.out)) hb); clear BK302; clear HB; have BK302 := n0_; have HB := n1_; clear n0_ n1_; (try clear hb); (try clear hb2); (try clear hk); (try clear hi)))
              go_ret
              exact ⟨by first | rfl | (simp [errW_none, errW_some] <;> rfl) | (simp [*, errW_none, errW_some] <;> rfl), by repeat (first | (with_reducible first | exact HB.out | apply below_alloc | apply pw_below_drewN | apply below_drew1 | refine below_set ?_ GE302.out) | exact HB.out)⟩
            · rw [if_neg c17] at H
              have c17b0 : (t311 == t314) = false := beq_eq_false_iff_ne.mpr c17
              have c17b1 : (t311 != t314) = true := bne_iff_ne.mpr c17
              obtain rfl := Option.some.inj H
              have hcz24_0 : wc.cell? ⟨gb302, 0, none⟩ = some (.int .i64 a0_0) := (blk_cell BK302.out 0).trans rfl
              have hcz24_1 : wc.cell? ⟨gb302, 1, none⟩ = some (.int .i64 a0_1) := (blk_cell BK302.out 1).trans rfl
              have hcz24_2 : wc.cell? ⟨gb302, 2, none⟩ = some (.int .i64 a0_2) := (blk_cell BK302.out 2).trans rfl
              have hcz24_3 : wc.cell? ⟨gb302, 3, none⟩ = some (.int .i64 a0_3) := (blk_cell BK302.out 3).trans rfl
              have hcz24_4 : wc.cell? ⟨gb302, 4, none⟩ = some (.int .i64 a0_4) := (blk_cell BK302.out 4).trans rfl
              have hcz24_5 : wc.cell? ⟨gb302, 5, none⟩ = some (.int .i64 a0_5) := (blk_cell BK302.out 5).trans rfl
              have hcz24_6 : wc.cell? ⟨gb302, 6, none⟩ = some (.slice A0_6 l0_6.length c0_6) := (blk_cell BK302.out 6).trans rfl
              have hcz24_7 : wc.cell? ⟨gb302, 7, none⟩ = some (.slice A0_7 l0_7.length c0_7) := (blk_cell BK302.out 7).trans rfl
              have hfz24_0 := blk_frozen BK302.out 0
              have hfz24_1 := blk_frozen BK302.out 1
              have hfz24_2 := blk_frozen BK302.out 2
              have hfz24_3 := blk_frozen BK302.out 3
              have hfz24_4 := blk_frozen BK302.out 4
              have hfz24_5 := blk_frozen BK302.out 5
              have hfz24_6 := blk_frozen BK302.out 6
              have hfz24_7 := blk_frozen BK302.out 7
              go_wp2_with (first | ((with_reducible refine gate_callee (f := 35) rfl ?_); refine goesL_ (some 36) rfl rfl Tryd.func35 (by kernel_rfl) rfl #[.agg #[.int .i64 a0_0, .int .i64 a0_1, .int .i64 a0_2, .int .i64 a0_3, .int .i64 a0_4, .int .i64 a0_5, .slice A0_6 l0_6.length c0_6, .slice A0_7 l0_7.length c0_7]] rfl (by (try simp only [List.map_toArray, List.map_cons, List.map_nil]); first | done | rfl | (simp only [List.length_drop, List.length_take]; rfl)) ?_; (with_reducible refine (scale_Meets.calls a0_0 a0_1 a0_2 a0_3 a0_4 a0_5 _ _ l0_6 _ _ l0_7 t309 t310 t311 _ ?side1 ?side2 ?side3 ?side4 ?side5 A13.out).mono ?_); (case side1 => repeat (first | exact (Kd.C_below HR0_6.out HB.out) | (with_reducible refine Kd.C_alloc ?_ _) | (with_reducible refine Kd.C_drewN ?_ _) | (with_reducible refine Kd.C_drew ?_))); (case side2 => exact HC0_6.out); (case side3 => repeat (first | exact (Kd.C_below HR0_7.out HB.out) | (with_reducible refine Kd.C_alloc ?_ _) | (with_reducible refine Kd.C_drewN ?_ _) | (with_reducible refine Kd.C_drew ?_))); (case side4 => exact HC0_7.out); (case side5 => exact Go.Proofs.YtidnopmjhhmedaaDoor.Ways.below HWays.out (by repeat (first | (with_reducible first | exact HB.out | apply below_alloc | apply pw_below_drewN | apply below_drew1 | refine below_set ?_ GE302.out) | exact HB.out))); rintro e w25 ⟨rfl, hb⟩; refine ⟨_, rfl, ?_⟩; have n0_ := Aside0.mk (blk_below (g := gb302) (o := .cells #[.int .i64 a0_0, .int .i64 a0_1, .int .i64 a0_2, .int .i64 a0_3, .int .i64 a0_4, .int .i64 a0_5, .slice A0_6 l0_6.length c0_6, .slice A0_7 l0_7.length c0_7] 44 (0, 0)) (by (with_reducible repeat (first | refine blk_drewN ?_ _ | refine blk_drew ?_ | refine blk_alloc ?_ _)); exact BK302.out) hb); have n1_ := Aside0.mk (below_step (by repeat (first | (with_reducible first | exact HB.out | apply below_alloc | apply pw_below_drewN | apply below_drew1 | refine below_set ?_ GE302.out) | exact HB.out)) hb); clear BK302; clear HB; have BK302 := n0_; have HB := n1_; clear n0_ n1_; (try clear hb); (try clear hb2); (try clear hk); (try clear hi); have hcz26_0 : w25.cell? ⟨gb302, 0, none⟩ = some (.int .i64 a0_0) := (blk_cell BK302.out 0).trans rfl; have hcz26_1 : w25.cell? ⟨gb302, 1, none⟩ = some (.int .i64 a0_1) := (blk_cell BK302.out 1).trans rfl; have hcz26_2 : w25.cell? ⟨gb302, 2, none⟩ = some (.int .i64 a0_2) := (blk_cell BK302.out 2).trans rfl; have hcz26_3 : w25.cell? ⟨gb302, 3, none⟩ = some (.int .i64 a0_3) := (blk_cell BK302.out 3).trans rfl; have hcz26_4 : w25.cell? ⟨gb302, 4, none⟩ = some (.int .i64 a0_4) := (blk_cell BK302.out 4).trans rfl; have hcz26_5 : w25.cell? ⟨gb302, 5, none⟩ = some (.int .i64 a0_5) := (blk_cell BK302.out 5).trans rfl; have hcz26_6 : w25.cell? ⟨gb302, 6, none⟩ = some (.slice A0_6 l0_6.length c0_6) := (blk_cell BK302.out 6).trans rfl; have hcz26_7 : w25.cell? ⟨gb302, 7, none⟩ = some (.slice A0_7 l0_7.length c0_7) := (blk_cell BK302.out 7).trans rfl; have hfz26_0 := blk_frozen BK302.out 0; have hfz26_1 := blk_frozen BK302.out 1; have hfz26_2 := blk_frozen BK302.out 2; have hfz26_3 := blk_frozen BK302.out 3; have hfz26_4 := blk_frozen BK302.out 4; have hfz26_5 := blk_frozen BK302.out 5; have hfz26_6 := blk_frozen BK302.out 6; have hfz26_7 := blk_frozen BK302.out 7) | ((with_reducible refine gate_callee (f := 36) rfl ?_); refine goesL_ (some 42) rfl rfl Tryd.func36 (by kernel_rfl) rfl #[.agg #[.int .i64 a0_0, .int .i64 a0_1, .int .i64 a0_2, .int .i64 a0_3, .int .i64 a0_4, .int .i64 a0_5, .slice A0_6 l0_6.length c0_6, .slice A0_7 l0_7.length c0_7]] rfl (by (try simp only [List.map_toArray, List.map_cons, List.map_nil]); first | done | rfl | (simp only [List.length_drop, List.length_take]; rfl)) ?_; (with_reducible refine (remontoirref04_Meets.calls kj3 a0_0 a0_1 a0_2 a0_3 a0_4 a0_5 _ _ l0_6 _ _ l0_7 t312 t313 t314 _ ?side1 ?side2 ?side3 ?side4 A14.out).mono ?_); (case side1 => repeat (first | exact (Kd.C_below HR0_6.out HB.out) | (with_reducible refine Kd.C_alloc ?_ _) | (with_reducible refine Kd.C_drewN ?_ _) | (with_reducible refine Kd.C_drew ?_))); (case side2 => exact HC0_6.out); (case side3 => repeat (first | exact (Kd.C_below HR0_7.out HB.out) | (with_reducible refine Kd.C_alloc ?_ _) | (with_reducible refine Kd.C_drewN ?_ _) | (with_reducible refine Kd.C_drew ?_))); (case side4 => exact HC0_7.out); rintro e w27 ⟨rfl, hb⟩; refine ⟨_, rfl, ?_⟩; have n0_ := Aside0.mk (blk_below (g := gb302) (o := .cells #[.int .i64 a0_0, .int .i64 a0_1, .int .i64 a0_2, .int .i64 a0_3, .int .i64 a0_4, .int .i64 a0_5, .slice A0_6 l0_6.length c0_6, .slice A0_7 l0_7.length c0_7] 44 (0, 0)) (by (with_reducible repeat (first | refine blk_drewN ?_ _ | refine blk_drew ?_ | refine blk_alloc ?_ _)); exact BK302.out) hb); have n1_ := Aside0.mk (below_step (by repeat (first | (with_reducible first | exact HB.out | apply below_alloc | apply pw_below_drewN | apply below_drew1 | refine below_set ?_ GE302.out) | exact HB.out)) hb); clear BK302; clear HB; have BK302 := n0_; have HB := n1_; clear n0_ n1_; (try clear hb); (try clear hb2); (try clear hk); (try clear hi)))
              go_ret
              exact ⟨by first | rfl | (simp [errW_none, errW_some] <;> rfl) | (simp [*, errW_none, errW_some] <;> rfl), by repeat (first | (with_reducible first | exact HB.out | apply below_alloc | apply pw_below_drewN | apply below_drew1 | refine below_set ?_ GE302.out) | exact HB.out)⟩
          · rw [if_neg c16] at H
            have c16b0 : (t310 == t313) = false := beq_eq_false_iff_ne.mpr c16
            have c16b1 : (t310 != t313) = true := bne_iff_ne.mpr c16
            obtain rfl := Option.some.inj H
            have hcz28_0 : wc.cell? ⟨gb302, 0, none⟩ = some (.int .i64 a0_0) := (blk_cell BK302.out 0).trans rfl
            have hcz28_1 : wc.cell? ⟨gb302, 1, none⟩ = some (.int .i64 a0_1) := (blk_cell BK302.out 1).trans rfl
            have hcz28_2 : wc.cell? ⟨gb302, 2, none⟩ = some (.int .i64 a0_2) := (blk_cell BK302.out 2).trans rfl
            have hcz28_3 : wc.cell? ⟨gb302, 3, none⟩ = some (.int .i64 a0_3) := (blk_cell BK302.out 3).trans rfl
            have hcz28_4 : wc.cell? ⟨gb302, 4, none⟩ = some (.int .i64 a0_4) := (blk_cell BK302.out 4).trans rfl
            have hcz28_5 : wc.cell? ⟨gb302, 5, none⟩ = some (.int .i64 a0_5) := (blk_cell BK302.out 5).trans rfl
            have hcz28_6 : wc.cell? ⟨gb302, 6, none⟩ = some (.slice A0_6 l0_6.length c0_6) := (blk_cell BK302.out 6).trans rfl
            have hcz28_7 : wc.cell? ⟨gb302, 7, none⟩ = some (.slice A0_7 l0_7.length c0_7) := (blk_cell BK302.out 7).trans rfl
            have hfz28_0 := blk_frozen BK302.out 0
            have hfz28_1 := blk_frozen BK302.out 1
            have hfz28_2 := blk_frozen BK302.out 2
            have hfz28_3 := blk_frozen BK302.out 3
            have hfz28_4 := blk_frozen BK302.out 4
            have hfz28_5 := blk_frozen BK302.out 5
            have hfz28_6 := blk_frozen BK302.out 6
            have hfz28_7 := blk_frozen BK302.out 7
            go_wp2_with (first | ((with_reducible refine gate_callee (f := 35) rfl ?_); refine goesL_ (some 36) rfl rfl Tryd.func35 (by kernel_rfl) rfl #[.agg #[.int .i64 a0_0, .int .i64 a0_1, .int .i64 a0_2, .int .i64 a0_3, .int .i64 a0_4, .int .i64 a0_5, .slice A0_6 l0_6.length c0_6, .slice A0_7 l0_7.length c0_7]] rfl (by (try simp only [List.map_toArray, List.map_cons, List.map_nil]); first | done | rfl | (simp only [List.length_drop, List.length_take]; rfl)) ?_; (with_reducible refine (scale_Meets.calls a0_0 a0_1 a0_2 a0_3 a0_4 a0_5 _ _ l0_6 _ _ l0_7 t309 t310 t311 _ ?side1 ?side2 ?side3 ?side4 ?side5 A13.out).mono ?_); (case side1 => repeat (first | exact (Kd.C_below HR0_6.out HB.out) | (with_reducible refine Kd.C_alloc ?_ _) | (with_reducible refine Kd.C_drewN ?_ _) | (with_reducible refine Kd.C_drew ?_))); (case side2 => exact HC0_6.out); (case side3 => repeat (first | exact (Kd.C_below HR0_7.out HB.out) | (with_reducible refine Kd.C_alloc ?_ _) | (with_reducible refine Kd.C_drewN ?_ _) | (with_reducible refine Kd.C_drew ?_))); (case side4 => exact HC0_7.out); (case side5 => exact Go.Proofs.YtidnopmjhhmedaaDoor.Ways.below HWays.out (by repeat (first | (with_reducible first | exact HB.out | apply below_alloc | apply pw_below_drewN | apply below_drew1 | refine below_set ?_ GE302.out) | exact HB.out))); rintro e w29 ⟨rfl, hb⟩; refine ⟨_, rfl, ?_⟩; have n0_ := Aside0.mk (blk_below (g := gb302) (o := .cells #[.int .i64 a0_0, .int .i64 a0_1, .int .i64 a0_2, .int .i64 a0_3, .int .i64 a0_4, .int .i64 a0_5, .slice A0_6 l0_6.length c0_6, .slice A0_7 l0_7.length c0_7] 44 (0, 0)) (by (with_reducible repeat (first | refine blk_drewN ?_ _ | refine blk_drew ?_ | refine blk_alloc ?_ _)); exact BK302.out) hb); have n1_ := Aside0.mk (below_step (by repeat (first | (with_reducible first | exact HB.out | apply below_alloc | apply pw_below_drewN | apply below_drew1 | refine below_set ?_ GE302.out) | exact HB.out)) hb); clear BK302; clear HB; have BK302 := n0_; have HB := n1_; clear n0_ n1_; (try clear hb); (try clear hb2); (try clear hk); (try clear hi); have hcz30_0 : w29.cell? ⟨gb302, 0, none⟩ = some (.int .i64 a0_0) := (blk_cell BK302.out 0).trans rfl; have hcz30_1 : w29.cell? ⟨gb302, 1, none⟩ = some (.int .i64 a0_1) := (blk_cell BK302.out 1).trans rfl; have hcz30_2 : w29.cell? ⟨gb302, 2, none⟩ = some (.int .i64 a0_2) := (blk_cell BK302.out 2).trans rfl; have hcz30_3 : w29.cell? ⟨gb302, 3, none⟩ = some (.int .i64 a0_3) := (blk_cell BK302.out 3).trans rfl; have hcz30_4 : w29.cell? ⟨gb302, 4, none⟩ = some (.int .i64 a0_4) := (blk_cell BK302.out 4).trans rfl; have hcz30_5 : w29.cell? ⟨gb302, 5, none⟩ = some (.int .i64 a0_5) := (blk_cell BK302.out 5).trans rfl; have hcz30_6 : w29.cell? ⟨gb302, 6, none⟩ = some (.slice A0_6 l0_6.length c0_6) := (blk_cell BK302.out 6).trans rfl; have hcz30_7 : w29.cell? ⟨gb302, 7, none⟩ = some (.slice A0_7 l0_7.length c0_7) := (blk_cell BK302.out 7).trans rfl; have hfz30_0 := blk_frozen BK302.out 0; have hfz30_1 := blk_frozen BK302.out 1; have hfz30_2 := blk_frozen BK302.out 2; have hfz30_3 := blk_frozen BK302.out 3; have hfz30_4 := blk_frozen BK302.out 4; have hfz30_5 := blk_frozen BK302.out 5; have hfz30_6 := blk_frozen BK302.out 6; have hfz30_7 := blk_frozen BK302.out 7) | ((with_reducible refine gate_callee (f := 36) rfl ?_); refine goesL_ (some 42) rfl rfl Tryd.func36 (by kernel_rfl) rfl #[.agg #[.int .i64 a0_0, .int .i64 a0_1, .int .i64 a0_2, .int .i64 a0_3, .int .i64 a0_4, .int .i64 a0_5, .slice A0_6 l0_6.length c0_6, .slice A0_7 l0_7.length c0_7]] rfl (by (try simp only [List.map_toArray, List.map_cons, List.map_nil]); first | done | rfl | (simp only [List.length_drop, List.length_take]; rfl)) ?_; (with_reducible refine (remontoirref04_Meets.calls kj3 a0_0 a0_1 a0_2 a0_3 a0_4 a0_5 _ _ l0_6 _ _ l0_7 t312 t313 t314 _ ?side1 ?side2 ?side3 ?side4 A14.out).mono ?_); (case side1 => repeat (first | exact (Kd.C_below HR0_6.out HB.out) | (with_reducible refine Kd.C_alloc ?_ _) | (with_reducible refine Kd.C_drewN ?_ _) | (with_reducible refine Kd.C_drew ?_))); (case side2 => exact HC0_6.out); (case side3 => repeat (first | exact (Kd.C_below HR0_7.out HB.out) | (with_reducible refine Kd.C_alloc ?_ _) | (with_reducible refine Kd.C_drewN ?_ _) | (with_reducible refine Kd.C_drew ?_))); (case side4 => exact HC0_7.out); rintro e w31 ⟨rfl, hb⟩; refine ⟨_, rfl, ?_⟩; have n0_ := Aside0.mk (blk_below (g := gb302) (o := .cells #[.int .i64 a0_0, .int .i64 a0_1, .int .i64 a0_2, .int .i64 a0_3, .int .i64 a0_4, .int .i64 a0_5, .slice A0_6 l0_6.length c0_6, .slice A0_7 l0_7.length c0_7] 44 (0, 0)) (by (with_reducible repeat (first | refine blk_drewN ?_ _ | refine blk_drew ?_ | refine blk_alloc ?_ _)); exact BK302.out) hb); have n1_ := Aside0.mk (below_step (by repeat (first | (with_reducible first | exact HB.out | apply below_alloc | apply pw_below_drewN | apply below_drew1 | refine below_set ?_ GE302.out) | exact HB.out)) hb); clear BK302; clear HB; have BK302 := n0_; have HB := n1_; clear n0_ n1_; (try clear hb); (try clear hb2); (try clear hk); (try clear hi)))
            go_ret
            exact ⟨by first | rfl | (simp [errW_none, errW_some] <;> rfl) | (simp [*, errW_none, errW_some] <;> rfl), by repeat (first | (with_reducible first | exact HB.out | apply below_alloc | apply pw_below_drewN | apply below_drew1 | refine below_set ?_ GE302.out) | exact HB.out)⟩
        · rw [if_neg c15] at H
          have c15b0 : (t309 == t312) = false := beq_eq_false_iff_ne.mpr c15
          have c15b1 : (t309 != t312) = true := bne_iff_ne.mpr c15
          obtain rfl := Option.some.inj H
          have hcz32_0 : wc.cell? ⟨gb302, 0, none⟩ = some (.int .i64 a0_0) := (blk_cell BK302.out 0).trans rfl
          have hcz32_1 : wc.cell? ⟨gb302, 1, none⟩ = some (.int .i64 a0_1) := (blk_cell BK302.out 1).trans rfl
          have hcz32_2 : wc.cell? ⟨gb302, 2, none⟩ = some (.int .i64 a0_2) := (blk_cell BK302.out 2).trans rfl
          have hcz32_3 : wc.cell? ⟨gb302, 3, none⟩ = some (.int .i64 a0_3) := (blk_cell BK302.out 3).trans rfl
          have hcz32_4 : wc.cell? ⟨gb302, 4, none⟩ = some (.int .i64 a0_4) := (blk_cell BK302.out 4).trans rfl
          have hcz32_5 : wc.cell? ⟨gb302, 5, none⟩ = some (.int .i64 a0_5) := (blk_cell BK302.out 5).trans rfl
          have hcz32_6 : wc.cell? ⟨gb302, 6, none⟩ = some (.slice A0_6 l0_6.length c0_6) := (blk_cell BK302.out 6).trans rfl
          have hcz32_7 : wc.cell? ⟨gb302, 7, none⟩ = some (.slice A0_7 l0_7.length c0_7) := (blk_cell BK302.out 7).trans rfl
          have hfz32_0 := blk_frozen BK302.out 0
          have hfz32_1 := blk_frozen BK302.out 1
          have hfz32_2 := blk_frozen BK302.out 2
          have hfz32_3 := blk_frozen BK302.out 3
          have hfz32_4 := blk_frozen BK302.out 4
          have hfz32_5 := blk_frozen BK302.out 5
          have hfz32_6 := blk_frozen BK302.out 6
          have hfz32_7 := blk_frozen BK302.out 7
          go_wp2_with (first | ((with_reducible refine gate_callee (f := 35) rfl ?_); refine goesL_ (some 36) rfl rfl Tryd.func35 (by kernel_rfl) rfl #[.agg #[.int .i64 a0_0, .int .i64 a0_1, .int .i64 a0_2, .int .i64 a0_3, .int .i64 a0_4, .int .i64 a0_5, .slice A0_6 l0_6.length c0_6, .slice A0_7 l0_7.length c0_7]] rfl (by (try simp only [List.map_toArray, List.map_cons, List.map_nil]); first | done | rfl | (simp only [List.length_drop, List.length_take]; rfl)) ?_; (with_reducible refine (scale_Meets.calls a0_0 a0_1 a0_2 a0_3 a0_4 a0_5 _ _ l0_6 _ _ l0_7 t309 t310 t311 _ ?side1 ?side2 ?side3 ?side4 ?side5 A13.out).mono ?_); (case side1 => repeat (first | exact (Kd.C_below HR0_6.out HB.out) | (with_reducible refine Kd.C_alloc ?_ _) | (with_reducible refine Kd.C_drewN ?_ _) | (with_reducible refine Kd.C_drew ?_))); (case side2 => exact HC0_6.out); (case side3 => repeat (first | exact (Kd.C_below HR0_7.out HB.out) | (with_reducible refine Kd.C_alloc ?_ _) | (with_reducible refine Kd.C_drewN ?_ _) | (with_reducible refine Kd.C_drew ?_))); (case side4 => exact HC0_7.out); (case side5 => exact Go.Proofs.YtidnopmjhhmedaaDoor.Ways.below HWays.out (by repeat (first | (with_reducible first | exact HB.out | apply below_alloc | apply pw_below_drewN | apply below_drew1 | refine below_set ?_ GE302.out) | exact HB.out))); rintro e w33 ⟨rfl, hb⟩; refine ⟨_, rfl, ?_⟩; have n0_ := Aside0.mk (blk_below (g := gb302) (o := .cells #[.int .i64 a0_0, .int .i64 a0_1, .int .i64 a0_2, .int .i64 a0_3, .int .i64 a0_4, .int .i64 a0_5, .slice A0_6 l0_6.length c0_6, .slice A0_7 l0_7.length c0_7] 44 (0, 0)) (by (with_reducible repeat (first | refine blk_drewN ?_ _ | refine blk_drew ?_ | refine blk_alloc ?_ _)); exact BK302.out) hb); have n1_ := Aside0.mk (below_step (by repeat (first | (with_reducible first | exact HB.out | apply below_alloc | apply pw_below_drewN | apply below_drew1 | refine below_set ?_ GE302.out) | exact HB.out)) hb); clear BK302; clear HB; have BK302 := n0_; have HB := n1_; clear n0_ n1_; (try clear hb); (try clear hb2); (try clear hk); (try clear hi); have hcz34_0 : w33.cell? ⟨gb302, 0, none⟩ = some (.int .i64 a0_0) := (blk_cell BK302.out 0).trans rfl; have hcz34_1 : w33.cell? ⟨gb302, 1, none⟩ = some (.int .i64 a0_1) := (blk_cell BK302.out 1).trans rfl; have hcz34_2 : w33.cell? ⟨gb302, 2, none⟩ = some (.int .i64 a0_2) := (blk_cell BK302.out 2).trans rfl; have hcz34_3 : w33.cell? ⟨gb302, 3, none⟩ = some (.int .i64 a0_3) := (blk_cell BK302.out 3).trans rfl; have hcz34_4 : w33.cell? ⟨gb302, 4, none⟩ = some (.int .i64 a0_4) := (blk_cell BK302.out 4).trans rfl; have hcz34_5 : w33.cell? ⟨gb302, 5, none⟩ = some (.int .i64 a0_5) := (blk_cell BK302.out 5).trans rfl; have hcz34_6 : w33.cell? ⟨gb302, 6, none⟩ = some (.slice A0_6 l0_6.length c0_6) := (blk_cell BK302.out 6).trans rfl; have hcz34_7 : w33.cell? ⟨gb302, 7, none⟩ = some (.slice A0_7 l0_7.length c0_7) := (blk_cell BK302.out 7).trans rfl; have hfz34_0 := blk_frozen BK302.out 0; have hfz34_1 := blk_frozen BK302.out 1; have hfz34_2 := blk_frozen BK302.out 2; have hfz34_3 := blk_frozen BK302.out 3; have hfz34_4 := blk_frozen BK302.out 4; have hfz34_5 := blk_frozen BK302.out 5; have hfz34_6 := blk_frozen BK302.out 6; have hfz34_7 := blk_frozen BK302.out 7) | ((with_reducible refine gate_callee (f := 36) rfl ?_); refine goesL_ (some 42) rfl rfl Tryd.func36 (by kernel_rfl) rfl #[.agg #[.int .i64 a0_0, .int .i64 a0_1, .int .i64 a0_2, .int .i64 a0_3, .int .i64 a0_4, .int .i64 a0_5, .slice A0_6 l0_6.length c0_6, .slice A0_7 l0_7.length c0_7]] rfl (by (try simp only [List.map_toArray, List.map_cons, List.map_nil]); first | done | rfl | (simp only [List.length_drop, List.length_take]; rfl)) ?_; (with_reducible refine (remontoirref04_Meets.calls kj3 a0_0 a0_1 a0_2 a0_3 a0_4 a0_5 _ _ l0_6 _ _ l0_7 t312 t313 t314 _ ?side1 ?side2 ?side3 ?side4 A14.out).mono ?_); (case side1 => repeat (first | exact (Kd.C_below HR0_6.out HB.out) | (with_reducible refine Kd.C_alloc ?_ _) | (with_reducible refine Kd.C_drewN ?_ _) | (with_reducible refine Kd.C_drew ?_))); (case side2 => exact HC0_6.out); (case side3 => repeat (first | exact (Kd.C_below HR0_7.out HB.out) | (with_reducible refine Kd.C_alloc ?_ _) | (with_reducible refine Kd.C_drewN ?_ _) | (with_reducible refine Kd.C_drew ?_))); (case side4 => exact HC0_7.out); rintro e w35 ⟨rfl, hb⟩; refine ⟨_, rfl, ?_⟩; have n0_ := Aside0.mk (blk_below (g := gb302) (o := .cells #[.int .i64 a0_0, .int .i64 a0_1, .int .i64 a0_2, .int .i64 a0_3, .int .i64 a0_4, .int .i64 a0_5, .slice A0_6 l0_6.length c0_6, .slice A0_7 l0_7.length c0_7] 44 (0, 0)) (by (with_reducible repeat (first | refine blk_drewN ?_ _ | refine blk_drew ?_ | refine blk_alloc ?_ _)); exact BK302.out) hb); have n1_ := Aside0.mk (below_step (by repeat (first | (with_reducible first | exact HB.out | apply below_alloc | apply pw_below_drewN | apply below_drew1 | refine below_set ?_ GE302.out) | exact HB.out)) hb); clear BK302; clear HB; have BK302 := n0_; have HB := n1_; clear n0_ n1_; (try clear hb); (try clear hb2); (try clear hk); (try clear hi)))
          go_ret
          exact ⟨by first | rfl | (simp [errW_none, errW_some] <;> rfl) | (simp [*, errW_none, errW_some] <;> rfl), by repeat (first | (with_reducible first | exact HB.out | apply below_alloc | apply pw_below_drewN | apply below_drew1 | refine below_set ?_ GE302.out) | exact HB.out)⟩

end Go.Proofs.TrydX.X
end

section
/- Plain: a plan that is filled up to a level is a plan. -/
set_option linter.unusedSimpArgs false
set_option linter.unusedVariables false
namespace Go.Proofs.YtidnopmjhhmedaaDoor
open Go.RowKit

theorem fewFrom_spec (F S J off : Int) (d : Nat) : ∀ t : Nat, (fewFrom F S J off d t = -1 ∧ ∀ s, t ≤ s → s < t + d → enoughB F S J off s = false) ∨
    ∃ n : Nat, fewFrom F S J off d t = n ∧ t ≤ n ∧ n < t + d ∧ enoughB F S J off n = true ∧ ∀ s, t ≤ s → s < n → enoughB F S J off s = false := by
  induction d with
  | zero => intro t; exact .inl ⟨rfl, fun s h1 h2 => by omega⟩
  | succ d ih =>
    intro t
    by_cases h : enoughB F S J off t = true
    · refine .inr ⟨t, ?_, Nat.le_refl _, by omega, h, fun s h1 h2 => by omega⟩
      simp [fewFrom, h]
    · have hs : fewFrom F S J off (d + 1) t = fewFrom F S J off d (t + 1) := by simp [fewFrom, h]
      rw [hs]
      rcases ih (t + 1) with ⟨h1, h2⟩ | ⟨n, h1, h2, h3, h4, h5⟩
      · refine .inl ⟨h1, fun s h3 h4 => ?_⟩
        rcases Nat.eq_or_lt_of_le h3 with rfl | h6
        · simpa using h
        · exact h2 s h6 (by omega)
      · refine .inr ⟨n, h1, by omega, by omega, h4, fun s h6 h7 => ?_⟩
        rcases Nat.eq_or_lt_of_le h6 with rfl | h8
        · simpa using h
        · exact h5 s h8 h7
theorem fewest_spec (F S J off : Int) : (fewest F S J off = -1 ∧ ∀ s, s ≤ 200 → enoughB F S J off s = false) ∨
    ∃ n : Nat, fewest F S J off = n ∧ n ≤ 200 ∧ enoughB F S J off n = true ∧ ∀ s, s < n → enoughB F S J off s = false := by
  rcases fewFrom_spec F S J off 201 0 with ⟨h1, h2⟩ | ⟨n, h1, h2, h3, h4, h5⟩
  · exact .inl ⟨h1, fun s hs => h2 s (Nat.zero_le _) (by omega)⟩
  · exact .inr ⟨n, h1, by omega, h4, fun s hs => h5 s (Nat.zero_le _) hs⟩

end Go.Proofs.YtidnopmjhhmedaaDoor
end

section
-- Written by wip/tools/pr.py (a program of this repo over the kit's print.py).
namespace Go.Proofs.TrydX.X
open Go.RowKit Go.Proofs.YtidnopmjhhmedaaDoorW.PrintWords Go.Proofs.YtidnopmjhhmedaaDoorW.PrintLast Go.Proofs.YtidnopmjhhmedaaDoorW.PrintMore
attribute [local go_sem] max2_int min2_int max_two min_two max_three min_three max_four min_four   -- for this text's walks alone
set_option linter.unusedVariables false
set_option linter.unusedSimpArgs false

end Go.Proofs.TrydX.X
end

section
-- Written by wip/tools/pr.py (a program of this repo over the kit's print.py).
namespace Go.Proofs.TrydX.X
open Go.RowKit Go.Proofs.YtidnopmjhhmedaaDoorW.PrintWords Go.Proofs.YtidnopmjhhmedaaDoorW.PrintLast Go.Proofs.YtidnopmjhhmedaaDoorW.PrintMore
attribute [local go_sem] max2_int min2_int max_two min_two max_three min_three max_four min_four   -- for this text's walks alone
set_option linter.unusedVariables false
set_option linter.unusedSimpArgs false

end Go.Proofs.TrydX.X
end

section
-- Written by wip/tools/pr.py (a program of this repo over the kit's print.py).
namespace Go.Proofs.TrydX.X
open Go.RowKit Go.Proofs.YtidnopmjhhmedaaDoorW.PrintWords Go.Proofs.YtidnopmjhhmedaaDoorW.PrintLast Go.Proofs.YtidnopmjhhmedaaDoorW.PrintMore
attribute [local go_sem] max2_int min2_int max_two min_two max_three min_three max_four min_four   -- for this text's walks alone
set_option linter.unusedVariables false
set_option linter.unusedSimpArgs false

end Go.Proofs.TrydX.X
end

section
-- Written by wip/tools/pr.py (a program of this repo over the kit's print.py).
namespace Go.Proofs.TrydX.X
open Go.RowKit Go.Proofs.YtidnopmjhhmedaaDoorW.PrintWords Go.Proofs.YtidnopmjhhmedaaDoorW.PrintLast Go.Proofs.YtidnopmjhhmedaaDoorW.PrintMore
attribute [local go_sem] max2_int min2_int max_two min_two max_three min_three max_four min_four   -- for this text's walks alone
set_option linter.unusedVariables false
set_option linter.unusedSimpArgs false

end Go.Proofs.TrydX.X
end

section
-- Written by wip/tools/pr.py (a program of this repo over the kit's print.py).
namespace Go.Proofs.TrydX.X
open Go.RowKit Go.Proofs.YtidnopmjhhmedaaDoorW.PrintWords Go.Proofs.YtidnopmjhhmedaaDoorW.PrintLast Go.Proofs.YtidnopmjhhmedaaDoorW.PrintMore
attribute [local go_sem] max2_int min2_int max_two min_two max_three min_three max_four min_four   -- for this text's walks alone
set_option linter.unusedVariables false
set_option linter.unusedSimpArgs false

end Go.Proofs.TrydX.X
end

section
/- Plain: what the reference's functions of chapter 04 tell, in the hand's own words. -/
set_option linter.unusedSimpArgs false
set_option linter.unusedVariables false
namespace Go.Proofs.TrydX.X
open Go.RowKit Go.Proofs.YtidnopmjhhmedaaDoorW.PrintWords Go.Proofs.YtidnopmjhhmedaaDoorW.PrintLast
open Go.Proofs.YtidnopmjhhmedaaDoor

theorem wr {x : Int} (h : -9223372036854775808 ≤ x ∧ x ≤ 9223372036854775807) : wrap64 x = x := IntWalk.wrap64_in x h
theorem lies_f (n a b : Int) : remontoirref00_Lies.f n a b = some (lies n a b) := by
  unfold remontoirref00_Lies.f lies
  by_cases h : a ≤ n <;> simp [h]
theorem valid_f (a b l h : Int) : remontoirref00_Valid.f a b l h = some (decide (a ≤ b) && decide (l ≤ a) && decide (b ≤ h)) := by
  unfold remontoirref00_Valid.f
  by_cases h1 : a ≤ b <;> by_cases h2 : l ≤ a <;> simp [h1, h2]
theorem checkRule_f (F S J L H : Int) : remontoirref04_checkRule.f F S J L H = some (isRuleB F S J L H) := by
  unfold remontoirref04_checkRule.f isRuleB
  simp only [lies_f, valid_f, Option.bind_some]
  cases lies F 0 500 <;> cases lies S 0 500 <;> cases lies J 1 500 <;> simp
  by_cases h1 : L ≤ H <;> by_cases h2 : -100 ≤ L <;> simp [h1, h2]
theorem drop_rd (l : List Int) (i : Nat) (h : i < l.length) : l.drop i = rd l i :: l.drop (i + 1) := by
  rw [List.drop_eq_getElem_cons h]; simp [rd, h]
theorem keeps_l0 {F S J L H : Int} (hr : isRuleB F S J L H = true) (l : List Int) (hl : l.length ≤ 17592186044416) (d : Nat) : ∀ (k i : Nat) (last : Int), i + d = l.length → d < k → -500 ≤ last ∧ last ≤ 500 →
    remontoirref04_keeps.l0 k l last i F S J L H = some (keepsB F S J last (l.drop i)) := by
  obtain ⟨hF, hS, hJ, _⟩ := isRuleB_spec hr
  induction d with
  | zero =>
    intro k i last hi hk _
    obtain ⟨k, rfl⟩ : ∃ m, k = m + 1 := ⟨k - 1, by omega⟩
    simp only [remontoirref04_keeps.l0]
    rw [if_neg (by omega), List.drop_eq_nil_of_le (by omega)]; rfl
  | succ d ih =>
    intro k i last hi hk hla
    obtain ⟨k, rfl⟩ : ∃ m, k = m + 1 := ⟨k - 1, by omega⟩
    simp only [remontoirref04_keeps.l0]
    rw [if_pos (by omega), if_pos (by omega), drop_rd l i (by omega)]
    simp only [lies_f, Option.bind_some, keepsB]
    rw [wr (x := -S) (by omega), wr (x := last - J) (by omega), wr (x := last + J) (by omega), wr (x := (i : Int) + 1) (by omega)]
    cases h1 : lies (rd l i) (-S) F
    · simp
    · have h1' := lies_iff.1 h1
      have h2 : lies (rd l i) (last - J) (last + J) = lies (rd l i - last) (-J) J := by
        rw [Bool.eq_iff_iff, lies_iff, lies_iff]; omega
      rw [h2]
      cases h3 : lies (rd l i - last) (-J) J
      · simp
      · have := ih k (i + 1) (rd l i) (by omega) (by omega) (by omega)
        simpa using this
theorem keeps_f {F S J L H : Int} (hr : isRuleB F S J L H = true) (l : List Int) (hl : l.length ≤ 17592186044416) (k : Nat) (hk : l.length < k) : remontoirref04_keeps.f k F S J L H l = some (keepsB F S J 0 l) := by
  have := keeps_l0 hr l hl l.length k 0 0 (by omega) hk (by omega)
  simpa [remontoirref04_keeps.f] using this
theorem size_f (n : Int) (h : -9223372036854775807 ≤ n) (h2 : n ≤ 9223372036854775807) : remontoirref00_Size.f n = some (if n < 0 then -n else n) := by
  unfold remontoirref00_Size.f
  by_cases hn : n < 0
  · rw [if_pos hn, if_pos hn, wr (by omega)]
  · rw [if_neg hn, if_neg hn]
theorem has_f (a b n : Int) : remontoirref00_Has.f a b n = some (lies n a b) := by
  unfold remontoirref00_Has.f
  rw [lies_f]; rfl
theorem mul_bd {a b : Int} (h0 : 0 ≤ a ∧ a ≤ 500) (h1 : 0 ≤ b ∧ b ≤ 100000) : 0 ≤ a * b ∧ a * b ≤ 50000000 := by
  have h2 : 0 ≤ a * b := Int.mul_nonneg h0.1 h1.1
  have h3 : a * b ≤ 500 * 100000 := Int.mul_le_mul h0.2 h1.2 h1.1 (by omega)
  omega
theorem mn_eq (a b : Int) : mn a b = min a b := by unfold mn; omega
theorem mx_eq (a b : Int) : mx a b = max a b := by unfold mx; omega
theorem capsTo_sum (each J : Int) (t k : Nat) : sumL (capsTo each J t (k + 1)) = sumL (capsTo each J t k) + capAt each J t k := by
  rw [capsTo_succ, sumL_append]; simp [sumL]
theorem most_l0 {each J : Int} {t : Nat} (he : 0 ≤ each ∧ each ≤ 500) (hJ : 1 ≤ J ∧ J ≤ 500) (ht : t ≤ 201) (d : Nat) : ∀ (k i : Nat), i + d = t → d < k →
    remontoirref04_most.l0 k t each J (sumL (capsTo each J t i)) ((i : Int) + 1) = some (capSum each J t) := by
  induction d with
  | zero =>
    intro k i hi hk
    obtain ⟨k, rfl⟩ : ∃ m, k = m + 1 := ⟨k - 1, by omega⟩
    simp only [remontoirref04_most.l0]
    rw [if_neg (by omega)]
    obtain rfl : i = t := by omega
    rfl
  | succ d ih =>
    intro k i hi hk
    obtain ⟨k, rfl⟩ : ∃ m, k = m + 1 := ⟨k - 1, by omega⟩
    simp only [remontoirref04_most.l0]
    rw [if_pos (by omega)]
    have h1 := mul_bd (a := J) (b := (i : Int) + 1) (by omega) (by omega)
    have h2 := mul_bd (a := J) (b := (t : Int) - i) (by omega) (by omega)
    have hs := sumL_bd (capsTo each J t i) (fun x hx => by
      have : x ∈ caps each J t := (capsTo_prefix each J t i (by omega)).subset hx
      exact caps_bd he.1 he.2 hJ.1 x this)
    have hlen : (capsTo each J t i).length = i := by simp [capsTo]
    rw [hlen] at hs
    have hc := capAt_bd (ticks := t) (k := i) he.1 he.2 hJ.1 (by omega)
    rw [wr (x := (t : Int) + 1) (by omega), wr (x := (t : Int) + 1 - ((i : Int) + 1)) (by omega), show (t : Int) + 1 - ((i : Int) + 1) = (t : Int) - i by omega,
      wr (x := J * ((i : Int) + 1)) (by omega), wr (x := J * ((t : Int) - i)) (by omega), wr (x := (i : Int) + 1 + 1) (by omega), mn_eq, mn_eq]
    change remontoirref04_most.l0 k t each J (wrap64 (sumL (capsTo each J t i) + capAt each J t i)) _ = _
    rw [wr (x := sumL (capsTo each J t i) + capAt each J t i) (by omega), ← capsTo_sum]
    exact ih k (i + 1) (by omega) (by omega)
theorem most_f {each J : Int} {t : Nat} (he : 0 ≤ each ∧ each ≤ 500) (hJ : 1 ≤ J ∧ J ≤ 500) (ht : t ≤ 201) (k : Nat) (hk : t < k) : remontoirref04_most.f k t each J = some (capSum each J t) := by
  have := most_l0 (t := t) he hJ ht t k 0 (by omega) hk
  simpa [remontoirref04_most.f, capsTo, sumL] using this
theorem capSum_bd' {each J : Int} {t : Nat} (he : 0 ≤ each ∧ each ≤ 500) (hJ : 1 ≤ J) (ht : t ≤ 201) : 0 ≤ capSum each J t ∧ capSum each J t ≤ 200000 := by
  have h := sumL_bd (caps each J t) (caps_bd he.1 he.2 hJ)
  simp [caps] at h
  unfold capSum caps
  omega
theorem reach_f {F S J L H : Int} {t : Nat} (hr : isRuleB F S J L H = true) (ht : t ≤ 201) (k : Nat) (hk : t < k) : remontoirref04_reach.f k F S J L H t = some (-(capSum S J t), capSum F J t) := by
  obtain ⟨hF, hS, hJ, _⟩ := isRuleB_spec hr
  unfold remontoirref04_reach.f
  rw [most_f hS hJ ht k hk, most_f hF hJ ht k hk]
  have := capSum_bd' (t := t) hS hJ.1 ht
  simp only [Option.bind_some, remontoirref00_To.f]
  rw [wr (x := -(capSum S J t)) (by omega)]
/-- What can be reached in the first so many numbers of ticks. -/
def reachL (F S J : Int) (n : Nat) : List S23 := (List.range n).map fun t => ⟨-(capSum S J t), capSum F J t⟩
theorem reaches_l0 {F S J L H : Int} (hr : isRuleB F S J L H = true) (d : Nat) : ∀ (k i : Nat), i + d = 201 → 201 + d < k → remontoirref04_reaches.l0 k (reachL F S J i) i F S J L H = some (reachL F S J 201) := by
  induction d with
  | zero =>
    intro k i hi hk
    obtain ⟨k, rfl⟩ : ∃ m, k = m + 1 := ⟨k - 1, by omega⟩
    simp only [remontoirref04_reaches.l0]
    rw [if_neg (by omega)]
    obtain rfl : i = 201 := by omega
    rfl
  | succ d ih =>
    intro k i hi hk
    obtain ⟨k, rfl⟩ : ∃ m, k = m + 1 := ⟨k - 1, by omega⟩
    simp only [remontoirref04_reaches.l0]
    have hlen : (reachL F S J i).length = i := by simp [reachL]
    rw [if_pos (by omega), reach_f hr (by omega) k (by omega)]
    simp only [Option.bind_some]
    rw [if_pos (by omega), wr (x := (i : Int) + 1) (by omega)]
    have := ih k (i + 1) (by omega) (by omega)
    rw [show reachL F S J (i + 1) = reachL F S J i ++ [⟨-(capSum S J i), capSum F J i⟩] by simp [reachL, List.range_succ]] at this
    exact this
theorem reaches_f {F S J L H : Int} (hr : isRuleB F S J L H = true) (k : Nat) (hk : 402 < k) : remontoirref04_reaches.f k F S J L H = some (reachL F S J 201) := by
  have := reaches_l0 hr 201 k 0 (by omega) (by omega)
  simpa [remontoirref04_reaches.f, reachL] using this
theorem few_l0 {F S J off : Int} (ho : -20000 ≤ off ∧ off ≤ 20000) (d : Nat) : ∀ (k i : Nat), i + d = 201 → d < k → remontoirref04_fewest.l0 k (reachL F S J 201) off i = some (fewFrom F S J off d i) := by
  induction d with
  | zero =>
    intro k i hi hk
    obtain ⟨k, rfl⟩ : ∃ m, k = m + 1 := ⟨k - 1, by omega⟩
    simp only [remontoirref04_fewest.l0]
    rw [if_neg (by simp [reachL]; omega)]; rfl
  | succ d ih =>
    intro k i hi hk
    obtain ⟨k, rfl⟩ : ∃ m, k = m + 1 := ⟨k - 1, by omega⟩
    simp only [remontoirref04_fewest.l0]
    have hrd : rd_T23 (reachL F S J 201) i = ⟨-(capSum S J i), capSum F J i⟩ := by
      simp [rd_T23, reachL, List.getD_eq_getElem?_getD, show i < 201 by omega]
    rw [if_pos (by simp [reachL]; omega), if_pos (by omega), hrd, has_f, wr (x := -off) (by omega), wr (x := (i : Int) + 1) (by omega)]
    simp only [Option.bind_some, fewFrom, enoughB]
    have := ih k (i + 1) (by omega) (by omega)
    split
    · rename_i hc; exact congrArg some (if_pos hc).symm
    · rename_i hc
      have h2 : (if lies (-off) (-capSum S J i) (capSum F J i) = true then (i : Int) else fewFrom F S J off d (i + 1)) = fewFrom F S J off d (i + 1) := if_neg hc
      refine Eq.trans ?_ (congrArg some h2.symm)
      simpa using this
theorem few_f {F S J off : Int} (ho : -20000 ≤ off ∧ off ≤ 20000) (k : Nat) (hk : 201 < k) : remontoirref04_fewest.f k (reachL F S J 201) off = some (fewest F S J off) := by
  have := few_l0 (F := F) (S := S) (J := J) ho 201 k 0 (by omega) hk
  simpa [remontoirref04_fewest.f, fewest] using this
end Go.Proofs.TrydX.X
end

section
/- Plain: what the reference's Check, errors, Error and Stated tell, in the hand's own words. -/
set_option linter.unusedSimpArgs false
set_option linter.unusedVariables false
namespace Go.Proofs.TrydX.X
open Go.RowKit Go.Proofs.YtidnopmjhhmedaaDoorW.PrintWords Go.Proofs.YtidnopmjhhmedaaDoorW.PrintLast
open Go.Proofs.YtidnopmjhhmedaaDoor

theorem drop_T71 (l : List S71) (i : Nat) (h : i < l.length) : l.drop i = rd_T71 l i :: l.drop (i + 1) := by
  rw [List.drop_eq_getElem_cons h]; simp [rd_T71, h]
section
variable {F S J L H T : Int} {st : List Int} {l7 : List S71}
theorem Check_l0 (hl : l7.length ≤ 17592186044416) (d : Nat) : ∀ (k i : Nat) (ok : Bool), i + d = l7.length → 2 * d + 1 < k →
    remontoirref04_Check.l0 k ok i F S J L H T st l7 = some (if (ok && ((l7.drop i).map toLk).all (lookB T)) = true then 0 else 40) := by
  induction d with
  | zero =>
    intro k i ok hi hk
    obtain ⟨k, rfl⟩ : ∃ m, k = m + 2 := ⟨k - 2, by omega⟩
    simp only [remontoirref04_Check.l0, remontoirref04_Check.j2]
    rw [List.drop_eq_nil_of_le (by omega)]
    have : ¬ ((i : Int) < (l7.length : Int)) := by omega
    cases ok <;> simp [this]
  | succ d ih =>
    intro k i ok hi hk
    obtain ⟨k, rfl⟩ : ∃ m, k = m + 2 := ⟨k - 2, by omega⟩
    simp only [remontoirref04_Check.l0, remontoirref04_Check.j2]
    have h1 : ((i : Int) < (l7.length : Int)) := by omega
    cases ok
    · simp
    · simp only [if_true, h1, decide_true]
      rw [if_pos (by omega), lies_f, drop_T71 l7 i (by omega), wr (x := (i : Int) + 1) (by omega), valid_f]
      simp only [Option.bind_some, List.map_cons, List.all_cons, Bool.true_and]
      have e : ((i : Int) + 1) = ((i + 1 : Nat) : Int) := by omega
      rw [e, ih k (i + 1) _ (by omega) (by omega), ih k (i + 1) _ (by omega) (by omega)]
      unfold lookB toLk
      cases lies (rd_T71 l7 i).f0 0 T
      · simp
      · simp only [if_true, Bool.true_and]
        by_cases h2 : (rd_T71 l7 i).f1.f0 ≤ (rd_T71 l7 i).f1.f1 <;> by_cases h3 : -20000 ≤ (rd_T71 l7 i).f1.f0 <;> by_cases h4 : (rd_T71 l7 i).f1.f1 ≤ 20000 <;> simp [h2, h3, h4]
theorem Check_f (h6 : st.length ≤ 17592186044416) (h7 : l7.length ≤ 17592186044416) (k : Nat) (hk : 2 * l7.length + st.length + 5 < k) : remontoirref04_Check.f k F S J L H T st l7 = scale_Check.f F S J L H T st l7 := by
  unfold remontoirref04_Check.f scale_Check.f
  rw [checkRule_f, if_pos (show st.length ≤ 17592186044416 ∧ l7.length ≤ 17592186044416 from ⟨h6, h7⟩)]
  obtain ⟨k, rfl⟩ : ∃ m, k = m + 1 := ⟨k - 1, by omega⟩
  have hj : ∀ ok, remontoirref04_Check.j0 (k + 1) ok F S J L H T st l7 = some (if (ok && (l7.map toLk).all (lookB T)) = true then 0 else 40) := by
    intro ok
    simp only [remontoirref04_Check.j0]
    have := Check_l0 (F := F) (S := S) (J := J) (L := L) (H := H) (T := T) (st := st) h7 l7.length k 0 ok (by omega) (by omega)
    simpa using this
  simp only [Option.bind_some, hj]
  unfold checkB
  cases hr : isRuleB F S J L H
  · simp
  · simp only [if_true]
    rw [lies_f]
    simp only [Option.bind_some]
    cases hT : lies T 1 60
    · simp
    · simp only [if_true]
      by_cases hs : (st.length : Int) ≤ T
      · rw [if_pos hs, keeps_f hr st h6 (k + 1) (by omega)]
        simp only [Option.bind_some]
        cases keepsB F S J 0 st
        · simp
        · by_cases hlk : l7.length ≤ 10
          · simp [hs, hlk, show (l7.length : Int) ≤ 10 by omega]
          · simp [hs, hlk, show ¬ (l7.length : Int) ≤ 10 by omega]
      · rw [if_neg hs]; simp [hs]
end

/-! ### The two passes. -/
def fS (s : Sp) : S23 := ⟨s.lo, s.hi⟩
def listS (g : Nat → Sp) (n : Nat) : List S23 := (List.range n).map fun k => fS (g k)
theorem listS_len (g : Nat → Sp) (n : Nat) : (listS g n).length = n := by simp [listS]
theorem rd_listS (g : Nat → Sp) {n i : Nat} (h : i < n) : rd_T23 (listS g n) i = fS (g i) := by
  simp [rd_T23, listS, List.getD_eq_getElem?_getD, h]
theorem listS_succ (g : Nat → Sp) (n : Nat) : listS g (n + 1) = listS g n ++ [fS (g n)] := by simp [listS, List.range_succ]
theorem listS_set (g : Nat → Sp) (n k : Nat) (s : Sp) : (listS g n).set k (fS s) = listS (putS g k s) n := by
  apply List.ext_getElem
  · simp [listS]
  · intro i h1 h2
    simp only [List.getElem_set, listS, List.getElem_map, List.getElem_range, putS]
    by_cases e : k = i
    · subst e; simp
    · simp [e, Ne.symm e]
theorem Both_f (s t : Sp) : remontoirref00_Both.f s.lo s.hi t.lo t.hi = some ((bothS s t).lo, (bothS s t).hi) := by
  unfold remontoirref00_Both.f remontoirref00_To.f bothS
  simp [mx_eq, mn_eq]
theorem bothS_swap (s t u : Sp) : bothS (bothS s t) u = bothS (bothS s u) t := by
  simp only [bothS, Sp.mk.injEq]; omega
def hitS (n : Int) (s : Sp) (l : S71) : Sp := if l.f0 = n then bothS s ⟨l.f1.f0, l.f1.f1⟩ else s
theorem hits_both (n : Int) (l : List S71) : ∀ s t, l.foldl (hitS n) (bothS s t) = bothS (l.foldl (hitS n) s) t := by
  induction l with
  | nil => intro s t; rfl
  | cons x l ih =>
    intro s t
    simp only [List.foldl_cons]
    unfold hitS
    split
    · rw [bothS_swap]; exact ih _ _
    · exact ih _ _
theorem looks_hits (T : Int) (n : Nat) (l : List S71) : ∀ f, (l.map toLk).all (lookB T) = true → ((l.map toLk).foldl lookS f) n = l.foldl (hitS n) (f n) := by
  induction l with
  | nil => intro f _; rfl
  | cons x l ih =>
    intro f h
    simp only [List.map_cons, List.all_cons, Bool.and_eq_true] at h
    simp only [List.map_cons, List.foldl_cons]
    rw [ih _ h.2]
    congr 1
    have h1 := h.1
    simp only [lookB, toLk, Bool.and_eq_true, decide_eq_true_eq, lies_iff] at h1
    unfold lookS hitS toLk putS
    dsimp only
    by_cases e : x.f0 = n
    · rw [if_pos e, if_pos (by omega)]
      congr 2
      omega
    · rw [if_neg e, if_neg (by omega)]
theorem fwdTo_stay (st : List Int) (L H : Int) (f : Nat → Sp) (i : Nat) : ∀ j, i ≤ j → fwdTo st L H f j i = fwdTo st L H f i i
  | 0, h => by obtain rfl : i = 0 := by omega
               rfl
  | j + 1, h => by
    rcases Nat.lt_or_ge j i with h1 | h1
    · obtain rfl : i = j + 1 := by omega
      rfl
    · rw [fwdTo, fwdS, putS_ne _ _ (by omega)]
      exact fwdTo_stay st L H f i j h1
theorem fwdTo_ahead (st : List Int) (L H : Int) (f : Nat → Sp) (i : Nat) : ∀ j, j < i ∨ i = 0 → fwdTo st L H f j i = f i
  | 0, _ => rfl
  | j + 1, h => by
    rw [fwdTo, fwdS, putS_ne _ _ (by omega)]
    exact fwdTo_ahead st L H f i j (by omega)
theorem fwdTo_at (st : List Int) (L H : Int) (f : Nat → Sp) (t i : Nat) (h : i < t) :
    fwdTo st L H f t (i + 1) = bothS (f (i + 1)) ⟨(fwdTo st L H f t i).lo + stAt st i + L, (fwdTo st L H f t i).hi + stAt st i + H⟩ := by
  rw [fwdTo_stay st L H f (i + 1) t (by omega), fwdTo_stay st L H f i t (by omega), fwdTo, fwdS, putS_self, fwdTo_ahead st L H f (i + 1) i (by omega)]
theorem bwdTo_rest (st : List Int) (L H : Int) (t : Nat) (f : Nat → Sp) (i : Nat) : ∀ j, i + j < t ∨ t ≤ i → j ≤ t → bwdTo st L H t f j i = f i
  | 0, _, _ => rfl
  | j + 1, h, hj => by
    rw [bwdTo, bwdS, putS_ne _ _ (by omega)]
    exact bwdTo_rest st L H t f i j (by omega) (by omega)
theorem bwdTo_within (st : List Int) (L H : Int) (t : Nat) (f : Nat → Sp) (i : Nat) : ∀ j, (f i).lo ≤ (bwdTo st L H t f j i).lo ∧ (bwdTo st L H t f j i).hi ≤ (f i).hi
  | 0 => ⟨Int.le_refl _, Int.le_refl _⟩
  | j + 1 => by
    have ih := bwdTo_within st L H t f i j
    rw [bwdTo, bwdS]
    unfold putS
    split
    · rename_i e
      rw [← e]
      simp only [bothS]
      omega
    · exact ih
/-- Where no span is empty going forth, none is going back. -/
theorem bwdTo_full (st : List Int) {L H : Int} (hd : L ≤ H) (t : Nat) (f : Nat → Sp) (hf : Fwd st L H t f) (hn : ∀ i, i ≤ t → (f i).lo ≤ (f i).hi) : ∀ j, j ≤ t → ∀ i, i ≤ t → (bwdTo st L H t f j i).lo ≤ (bwdTo st L H t f j i).hi
  | 0, _ => hn
  | j + 1, hj => by
    intro i hi
    have ih := bwdTo_full st hd t f hf hn j (by omega)
    rw [bwdTo, bwdS]
    by_cases e : i = t - (j + 1)
    · rw [← e, putS_self]
      have h1 := ih (i + 1) (by omega)
      have h2 := bwdTo_rest st L H t f i j (by omega) (by omega)
      have h3 := hf i (by omega)
      have h4 := bwdTo_within st L H t f (i + 1) j
      have h5 := hn i hi
      rw [h2]
      simp only [bothS]
      omega
    · rw [putS_ne _ _ e]
      exact ih i hi
def okFrom (g : Nat → Sp) (i : Nat) : Nat → Bool
  | 0 => true
  | d + 1 => decide ((g i).lo ≤ (g i).hi) && okFrom g (i + 1) d
theorem okFrom_iff (g : Nat → Sp) (d : Nat) : ∀ i, okFrom g i d = true ↔ ∀ k, i ≤ k → k < i + d → (g k).lo ≤ (g k).hi := by
  induction d with
  | zero => intro i; simp [okFrom]; omega
  | succ d ih =>
    intro i
    simp only [okFrom, Bool.and_eq_true, decide_eq_true_eq, ih]
    constructor
    · rintro ⟨h1, h2⟩ k hk hk2
      rcases Nat.lt_or_ge i k with h | h
      · exact h2 k (by omega) (by omega)
      · obtain rfl : k = i := by omega
        exact h1
    · intro h
      exact ⟨h i (by omega) (by omega), fun k h1 h2 => h k (by omega) (by omega)⟩
theorem okF_iff (t : Nat) (f : Nat → Sp) : okF t f = true ↔ ∀ k, k ≤ t → (f k).lo ≤ (f k).hi := by
  unfold okF
  simp only [List.all_eq_true, List.mem_range, decide_eq_true_eq]
  exact ⟨fun h k hk => h k (by omega), fun h k hk => h k (by omega)⟩
theorem ok_both (st : List Int) {L H : Int} (hd : L ≤ H) (t : Nat) (f : Nat → Sp) : okFrom (fwdTo st L H f t) 0 (t + 1) = okF t (roundF st L H t f) := by
  rw [Bool.eq_iff_iff, okFrom_iff, okF_iff]
  unfold roundF
  constructor
  · intro h
    exact bwdTo_full st hd t _ (fwdTo_fwd st L H f t) (fun i hi => h i (by omega) (by omega)) t (by omega)
  · intro h k _ hk
    have h1 := h k (by omega)
    have h2 := bwdTo_within st L H t (fwdTo st L H f t) k t
    omega

section
variable {F S J L H : Int} {st : List Int} {l7 : List S71}
theorem change_f (hL : -100 ≤ L ∧ L ≤ H ∧ H ≤ 100) (hst : ∀ k, -500 ≤ stAt st k ∧ stAt st k ≤ 500) (T : Int) (i : Nat) : remontoirref04_change.f F S J L H T st l7 i = some (L + stAt st i, H + stAt st i) := by
  unfold remontoirref04_change.f remontoirref00_To.f
  have hb := hst i
  by_cases h : i < st.length
  · rw [if_pos (by omega), if_pos (by omega)]
    have e : rd st i = stAt st i := by simp [rd, stAt, List.getD_eq_getElem?_getD]
    rw [e, wr (x := L + stAt st i) (by omega), wr (x := H + stAt st i) (by omega)]
    rfl
  · rw [if_neg (by omega)]
    have e : stAt st i = 0 := by unfold stAt; rw [List.getElem?_eq_none (by omega)]; rfl
    rw [e, wr (x := L + 0) (by omega), wr (x := H + 0) (by omega)]
    rfl
theorem errors_l1 (hl : l7.length ≤ 17592186044416) (T : Int) (x4 : List S23) (n : Nat) (hx : x4.length < 8796093022208) (d : Nat) : ∀ (k i : Nat) (s : Sp), i + d = l7.length →
    remontoirref04_errors.l1 (k + d + 1) x4 n i F S J L H T st l7 s.lo s.hi =
      (if ((l7.drop i).foldl (hitS n) s).lo > ((l7.drop i).foldl (hitS n) s).hi then some ([], false) else remontoirref04_errors.l0 k (x4 ++ [fS ((l7.drop i).foldl (hitS n) s)]) (wrap64 ((n : Int) + 1)) F S J L H T st l7) := by
  induction d with
  | zero =>
    intro k i s hi
    simp only [remontoirref04_errors.l1, Nat.add_zero]
    rw [if_neg (by omega), List.drop_eq_nil_of_le (by omega), if_pos hx]
    rfl
  | succ d ih =>
    intro k i s hi
    rw [show k + (d + 1) + 1 = (k + d + 1) + 1 by omega]
    simp only [remontoirref04_errors.l1]
    rw [if_pos (by omega), if_pos (by omega), drop_T71 l7 i (by omega), wr (x := (i : Int) + 1) (by omega), List.foldl_cons]
    have e : ((i : Int) + 1) = ((i + 1 : Nat) : Int) := by omega
    rw [e]
    unfold hitS
    by_cases hh : (rd_T71 l7 i).f0 = n
    · rw [if_pos hh, if_pos hh]
      have := Both_f s ⟨(rd_T71 l7 i).f1.f0, (rd_T71 l7 i).f1.f1⟩
      simp only at this
      rw [this]
      simp only [Option.bind_some]
      exact ih k (i + 1) _ (by omega)
    · rw [if_neg hh, if_neg hh]
      exact ih k (i + 1) _ (by omega)
variable (hL : -100 ≤ L ∧ L ≤ H ∧ H ≤ 100) (hst : ∀ k, -500 ≤ stAt st k ∧ stAt st k ≤ 500)
include hL hst
theorem errors_l0 (hl : l7.length ≤ 10) {t : Nat} (ht : t ≤ 60) (hlk : (l7.map toLk).all (lookB t) = true) (d : Nat) : ∀ (k i : Nat), i + d = t + 1 →
    remontoirref04_errors.l0 (k + d * (l7.length + 3) + 1) (listS (fwdTo st L H (looksF (l7.map toLk)) t) i) i F S J L H t st l7 =
      (if okFrom (fwdTo st L H (looksF (l7.map toLk)) t) i d = true then remontoirref04_errors.l2 k (listS (fwdTo st L H (looksF (l7.map toLk)) t) (t + 1)) ((t : Int) - 1) F S J L H t st l7 else some ([], false)) := by
  have hbn := fwdTo_bnd hst hL (by omega) (looksF_bnd t _ hlk) t
  induction d with
  | zero =>
    intro k i hi
    obtain rfl : i = t + 1 := by omega
    simp only [Nat.zero_mul, Nat.add_zero, remontoirref04_errors.l0, okFrom, if_true]
    rw [if_neg (by omega), wr (x := (t : Int) - 1) (by omega)]
  | succ d ih =>
    intro k i hi
    have hlen := listS_len (fwdTo st L H (looksF (l7.map toLk)) t) i
    have hsp : ∀ s : Sp, l7.foldl (hitS i) s = fwdTo st L H (looksF (l7.map toLk)) t i →
        remontoirref04_errors.j1 (k + d * (l7.length + 3) + 1 + l7.length + 1 + 1) (listS (fwdTo st L H (looksF (l7.map toLk)) t) i) i F S J L H t st l7 s.lo s.hi =
          (if (fwdTo st L H (looksF (l7.map toLk)) t i).lo > (fwdTo st L H (looksF (l7.map toLk)) t i).hi then some ([], false) else remontoirref04_errors.l0 (k + d * (l7.length + 3) + 1) (listS (fwdTo st L H (looksF (l7.map toLk)) t) (i + 1)) ((i + 1 : Nat) : Int) F S J L H t st l7) := by
      intro s hs
      simp only [remontoirref04_errors.j1]
      have := errors_l1 (F := F) (S := S) (J := J) (L := L) (H := H) (st := st) (l7 := l7) (by omega) t (listS (fwdTo st L H (looksF (l7.map toLk)) t) i) i (by omega) l7.length (k + d * (l7.length + 3) + 1) 0 s (by omega)
      simp only [List.drop_zero, hs] at this
      rw [show ((0 : Nat) : Int) = 0 from rfl, wr (x := (i : Int) + 1) (by omega)] at this
      rw [this, ← listS_succ, show (i : Int) + 1 = ((i + 1 : Nat) : Int) by omega]
    rw [show k + (d + 1) * (l7.length + 3) + 1 = (k + d * (l7.length + 3) + 1 + l7.length + 1 + 1) + 1 by rw [Nat.succ_mul]; omega]
    simp only [remontoirref04_errors.l0]
    have fin : (if (fwdTo st L H (looksF (l7.map toLk)) t i).lo > (fwdTo st L H (looksF (l7.map toLk)) t i).hi then some ([], false) else remontoirref04_errors.l0 (k + d * (l7.length + 3) + 1) (listS (fwdTo st L H (looksF (l7.map toLk)) t) (i + 1)) ((i + 1 : Nat) : Int) F S J L H t st l7) =
        (if (decide ((fwdTo st L H (looksF (l7.map toLk)) t i).lo ≤ (fwdTo st L H (looksF (l7.map toLk)) t i).hi) && okFrom (fwdTo st L H (looksF (l7.map toLk)) t) (i + 1) d) = true then remontoirref04_errors.l2 k (listS (fwdTo st L H (looksF (l7.map toLk)) t) (t + 1)) ((t : Int) - 1) F S J L H t st l7 else some ([], false)) := by
      by_cases h : (fwdTo st L H (looksF (l7.map toLk)) t i).lo > (fwdTo st L H (looksF (l7.map toLk)) t i).hi
      · rw [if_pos h]; simp [show ¬ (fwdTo st L H (looksF (l7.map toLk)) t i).lo ≤ (fwdTo st L H (looksF (l7.map toLk)) t i).hi by omega]
      · rw [if_neg h, ih k (i + 1) (by omega)]; simp [show (fwdTo st L H (looksF (l7.map toLk)) t i).lo ≤ (fwdTo st L H (looksF (l7.map toLk)) t i).hi by omega]
    rw [if_pos (by omega)]
    refine Eq.trans ?_ fin
    simp only [remontoirref00_To.f, Option.bind_some]
    have hw : ∀ n : Nat, looksF (l7.map toLk) n = l7.foldl (hitS n) ⟨-20000, 20000⟩ := fun n => looks_hits t n l7 wideF hlk
    rcases Nat.eq_zero_or_pos i with h0 | h0
    · subst h0
      rw [if_neg (by omega)]
      refine hsp ⟨-20000, 20000⟩ ?_
      rw [fwdTo_ahead _ _ _ _ _ _ (.inr rfl), hw]
    · obtain ⟨j, rfl⟩ : ∃ j, i = j + 1 := ⟨i - 1, by omega⟩
      have hbj := hbn j
      have hsj := hst j
      rw [if_pos (by omega), wr (x := ((j + 1 : Nat) : Int) - 1) (by omega), show ((j + 1 : Nat) : Int) - 1 = (j : Int) by omega, change_f hL hst]
      simp only [Option.bind_some]
      rw [if_pos (by omega), if_pos (by omega), rd_listS _ (by omega)]
      simp only [fS]
      rw [wr (x := (fwdTo st L H (looksF (l7.map toLk)) t j).lo + (L + stAt st j)) (by omega), wr (x := (fwdTo st L H (looksF (l7.map toLk)) t j).hi + (H + stAt st j)) (by omega)]
      have hB := Both_f ⟨-20000, 20000⟩ ⟨(fwdTo st L H (looksF (l7.map toLk)) t j).lo + (L + stAt st j), (fwdTo st L H (looksF (l7.map toLk)) t j).hi + (H + stAt st j)⟩
      simp only at hB
      rw [hB]
      simp only [Option.bind_some]
      refine hsp _ ?_
      rw [hits_both, fwdTo_at _ _ _ _ _ _ (by omega), hw]
      congr 2 <;> omega
theorem errors_l2 {B : Int} {t : Nat} (ht : t ≤ 60) {f : Nat → Sp} (hB : 0 ≤ B ∧ B ≤ 100000) (hf : Bnd B f) (d : Nat) : ∀ (k j : Nat), j + d = t →
    remontoirref04_errors.l2 (k + d + 1) (listS (bwdTo st L H t f j) (t + 1)) ((d : Int) - 1) F S J L H t st l7 = some (listS (bwdTo st L H t f t) (t + 1), true) := by
  induction d with
  | zero =>
    intro k j hj
    simp only [remontoirref04_errors.l2]
    rw [if_neg (by omega), show j = t by omega]
  | succ d ih =>
    intro k j hj
    rw [show k + (d + 1) + 1 = (k + d + 1) + 1 by omega]
    simp only [remontoirref04_errors.l2]
    have hlen := listS_len (bwdTo st L H t f j) (t + 1)
    have hbn := bwdTo_bnd hst hL hB.1 t hf j
    have hb1 := hbn (d + 1)
    have hsd := hst d
    rw [show ((d + 1 : Nat) : Int) - 1 = (d : Int) by omega, if_pos (by omega), change_f hL hst]
    simp only [Option.bind_some]
    rw [if_pos (by omega), if_pos (by omega), wr (x := (d : Int) + 1) (by omega), if_pos (by omega), if_pos (by omega), show (d : Int) + 1 = ((d + 1 : Nat) : Int) by omega, rd_listS _ (by omega), rd_listS _ (by omega)]
    simp only [fS, remontoirref00_To.f, Option.bind_some]
    rw [wr (x := (bwdTo st L H t f j (d + 1)).lo - (H + stAt st d)) (by omega), wr (x := (bwdTo st L H t f j (d + 1)).hi - (L + stAt st d)) (by omega), wr (x := (d : Int) - 1) (by omega)]
    have hBo := Both_f (bwdTo st L H t f j d) ⟨(bwdTo st L H t f j (d + 1)).lo - (H + stAt st d), (bwdTo st L H t f j (d + 1)).hi - (L + stAt st d)⟩
    simp only at hBo
    rw [hBo]
    simp only [Option.bind_some]
    have := ih k (j + 1) (by omega)
    rw [bwdTo, bwdS, show t - (j + 1) = d by omega, ← listS_set] at this
    rw [show (⟨(bwdTo st L H t f j (d + 1)).lo - (H + stAt st d), (bwdTo st L H t f j (d + 1)).hi - (L + stAt st d)⟩ : Sp) = ⟨(bwdTo st L H t f j (d + 1)).lo - stAt st d - H, (bwdTo st L H t f j (d + 1)).hi - stAt st d - L⟩ from by simp only [Sp.mk.injEq]; omega]
    exact this
theorem errors_f (hl : l7.length ≤ 10) {t : Nat} (ht : t ≤ 60) (hlk : (l7.map toLk).all (lookB t) = true) (k : Nat) (hk : 1000 < k) :
    remontoirref04_errors.f k F S J L H t st l7 = some (if okF t (roundF st L H t (looksF (l7.map toLk))) = true then (listS (roundF st L H t (looksF (l7.map toLk))) (t + 1), true) else ([], false)) := by
  unfold remontoirref04_errors.f
  have hm : (t + 1) * (l7.length + 3) ≤ 61 * 13 := Nat.mul_le_mul (by omega) (by omega)
  obtain ⟨m, rfl⟩ : ∃ m, k = (m + t + 1) + (t + 1) * (l7.length + 3) + 1 := ⟨k - 1 - (t + 1) * (l7.length + 3) - t - 1, by omega⟩
  have h1 := errors_l0 (F := F) (S := S) (J := J) hL hst hl ht hlk (t + 1) (m + t + 1) 0 (by omega)
  have e0 : listS (fwdTo st L H (looksF (l7.map toLk)) t) 0 = [] := rfl
  rw [e0, show ((0 : Nat) : Int) = 0 from rfl] at h1
  rw [h1, ok_both st hL.2.1]
  have h2 := errors_l2 (F := F) (S := S) (J := J) (l7 := l7) hL hst ht (B := 20000 + 600 * t) (by omega) (fwdTo_bnd hst hL (by omega) (looksF_bnd t _ hlk) t) t m 0 (by omega)
  have e1 : bwdTo st L H t (fwdTo st L H (looksF (l7.map toLk)) t) 0 = fwdTo st L H (looksF (l7.map toLk)) t := rfl
  rw [e1] at h2
  rw [h2]
  unfold roundF
  split <;> rfl
end
theorem check_parts {F S J L H T : Int} {st : List Int} {lk : List Lk} (h : checkB F S J L H T st lk = true) : isRuleB F S J L H = true ∧ 1 ≤ T ∧ T ≤ 60 ∧ lk.length ≤ 10 ∧ lk.all (lookB T) = true := by
  unfold checkB at h
  simp only [Bool.and_eq_true, decide_eq_true_eq, lies_iff] at h
  exact ⟨h.1.1.1.1.1, h.1.1.1.1.2.1, h.1.1.1.1.2.2, h.1.2, h.2⟩
theorem Error_f (F S J L H T : Int) (st : List Int) (l7 : List S71) (n : Int) (h6 : st.length ≤ 17592186044416) (h7 : l7.length ≤ 17592186044416) (k : Nat) (hk : 2 * l7.length + st.length + 1000 < k) :
    remontoirref04_Error.f k F S J L H T st l7 n = scale_Error.f F S J L H T st l7 n := by
  unfold remontoirref04_Error.f scale_Error.f
  rw [Check_f h6 h7 k (by omega), if_pos (show st.length ≤ 17592186044416 ∧ l7.length ≤ 17592186044416 from ⟨h6, h7⟩)]
  unfold scale_Check.f
  rw [if_pos (show st.length ≤ 17592186044416 ∧ l7.length ≤ 17592186044416 from ⟨h6, h7⟩)]
  simp only [Option.bind_some]
  unfold askE
  cases hc : checkB F S J L H T st (l7.map toLk)
  · simp
  · simp only [if_true]
    rw [lies_f]
    simp only [Option.bind_some]
    cases hn : lies n 0 T
    · simp
    · simp only [if_true]
      obtain ⟨hr, hT1, hT2, hl, hlk⟩ := check_parts hc
      have hn' := lies_iff.1 hn
      obtain ⟨t, rfl⟩ : ∃ t : Nat, T = t := ⟨T.toNat, by omega⟩
      obtain ⟨i, rfl⟩ : ∃ i : Nat, n = i := ⟨n.toNat, by omega⟩
      obtain ⟨_, _, _, hL⟩ := isRuleB_spec hr
      rw [errors_f (by omega) (stAt_bd hc) (by simpa using hl) (by omega) hlk k (by omega)]
      unfold solF
      rw [Int.toNat_natCast, Int.toNat_natCast]
      simp only [Option.bind_some]
      cases okF t (roundF st L H t (looksF (l7.map toLk)))
      · simp
      · simp only [if_true]
        rw [if_pos (by omega), listS_len, if_pos (by omega), rd_listS _ (by omega)]
        simp [fS]
theorem sol_bnd {F S J L H T : Int} {st : List Int} {lk : List Lk} (hc : checkB F S J L H T st lk = true) : Bnd 92000 (solF F S J L H T st lk) := by
  obtain ⟨hr, hT1, hT2, hl, hlk⟩ := check_parts hc
  obtain ⟨_, _, _, hL⟩ := isRuleB_spec hr
  exact (roundF_bnd (stAt_bd hc) (by omega) (B := 20000) (by omega) T.toNat (by omega) (looksF_bnd T _ hlk)).mono (by omega)
theorem Stated_f (F S J L H T : Int) (st : List Int) (l7 : List S71) (n : Int) (h6 : st.length ≤ 17592186044416) (h7 : l7.length ≤ 17592186044416) (k : Nat) (hk : 2 * l7.length + st.length + 1000 < k) :
    remontoirref04_Stated.f k F S J L H T st l7 n = scale_Stated.f F S J L H T st l7 n := by
  unfold remontoirref04_Stated.f
  rw [Error_f F S J L H T st l7 n h6 h7 k hk]
  unfold scale_Error.f scale_Stated.f
  rw [if_pos (show st.length ≤ 17592186044416 ∧ l7.length ≤ 17592186044416 from ⟨h6, h7⟩), if_pos (show st.length ≤ 17592186044416 ∧ l7.length ≤ 17592186044416 from ⟨h6, h7⟩)]
  by_cases ha : askE F S J L H T st (l7.map toLk) (lies n 0 T) = 0
  · obtain ⟨hc, hn, ho⟩ := askE_ok ha
    rw [if_pos ha, if_pos ha]
    have hb := sol_bnd hc n.toNat
    have hT := check_parts hc
    have hn' := lies_iff.1 hn
    have hlh := (okF_iff _ _).1 ho n.toNat (by omega)
    simp only [Option.bind_some]
    rw [size_f _ (by omega) (by omega), size_f _ (by omega) (by omega)]
    simp only [Option.bind_some, mx_eq]
    congr 2
    split <;> split <;> omega
  · rw [if_neg ha, if_neg ha]
    simp [size_f, mx_eq]
end Go.Proofs.TrydX.X
end

section
/- Plain: what the reference's Worst and Meets tell. -/
set_option linter.unusedSimpArgs false
set_option linter.unusedVariables false
namespace Go.Proofs.TrydX.X
open Go.RowKit Go.Proofs.YtidnopmjhhmedaaDoorW.PrintWords Go.Proofs.YtidnopmjhhmedaaDoorW.PrintLast
open Go.Proofs.YtidnopmjhhmedaaDoor

theorem askE_lies {F S J L H T : Int} {st : List Int} {lk : List Lk} (n : Int) (h : checkB F S J L H T st lk = true → lies n 0 T = true) : askE F S J L H T st lk (lies n 0 T) = askE F S J L H T st lk true := by
  unfold askE
  cases hc : checkB F S J L H T st lk
  · simp
  · simp [h hc]
section
variable {F S J L H : Int} {st : List Int} {l7 : List S71}
theorem Worst_go {g : Nat → Sp} {t : Nat} (n6 : Nat) (hst : ∀ (k : Nat) (i : Nat), i ≤ t → n6 < k → remontoirref04_Stated.f k F S J L H t st l7 i = some (statedS (g i), 0)) (hle : ∀ i, i ≤ t → (g i).lo ≤ (g i).hi) (ht : t ≤ 60) (d : Nat) : ∀ (k i : Nat) (a b : Int), i + d = t + 1 → 2 * d + 2 + n6 < k →
    ((i = 0 ∧ a = 0 ∧ b = -1) ∨ (0 < i ∧ a = (worstTo g i).1 ∧ b = (worstTo g i).2)) →
    remontoirref04_Worst.l0 k a b i F S J L H t st l7 = some ((worstTo g (t + 1)).1, (worstTo g (t + 1)).2, 0) := by
  induction d with
  | zero =>
    intro k i a b hi hk hab
    obtain ⟨k, rfl⟩ : ∃ m, k = m + 2 := ⟨k - 2, by omega⟩
    obtain rfl : i = t + 1 := by omega
    simp only [remontoirref04_Worst.l0, remontoirref04_Worst.j1]
    have hd : decide (((t + 1 : Nat) : Int) ≤ t) = false := decide_eq_false (by omega)
    rw [if_neg (by omega), hd, if_neg (by decide)]
    rcases hab with ⟨h, _⟩ | ⟨_, rfl, rfl⟩
    · omega
    · rfl
  | succ d ih =>
    intro k i a b hi hk hab
    obtain ⟨k, rfl⟩ : ∃ m, k = m + 2 := ⟨k - 2, by omega⟩
    have hgo : remontoirref04_Worst.j1 (k + 1) a b i true F S J L H t st l7 = some ((worstTo g (t + 1)).1, (worstTo g (t + 1)).2, 0) := by
      simp only [remontoirref04_Worst.j1, if_true]
      rw [hst k i (by omega) (by omega)]
      simp only [Option.bind_some, if_true]
      rw [wr (x := (i : Int) + 1) (by omega), show (i : Int) + 1 = ((i + 1 : Nat) : Int) by omega]
      have h1 := hle i (by omega)
      have hnn : 0 ≤ statedS (g i) := by simp only [statedS]; omega
      have hw : worstTo g (i + 1) = if i = 0 ∨ (worstTo g i).2 < statedS (g i) then ((i : Int), statedS (g i)) else worstTo g i := rfl
      by_cases hg : statedS (g i) > b
      · rw [if_pos hg]
        refine ih k (i + 1) _ _ (by omega) (by omega) (.inr ⟨by omega, ?_⟩)
        rcases hab with ⟨h0, _⟩ | ⟨h0, hab1, hab2⟩
        · rw [hw, if_pos (.inl h0)]; exact ⟨rfl, rfl⟩
        · rw [hw, if_pos (.inr (by omega))]; exact ⟨rfl, rfl⟩
      · rw [if_neg hg]
        refine ih k (i + 1) _ _ (by omega) (by omega) (.inr ⟨by omega, ?_⟩)
        rcases hab with ⟨h0, _⟩ | ⟨h0, hab1, hab2⟩
        · omega
        · rw [hw, if_neg (by omega)]; exact ⟨hab1, hab2⟩
    have hd : decide ((i : Int) ≤ t) = true := decide_eq_true (by omega)
    have e : remontoirref04_Worst.l0 (k + 2) a b i F S J L H t st l7 = if (i : Int) = 0 then remontoirref04_Worst.j1 (k + 1) a b i true F S J L H t st l7 else remontoirref04_Worst.j1 (k + 1) a b i (decide ((i : Int) ≤ t)) F S J L H t st l7 := by
      simp only [remontoirref04_Worst.l0]
    rw [e, hd, hgo]
    exact ite_self _
set_option maxRecDepth 20000 in
theorem Worst_l0 (h6 : st.length ≤ 17592186044416) (h7 : l7.length ≤ 17592186044416) {t : Nat} (ha : askE F S J L H t st (l7.map toLk) true = 0) (k : Nat) (hk : 200 + (2 * l7.length + st.length + 1000) < k) :
    remontoirref04_Worst.l0 k 0 (-1) 0 F S J L H t st l7 = some ((worstTo (solF F S J L H t st (l7.map toLk)) (t + 1)).1, (worstTo (solF F S J L H t st (l7.map toLk)) (t + 1)).2, 0) := by
  obtain ⟨hc, _, ho⟩ := askE_ok ha
  have hp := check_parts hc
  have ho' := (okF_iff _ _).1 ho
  rw [Int.toNat_natCast] at ho'
  refine Worst_go (g := solF F S J L H t st (l7.map toLk)) (2 * l7.length + st.length + 1000) ?_ ho' (by omega) (t + 1) k 0 0 (-1) (by omega) (by omega) (.inl ⟨rfl, rfl, rfl⟩)
  intro k i hi hk
  rw [Stated_f F S J L H t st l7 i h6 h7 k (by omega)]
  unfold scale_Stated.f
  have hl : lies (i : Int) 0 t = true := lies_iff.2 (by omega)
  rw [if_pos (show st.length ≤ 17592186044416 ∧ l7.length ≤ 17592186044416 from ⟨h6, h7⟩), hl, if_pos ha, Int.toNat_natCast]
  simp only [statedS]
end
set_option maxRecDepth 20000 in
theorem Worst_f (F S J L H T : Int) (st : List Int) (l7 : List S71) (h6 : st.length ≤ 17592186044416) (h7 : l7.length ≤ 17592186044416) (k : Nat) (hk : 2 * l7.length + st.length + 2000 < k) :
    remontoirref04_Worst.f k F S J L H T st l7 = scale_Worst.f F S J L H T st l7 := by
  have hk2 : 200 + (2 * l7.length + st.length + 1000) < k := by omega
  unfold remontoirref04_Worst.f scale_Worst.f
  rw [if_pos (show st.length ≤ 17592186044416 ∧ l7.length ≤ 17592186044416 from ⟨h6, h7⟩)]
  by_cases ha : askE F S J L H T st (l7.map toLk) true = 0
  · rw [if_pos ha]
    obtain ⟨hc, _, _⟩ := askE_ok ha
    have hp := check_parts hc
    obtain ⟨t, rfl⟩ : ∃ t : Nat, T = t := ⟨T.toNat, by omega⟩
    have := Worst_l0 h6 h7 ha k hk2
    rw [Int.toNat_natCast]
    exact this
  · rw [if_neg ha]
    obtain ⟨k, rfl⟩ : ∃ m, k = m + 2 := ⟨k - 2, by omega⟩
    simp only [remontoirref04_Worst.l0, remontoirref04_Worst.j1, if_true]
    rw [Stated_f F S J L H T st l7 0 h6 h7 k (by omega)]
    unfold scale_Stated.f
    have e := askE_lies (F := F) (S := S) (J := J) (L := L) (H := H) (T := T) (st := st) (lk := l7.map toLk) 0 (fun hc => by have := check_parts hc; exact lies_iff.2 (by omega))
    rw [if_pos (show st.length ≤ 17592186044416 ∧ l7.length ≤ 17592186044416 from ⟨h6, h7⟩), e, if_neg ha]
    simp only [Option.bind_some]
    rw [if_neg ha]

/-! ### Meets. -/
def scan (f : Int → Int) : Nat → Int → Int → Int → Int × Int × Int
  | 0, _, a, b => (a, b, 0)
  | d + 1, x, a, b => if f x < 0 then (0, 0, 4) else scan f d (x + 1) (max a (f x)) (min b (f x))
theorem scan_bad (f : Int → Int) (y : Int) (hy : f y < 0) (d : Nat) : ∀ (x a b : Int), x ≤ y → y < x + d → scan f d x a b = (0, 0, 4) := by
  induction d with
  | zero => intro x a b h1 h2; omega
  | succ d ih =>
    intro x a b h1 h2
    rw [scan]
    by_cases h : f x < 0
    · rw [if_pos h]
    · rw [if_neg h]
      have : x ≠ y := fun e => h (e ▸ hy)
      exact ih _ _ _ (by omega) (by omega)
theorem scan_ok (f : Int → Int) (d : Nat) : ∀ (x a b : Int), (∀ y : Int, x ≤ y → y < x + d → 0 ≤ f y) → ∃ M m, scan f d x a b = (M, m, 0) ∧ a ≤ M ∧ m ≤ b ∧ (∀ y : Int, x ≤ y → y < x + d → f y ≤ M ∧ m ≤ f y) ∧
    (M = a ∨ ∃ y : Int, (x ≤ y ∧ y < x + d) ∧ M = f y) ∧ (m = b ∨ ∃ y : Int, (x ≤ y ∧ y < x + d) ∧ m = f y) := by
  induction d with
  | zero => intro x a b _; exact ⟨a, b, rfl, Int.le_refl _, Int.le_refl _, fun y h1 h2 => by omega, .inl rfl, .inl rfl⟩
  | succ d ih =>
    intro x a b h
    have h0 := h x (by omega) (by omega)
    rw [scan, if_neg (by omega)]
    obtain ⟨M, m, h1, h2, h3, h4, h5, h6⟩ := ih (x + 1) (max a (f x)) (min b (f x)) (fun y h1 h2 => h y (by omega) (by omega))
    clear h ih
    refine ⟨M, m, h1, ?_, ?_, ?_, ?_, ?_⟩
    · clear h1 h4 h5 h6; omega
    · clear h1 h4 h5 h6; omega
    · clear h1 h5 h6
      intro y hy1 hy2
      by_cases e : y = x
      · subst e; clear h4; omega
      · exact h4 y (by omega) (by omega)
    · clear h1 h4 h6
      rcases h5 with h5 | ⟨y, hy, hy3⟩
      · by_cases e : f x ≤ a
        · exact .inl (by omega)
        · exact .inr ⟨x, by omega, by omega⟩
      · exact .inr ⟨y, by omega, hy3⟩
    · clear h1 h4 h5
      rcases h6 with h6 | ⟨y, hy, hy3⟩
      · by_cases e : b ≤ f x
        · exact .inl (by omega)
        · exact .inr ⟨x, by omega, by omega⟩
      · exact .inr ⟨y, by omega, hy3⟩
section
variable {F S J : Int} (hF : 0 ≤ F ∧ F ≤ 500) (hS : 0 ≤ S ∧ S ≤ 500) (hJ : 1 ≤ J)
include hF hS hJ
theorem few_mono {x y : Int} (h : 0 ≤ x ∧ x ≤ y ∨ y ≤ x ∧ x ≤ 0) (hy : 0 ≤ fewest F S J y) : 0 ≤ fewest F S J x ∧ fewest F S J x ≤ fewest F S J y := by
  rcases fewest_spec F S J y with ⟨h1, _⟩ | ⟨n, h1, h2, h3, h4⟩
  · omega
  · have hc := capSum_bd' (t := n) hS hJ (by omega)
    have hc2 := capSum_bd' (t := n) hF hJ (by omega)
    have h3' := lies_iff.1 (show lies (-y) (-(capSum S J n)) (capSum F J n) = true from h3)
    have hx : enoughB F S J x n = true := lies_iff.2 (by omega)
    rcases fewest_spec F S J x with ⟨g1, g2⟩ | ⟨m, g1, g2, g3, g4⟩
    · rw [g2 n h2] at hx; cases hx
    · rcases Nat.lt_or_ge n m with hlt | hge
      · rw [g4 n hlt] at hx; cases hx
      · omega
omit hF hS hJ in
theorem few_zero : fewest F S J 0 = 0 := by
  rcases fewest_spec F S J 0 with ⟨g1, g2⟩ | ⟨m, g1, g2, g3, g4⟩
  · have := g2 0 (by omega)
    simp [enoughB, lies, capSum, caps, capsTo, sumL] at this
  · rcases Nat.eq_zero_or_pos m with h | h
    · omega
    · have := g4 0 h
      simp [enoughB, lies, capSum, caps, capsTo, sumL] at this
theorem scan_meets (s : Sp) (hs : s.lo ≤ s.hi) : scan (fewest F S J) (s.hi - s.lo + 1).toNat s.lo 0 1000 = meetsP F S J s := by
  have hlo := fewest_spec F S J s.lo
  have hhi := fewest_spec F S J s.hi
  unfold meetsP
  by_cases h1 : fewest F S J s.lo = -1
  · rw [if_pos (.inl h1)]
    exact scan_bad _ s.lo (by omega) _ _ _ _ (by omega) (by omega)
  · by_cases h2 : fewest F S J s.hi = -1
    · rw [if_pos (.inr h2)]
      exact scan_bad _ s.hi (by omega) _ _ _ _ (by omega) (by omega)
    · rw [if_neg (by simp [h1, h2])]
      have b1 : 0 ≤ fewest F S J s.lo ∧ fewest F S J s.lo ≤ 200 := by rcases hlo with ⟨h, _⟩ | ⟨n, h, _⟩ <;> omega
      have b2 : 0 ≤ fewest F S J s.hi ∧ fewest F S J s.hi ≤ 200 := by rcases hhi with ⟨h, _⟩ | ⟨n, h, _⟩ <;> omega
      have hall : ∀ y, s.lo ≤ y → y ≤ s.hi → 0 ≤ fewest F S J y ∧ fewest F S J y ≤ max (fewest F S J s.lo) (fewest F S J s.hi) := by
        intro y g1 g2
        rcases Int.le_total 0 y with g | g
        · have := few_mono hF hS hJ (x := y) (y := s.hi) (.inl ⟨g, g2⟩) b2.1; omega
        · have := few_mono hF hS hJ (x := y) (y := s.lo) (.inr ⟨g1, g⟩) b1.1; omega
      obtain ⟨M, m, e, a1, a2, a3, a4, a5⟩ := scan_ok (fewest F S J) (s.hi - s.lo + 1).toNat s.lo 0 1000 (fun y g1 g2 => (hall y g1 (by omega)).1)
      rw [e]
      have c1 := a3 s.lo (by omega) (by omega)
      have c2 := a3 s.hi (by omega) (by omega)
      have hM : M = max (fewest F S J s.lo) (fewest F S J s.hi) := by
        rcases a4 with a4 | ⟨y, ⟨g1, g2⟩, g3⟩
        · omega
        · have := hall y g1 (by omega); omega
      have hm : m = if s.lo ≤ 0 ∧ 0 ≤ s.hi then 0 else min (fewest F S J s.lo) (fewest F S J s.hi) := by
        obtain ⟨y, ⟨g1, g2⟩, g3⟩ : ∃ y : Int, (s.lo ≤ y ∧ y < s.lo + (s.hi - s.lo + 1).toNat) ∧ m = fewest F S J y := by
          rcases a5 with a5 | a5
          · omega
          · exact a5
        have gy := hall y g1 (by omega)
        split
        · rename_i hz
          have := (a3 0 (by omega) (by omega)).2
          rw [few_zero] at this
          omega
        · rename_i hz
          rcases Int.lt_or_le 0 s.lo with g | g
          · have f1 := few_mono hF hS hJ (x := s.lo) (y := y) (.inl ⟨by omega, g1⟩) gy.1
            have f2 := few_mono hF hS hJ (x := s.lo) (y := s.hi) (.inl ⟨by omega, hs⟩) b2.1
            omega
          · have f1 := few_mono hF hS hJ (x := s.hi) (y := y) (.inr ⟨by omega, by omega⟩) gy.1
            have f2 := few_mono hF hS hJ (x := s.hi) (y := s.lo) (.inr ⟨by omega, by omega⟩) b1.1
            omega
      rw [hM, hm]
end
theorem Meets_l0 {F S J : Int} (hi : Int) (hh : hi ≤ 20000) (z : Int) (d : Nat) : ∀ (k : Nat) (x a b : Int), -20000 ≤ x → x + d = hi + 1 → 300 + d < k →
    remontoirref04_Meets.l0 k (reachL F S J 201) a b x z hi = some (scan (fewest F S J) d x a b) := by
  induction d with
  | zero =>
    intro k x a b hx hd hk
    obtain ⟨k, rfl⟩ : ∃ m, k = m + 1 := ⟨k - 1, by omega⟩
    simp only [remontoirref04_Meets.l0, scan]
    rw [if_neg (by omega)]
  | succ d ih =>
    intro k x a b hx hd hk
    obtain ⟨k, rfl⟩ : ∃ m, k = m + 1 := ⟨k - 1, by omega⟩
    simp only [remontoirref04_Meets.l0, scan]
    rw [if_pos (by omega), few_f (by omega) k (by omega)]
    simp only [Option.bind_some]
    split
    · rfl
    · rw [wr (x := x + 1) (by omega), mx_eq, mn_eq]
      exact ih k (x + 1) _ _ (by omega) (by omega) (by omega)
set_option maxRecDepth 20000 in
theorem Meets_f (F S J L H T : Int) (st : List Int) (l7 : List S71) (h6 : st.length ≤ 17592186044416) (h7 : l7.length ≤ 17592186044416) (k : Nat) (hk : 2 * l7.length + st.length + 100000 < k) :
    remontoirref04_Meets.f k F S J L H T st l7 = scale_Meets.f F S J L H T st l7 := by
  unfold remontoirref04_Meets.f scale_Meets.f
  rw [Check_f h6 h7 k (by omega), Error_f F S J L H T st l7 T h6 h7 k (by omega), if_pos (show st.length ≤ 17592186044416 ∧ l7.length ≤ 17592186044416 from ⟨h6, h7⟩)]
  unfold scale_Check.f scale_Error.f
  rw [if_pos (show st.length ≤ 17592186044416 ∧ l7.length ≤ 17592186044416 from ⟨h6, h7⟩), if_pos (show st.length ≤ 17592186044416 ∧ l7.length ≤ 17592186044416 from ⟨h6, h7⟩)]
  have e := askE_lies (F := F) (S := S) (J := J) (L := L) (H := H) (T := T) (st := st) (lk := l7.map toLk) T (fun hc => by have := check_parts hc; exact lies_iff.2 (by omega))
  rw [e]
  simp only [Option.bind_some]
  by_cases ha : askE F S J L H T st (l7.map toLk) true = 0
  · obtain ⟨hc, _, ho⟩ := askE_ok ha
    have hp := check_parts hc
    obtain ⟨hF, hS, hJ, _⟩ := isRuleB_spec hp.1
    have hin := solF_in ha T.toNat (by omega)
    rw [hc]
    simp only [if_true, ha, Option.bind_some]
    rw [reaches_f hp.1 k (by omega)]
    simp only [Option.bind_some]
    rw [Meets_l0 (F := F) (S := S) (J := J) _ hin.2.2 _ ((solF F S J L H T st (l7.map toLk) T.toNat).hi - (solF F S J L H T st (l7.map toLk) T.toNat).lo + 1).toNat k _ 0 1000 (by omega) (by omega) (by omega),
      scan_meets (by omega) (by omega) (by omega) _ (by omega)]
  · rw [if_neg ha, if_neg ha]
    cases hc : checkB F S J L H T st (l7.map toLk)
    · have : askE F S J L H T st (l7.map toLk) true = 40 := by unfold askE; simp [hc]
      simp [this]
    · simp [ha]
end Go.Proofs.TrydX.X
end

section
/- The plain law of ScaleMeets. -/
set_option linter.unusedSimpArgs false
set_option linter.unusedVariables false
namespace Go.Proofs.YtidnopmjhhmedaaDoor
open Go.RowKit Go.Proofs.YtidnopmjhhmedaaDoorW.PrintWords Go.Proofs.YtidnopmjhhmedaaDoorW.PrintLast TrydX.X
theorem scaleMeets_pure (F S J L H T : Int) (st : List Int) (lk : List S71) (wr : W64 F ∧ W64 S ∧ W64 J ∧ W64 L ∧ W64 H ∧ W64 T) (w6 : ∀ z ∈ st, W64 z) (w7 : ∀ z ∈ lk, W64 z.f0 ∧ W64 z.f1.f0 ∧ W64 z.f1.f1) (h6 : st.length ≤ 17592186044416) (h7 : lk.length ≤ 5864062014805) :
    ∃ k, remontoirlaw04_ScaleMeets.f k F S J L H T st lk = some true := by
  refine ⟨2 * lk.length + st.length + 200000 + 1, ?_⟩
  unfold remontoirlaw04_ScaleMeets.f
  rw [Worst_f F S J L H T st lk h6 (by omega) _ (by omega)]
  have hi : ∃ x, scale_Worst.f F S J L H T st lk = some x := by
    unfold scale_Worst.f
    rw [if_pos (show st.length ≤ 17592186044416 ∧ lk.length ≤ 17592186044416 from ⟨h6, by omega⟩)]
    split <;> exact ⟨_, rfl⟩
  obtain ⟨x, hx⟩ := hi
  rw [hx]
  simp only [Option.bind_some, bne_self_eq_false, Bool.false_eq_true, if_false, if_true, remontoirlaw04_ScaleMeets.j0]
  rw [Meets_f F S J L H T st lk h6 (by omega) _ (by omega)]
  have hy : ∃ y, scale_Meets.f F S J L H T st lk = some y := by
    unfold scale_Meets.f
    rw [if_pos (show st.length ≤ 17592186044416 ∧ lk.length ≤ 17592186044416 from ⟨h6, by omega⟩)]
    split <;> exact ⟨_, rfl⟩
  obtain ⟨y, hy⟩ := hy
  rw [hy]
  simp [remontoirlaw04_works.f]
end Go.Proofs.YtidnopmjhhmedaaDoor
end

section
/- The row and the card of ScaleMeets. Written by wip/tools/mkRow.py. -/
set_option linter.unusedVariables false
set_option linter.unusedSimpArgs false
namespace Go.Proofs.YtidnopmjhhmedaaDoor
open Go.ChangeShapes Go.WideShapes Go.ChangeAt Go.RowKit TrydX.X

set_option maxRecDepth 100000 in
theorem scaleMeets_lifted (os : Os) (started : os.Started) (H : Type) (enc : TypeId × Value → H) :
    ReturnsInHanded {} Tryd.checked os 6 .any (fun w args => (Rows.scaleMeetsSpec.pre enc Tryd.prog Tryd.f6 [] false w args ∧ laidMetH Tryd.prog laid1 w) ∧ sizedMet enc Tryd.prog Tryd.f6 (OpenSpec.ofChange Rows.scaleMeetsSpec) false w args)
      (Rows.scaleMeetsSpec.post enc Tryd.prog Tryd.f6 false true false false) := by
  refine returnsInHanded_of_change_and (C := Tryd.checked) (X := fun w _ => laidMetH Tryd.prog laid1 w) (fun _ _ _ hh h => h.of_heap hh) own started (by kernel_rfl) Tryd.func6
    (ChangeSpec.witness_shaped (enc := enc) (C := Tryd.checked) (os := os) (X := fun w _ => laidMetH Tryd.prog laid1 w) false (World.doorLaid Tryd.prog 400 os) #[.agg #[.int .i64 0, .int .i64 0, .int .i64 0, .int .i64 0, .int .i64 0, .int .i64 0, .slice none 0 0, .slice none 0 0]] 8 rfl (World.shaped_of_RefB (by kernel_rfl) (by kernel_rfl)) (by kernel_rfl) (by kernel_rfl) (by kernel_rfl) (door_met os _)) ?_
  intro W base args ds gs before hval0 hW hcnd hsz0 hL _
  have hsz : (DataW.weightsEach Tryd.prog (Tryd.f6.params.toList ++ Rows.scaleMeetsSpec.plain.varTypes Tryd.prog) (ds ++ gs)).all (· ≤ reachBytes) = true := hsz0
  have hval : ∀ (j : Nat) t v, Tryd.f6.params[j]? = some t → args[j]? = some v → Value.okWide Tryd.prog W .any base t v := hval0
  have hW' := hW
  obtain ⟨p, q, hA0, hV, rfl, hfz, hnd⟩ := hW
  have hA : DataW.TrodAll enc Tryd.prog W 0 (fun _ => true) true Tryd.f6.params.toList args.toList ds p := hA0
  rw [Tryd.params6] at hA hval hsz
  obtain ⟨v0, vs0, d0, ds0, p0, q0, hargs, rfl, rfl, h0, r0⟩ := trodAll_cons hA
  obtain ⟨rfl, rfl, rfl⟩ := trodAll_nil r0
  obtain rfl : args = #[v0] := by cases args; simp_all
  obtain ⟨rfl, rfl⟩ := trodVars_none hV
  have lt0 : ∀ x ∈ p0, x.block < W.heap.size := by obtain ⟨m, hm⟩ := h0; exact DataW.trod_lt m _ _ _ hm
  have k0 := h0
  obtain ⟨cs0, rfl, hcs0⟩ := agg_of Tryd.underlying44 (hval 0 44 v0 rfl rfl)
  obtain ⟨m0, hm0⟩ := h0
  rw [hcs0] at hm0
  obtain ⟨a_0, b_0, c_0, d_0, e_0, t_0, A6_0, c6_0, l6_0, A7_0, c7_0, l7_0, hB0, hs0⟩ := op44 hm0
  obtain ⟨z6_0, z7_0⟩ := hs0 (weights_at hsz (j := 0) (t := 44) (d := d0) rfl rfl)
  obtain rfl := hB0.cs
  obtain ⟨k, hk⟩ := scaleMeets_pure a_0 b_0 c_0 d_0 e_0 t_0 l6_0 l7_0 hB0.wf hB0.w6 hB0.w7 z6_0 z7_0
  clear hA0 hval0 hsz0 hsz
  refine (remontoirlaw04_ScaleMeets.calls k a_0 b_0 c_0 d_0 e_0 t_0 A6_0 c6_0 l6_0 A7_0 c7_0 l7_0 true W hB0.r6 hB0.h6 hB0.r7 hB0.h7 (ways_of_laid hL) hk).mono fun e W' ⟨he, bel⟩ => ?_
  subst he
  exact ⟨_, rfl, _, _, _, [], _, [], hW', trodAll_mk1 (shut_bool Tryd.underlying4 _), (trodAll_cons_mk (Below.trod laidOut (by kernel_rfl) (of_decide_eq_true (by kernel_rfl)) k0 bel lt0) trodAll_mk0), rfl, bel.frame _, fun h => by cases h⟩

theorem scaleMeets_row : Rows.ScaleMeetsSaid :=
  OpenClaim.holds_of_wide 6 Tryd.f6 rfl rfl rfl rfl rfl rfl rfl ⟨rfl, rfl, rfl, rfl, rfl⟩ rfl rfl rfl rfl rfl (by kernel_rfl) Tryd.func6 (by kernel_rfl)
    (of_decide_eq_true (by kernel_rfl)) (by unfold Func.isWrapper; first | (rw [if_pos (by decide +kernel)]; kernel_rfl) | (rw [if_neg (by decide +kernel)]; exact ⟨rfl, rfl⟩))
    (fun os started H enc _ => scaleMeets_lifted os started H enc)

/-- THE CARD. -/
theorem scaleMeets_holds : Rows.ScaleMeetsCardSaid :=
  Claim7.holds_tied_plain_at .later [] [.funcs] true (true, "42c157d2a2e9e6c40d73358f232322a0bd5e742c3af8e9a8c48de9150ba4d318") false
    scaleMeets_row (fun _ h => by cases h) (by kernel_rfl) (fun _ h => by cases h) scaleMeets_row_tie rfl ⟨rfl, rfl⟩ (by kernel_rfl) rfl
    (fun f fn hf hfn => by
      obtain rfl : f = 6 := Option.some.inj ((show Tryd.prog.funcNamed "remontoir/remontoirlaw04.ScaleMeets" = some 6 by kernel_rfl).symm.trans hf) |>.symm
      obtain rfl : fn = Tryd.f6 := (Option.some.inj (Tryd.func6.symm.trans hfn)).symm
      exact ⟨by kernel_rfl, fun j t ht => by
        rw [Tryd.params6] at ht
        have h3 : t ∈ [(44 : TypeId)] := by
          obtain ⟨hj, e⟩ := Array.getElem?_eq_some_iff.1 ht
          rw [← e]
          exact Array.getElem_mem_toList hj
        simp only [List.mem_cons, List.not_mem_nil, or_false] at h3
        subst h3
        exact (show Tryd.prog.wantsStandIn 44 = false by kernel_rfl)⟩)
    (by kernel_rfl)
#print axioms scaleMeets_holds
end Go.Proofs.YtidnopmjhhmedaaDoor
end
