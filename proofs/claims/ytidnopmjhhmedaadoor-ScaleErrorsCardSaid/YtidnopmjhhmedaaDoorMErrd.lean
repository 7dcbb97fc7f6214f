/- PROVED: ScaleErrorsCardSaid, for every input, where the listed variable reads as the program's text lays it. Part 4 of 5: of this session; merged by wip/tools/mkClaim.py. -/
import Derived.Test.YtidnopmjhhmedaaDoorMErrc
import Derived.Deep.QuietTactic
import Derived.BigQuiet
import Derived.Deep.MidRow
import Derived.ChangeKeysEq
import Derived.WalkMore
import Derived.Deep.Cut
section
/- Reach, Fewest, IsPlan, Shown: what they refuse. -/
set_option linter.unusedSimpArgs false
set_option linter.unusedVariables false
namespace Go.Proofs.YtidnopmjhhmedaaDoor
open Go.RowKit

theorem below_call {w W w1 : World} (h : Below w.heap.size w W) (hb : Below W.heap.size W w1) : Below w.heap.size w w1 := h.trans (hb.mono h.size)

set_option maxRecDepth 100000 in
set_option maxHeartbeats 1000000 in
theorem Reach_bad (F S J L H t : Int) (hr : isRuleB F S J L H = false) (w : World) :
    Calls Tryd.prog 22 #[.agg #[.int .i64 F, .int .i64 S, .int .i64 J, .int .i64 L, .int .i64 H], .int .i64 t] w fun e w' => e = .returned (.tuple #[.agg #[.int .i64 0, .int .i64 0], .int .i64 40]) ∧ Below w.heap.size w w' := by
  go_enter Tryd.func22, Tryd.ntmps22
  go_wp2_with fail
  go_region_held3 (fun W1 : World => W1.cell? ⟨w.heap.size, 0, none⟩ = some (.int .i64 F) ∧ W1.cell? ⟨w.heap.size, 1, none⟩ = some (.int .i64 S) ∧ W1.cell? ⟨w.heap.size, 2, none⟩ = some (.int .i64 J) ∧ W1.cell? ⟨w.heap.size, 3, none⟩ = some (.int .i64 L) ∧ W1.cell? ⟨w.heap.size, 4, none⟩ = some (.int .i64 H)) (simp [go_sem, *])
    (first | (go_at_call 57; refine (lies_any _ _ _ _).mono ?_; rintro e w' ⟨rfl, rfl⟩) | (go_at_call 54; refine (opened_bad F S J L H _ _ hr).mono ?_; rintro e w1 ⟨rfl, hb⟩; obtain ⟨hc, hf⟩ := bcell hb; have hz := hb.size; simp at hz; have hz1 : w.heap.size < w1.heap.size := (by omega); try (have hz2 : w.heap.size + 1 < w1.heap.size := (by omega)); try (have hz3 : w.heap.size + 1 + 1 < w1.heap.size := (by omega))))
  all_goals
    go_wp2
    have hB1 : Below w.heap.size w w1 := by
      refine below_call ?_ hb
      repeat with_reducible (first | assumption | exact Below.refl _ _ | refine Below.setCell ?_ (by first | omega | (simp <;> omega)) _ | refine Below.alloc ?_ (by first | omega | (simp <;> omega)) _ | refine Below.drew ?_)
    refine bodyPost_ret (v := .tuple #[.agg #[.int .i64 0, .int .i64 0], .int .i64 40]) (by simp [results, Tryd.results22, go_sem, hc, hz1, hz2]) rfl ⟨rfl, ?_⟩
    clear hb hc hf
    repeat with_reducible (first | assumption | exact Below.refl _ _ | refine Below.setCell ?_ (by first | omega | (simp <;> omega)) _ | refine Below.alloc ?_ (by first | omega | (simp <;> omega)) _ | refine Below.drew ?_)

set_option maxRecDepth 100000 in
set_option maxHeartbeats 1000000 in
theorem Reach_ask (F S J L H t : Int) (hr : isRuleB F S J L H = true) (ha : lies t 0 200 = false) (w : World) :
    Calls Tryd.prog 22 #[.agg #[.int .i64 F, .int .i64 S, .int .i64 J, .int .i64 L, .int .i64 H], .int .i64 t] w fun e w' => e = .returned (.tuple #[.agg #[.int .i64 0, .int .i64 0], .int .i64 41]) ∧ Below w.heap.size w w' := by
  go_enter Tryd.func22, Tryd.ntmps22
  go_wp2_with fail
  go_region_held3 (fun W1 : World => W1.cell? ⟨w.heap.size, 0, none⟩ = some (.int .i64 F) ∧ W1.cell? ⟨w.heap.size, 1, none⟩ = some (.int .i64 S) ∧ W1.cell? ⟨w.heap.size, 2, none⟩ = some (.int .i64 J) ∧ W1.cell? ⟨w.heap.size, 3, none⟩ = some (.int .i64 L) ∧ W1.cell? ⟨w.heap.size, 4, none⟩ = some (.int .i64 H)) (simp [go_sem, *])
    (first | (go_at_call 57; refine (lies_any _ _ _ _).mono ?_; rintro e w' ⟨rfl, rfl⟩) | (go_at_call 54; refine (opened_ask F S J L H _ hr).mono ?_; rintro e w1 ⟨rfl, hb⟩; obtain ⟨hc, hf⟩ := bcell hb; have hz := hb.size; simp at hz; have hz1 : w.heap.size < w1.heap.size := (by omega); try (have hz2 : w.heap.size + 1 < w1.heap.size := (by omega)); try (have hz3 : w.heap.size + 1 + 1 < w1.heap.size := (by omega))))
  all_goals
    go_wp2
    have hB1 : Below w.heap.size w w1 := by
      refine below_call ?_ hb
      repeat with_reducible (first | assumption | exact Below.refl _ _ | refine Below.setCell ?_ (by first | omega | (simp <;> omega)) _ | refine Below.alloc ?_ (by first | omega | (simp <;> omega)) _ | refine Below.drew ?_)
    refine bodyPost_ret (v := .tuple #[.agg #[.int .i64 0, .int .i64 0], .int .i64 41]) (by simp [results, Tryd.results22, go_sem, hc, hz1, hz2]) rfl ⟨rfl, ?_⟩
    clear hb hc hf
    repeat with_reducible (first | assumption | exact Below.refl _ _ | refine Below.setCell ?_ (by first | omega | (simp <;> omega)) _ | refine Below.alloc ?_ (by first | omega | (simp <;> omega)) _ | refine Below.drew ?_)

set_option maxRecDepth 100000 in
set_option maxHeartbeats 1000000 in
theorem Fewest_bad (F S J L H off : Int) (hr : isRuleB F S J L H = false) (w : World) :
    Calls Tryd.prog 18 #[.agg #[.int .i64 F, .int .i64 S, .int .i64 J, .int .i64 L, .int .i64 H], .int .i64 off] w fun e w' => e = .returned (.tuple #[.int .i64 0, .int .i64 40]) ∧ Below w.heap.size w w' := by
  go_enter Tryd.func18, Tryd.ntmps18
  go_wp2_with fail
  go_region_held3 (fun W1 : World => W1.cell? ⟨w.heap.size, 0, none⟩ = some (.int .i64 F) ∧ W1.cell? ⟨w.heap.size, 1, none⟩ = some (.int .i64 S) ∧ W1.cell? ⟨w.heap.size, 2, none⟩ = some (.int .i64 J) ∧ W1.cell? ⟨w.heap.size, 3, none⟩ = some (.int .i64 L) ∧ W1.cell? ⟨w.heap.size, 4, none⟩ = some (.int .i64 H)) (simp [go_sem, *])
    (first | (go_at_call 55; refine (isOff_any _ _).mono ?_; rintro e w' ⟨rfl, rfl⟩) | (go_at_call 54; refine (opened_bad F S J L H _ _ hr).mono ?_; rintro e w1 ⟨rfl, hb⟩; obtain ⟨hc, hf⟩ := bcell hb; have hz := hb.size; simp at hz; have hz1 : w.heap.size < w1.heap.size := (by omega); try (have hz2 : w.heap.size + 1 < w1.heap.size := (by omega))))
  all_goals
    go_wp2
    have hB1 : Below w.heap.size w w1 := by
      refine below_call ?_ hb
      repeat with_reducible (first | assumption | exact Below.refl _ _ | refine Below.setCell ?_ (by first | omega | (simp <;> omega)) _ | refine Below.alloc ?_ (by first | omega | (simp <;> omega)) _ | refine Below.drew ?_)
    go_ret2
    refine ⟨rfl, ?_⟩
    clear hb hc hf
    repeat with_reducible (first | assumption | exact Below.refl _ _ | refine Below.setCell ?_ (by first | omega | (simp <;> omega)) _ | refine Below.alloc ?_ (by first | omega | (simp <;> omega)) _ | refine Below.drew ?_)

set_option maxRecDepth 100000 in
set_option maxHeartbeats 1000000 in
theorem Fewest_ask (F S J L H off : Int) (hr : isRuleB F S J L H = true) (ha : lies off (-20000) 20000 = false) (w : World) :
    Calls Tryd.prog 18 #[.agg #[.int .i64 F, .int .i64 S, .int .i64 J, .int .i64 L, .int .i64 H], .int .i64 off] w fun e w' => e = .returned (.tuple #[.int .i64 0, .int .i64 41]) ∧ Below w.heap.size w w' := by
  go_enter Tryd.func18, Tryd.ntmps18
  go_wp2_with fail
  go_region_held3 (fun W1 : World => W1.cell? ⟨w.heap.size, 0, none⟩ = some (.int .i64 F) ∧ W1.cell? ⟨w.heap.size, 1, none⟩ = some (.int .i64 S) ∧ W1.cell? ⟨w.heap.size, 2, none⟩ = some (.int .i64 J) ∧ W1.cell? ⟨w.heap.size, 3, none⟩ = some (.int .i64 L) ∧ W1.cell? ⟨w.heap.size, 4, none⟩ = some (.int .i64 H)) (simp [go_sem, *])
    (first | (go_at_call 55; refine (isOff_any _ _).mono ?_; rintro e w' ⟨rfl, rfl⟩) | (go_at_call 54; refine (opened_ask F S J L H _ hr).mono ?_; rintro e w1 ⟨rfl, hb⟩; obtain ⟨hc, hf⟩ := bcell hb; have hz := hb.size; simp at hz; have hz1 : w.heap.size < w1.heap.size := (by omega); try (have hz2 : w.heap.size + 1 < w1.heap.size := (by omega))))
  all_goals
    go_wp2
    have hB1 : Below w.heap.size w w1 := by
      refine below_call ?_ hb
      repeat with_reducible (first | assumption | exact Below.refl _ _ | refine Below.setCell ?_ (by first | omega | (simp <;> omega)) _ | refine Below.alloc ?_ (by first | omega | (simp <;> omega)) _ | refine Below.drew ?_)
    go_ret2
    refine ⟨rfl, ?_⟩
    clear hb hc hf
    repeat with_reducible (first | assumption | exact Below.refl _ _ | refine Below.setCell ?_ (by first | omega | (simp <;> omega)) _ | refine Below.alloc ?_ (by first | omega | (simp <;> omega)) _ | refine Below.drew ?_)

set_option maxRecDepth 100000 in
set_option maxHeartbeats 1000000 in
theorem IsPlan_bad (F S J L H off : Int) (a : Option Addr) (n cap : Nat) (hr : isRuleB F S J L H = false) (w : World) :
    Calls Tryd.prog 16 #[.agg #[.int .i64 F, .int .i64 S, .int .i64 J, .int .i64 L, .int .i64 H], .int .i64 off, .slice a n cap] w fun e w' => e = .returned (.tuple #[.bool false, .int .i64 40]) ∧ Below w.heap.size w w' := by
  go_enter Tryd.func16, Tryd.ntmps16
  go_wp2_with fail
  go_region_held3 (fun W1 : World => W1.cell? ⟨w.heap.size, 0, none⟩ = some (.int .i64 F) ∧ W1.cell? ⟨w.heap.size, 1, none⟩ = some (.int .i64 S) ∧ W1.cell? ⟨w.heap.size, 2, none⟩ = some (.int .i64 J) ∧ W1.cell? ⟨w.heap.size, 3, none⟩ = some (.int .i64 L) ∧ W1.cell? ⟨w.heap.size, 4, none⟩ = some (.int .i64 H)) (simp [go_sem, *])
    (first | (go_at_call 55; refine (isOff_any _ _).mono ?_; rintro e w' ⟨rfl, rfl⟩) | (go_at_call 54; refine (opened_bad F S J L H _ _ hr).mono ?_; rintro e w1 ⟨rfl, hb⟩; obtain ⟨hc, hf⟩ := bcell hb; have hz := hb.size; simp at hz; have hz1 : w.heap.size < w1.heap.size := (by omega); try (have hz2 : w.heap.size + 1 < w1.heap.size := (by omega))))
  all_goals
    go_wp2
    have hB1 : Below w.heap.size w w1 := by
      refine below_call ?_ hb
      repeat with_reducible (first | assumption | exact Below.refl _ _ | refine Below.setCell ?_ (by first | omega | (simp <;> omega)) _ | refine Below.alloc ?_ (by first | omega | (simp <;> omega)) _ | refine Below.drew ?_)
    go_ret2
    refine ⟨rfl, ?_⟩
    clear hb hc hf
    repeat with_reducible (first | assumption | exact Below.refl _ _ | refine Below.setCell ?_ (by first | omega | (simp <;> omega)) _ | refine Below.alloc ?_ (by first | omega | (simp <;> omega)) _ | refine Below.drew ?_)

set_option maxRecDepth 100000 in
set_option maxHeartbeats 1000000 in
theorem IsPlan_ask (F S J L H off : Int) (a : Option Addr) (n cap : Nat) (hr : isRuleB F S J L H = true) (ha : lies off (-20000) 20000 = false) (w : World) :
    Calls Tryd.prog 16 #[.agg #[.int .i64 F, .int .i64 S, .int .i64 J, .int .i64 L, .int .i64 H], .int .i64 off, .slice a n cap] w fun e w' => e = .returned (.tuple #[.bool false, .int .i64 41]) ∧ Below w.heap.size w w' := by
  go_enter Tryd.func16, Tryd.ntmps16
  go_wp2_with fail
  go_region_held3 (fun W1 : World => W1.cell? ⟨w.heap.size, 0, none⟩ = some (.int .i64 F) ∧ W1.cell? ⟨w.heap.size, 1, none⟩ = some (.int .i64 S) ∧ W1.cell? ⟨w.heap.size, 2, none⟩ = some (.int .i64 J) ∧ W1.cell? ⟨w.heap.size, 3, none⟩ = some (.int .i64 L) ∧ W1.cell? ⟨w.heap.size, 4, none⟩ = some (.int .i64 H)) (simp [go_sem, *])
    (first | (go_at_call 55; refine (isOff_any _ _).mono ?_; rintro e w' ⟨rfl, rfl⟩) | (go_at_call 54; refine (opened_ask F S J L H _ hr).mono ?_; rintro e w1 ⟨rfl, hb⟩; obtain ⟨hc, hf⟩ := bcell hb; have hz := hb.size; simp at hz; have hz1 : w.heap.size < w1.heap.size := (by omega); try (have hz2 : w.heap.size + 1 < w1.heap.size := (by omega))))
  all_goals
    go_wp2
    have hB1 : Below w.heap.size w w1 := by
      refine below_call ?_ hb
      repeat with_reducible (first | assumption | exact Below.refl _ _ | refine Below.setCell ?_ (by first | omega | (simp <;> omega)) _ | refine Below.alloc ?_ (by first | omega | (simp <;> omega)) _ | refine Below.drew ?_)
    go_ret2
    refine ⟨rfl, ?_⟩
    clear hb hc hf
    repeat with_reducible (first | assumption | exact Below.refl _ _ | refine Below.setCell ?_ (by first | omega | (simp <;> omega)) _ | refine Below.alloc ?_ (by first | omega | (simp <;> omega)) _ | refine Below.drew ?_)

end Go.Proofs.YtidnopmjhhmedaaDoor
end

section
/- Reach, Fewest: what they return of what they take. -/
set_option linter.unusedSimpArgs false
set_option linter.unusedVariables false
namespace Go.Proofs.YtidnopmjhhmedaaDoor
open Go.RowKit

theorem heap_drew (w : World) (k : Nat) : w.drew.heap[k]? = w.heap[k]? := rfl
theorem mw_new {F S J : Int} {b : Nat} {w W : World} (hw : Ways w) (hB : Below w.heap.size w W) (hb : W.heap[b]? = some (.map #[] 0)) : MW F S J b w W :=
  ⟨⟨[], PMap.new hb, by intro t v; simp [pmLook]⟩, hw.below hB, grown_below hB⟩
theorem below_grown {w W w2 : World} {b : Nat} (hB : Below w.heap.size w W) (h : W.grownBy w2 (some b)) (hb : w.heap.size ≤ b) : Below w.heap.size w w2 := hB.trans (below_of_grown h hb hB.size)

theorem fewest_at (F S J L H : Int) (b : Nat) (off : Int) (ho : -20000 ≤ off ∧ off ≤ 20000) (hr : isRuleB F S J L H = true) {w W : World} (hw : Ways w) (hnb : w.heap.size ≤ b) (hB : Below w.heap.size w W) (hb : W.heap[b]? = some (.map #[] 0)) :
    Calls Tryd.prog 62 #[.agg #[.int .i64 F, .int .i64 S, .int .i64 J, .int .i64 L, .int .i64 H, .map (some b)], .int .i64 off] W fun e w' => e = .returned (.int .i64 (fewest F S J off)) ∧ Below w.heap.size w w' :=
  (fewest_any F S J L H b off ho hr W (mw_new (F := F) (S := S) (J := J) hw hB hb).ways (mw_new hw hB hb).memo (by have := World.block_lt_of_cell? w _ hw.1; omega)).mono fun e w' h => ⟨h.1, below_grown hB h.2.1 hnb⟩

set_option maxRecDepth 100000 in
set_option maxHeartbeats 1000000 in
theorem Fewest_ok (F S J L H off : Int) (hr : isRuleB F S J L H = true) (ha : lies off (-20000) 20000 = true) (w : World) (hw : Ways w) :
    Calls Tryd.prog 18 #[.agg #[.int .i64 F, .int .i64 S, .int .i64 J, .int .i64 L, .int .i64 H], .int .i64 off] w fun e w' => e = .returned (.tuple #[.int .i64 (if fewest F S J off < 0 then 0 else fewest F S J off), .int .i64 (if fewest F S J off < 0 then 4 else 0)]) ∧ Below w.heap.size w w' := by
  have ho := lies_iff.1 ha
  by_cases hn : fewest F S J off < 0
  all_goals
    simp only [hn, if_true, if_false]
    go_enter Tryd.func18, Tryd.ntmps18
    go_wp2_with fail
    go_region_held3 (fun W1 : World => W1.cell? ⟨w.heap.size, 0, none⟩ = some (.int .i64 F) ∧ W1.cell? ⟨w.heap.size, 1, none⟩ = some (.int .i64 S) ∧ W1.cell? ⟨w.heap.size, 2, none⟩ = some (.int .i64 J) ∧ W1.cell? ⟨w.heap.size, 3, none⟩ = some (.int .i64 L) ∧ W1.cell? ⟨w.heap.size, 4, none⟩ = some (.int .i64 H)) (simp [go_sem, *])
      (first | (go_at_call 55; refine (isOff_any _ _).mono ?_; rintro e w' ⟨rfl, rfl⟩) | (go_at_call 54; refine (opened_ok F S J L H _ hr).mono ?_; rintro e w1 ⟨b, rfl, hb, hnb, hnew⟩; obtain ⟨hc, hf⟩ := bcell hb; have hz := hb.size; simp at hz; simp at hnb; have hz1 : w.heap.size < w1.heap.size := (by omega); try (have hz2 : w.heap.size + 1 < w1.heap.size := (by omega)); try (have hz3 : w.heap.size + 1 + 1 < w1.heap.size := (by omega))))
    all_goals
      have hB1 : Below w.heap.size w w1 := by
        refine below_call ?_ hb
        repeat with_reducible (first | assumption | exact Below.refl _ _ | refine Below.setCell ?_ (by first | omega | (simp <;> omega)) _ | refine Below.alloc ?_ (by first | omega | (simp <;> omega)) _ | refine Below.drew ?_)
      have HNB := Lib.hid hnb; have HBL := Lib.hid (Array.getElem?_eq_some_iff.1 hnew).1; have HB := Lib.hid hB1; have HN := Lib.hid hnew; clear hnb hB1 hnew hb
      go_wp2_with fail
      refine (fewest_at F S J L H b off ho hr hw (by have := HNB.out; omega) ?_ ?_).mono ?_
      · have hnb := HNB.out; have hbl := HBL.out
        repeat with_reducible (first | assumption | exact HB.out | exact Below.refl _ _ | refine Below.setCell ?_ (by first | omega | (simp <;> omega)) _ | refine Below.alloc ?_ (by first | omega | (simp <;> omega)) _ | refine Below.drew ?_)
      · have hnb := HNB.out; have hbl := HBL.out
        repeat with_reducible (first | assumption | exact HN.out | rw [heap_drew] | rw [Below.heap_setCell _ _ _ _ (by first | omega | (simp <;> omega))] | rw [Below.heap_alloc _ _ _ (by first | omega | (simp <;> omega))])
      rintro e w2 ⟨rfl, hB2⟩
      go_wp2_with fail
      go_ret2
      exact ⟨rfl, hB2⟩


theorem frozen_grown {W W1 : World} {b : Nat} {p : Addr} {v : Value} {x : Bool} (h : W.grownBy W1 (some b)) (hne : p.block ≠ b) (hc : W.cell? p = some v) (hf : W.frozen? p = x) : W1.frozen? p = x :=
  (World.frozen?_of_block (w := W) (h.block p.block (World.block_lt_of_cell? W p hc) (fun e => hne (Option.some.inj e)))).trans hf

set_option maxRecDepth 100000 in
set_option maxHeartbeats 1000000 in
theorem Reach_ok (F S J L H : Int) (t : Nat) (hr : isRuleB F S J L H = true) (ht : t ≤ 200) (w : World) (hw : Ways w) :
    Calls Tryd.prog 22 #[.agg #[.int .i64 F, .int .i64 S, .int .i64 J, .int .i64 L, .int .i64 H], .int .i64 t] w fun e w' => e = .returned (.tuple #[.agg #[.int .i64 (-(capSum S J t)), .int .i64 (capSum F J t)], .int .i64 0]) ∧ Below w.heap.size w w' := by
  have ha : lies (t : Int) 0 200 = true := lies_iff.2 ⟨by omega, by omega⟩
  have hw0 : 0 < w.heap.size := World.block_lt_of_cell? w _ hw.1
  obtain ⟨hF, hS, hJ, _⟩ := isRuleB_spec hr
  have hbS := capSum_bd (each := S) (t := t) hS.1 hS.2 hJ.1 ht
  have hw2 : IntKind.i64.wrap (-(capSum S J t)) = -(capSum S J t) := IntWalk.i64_in _ (by constructor <;> omega)
  go_enter Tryd.func22, Tryd.ntmps22
  go_wp2_with fail
  go_region_held3 (fun W1 : World => W1.cell? ⟨w.heap.size, 0, none⟩ = some (.int .i64 F) ∧ W1.cell? ⟨w.heap.size, 1, none⟩ = some (.int .i64 S) ∧ W1.cell? ⟨w.heap.size, 2, none⟩ = some (.int .i64 J) ∧ W1.cell? ⟨w.heap.size, 3, none⟩ = some (.int .i64 L) ∧ W1.cell? ⟨w.heap.size, 4, none⟩ = some (.int .i64 H)) (simp [go_sem, *])
    (first | (go_at_call 57; refine (lies_any _ _ _ _).mono ?_; rintro e w' ⟨rfl, rfl⟩) | (go_at_call 54; refine (opened_ok F S J L H _ hr).mono ?_; rintro e w1 ⟨b, rfl, hb, hnb, hnew⟩; obtain ⟨hc, hf⟩ := bcell hb; have hz := hb.size; simp at hz; simp at hnb; have hz1 : w.heap.size < w1.heap.size := (by omega); try (have hz2 : w.heap.size + 1 < w1.heap.size := (by omega)); try (have hz3 : w.heap.size + 1 + 1 < w1.heap.size := (by omega))))
  all_goals
    have hB1 : Below w.heap.size w w1 := by
      refine below_call ?_ hb
      repeat with_reducible (first | assumption | exact Below.refl _ _ | refine Below.setCell ?_ (by first | omega | (simp <;> omega)) _ | refine Below.alloc ?_ (by first | omega | (simp <;> omega)) _ | refine Below.drew ?_)
    have hb0 : b ≠ 0 := by omega
    have HNB := Lib.hid hnb; have HBL := Lib.hid (Array.getElem?_eq_some_iff.1 hnew).1; have HB := Lib.hid hB1; have HN := Lib.hid hnew; clear hnb hB1 hnew hb
  ·
    have hMW0 : MW F S J b w (w1.alloc (.cells #[.int .i64 F, .int .i64 S, .int .i64 J, .int .i64 L, .int .i64 H, .map (some b)] 80)).drew := by
      have hnb := HNB.out; have hbl := HBL.out
      refine mw_new hw ?_ ?_
      · repeat with_reducible (first | assumption | exact HB.out | exact Below.refl _ _ | refine Below.setCell ?_ (by first | omega | (simp <;> omega)) _ | refine Below.alloc ?_ (by first | omega | (simp <;> omega)) _ | refine Below.drew ?_)
      · repeat with_reducible (first | assumption | exact HN.out | rw [heap_drew] | rw [Below.heap_setCell _ _ _ _ (by first | omega | (simp <;> omega))] | rw [Below.heap_alloc _ _ _ (by first | omega | (simp <;> omega))])
    have hs0 : (w1.alloc (.cells #[.int .i64 F, .int .i64 S, .int .i64 J, .int .i64 L, .int .i64 H, .map (some b)] 80)).drew.cell? ⟨w.heap.size + 1, 0, none⟩ = some (.int .i64 0) := by simp [go_sem, *]
    have hs1 : (w1.alloc (.cells #[.int .i64 F, .int .i64 S, .int .i64 J, .int .i64 L, .int .i64 H, .map (some b)] 80)).drew.cell? ⟨w.heap.size + 1, 1, none⟩ = some (.int .i64 0) := by simp [go_sem, *]
    have hs2 : (w1.alloc (.cells #[.int .i64 F, .int .i64 S, .int .i64 J, .int .i64 L, .int .i64 H, .map (some b)] 80)).drew.frozen? ⟨w.heap.size + 1, 0, none⟩ = false := by simp [go_sem, *]
    have hs3 : (w1.alloc (.cells #[.int .i64 F, .int .i64 S, .int .i64 J, .int .i64 L, .int .i64 H, .map (some b)] 80)).drew.frozen? ⟨w.heap.size + 1, 1, none⟩ = false := by simp [go_sem, *]
    have hNb : w.heap.size + 1 ≠ b := by have := HNB.out; omega
    have hN0 : w.heap.size + 1 ≠ 0 := by omega
    have hNN : w.heap.size ≤ w.heap.size + 1 := by omega
    have hPb : w1.heap.size ≠ b := by have := HNB.out; have := HBL.out; omega
    have hPN : w1.heap.size ≠ w.heap.size + 1 := by omega
    go_wp2_with fail
    go_region_held3 (fun W1 : World => (W1.cell? ⟨w1.heap.size, 0, none⟩ = some (.int .i64 F) ∧ W1.cell? ⟨w1.heap.size, 1, none⟩ = some (.int .i64 S) ∧ W1.cell? ⟨w1.heap.size, 2, none⟩ = some (.int .i64 J) ∧ W1.cell? ⟨w1.heap.size, 3, none⟩ = some (.int .i64 L) ∧ W1.cell? ⟨w1.heap.size, 4, none⟩ = some (.int .i64 H) ∧ W1.cell? ⟨w1.heap.size, 5, none⟩ = some (.map (some b))) ∧ MW F S J b w W1)
      (first | with_reducible exact ⟨((RuleAt.next hx.1 hp hPb).setCell hPN).setCell hPN, ((MW.next hx.2 hb0 hp).setCell hNN hNb hN0).setCell hNN hNb hN0⟩ | with_reducible exact ⟨RuleAt.next hx.1 hp hPb, MW.next hx.2 hb0 hp⟩ | ((repeat' apply And.intro) <;> (first | with_reducible exact hMW0 | (simp [go_sem, *]; done))))
      (first | (go_at_call_of 67 (Value.int IntKind.i64 1); rename_i hx _ _; refine (reach_slow F S J L H b t ht hr _ hx.2.ways hx.2.memo).mono ?_; rintro e w2 ⟨rfl, hp⟩; have hs2 := frozen_grown hp.1 (p := ⟨w.heap.size + 1, 0, none⟩) hNb hs0 hs2; have hs3 := frozen_grown hp.1 (p := ⟨w.heap.size + 1, 1, none⟩) hNb hs1 hs3; have hs0 := cell_grown hp.1 (p := ⟨w.heap.size + 1, 0, none⟩) hNb hs0; have hs1 := cell_grown hp.1 (p := ⟨w.heap.size + 1, 1, none⟩) hNb hs1) | (go_at_call 67; rename_i hx _ _; refine (reach_fast F S J L H b t ht hr _ hx.2.ways hx.2.memo).mono ?_; rintro e w2 ⟨rfl, hp⟩; have hs2 := frozen_grown hp.1 (p := ⟨w.heap.size + 1, 0, none⟩) hNb hs0 hs2; have hs3 := frozen_grown hp.1 (p := ⟨w.heap.size + 1, 1, none⟩) hNb hs1 hs3; have hs0 := cell_grown hp.1 (p := ⟨w.heap.size + 1, 0, none⟩) hNb hs0; have hs1 := cell_grown hp.1 (p := ⟨w.heap.size + 1, 1, none⟩) hNb hs1))
    rename_i hh
    go_wp2
    refine bodyPost_ret (v := .tuple #[.agg #[.int .i64 (-(capSum S J t)), .int .i64 (capSum F J t)], .int .i64 0]) (by simp [results, Tryd.results22, go_sem, *]) rfl ⟨rfl, below_of_grown hh.2.gr (by have := HNB.out; omega) (Nat.le_refl _)⟩
  ·
    have hMW0 : MW F S J b w ((((((w1.setCell ⟨w.heap.size + 1 + 1, 0, none⟩ (.int .i64 F)).setCell ⟨w.heap.size + 1 + 1, 1, none⟩ (.int .i64 S)).setCell ⟨w.heap.size + 1 + 1, 2, none⟩ (.int .i64 J)).setCell ⟨w.heap.size + 1 + 1, 3, none⟩ (.int .i64 L)).setCell ⟨w.heap.size + 1 + 1, 4, none⟩ (.int .i64 H)).setCell ⟨w.heap.size + 1 + 1, 5, none⟩ (.map (some b))).drew := by
      have hnb := HNB.out; have hbl := HBL.out
      refine mw_new hw ?_ ?_
      · repeat with_reducible (first | assumption | exact HB.out | exact Below.refl _ _ | refine Below.setCell ?_ (by first | omega | (simp <;> omega)) _ | refine Below.alloc ?_ (by first | omega | (simp <;> omega)) _ | refine Below.drew ?_)
      · repeat with_reducible (first | assumption | exact HN.out | rw [heap_drew] | rw [Below.heap_setCell _ _ _ _ (by first | omega | (simp <;> omega))] | rw [Below.heap_alloc _ _ _ (by first | omega | (simp <;> omega))])
    have hs0 : ((((((w1.setCell ⟨w.heap.size + 1 + 1, 0, none⟩ (.int .i64 F)).setCell ⟨w.heap.size + 1 + 1, 1, none⟩ (.int .i64 S)).setCell ⟨w.heap.size + 1 + 1, 2, none⟩ (.int .i64 J)).setCell ⟨w.heap.size + 1 + 1, 3, none⟩ (.int .i64 L)).setCell ⟨w.heap.size + 1 + 1, 4, none⟩ (.int .i64 H)).setCell ⟨w.heap.size + 1 + 1, 5, none⟩ (.map (some b))).drew.cell? ⟨w.heap.size + 1, 0, none⟩ = some (.int .i64 0) := by simp [go_sem, *]
    have hs1 : ((((((w1.setCell ⟨w.heap.size + 1 + 1, 0, none⟩ (.int .i64 F)).setCell ⟨w.heap.size + 1 + 1, 1, none⟩ (.int .i64 S)).setCell ⟨w.heap.size + 1 + 1, 2, none⟩ (.int .i64 J)).setCell ⟨w.heap.size + 1 + 1, 3, none⟩ (.int .i64 L)).setCell ⟨w.heap.size + 1 + 1, 4, none⟩ (.int .i64 H)).setCell ⟨w.heap.size + 1 + 1, 5, none⟩ (.map (some b))).drew.cell? ⟨w.heap.size + 1, 1, none⟩ = some (.int .i64 0) := by simp [go_sem, *]
    have hs2 : ((((((w1.setCell ⟨w.heap.size + 1 + 1, 0, none⟩ (.int .i64 F)).setCell ⟨w.heap.size + 1 + 1, 1, none⟩ (.int .i64 S)).setCell ⟨w.heap.size + 1 + 1, 2, none⟩ (.int .i64 J)).setCell ⟨w.heap.size + 1 + 1, 3, none⟩ (.int .i64 L)).setCell ⟨w.heap.size + 1 + 1, 4, none⟩ (.int .i64 H)).setCell ⟨w.heap.size + 1 + 1, 5, none⟩ (.map (some b))).drew.frozen? ⟨w.heap.size + 1, 0, none⟩ = false := by simp [go_sem, *]
    have hs3 : ((((((w1.setCell ⟨w.heap.size + 1 + 1, 0, none⟩ (.int .i64 F)).setCell ⟨w.heap.size + 1 + 1, 1, none⟩ (.int .i64 S)).setCell ⟨w.heap.size + 1 + 1, 2, none⟩ (.int .i64 J)).setCell ⟨w.heap.size + 1 + 1, 3, none⟩ (.int .i64 L)).setCell ⟨w.heap.size + 1 + 1, 4, none⟩ (.int .i64 H)).setCell ⟨w.heap.size + 1 + 1, 5, none⟩ (.map (some b))).drew.frozen? ⟨w.heap.size + 1, 1, none⟩ = false := by simp [go_sem, *]
    have hNb : w.heap.size + 1 ≠ b := by have := HNB.out; omega
    have hN0 : w.heap.size + 1 ≠ 0 := by omega
    have hNN : w.heap.size ≤ w.heap.size + 1 := by omega
    have hPb : w.heap.size + 1 + 1 ≠ b := by have := HNB.out; have := HBL.out; omega
    have hPN : w.heap.size + 1 + 1 ≠ w.heap.size + 1 := by omega
    go_wp2_with fail
    go_region_held3 (fun W1 : World => (W1.cell? ⟨w.heap.size + 1 + 1, 0, none⟩ = some (.int .i64 F) ∧ W1.cell? ⟨w.heap.size + 1 + 1, 1, none⟩ = some (.int .i64 S) ∧ W1.cell? ⟨w.heap.size + 1 + 1, 2, none⟩ = some (.int .i64 J) ∧ W1.cell? ⟨w.heap.size + 1 + 1, 3, none⟩ = some (.int .i64 L) ∧ W1.cell? ⟨w.heap.size + 1 + 1, 4, none⟩ = some (.int .i64 H) ∧ W1.cell? ⟨w.heap.size + 1 + 1, 5, none⟩ = some (.map (some b))) ∧ MW F S J b w W1)
      (first | with_reducible exact ⟨((RuleAt.next hx.1 hp hPb).setCell hPN).setCell hPN, ((MW.next hx.2 hb0 hp).setCell hNN hNb hN0).setCell hNN hNb hN0⟩ | with_reducible exact ⟨RuleAt.next hx.1 hp hPb, MW.next hx.2 hb0 hp⟩ | ((repeat' apply And.intro) <;> (first | with_reducible exact hMW0 | (simp [go_sem, *]; done))))
      (first | (go_at_call_of 67 (Value.int IntKind.i64 1); rename_i hx _ _; refine (reach_slow F S J L H b t ht hr _ hx.2.ways hx.2.memo).mono ?_; rintro e w2 ⟨rfl, hp⟩; have hs2 := frozen_grown hp.1 (p := ⟨w.heap.size + 1, 0, none⟩) hNb hs0 hs2; have hs3 := frozen_grown hp.1 (p := ⟨w.heap.size + 1, 1, none⟩) hNb hs1 hs3; have hs0 := cell_grown hp.1 (p := ⟨w.heap.size + 1, 0, none⟩) hNb hs0; have hs1 := cell_grown hp.1 (p := ⟨w.heap.size + 1, 1, none⟩) hNb hs1) | (go_at_call 67; rename_i hx _ _; refine (reach_fast F S J L H b t ht hr _ hx.2.ways hx.2.memo).mono ?_; rintro e w2 ⟨rfl, hp⟩; have hs2 := frozen_grown hp.1 (p := ⟨w.heap.size + 1, 0, none⟩) hNb hs0 hs2; have hs3 := frozen_grown hp.1 (p := ⟨w.heap.size + 1, 1, none⟩) hNb hs1 hs3; have hs0 := cell_grown hp.1 (p := ⟨w.heap.size + 1, 0, none⟩) hNb hs0; have hs1 := cell_grown hp.1 (p := ⟨w.heap.size + 1, 1, none⟩) hNb hs1))
    rename_i hh
    go_wp2
    refine bodyPost_ret (v := .tuple #[.agg #[.int .i64 (-(capSum S J t)), .int .i64 (capSum F J t)], .int .i64 0]) (by simp [results, Tryd.results22, go_sem, *]) rfl ⟨rfl, below_of_grown hh.2.gr (by have := HNB.out; omega) (Nat.le_refl _)⟩
  ·
    have hMW0 : MW F S J b w ((((((w1.setCell ⟨w.heap.size + 1 + 1, 0, none⟩ (.int .i64 F)).setCell ⟨w.heap.size + 1 + 1, 1, none⟩ (.int .i64 S)).setCell ⟨w.heap.size + 1 + 1, 2, none⟩ (.int .i64 J)).setCell ⟨w.heap.size + 1 + 1, 3, none⟩ (.int .i64 L)).setCell ⟨w.heap.size + 1 + 1, 4, none⟩ (.int .i64 H)).setCell ⟨w.heap.size + 1 + 1, 5, none⟩ (.map (some b))).drew := by
      have hnb := HNB.out; have hbl := HBL.out
      refine mw_new hw ?_ ?_
      · repeat with_reducible (first | assumption | exact HB.out | exact Below.refl _ _ | refine Below.setCell ?_ (by first | omega | (simp <;> omega)) _ | refine Below.alloc ?_ (by first | omega | (simp <;> omega)) _ | refine Below.drew ?_)
      · repeat with_reducible (first | assumption | exact HN.out | rw [heap_drew] | rw [Below.heap_setCell _ _ _ _ (by first | omega | (simp <;> omega))] | rw [Below.heap_alloc _ _ _ (by first | omega | (simp <;> omega))])
    have hs0 : ((((((w1.setCell ⟨w.heap.size + 1 + 1, 0, none⟩ (.int .i64 F)).setCell ⟨w.heap.size + 1 + 1, 1, none⟩ (.int .i64 S)).setCell ⟨w.heap.size + 1 + 1, 2, none⟩ (.int .i64 J)).setCell ⟨w.heap.size + 1 + 1, 3, none⟩ (.int .i64 L)).setCell ⟨w.heap.size + 1 + 1, 4, none⟩ (.int .i64 H)).setCell ⟨w.heap.size + 1 + 1, 5, none⟩ (.map (some b))).drew.cell? ⟨w.heap.size + 1, 0, none⟩ = some (.int .i64 0) := by simp [go_sem, *]
    have hs1 : ((((((w1.setCell ⟨w.heap.size + 1 + 1, 0, none⟩ (.int .i64 F)).setCell ⟨w.heap.size + 1 + 1, 1, none⟩ (.int .i64 S)).setCell ⟨w.heap.size + 1 + 1, 2, none⟩ (.int .i64 J)).setCell ⟨w.heap.size + 1 + 1, 3, none⟩ (.int .i64 L)).setCell ⟨w.heap.size + 1 + 1, 4, none⟩ (.int .i64 H)).setCell ⟨w.heap.size + 1 + 1, 5, none⟩ (.map (some b))).drew.cell? ⟨w.heap.size + 1, 1, none⟩ = some (.int .i64 0) := by simp [go_sem, *]
    have hs2 : ((((((w1.setCell ⟨w.heap.size + 1 + 1, 0, none⟩ (.int .i64 F)).setCell ⟨w.heap.size + 1 + 1, 1, none⟩ (.int .i64 S)).setCell ⟨w.heap.size + 1 + 1, 2, none⟩ (.int .i64 J)).setCell ⟨w.heap.size + 1 + 1, 3, none⟩ (.int .i64 L)).setCell ⟨w.heap.size + 1 + 1, 4, none⟩ (.int .i64 H)).setCell ⟨w.heap.size + 1 + 1, 5, none⟩ (.map (some b))).drew.frozen? ⟨w.heap.size + 1, 0, none⟩ = false := by simp [go_sem, *]
    have hs3 : ((((((w1.setCell ⟨w.heap.size + 1 + 1, 0, none⟩ (.int .i64 F)).setCell ⟨w.heap.size + 1 + 1, 1, none⟩ (.int .i64 S)).setCell ⟨w.heap.size + 1 + 1, 2, none⟩ (.int .i64 J)).setCell ⟨w.heap.size + 1 + 1, 3, none⟩ (.int .i64 L)).setCell ⟨w.heap.size + 1 + 1, 4, none⟩ (.int .i64 H)).setCell ⟨w.heap.size + 1 + 1, 5, none⟩ (.map (some b))).drew.frozen? ⟨w.heap.size + 1, 1, none⟩ = false := by simp [go_sem, *]
    have hNb : w.heap.size + 1 ≠ b := by have := HNB.out; omega
    have hN0 : w.heap.size + 1 ≠ 0 := by omega
    have hNN : w.heap.size ≤ w.heap.size + 1 := by omega
    have hPb : w.heap.size + 1 + 1 ≠ b := by have := HNB.out; have := HBL.out; omega
    have hPN : w.heap.size + 1 + 1 ≠ w.heap.size + 1 := by omega
    go_wp2_with fail
    go_region_held3 (fun W1 : World => (W1.cell? ⟨w.heap.size + 1 + 1, 0, none⟩ = some (.int .i64 F) ∧ W1.cell? ⟨w.heap.size + 1 + 1, 1, none⟩ = some (.int .i64 S) ∧ W1.cell? ⟨w.heap.size + 1 + 1, 2, none⟩ = some (.int .i64 J) ∧ W1.cell? ⟨w.heap.size + 1 + 1, 3, none⟩ = some (.int .i64 L) ∧ W1.cell? ⟨w.heap.size + 1 + 1, 4, none⟩ = some (.int .i64 H) ∧ W1.cell? ⟨w.heap.size + 1 + 1, 5, none⟩ = some (.map (some b))) ∧ MW F S J b w W1)
      (first | with_reducible exact ⟨((RuleAt.next hx.1 hp hPb).setCell hPN).setCell hPN, ((MW.next hx.2 hb0 hp).setCell hNN hNb hN0).setCell hNN hNb hN0⟩ | with_reducible exact ⟨RuleAt.next hx.1 hp hPb, MW.next hx.2 hb0 hp⟩ | ((repeat' apply And.intro) <;> (first | with_reducible exact hMW0 | (simp [go_sem, *]; done))))
      (first | (go_at_call_of 67 (Value.int IntKind.i64 1); rename_i hx _ _; refine (reach_slow F S J L H b t ht hr _ hx.2.ways hx.2.memo).mono ?_; rintro e w2 ⟨rfl, hp⟩; have hs2 := frozen_grown hp.1 (p := ⟨w.heap.size + 1, 0, none⟩) hNb hs0 hs2; have hs3 := frozen_grown hp.1 (p := ⟨w.heap.size + 1, 1, none⟩) hNb hs1 hs3; have hs0 := cell_grown hp.1 (p := ⟨w.heap.size + 1, 0, none⟩) hNb hs0; have hs1 := cell_grown hp.1 (p := ⟨w.heap.size + 1, 1, none⟩) hNb hs1) | (go_at_call 67; rename_i hx _ _; refine (reach_fast F S J L H b t ht hr _ hx.2.ways hx.2.memo).mono ?_; rintro e w2 ⟨rfl, hp⟩; have hs2 := frozen_grown hp.1 (p := ⟨w.heap.size + 1, 0, none⟩) hNb hs0 hs2; have hs3 := frozen_grown hp.1 (p := ⟨w.heap.size + 1, 1, none⟩) hNb hs1 hs3; have hs0 := cell_grown hp.1 (p := ⟨w.heap.size + 1, 0, none⟩) hNb hs0; have hs1 := cell_grown hp.1 (p := ⟨w.heap.size + 1, 1, none⟩) hNb hs1))
    rename_i hh
    go_wp2
    refine bodyPost_ret (v := .tuple #[.agg #[.int .i64 (-(capSum S J t)), .int .i64 (capSum F J t)], .int .i64 0]) (by simp [results, Tryd.results22, go_sem, *]) rfl ⟨rfl, below_of_grown hh.2.gr (by have := HNB.out; omega) (Nat.le_refl _)⟩

end Go.Proofs.YtidnopmjhhmedaaDoor
end

section
/- IsPlan, Shown: what they return of what they take. -/
set_option linter.unusedSimpArgs false
set_option linter.unusedVariables false
namespace Go.Proofs.YtidnopmjhhmedaaDoor
open Go.RowKit

theorem Nums.below {w w' : World} {a : Option Addr} {n : Nat} {xs : List Int} (h : Nums w a n xs) (hb : Below w.heap.size w w') : Nums w' a n xs :=
  ⟨h.1, h.2.1, fun hn => by
    obtain ⟨b, o, e, hc⟩ := h.2.2 hn
    exact ⟨b, o, e, fun j hj => cell_below hb (hc j hj)⟩⟩
theorem lies_same (n a b : Int) (w : World) : Calls Tryd.prog 57 #[.int .i64 n, .int .i64 a, .int .i64 b] w fun e w' => e = .returned (.bool (lies n a b)) ∧ w' = w :=
  (lies_any n a b w).mono fun e w' h => ⟨h.1, h.2.symm⟩

def smoothB (J : Int) (n : Nat) (xs : List Int) : Bool := decide (n = 0) || lies (xs[n - 1]?.getD 0) (-J) J
def isPlanB (F S J off : Int) (n : Nat) (xs : List Int) : Bool := decide (n ≤ 200) && keepsB F S J 0 xs && smoothB J n xs && decide (total xs = -off)

set_option maxRecDepth 100000 in
set_option maxHeartbeats 1000000 in
theorem IsPlan_long (F S J L H off : Int) (a : Option Addr) (n cap : Nat) (xs : List Int) (hr : isRuleB F S J L H = true) (ha : lies off (-20000) 20000 = true) (w : World) (hw : Ways w) (hN : Nums w a n xs) (hn : 200 < n) :
    Calls Tryd.prog 16 #[.agg #[.int .i64 F, .int .i64 S, .int .i64 J, .int .i64 L, .int .i64 H], .int .i64 off, .slice a n cap] w fun e w' => e = .returned (.tuple #[.bool false, .int .i64 0]) ∧ Below w.heap.size w w' := by
  have hm := hN.2.1
  go_enter Tryd.func16, Tryd.ntmps16
  go_wp2_with fail
  go_region_held3 (fun W1 : World => W1.cell? ⟨w.heap.size, 0, none⟩ = some (.int .i64 F) ∧ W1.cell? ⟨w.heap.size, 1, none⟩ = some (.int .i64 S) ∧ W1.cell? ⟨w.heap.size, 2, none⟩ = some (.int .i64 J) ∧ W1.cell? ⟨w.heap.size, 3, none⟩ = some (.int .i64 L) ∧ W1.cell? ⟨w.heap.size, 4, none⟩ = some (.int .i64 H)) (simp [go_sem, *])
    (first | (go_at_call 55; refine (isOff_any _ _).mono ?_; rintro e w' ⟨rfl, rfl⟩) | (go_at_call 54; refine (opened_ok F S J L H _ hr).mono ?_; rintro e w1 ⟨b, rfl, hb, hnb, hnew⟩; obtain ⟨hc, hf⟩ := bcell hb; have hz := hb.size; simp at hz; simp at hnb; have hz1 : w.heap.size < w1.heap.size := (by omega); try (have hz2 : w.heap.size + 1 < w1.heap.size := (by omega)); try (have hz3 : w.heap.size + 1 + 1 < w1.heap.size := (by omega))))
  all_goals
    have hB1 : Below w.heap.size w w1 := by
      refine below_call ?_ hb
      repeat with_reducible (first | assumption | exact Below.refl _ _ | refine Below.setCell ?_ (by first | omega | (simp <;> omega)) _ | refine Below.alloc ?_ (by first | omega | (simp <;> omega)) _ | refine Below.drew ?_)
    have HNB := Lib.hid hnb; have HBL := Lib.hid (Array.getElem?_eq_some_iff.1 hnew).1; have HB := Lib.hid hB1; have HN := Lib.hid hnew; clear hnb hB1 hnew hb
    go_wp2_with fail
    go_ret2
    refine ⟨rfl, ?_⟩
    have hnb := HNB.out
    repeat with_reducible (first | assumption | exact HB.out | exact Below.refl _ _ | refine Below.setCell ?_ (by first | omega | (simp <;> omega)) _ | refine Below.alloc ?_ (by first | omega | (simp <;> omega)) _ | refine Below.drew ?_)

set_option maxRecDepth 100000 in
set_option maxHeartbeats 1000000 in
theorem IsPlan_not (F S J L H off : Int) (a : Option Addr) (n cap : Nat) (xs : List Int) (hr : isRuleB F S J L H = true) (ha : lies off (-20000) 20000 = true) (w : World) (hw : Ways w) (hN : Nums w a n xs) (hn : ¬ 200 < n) (hk : keepsB F S J 0 xs = false) :
    Calls Tryd.prog 16 #[.agg #[.int .i64 F, .int .i64 S, .int .i64 J, .int .i64 L, .int .i64 H], .int .i64 off, .slice a n cap] w fun e w' => e = .returned (.tuple #[.bool false, .int .i64 0]) ∧ Below w.heap.size w w' := by
  have hm := hN.2.1
  go_enter Tryd.func16, Tryd.ntmps16
  go_wp2_with fail
  go_region_held3 (fun W1 : World => W1.cell? ⟨w.heap.size, 0, none⟩ = some (.int .i64 F) ∧ W1.cell? ⟨w.heap.size, 1, none⟩ = some (.int .i64 S) ∧ W1.cell? ⟨w.heap.size, 2, none⟩ = some (.int .i64 J) ∧ W1.cell? ⟨w.heap.size, 3, none⟩ = some (.int .i64 L) ∧ W1.cell? ⟨w.heap.size, 4, none⟩ = some (.int .i64 H)) (simp [go_sem, *])
    (first | (go_at_call 55; refine (isOff_any _ _).mono ?_; rintro e w' ⟨rfl, rfl⟩) | (go_at_call 54; refine (opened_ok F S J L H _ hr).mono ?_; rintro e w1 ⟨b, rfl, hb, hnb, hnew⟩; obtain ⟨hc, hf⟩ := bcell hb; have hz := hb.size; simp at hz; simp at hnb; have hz1 : w.heap.size < w1.heap.size := (by omega); try (have hz2 : w.heap.size + 1 < w1.heap.size := (by omega)); try (have hz3 : w.heap.size + 1 + 1 < w1.heap.size := (by omega))))
  all_goals
    have hB1 : Below w.heap.size w w1 := by
      refine below_call ?_ hb
      repeat with_reducible (first | assumption | exact Below.refl _ _ | refine Below.setCell ?_ (by first | omega | (simp <;> omega)) _ | refine Below.alloc ?_ (by first | omega | (simp <;> omega)) _ | refine Below.drew ?_)
    have HNB := Lib.hid hnb; have HBL := Lib.hid (Array.getElem?_eq_some_iff.1 hnew).1; have HB := Lib.hid hB1; have HN := Lib.hid hnew; clear hnb hB1 hnew hb
    go_wp2_with fail
    refine (keeps_any F S J L H (some b) a n cap xs _ (hN.below ?_) hr).mono ?_
    · have hnb := HNB.out
      repeat with_reducible (first | assumption | exact HB.out | exact Below.refl _ _ | refine Below.setCell ?_ (by first | omega | (simp <;> omega)) _ | refine Below.alloc ?_ (by first | omega | (simp <;> omega)) _ | refine Below.drew ?_)
    rintro e w2 ⟨rfl, hb2⟩
    rw [hk]
    have hB2 : Below w.heap.size w w2 := by
      refine below_call ?_ hb2
      have hnb := HNB.out
      repeat with_reducible (first | assumption | exact HB.out | exact Below.refl _ _ | refine Below.setCell ?_ (by first | omega | (simp <;> omega)) _ | refine Below.alloc ?_ (by first | omega | (simp <;> omega)) _ | refine Below.drew ?_)
    have HB2 := Lib.hid hB2; clear hB2 hb2
    go_wp2_with fail
    go_ret2
    exact ⟨rfl, HB2.out⟩

set_option maxRecDepth 100000 in
set_option maxHeartbeats 1000000 in
theorem IsPlan_nil (F S J L H off : Int) (a : Option Addr) (cap : Nat) (xs : List Int) (hr : isRuleB F S J L H = true) (ha : lies off (-20000) 20000 = true) (w : World) (hw : Ways w) (hN : Nums w a 0 xs) (hk : keepsB F S J 0 xs = true) :
    Calls Tryd.prog 16 #[.agg #[.int .i64 F, .int .i64 S, .int .i64 J, .int .i64 L, .int .i64 H], .int .i64 off, .slice a 0 cap] w fun e w' => e = .returned (.tuple #[.bool (decide (0 = -off)), .int .i64 0]) ∧ Below w.heap.size w w' := by
  have ho := lies_iff.1 ha
  have hx : xs = [] := List.eq_nil_of_length_eq_zero hN.1
  have htot : total xs = 0 := by rw [hx]; rfl
  have hw1 : IntKind.i64.wrap (-off) = -off := IntWalk.i64_in _ (by constructor <;> omega)
  go_enter Tryd.func16, Tryd.ntmps16
  go_wp2_with fail
  go_region_held3 (fun W1 : World => W1.cell? ⟨w.heap.size, 0, none⟩ = some (.int .i64 F) ∧ W1.cell? ⟨w.heap.size, 1, none⟩ = some (.int .i64 S) ∧ W1.cell? ⟨w.heap.size, 2, none⟩ = some (.int .i64 J) ∧ W1.cell? ⟨w.heap.size, 3, none⟩ = some (.int .i64 L) ∧ W1.cell? ⟨w.heap.size, 4, none⟩ = some (.int .i64 H)) (simp [go_sem, *])
    (first | (go_at_call 55; refine (isOff_any _ _).mono ?_; rintro e w' ⟨rfl, rfl⟩) | (go_at_call 54; refine (opened_ok F S J L H _ hr).mono ?_; rintro e w1 ⟨b, rfl, hb, hnb, hnew⟩; obtain ⟨hc, hf⟩ := bcell hb; have hz := hb.size; simp at hz; simp at hnb; have hz1 : w.heap.size < w1.heap.size := (by omega); try (have hz2 : w.heap.size + 1 < w1.heap.size := (by omega)); try (have hz3 : w.heap.size + 1 + 1 < w1.heap.size := (by omega))))
  all_goals
    have hB1 : Below w.heap.size w w1 := by
      refine below_call ?_ hb
      repeat with_reducible (first | assumption | exact Below.refl _ _ | refine Below.setCell ?_ (by first | omega | (simp <;> omega)) _ | refine Below.alloc ?_ (by first | omega | (simp <;> omega)) _ | refine Below.drew ?_)
    have HNB := Lib.hid hnb; have HBL := Lib.hid (Array.getElem?_eq_some_iff.1 hnew).1; have HB := Lib.hid hB1; have HN := Lib.hid hnew; clear hnb hB1 hnew hb
    go_wp2_with fail
    refine (keeps_any F S J L H (some b) a 0 cap xs _ (hN.below ?_) hr).mono ?_
    · have hnb := HNB.out
      repeat with_reducible (first | assumption | exact HB.out | exact Below.refl _ _ | refine Below.setCell ?_ (by first | omega | (simp <;> omega)) _ | refine Below.alloc ?_ (by first | omega | (simp <;> omega)) _ | refine Below.drew ?_)
    rintro e w2 ⟨rfl, hb2⟩
    rw [hk]
    have hB2 : Below w.heap.size w w2 := by
      refine below_call ?_ hb2
      have hnb := HNB.out
      repeat with_reducible (first | assumption | exact HB.out | exact Below.refl _ _ | refine Below.setCell ?_ (by first | omega | (simp <;> omega)) _ | refine Below.alloc ?_ (by first | omega | (simp <;> omega)) _ | refine Below.drew ?_)
    have hN2 := hN.below hB2
    have HB2 := Lib.hid hB2; clear hB2 hb2
    have hsum := fun W (h : Nums W a 0 xs) => sum_any a 0 cap xs W h
    rw [htot] at hsum
    go_wp2_with fail
    go_quiet (fail)
    go_wp2_with fail
    refine (hsum _ (hN2.below (below_drewN (Below.refl _ _) _))).mono ?_
    rintro e w3 ⟨rfl, rfl⟩
    go_wp2_with fail
    go_ret2
    exact ⟨rfl, below_drewN HB2.out _⟩

set_option maxRecDepth 100000 in
set_option maxHeartbeats 1000000 in
theorem IsPlan_rough (F S J L H off : Int) (a : Option Addr) (n cap : Nat) (xs : List Int) (hr : isRuleB F S J L H = true) (ha : lies off (-20000) 20000 = true) (w : World) (hw : Ways w) (hN : Nums w a n xs) (hn : ¬ 200 < n) (h0 : 0 < n) (hk : keepsB F S J 0 xs = true) (hs : lies (xs[n - 1]?.getD 0) (-J) J = false) :
    Calls Tryd.prog 16 #[.agg #[.int .i64 F, .int .i64 S, .int .i64 J, .int .i64 L, .int .i64 H], .int .i64 off, .slice a n cap] w fun e w' => e = .returned (.tuple #[.bool false, .int .i64 0]) ∧ Below w.heap.size w w' := by
  have ho := lies_iff.1 ha
  obtain ⟨hF, hS, hJ, _⟩ := isRuleB_spec hr
  have hw1 : IntKind.i64.wrap (-off) = -off := IntWalk.i64_in _ (by constructor <;> omega)
  have hwJ : IntKind.i64.wrap (-J) = -J := IntWalk.i64_in _ (by constructor <;> omega)
  have hwn : IntKind.i64.wrap ((n : Int) - 1) = (n : Int) - 1 := IntWalk.i64_in _ (by constructor <;> omega)
  have hn1 : (0 : Int) ≤ (n : Int) - 1 := by omega
  have hn2 : (n : Int) - 1 < n := by omega
  have hn3 : ((n : Int) - 1).toNat = n - 1 := by omega
  have hne : ((n : Int) == 0) = false := by simp; omega
  go_enter Tryd.func16, Tryd.ntmps16
  go_wp2_with fail
  go_region_held3 (fun W1 : World => W1.cell? ⟨w.heap.size, 0, none⟩ = some (.int .i64 F) ∧ W1.cell? ⟨w.heap.size, 1, none⟩ = some (.int .i64 S) ∧ W1.cell? ⟨w.heap.size, 2, none⟩ = some (.int .i64 J) ∧ W1.cell? ⟨w.heap.size, 3, none⟩ = some (.int .i64 L) ∧ W1.cell? ⟨w.heap.size, 4, none⟩ = some (.int .i64 H)) (simp [go_sem, *])
    (first | (go_at_call 55; refine (isOff_any _ _).mono ?_; rintro e w' ⟨rfl, rfl⟩) | (go_at_call 54; refine (opened_ok F S J L H _ hr).mono ?_; rintro e w1 ⟨b, rfl, hb, hnb, hnew⟩; obtain ⟨hc, hf⟩ := bcell hb; have hz := hb.size; simp at hz; simp at hnb; have hz1 : w.heap.size < w1.heap.size := (by omega); try (have hz2 : w.heap.size + 1 < w1.heap.size := (by omega)); try (have hz3 : w.heap.size + 1 + 1 < w1.heap.size := (by omega))))
  all_goals
    have hB1 : Below w.heap.size w w1 := by
      refine below_call ?_ hb
      repeat with_reducible (first | assumption | exact Below.refl _ _ | refine Below.setCell ?_ (by first | omega | (simp <;> omega)) _ | refine Below.alloc ?_ (by first | omega | (simp <;> omega)) _ | refine Below.drew ?_)
    have HNB := Lib.hid hnb; have HBL := Lib.hid (Array.getElem?_eq_some_iff.1 hnew).1; have HB := Lib.hid hB1; have HN := Lib.hid hnew; clear hnb hB1 hnew hb
    go_wp2_with fail
    refine (keeps_any F S J L H (some b) a n cap xs _ (hN.below ?_) hr).mono ?_
    · have hnb := HNB.out
      repeat with_reducible (first | assumption | exact HB.out | exact Below.refl _ _ | refine Below.setCell ?_ (by first | omega | (simp <;> omega)) _ | refine Below.alloc ?_ (by first | omega | (simp <;> omega)) _ | refine Below.drew ?_)
    rintro e w2 ⟨rfl, hb2⟩
    rw [hk]
    have hB2 : Below w.heap.size w w2 := by
      refine below_call ?_ hb2
      have hnb := HNB.out
      repeat with_reducible (first | assumption | exact HB.out | exact Below.refl _ _ | refine Below.setCell ?_ (by first | omega | (simp <;> omega)) _ | refine Below.alloc ?_ (by first | omega | (simp <;> omega)) _ | refine Below.drew ?_)
    have hN2 := hN.below hB2
    obtain ⟨hc2, hf2⟩ := bcell hb2
    have hz9 := hb2.size
    simp at hz9
    obtain ⟨pb, po, hpa, hcell⟩ := hN2.2.2 h0
    have hck := hcell (n - 1) (by omega)
    rw [List.getD_eq_getElem?_getD] at hck
    have HB2 := Lib.hid hB2; clear hB2 hb2 hcell
    have hsum := fun W (h : Nums W a n xs) => sum_any a n cap xs W h
    subst hpa
    go_wp2_with fail
    go_quiet ((go_at_call 57; exact Calls.quiet_of_same (lies_same _ _ _ _)))
    go_wp2_with fail
    go_ret2
    exact ⟨rfl, below_drewN HB2.out _⟩

set_option maxRecDepth 100000 in
set_option maxHeartbeats 1000000 in
theorem IsPlan_some (F S J L H off : Int) (a : Option Addr) (n cap : Nat) (xs : List Int) (hr : isRuleB F S J L H = true) (ha : lies off (-20000) 20000 = true) (w : World) (hw : Ways w) (hN : Nums w a n xs) (hn : ¬ 200 < n) (h0 : 0 < n) (hk : keepsB F S J 0 xs = true) (hs : lies (xs[n - 1]?.getD 0) (-J) J = true) :
    Calls Tryd.prog 16 #[.agg #[.int .i64 F, .int .i64 S, .int .i64 J, .int .i64 L, .int .i64 H], .int .i64 off, .slice a n cap] w fun e w' => e = .returned (.tuple #[.bool (decide (total xs = -off)), .int .i64 0]) ∧ Below w.heap.size w w' := by
  have ho := lies_iff.1 ha
  obtain ⟨hF, hS, hJ, _⟩ := isRuleB_spec hr
  have hw1 : IntKind.i64.wrap (-off) = -off := IntWalk.i64_in _ (by constructor <;> omega)
  have hwJ : IntKind.i64.wrap (-J) = -J := IntWalk.i64_in _ (by constructor <;> omega)
  have hwn : IntKind.i64.wrap ((n : Int) - 1) = (n : Int) - 1 := IntWalk.i64_in _ (by constructor <;> omega)
  have hn1 : (0 : Int) ≤ (n : Int) - 1 := by omega
  have hn2 : (n : Int) - 1 < n := by omega
  have hn3 : ((n : Int) - 1).toNat = n - 1 := by omega
  have hne : ((n : Int) == 0) = false := by simp; omega
  go_enter Tryd.func16, Tryd.ntmps16
  go_wp2_with fail
  go_region_held3 (fun W1 : World => W1.cell? ⟨w.heap.size, 0, none⟩ = some (.int .i64 F) ∧ W1.cell? ⟨w.heap.size, 1, none⟩ = some (.int .i64 S) ∧ W1.cell? ⟨w.heap.size, 2, none⟩ = some (.int .i64 J) ∧ W1.cell? ⟨w.heap.size, 3, none⟩ = some (.int .i64 L) ∧ W1.cell? ⟨w.heap.size, 4, none⟩ = some (.int .i64 H)) (simp [go_sem, *])
    (first | (go_at_call 55; refine (isOff_any _ _).mono ?_; rintro e w' ⟨rfl, rfl⟩) | (go_at_call 54; refine (opened_ok F S J L H _ hr).mono ?_; rintro e w1 ⟨b, rfl, hb, hnb, hnew⟩; obtain ⟨hc, hf⟩ := bcell hb; have hz := hb.size; simp at hz; simp at hnb; have hz1 : w.heap.size < w1.heap.size := (by omega); try (have hz2 : w.heap.size + 1 < w1.heap.size := (by omega)); try (have hz3 : w.heap.size + 1 + 1 < w1.heap.size := (by omega))))
  all_goals
    have hB1 : Below w.heap.size w w1 := by
      refine below_call ?_ hb
      repeat with_reducible (first | assumption | exact Below.refl _ _ | refine Below.setCell ?_ (by first | omega | (simp <;> omega)) _ | refine Below.alloc ?_ (by first | omega | (simp <;> omega)) _ | refine Below.drew ?_)
    have HNB := Lib.hid hnb; have HBL := Lib.hid (Array.getElem?_eq_some_iff.1 hnew).1; have HB := Lib.hid hB1; have HN := Lib.hid hnew; clear hnb hB1 hnew hb
    go_wp2_with fail
    refine (keeps_any F S J L H (some b) a n cap xs _ (hN.below ?_) hr).mono ?_
    · have hnb := HNB.out
      repeat with_reducible (first | assumption | exact HB.out | exact Below.refl _ _ | refine Below.setCell ?_ (by first | omega | (simp <;> omega)) _ | refine Below.alloc ?_ (by first | omega | (simp <;> omega)) _ | refine Below.drew ?_)
    rintro e w2 ⟨rfl, hb2⟩
    rw [hk]
    have hB2 : Below w.heap.size w w2 := by
      refine below_call ?_ hb2
      have hnb := HNB.out
      repeat with_reducible (first | assumption | exact HB.out | exact Below.refl _ _ | refine Below.setCell ?_ (by first | omega | (simp <;> omega)) _ | refine Below.alloc ?_ (by first | omega | (simp <;> omega)) _ | refine Below.drew ?_)
    have hN2 := hN.below hB2
    obtain ⟨hc2, hf2⟩ := bcell hb2
    have hz9 := hb2.size
    simp at hz9
    obtain ⟨pb, po, hpa, hcell⟩ := hN2.2.2 h0
    have hck := hcell (n - 1) (by omega)
    rw [List.getD_eq_getElem?_getD] at hck
    have HB2 := Lib.hid hB2; clear hB2 hb2 hcell
    have hsum := fun W (h : Nums W a n xs) => sum_any a n cap xs W h
    subst hpa
    go_wp2_with fail
    go_quiet ((go_at_call 57; exact Calls.quiet_of_same (lies_same _ _ _ _)))
    go_wp2_with fail
    refine (hsum _ (hN2.below (below_drewN (Below.refl _ _) _))).mono ?_
    rintro e w3 ⟨rfl, rfl⟩
    go_wp2_with fail
    go_ret2
    exact ⟨rfl, below_drewN HB2.out _⟩

theorem IsPlan_ok (F S J L H off : Int) (a : Option Addr) (n cap : Nat) (xs : List Int) (hr : isRuleB F S J L H = true) (ha : lies off (-20000) 20000 = true) (w : World) (hw : Ways w) (hN : Nums w a n xs) :
    Calls Tryd.prog 16 #[.agg #[.int .i64 F, .int .i64 S, .int .i64 J, .int .i64 L, .int .i64 H], .int .i64 off, .slice a n cap] w fun e w' => e = .returned (.tuple #[.bool (isPlanB F S J off n xs), .int .i64 0]) ∧ Below w.heap.size w w' := by
  by_cases hn : 200 < n
  · have he : isPlanB F S J off n xs = false := by simp [isPlanB]; omega
    rw [he]; exact IsPlan_long F S J L H off a n cap xs hr ha w hw hN hn
  have hd : decide (n ≤ 200) = true := by simp; omega
  cases hk : keepsB F S J 0 xs with
  | false =>
    have he : isPlanB F S J off n xs = false := by simp [isPlanB, hk]
    rw [he]; exact IsPlan_not F S J L H off a n cap xs hr ha w hw hN hn hk
  | true =>
    by_cases h0 : n = 0
    · subst h0
      have hx : xs = [] := List.eq_nil_of_length_eq_zero hN.1
      have he : isPlanB F S J off 0 xs = decide (0 = -off) := by
        unfold isPlanB smoothB
        rw [hk, hx, show total [] = 0 from rfl]; simp
      rw [he]; exact IsPlan_nil F S J L H off a cap xs hr ha w hw hN hk
    · have hz : decide (n = 0) = false := by simp [h0]
      cases hs : lies (xs[n - 1]?.getD 0) (-J) J with
      | false =>
        have he : isPlanB F S J off n xs = false := by unfold isPlanB smoothB; rw [hk, hs, hz]; simp
        rw [he]; exact IsPlan_rough F S J L H off a n cap xs hr ha w hw hN hn (by omega) hk hs
      | true =>
        have he : isPlanB F S J off n xs = decide (total xs = -off) := by unfold isPlanB smoothB; rw [hk, hs, hz, hd]; simp
        rw [he]; exact IsPlan_some F S J L H off a n cap xs hr ha w hw hN hn (by omega) hk hs

end Go.Proofs.YtidnopmjhhmedaaDoor
end

section
/- Shown. -/
set_option linter.unusedSimpArgs false
set_option linter.unusedVariables false
namespace Go.Proofs.YtidnopmjhhmedaaDoor
open Go.RowKit

/-- The cells of a rule's numbers in a block. -/
abbrev At5 (W : World) (N : Nat) (F S J L H : Int) : Prop := W.cell? ⟨N, 0, none⟩ = some (.int .i64 F) ∧ W.cell? ⟨N, 1, none⟩ = some (.int .i64 S) ∧ W.cell? ⟨N, 2, none⟩ = some (.int .i64 J) ∧ W.cell? ⟨N, 3, none⟩ = some (.int .i64 L) ∧ W.cell? ⟨N, 4, none⟩ = some (.int .i64 H)
theorem At5.of {W W1 : World} {N : Nat} {F S J L H : Int} (h : At5 W N F S J L H) (hh : W1.heap[N]? = W.heap[N]?) : At5 W1 N F S J L H := by
  have hc : ∀ o, W1.cell? ⟨N, o, none⟩ = W.cell? ⟨N, o, none⟩ := fun o => World.cell?_of_block (w := W) hh
  exact ⟨(hc 0).trans h.1, (hc 1).trans h.2.1, (hc 2).trans h.2.2.1, (hc 3).trans h.2.2.2.1, (hc 4).trans h.2.2.2.2⟩
theorem At5.lt {W : World} {N : Nat} {F S J L H : Int} (h : At5 W N F S J L H) : N < W.heap.size := World.block_lt_of_cell? W _ h.1
theorem At5.below {W W1 : World} {N : Nat} {F S J L H : Int} (h : At5 W N F S J L H) (hb : Below W.heap.size W W1) : At5 W1 N F S J L H := h.of (hb.block N h.lt)
theorem At5.alloc {W : World} {N : Nat} {F S J L H : Int} (h : At5 W N F S J L H) (o : Obj) : At5 (W.alloc o) N F S J L H := h.of (Below.heap_alloc _ _ _ h.lt)
theorem At5.setCell {W : World} {N : Nat} {F S J L H : Int} {p : Addr} {v : Value} (h : At5 W N F S J L H) (hp : N ≠ p.block) : At5 (W.setCell p v) N F S J L H := h.of (Below.heap_setCell _ _ _ _ hp)

theorem opened_ask' (F S J L H : Int) {ok : Bool} (hok : ok = false) (w : World) (h : isRuleB F S J L H = true) :
    Calls Tryd.prog 54 #[.agg #[.int .i64 F, .int .i64 S, .int .i64 J, .int .i64 L, .int .i64 H], .bool ok] w fun e w' =>
      e = .returned (.tuple #[.agg #[.int .i64 0, .int .i64 0, .int .i64 0, .int .i64 0, .int .i64 0, .map none], .int .i64 41]) ∧ Below w.heap.size w w' := by
  subst hok; exact opened_ask F S J L H w h
theorem opened_ok' (F S J L H : Int) {ok : Bool} (hok : ok = true) (w : World) (h : isRuleB F S J L H = true) :
    Calls Tryd.prog 54 #[.agg #[.int .i64 F, .int .i64 S, .int .i64 J, .int .i64 L, .int .i64 H], .bool ok] w fun e w' =>
      ∃ b, e = .returned (.tuple #[.agg #[.int .i64 F, .int .i64 S, .int .i64 J, .int .i64 L, .int .i64 H, .map (some b)], .int .i64 0]) ∧ NewMap w w' b := by
  subst hok; exact opened_ok F S J L H w h

theorem lies_is {n a b : Int} {v : Bool} (h : lies n a b = v) (w : World) : Calls Tryd.prog 57 #[.int .i64 n, .int .i64 a, .int .i64 b] w fun e w' => e = .returned (.bool v) ∧ w = w' := h ▸ lies_any n a b w

attribute [local go_sem] Oper.semAt_some
/-- A block of six cells that may be written. -/
def Six (W : World) (p : Nat) : Prop := ∃ c0 c1 c2 c3 c4 c5 : Value, W.heap[p]? = some (.cells #[c0, c1, c2, c3, c4, c5] 80 (0, 0))
theorem Six.cells {W : World} {p : Nat} (h : Six W p) : ∃ c0 c1 c2 c3 c4 c5 : Value, W.cell? ⟨p, 0, none⟩ = some c0 ∧ W.cell? ⟨p, 1, none⟩ = some c1 ∧ W.cell? ⟨p, 2, none⟩ = some c2 ∧ W.cell? ⟨p, 3, none⟩ = some c3 ∧ W.cell? ⟨p, 4, none⟩ = some c4 ∧ W.cell? ⟨p, 5, none⟩ = some c5 ∧ ∀ o, W.frozen? ⟨p, o, none⟩ = false := by
  obtain ⟨c0, c1, c2, c3, c4, c5, h⟩ := h
  refine ⟨c0, c1, c2, c3, c4, c5, ?_, ?_, ?_, ?_, ?_, ?_, ?_⟩
  all_goals first | (simp [World.cell?, h]; done) | (intro o; simp [World.frozen?, h])

theorem step_skip {F : Fence} {n : Nat} {P : Program} {ops : Array Oper} {Q : Exit → Act → World → Prop} {i : Nat} {o : Oper} {a : Act} {w : World} {K : Act → World → Prop}
    (ho : ops[i]? = some o) (hw : Region.wanted o (yielded ops a.tmps) = false) (hab : ∀ f, o.about P w a.eval = some f → F.fn f) (hK : K (a.put o.dst undef) w) : wpOpIn F n P ops Q i K a w := by
  unfold wpOpIn
  rw [ho]
  simp only [hw, Bool.false_eq_true, if_false]
  exact ⟨hab, hK⟩
theorem step_store {F : Fence} {n : Nat} {P : Program} {ops : Array Oper} {Q : Exit → Act → World → Prop} {i : Nat} {o : Oper} {a : Act} {w w' : World} {K : Act → World → Prop}
    (ho : ops[i]? = some o) (hg : o.guard = none) (hab : ∀ f, o.about P w a.eval = some f → F.fn f) (hrun : (o.semAt F.round a.eval).run P w = .ok .skip w') (hK : K (a.put o.dst undef) w') : wpOpIn F n P ops Q i K a w := by
  unfold wpOpIn
  rw [ho]
  simp only [Region.wanted, hg, if_true, Oper.wpIn, hrun, Oper.uponIn]
  exact ⟨hab, hK⟩
theorem step_alloc {F : Fence} {n : Nat} {P : Program} {ops : Array Oper} {Q : Exit → Act → World → Prop} {i : Nat} {o : Oper} {v : Value} {a : Act} {w w' : World} {K : Act → World → Prop}
    (ho : ops[i]? = some o) (hg : o.guard = none) (hab : ∀ f, o.about P w a.eval = some f → F.fn f) (hrun : (o.semAt F.round a.eval).run P w = .ok (.value v) w') (hK : K (a.put o.dst v) w') : wpOpIn F n P ops Q i K a w := by
  unfold wpOpIn
  rw [ho]
  simp only [Region.wanted, hg, if_true, Oper.wpIn, hrun, Oper.uponIn]
  exact ⟨hab, hK⟩
def updS (x : Nat → Value) (j : Nat) (v : Value) : Nat → Value := fun k => if k = j then v else x k
theorem updS_ok {x val : Nat → Value} {listed : Array Bool} {i : Nat} {v : Value} (hi : i < listed.size) (hx : ∀ j, j < 15 → j ≠ 12 → j ≠ 13 → listed.getD j false = true → x j = val j) (hv : i ≠ 12 → i ≠ 13 → v = val i) :
    ∀ j, j < 15 → j ≠ 12 → j ≠ 13 → (listed.setIfInBounds i true).getD j false = true → updS x i v j = val j := by
  intro j hj h12 h13 hl
  unfold updS
  by_cases h : j = i
  · subst h; rw [if_pos rfl, hv h12 h13]
  · rw [if_neg h]
    rw [getD_set hi, if_neg h] at hl
    exact hx j hj h12 h13 hl

/-- The frame of Shown in its first drawn region. -/
def sact (f : Int) (a : Option Addr) (n cap N : Nat) (r : Value) (x : Nat → Value) : Act :=
  { tmps := #[r, .int .i64 f, .slice a n cap, .pointer (some ⟨N, 0, none⟩), undef, undef, .slice none 0 0, .int .i64 0, x 12, x 14, undef, undef, undef, x 9, x 0, x 1, x 2, x 3, x 4, x 5, x 6, x 7, x 8, x 10, x 11,
      undef, undef, undef, undef, undef, undef, undef, undef, undef, undef, undef, undef, undef, undef, undef, undef, undef, undef, undef, undef, undef, undef, undef, undef, undef, undef, undef, undef, undef, undef], defers := [] }
def zrule : Value := .agg #[.int .i64 0, .int .i64 0, .int .i64 0, .int .i64 0, .int .i64 0, .map none]
def sval (f : Int) (r : Value) (code : Int) : Nat → Value
  | 0 => r
  | 1 => .int .i64 f
  | 2 => .bool false
  | 3 => .bool false
  | 4 => undef
  | 5 => undef
  | 6 => undef
  | 7 => .bool false
  | 8 => .tuple #[zrule, .int .i64 code]
  | 9 => .tuple #[zrule, .int .i64 code]
  | 10 => zrule
  | 11 => .int .i64 code
  | _ => .int .i64 code

def SInv (f : Int) (a : Option Addr) (n cap : Nat) (F S J L H code : Int) (w : World) (listed : Array Bool) (ac : Act) (W : World) : Prop :=
  ∃ x : Nat → Value, ac = sact f a n cap w.heap.size (.agg #[.int .i64 F, .int .i64 S, .int .i64 J, .int .i64 L, .int .i64 H]) x ∧
    (∀ j, j < 15 → j ≠ 12 → j ≠ 13 → listed.getD j false = true → x j = sval f (.agg #[.int .i64 F, .int .i64 S, .int .i64 J, .int .i64 L, .int .i64 H]) code j) ∧
    At5 W w.heap.size F S J L H ∧ Below w.heap.size w W ∧ (listed.getD 12 false = true → ∃ p, x 12 = .pointer (some ⟨p, 0, none⟩) ∧ w.heap.size < p ∧ p < W.heap.size ∧ (listed.getD 13 false = false → Six W p))

set_option maxRecDepth 100000 in
set_option maxHeartbeats 2000000 in
theorem Shown_no (F S J L H f code : Int) (a : Option Addr) (n cap : Nat) (w : World) (hl : lies f 0 10000000 = false)
    (hop : ∀ W, Calls Tryd.prog 54 #[.agg #[.int .i64 F, .int .i64 S, .int .i64 J, .int .i64 L, .int .i64 H], .bool false] W fun e w' => e = .returned (.tuple #[zrule, .int .i64 code]) ∧ Below W.heap.size W w') (hcode : (code == 0) = false) :
    Calls Tryd.prog 24 #[.agg #[.int .i64 F, .int .i64 S, .int .i64 J, .int .i64 L, .int .i64 H], .int .i64 f, .slice a n cap] w fun e w' => e = .returned (.tuple #[.slice none 0 0, .int .i64 code]) ∧ Below w.heap.size w w' := by
  have hl' := hl
  clear hl
  go_enter Tryd.func24, Tryd.ntmps24
  go_wp2_with fail
  refine (wpIn_wide (n := 3)).1 ?_
  refine wpIn_region_inv (by rfl) (SInv f a n cap F S J L H code w) (by decide) ?inv0 ?step ?fin
  case inv0 =>
    refine ⟨fun _ => undef, rfl, fun j _ _ _ h => (by rw [getD_none_listed] at h; cases h), ?_, ?_, fun h => (by rw [getD_none_listed] at h; cases h)⟩
    · exact At5.of (W := w.alloc (.cells #[.int .i64 F, .int .i64 S, .int .i64 J, .int .i64 L, .int .i64 H] 25)) (by simp [At5, go_sem]) rfl
    · exact ((Below.refl _ _).alloc (Nat.le_refl _) _).drew
  case fin =>
    rintro listed ac W hd ⟨x, rfl, hx, h5, hB, hp⟩
    obtain ⟨p, hp, _⟩ := hp (hd 12 (by decide))
    have e14 := hx 14 (by decide) (by decide) (by decide) (hd 14 (by decide))
    simp only [sval] at e14
    have HB := Lib.hid hB
    have HE := Lib.hid hcode
    unfold sact
    rw [e14]
    go_wp2_with fail
    go_ret2
    exact ⟨rfl, HB.out⟩
  case step =>
    rintro listed ac W i hc ⟨x, rfl, hx, h5, hB, hp⟩ hi hl hpr
    have hsz : i < listed.size := by rw [hc.1]; exact hi
    have hcases : i = 0 ∨ i = 1 ∨ i = 2 ∨ i = 3 ∨ i = 4 ∨ i = 5 ∨ i = 6 ∨ i = 7 ∨ i = 8 ∨ i = 9 ∨ i = 10 ∨ i = 11 ∨ i = 12 ∨ i = 13 ∨ i = 14 := by
      have : i < 15 := hi
      omega
    have hkeep : i ≠ 12 → i ≠ 13 → ((listed.setIfInBounds i true).getD 12 false = true → ∃ p, x 12 = .pointer (some ⟨p, 0, none⟩) ∧ w.heap.size < p ∧ p < W.heap.size ∧ ((listed.setIfInBounds i true).getD 13 false = false → Six W p)) := by
      intro h12 h13 h
      rw [getD_set hsz, if_neg (Ne.symm h12)] at h
      obtain ⟨p, h1, h2, h3, h4⟩ := hp h
      exact ⟨p, h1, h2, h3, fun h => h4 (by rw [getD_set hsz, if_neg (Ne.symm h13)] at h; exact h)⟩
    obtain ⟨g0, g1, g2, g3, g4⟩ := h5
    rcases hcases with rfl | rfl | rfl | rfl | rfl | rfl | rfl | rfl | rfl | rfl | rfl | rfl | rfl | rfl | rfl
    · refine step_val (v := sval f (.agg #[.int .i64 F, .int .i64 S, .int .i64 J, .int .i64 L, .int .i64 H]) code 0) rfl rfl (fun _ _ => trivial) ?_ ⟨updS x 0 _, rfl, updS_ok hsz hx (fun _ _ => rfl), ⟨g0, g1, g2, g3, g4⟩, hB, hkeep (by decide) (by decide)⟩
      simp [go_sem, sact, sval, zrule, g0, g1, g2, g3, g4]
    · refine step_val (v := sval f (.agg #[.int .i64 F, .int .i64 S, .int .i64 J, .int .i64 L, .int .i64 H]) code 1) rfl rfl (fun _ _ => trivial) ?_ ⟨updS x 1 _, rfl, updS_ok hsz hx (fun _ _ => rfl), ⟨g0, g1, g2, g3, g4⟩, hB, hkeep (by decide) (by decide)⟩
      simp [go_sem, sact, sval, zrule, g0, g1, g2, g3, g4]
    · have e1 := hx 1 (by decide) (by decide) (by decide) (hpr 1 (by decide)); simp only [sval] at e1
      refine step_call (f := 57) (args := #[.int .i64 f, .int .i64 0, .int .i64 10000000]) rfl rfl (fun _ _ => trivial) ?_ (fun h => by cases h) ((callsIn_wide.2 (lies_any f 0 10000000 W)).mono ?_)
      · simp [go_sem, sact, e1]
      · rintro e w' ⟨rfl, rfl⟩
        rw [hl']
        exact ⟨_, rfl, ⟨updS x 2 _, rfl, updS_ok hsz hx (fun _ _ => rfl), ⟨g0, g1, g2, g3, g4⟩, hB, hkeep (by decide) (by decide)⟩⟩
    · have e2 := hx 2 (by decide) (by decide) (by decide) (hpr 2 (by decide)); simp only [sval] at e2
      refine step_val (v := sval f (.agg #[.int .i64 F, .int .i64 S, .int .i64 J, .int .i64 L, .int .i64 H]) code 3) rfl rfl (fun _ _ => trivial) ?_ ⟨updS x 3 _, rfl, updS_ok hsz hx (fun _ _ => rfl), ⟨g0, g1, g2, g3, g4⟩, hB, hkeep (by decide) (by decide)⟩
      simp [go_sem, sact, sval, zrule, e2, g0, g1, g2, g3, g4]
    · have e3 := hx 3 (by decide) (by decide) (by decide) (hpr 3 (by decide)); simp only [sval] at e3
      exact step_skip rfl (by simp [Region.wanted, yielded, sact, e3]) (fun _ _ => trivial) ⟨updS x 4 _, rfl, updS_ok hsz hx (fun _ _ => rfl), ⟨g0, g1, g2, g3, g4⟩, hB, hkeep (by decide) (by decide)⟩
    · have e3 := hx 3 (by decide) (by decide) (by decide) (hpr 3 (by decide)); simp only [sval] at e3
      exact step_skip rfl (by simp [Region.wanted, yielded, sact, e3]) (fun _ _ => trivial) ⟨updS x 5 _, rfl, updS_ok hsz hx (fun _ _ => rfl), ⟨g0, g1, g2, g3, g4⟩, hB, hkeep (by decide) (by decide)⟩
    · have e3 := hx 3 (by decide) (by decide) (by decide) (hpr 3 (by decide)); simp only [sval] at e3
      exact step_skip rfl (by simp [Region.wanted, yielded, sact, e3]) (fun _ _ => trivial) ⟨updS x 6 _, rfl, updS_ok hsz hx (fun _ _ => rfl), ⟨g0, g1, g2, g3, g4⟩, hB, hkeep (by decide) (by decide)⟩
    · have e3 := hx 3 (by decide) (by decide) (by decide) (hpr 3 (by decide)); simp only [sval] at e3
      have e6 := hx 6 (by decide) (by decide) (by decide) (hpr 6 (by decide)); simp only [sval] at e6
      refine step_val (v := sval f (.agg #[.int .i64 F, .int .i64 S, .int .i64 J, .int .i64 L, .int .i64 H]) code 7) rfl rfl (fun _ _ => trivial) ?_ ⟨updS x 7 _, rfl, updS_ok hsz hx (fun _ _ => rfl), ⟨g0, g1, g2, g3, g4⟩, hB, hkeep (by decide) (by decide)⟩
      simp [go_sem, sact, sval, zrule, e3, e6, g0, g1, g2, g3, g4]
    · have e0 := hx 0 (by decide) (by decide) (by decide) (hpr 0 (by decide)); simp only [sval] at e0
      have e7 := hx 7 (by decide) (by decide) (by decide) (hpr 7 (by decide)); simp only [sval] at e7
      refine step_call (f := 54) (args := #[.agg #[.int .i64 F, .int .i64 S, .int .i64 J, .int .i64 L, .int .i64 H], .bool false]) rfl rfl (fun _ _ => trivial) ?_ (fun h => by cases h) ((callsIn_wide.2 (hop W)).mono ?_)
      · simp [go_sem, sact, e0, e7]
      · rintro e w' ⟨rfl, hb⟩
        refine ⟨_, rfl, updS x 8 _, rfl, updS_ok hsz hx (fun _ _ => rfl), At5.of (W := W) ⟨g0, g1, g2, g3, g4⟩ (hb.block _ (At5.lt ⟨g0, g1, g2, g3, g4⟩)), below_call hB hb, fun h => ?_⟩
        obtain ⟨p, q1, q2, q3, q4⟩ := hkeep (by decide) (by decide) h
        exact ⟨p, q1, q2, Nat.lt_of_lt_of_le q3 hb.size, fun h => by obtain ⟨c0, c1, c2, c3, c4, c5, q5⟩ := q4 h; exact ⟨c0, c1, c2, c3, c4, c5, (hb.block p q3).trans q5⟩⟩
    · have e8 := hx 8 (by decide) (by decide) (by decide) (hpr 8 (by decide)); simp only [sval] at e8
      refine step_val (v := sval f (.agg #[.int .i64 F, .int .i64 S, .int .i64 J, .int .i64 L, .int .i64 H]) code 9) rfl rfl (fun _ _ => trivial) ?_ ⟨updS x 9 _, rfl, updS_ok hsz hx (fun _ _ => rfl), ⟨g0, g1, g2, g3, g4⟩, hB, hkeep (by decide) (by decide)⟩
      simp [go_sem, sact, sval, zrule, e8, g0, g1, g2, g3, g4]
    · have e9 := hx 9 (by decide) (by decide) (by decide) (hpr 9 (by decide)); simp only [sval] at e9
      refine step_val (v := sval f (.agg #[.int .i64 F, .int .i64 S, .int .i64 J, .int .i64 L, .int .i64 H]) code 10) rfl rfl (fun _ _ => trivial) ?_ ⟨updS x 10 _, rfl, updS_ok hsz hx (fun _ _ => rfl), ⟨g0, g1, g2, g3, g4⟩, hB, hkeep (by decide) (by decide)⟩
      simp [go_sem, sact, sval, zrule, e9, g0, g1, g2, g3, g4]
    · have e9 := hx 9 (by decide) (by decide) (by decide) (hpr 9 (by decide)); simp only [sval] at e9
      refine step_val (v := sval f (.agg #[.int .i64 F, .int .i64 S, .int .i64 J, .int .i64 L, .int .i64 H]) code 11) rfl rfl (fun _ _ => trivial) ?_ ⟨updS x 11 _, rfl, updS_ok hsz hx (fun _ _ => rfl), ⟨g0, g1, g2, g3, g4⟩, hB, hkeep (by decide) (by decide)⟩
      simp [go_sem, sact, sval, zrule, e9, g0, g1, g2, g3, g4]
    · refine step_alloc (v := .pointer (some ⟨W.heap.size, 0, none⟩)) (w' := W.alloc (.cells #[.int .i64 0, .int .i64 0, .int .i64 0, .int .i64 0, .int .i64 0, .map none] 80)) rfl rfl (fun _ _ => trivial) ?_ ⟨updS x 12 _, rfl, updS_ok hsz hx (fun h => absurd rfl h), At5.of (W := W) ⟨g0, g1, g2, g3, g4⟩ (Below.heap_alloc _ _ _ (At5.lt ⟨g0, g1, g2, g3, g4⟩)), hB.alloc hB.size _, fun _ => ⟨W.heap.size, rfl, At5.lt ⟨g0, g1, g2, g3, g4⟩, by simp, fun _ => ⟨_, _, _, _, _, _, World.alloc_heap_new W _⟩⟩⟩
      simp [go_sem, sact]
    · have e10 := hx 10 (by decide) (by decide) (by decide) (hpr 10 (by decide)); simp only [sval] at e10
      obtain ⟨p, q1, q2, q3, q4⟩ := hp (hpr 12 (by decide))
      have hl13 : listed.getD 13 false = false := by
        have h2 : 13 < listed.size := hsz
        simp [h2] at hl ⊢; exact hl
      obtain ⟨c0, c1, c2, c3, c4, c5, r0, r1, r2, r3, r4, r5, rf⟩ := (q4 hl13).cells
      refine step_store (w' := (((((W.setCell ⟨p, 0, none⟩ (.int .i64 0)).setCell ⟨p, 1, none⟩ (.int .i64 0)).setCell ⟨p, 2, none⟩ (.int .i64 0)).setCell ⟨p, 3, none⟩ (.int .i64 0)).setCell ⟨p, 4, none⟩ (.int .i64 0)).setCell ⟨p, 5, none⟩ (.map none)) rfl rfl (fun _ _ => trivial) ?_ ⟨updS x 13 undef, rfl, updS_ok hsz hx (fun _ h => absurd rfl h), ?_, ?_, fun _ => ⟨p, q1, q2, ?_, fun h => by rw [getD_set hsz, if_pos rfl] at h; cases h⟩⟩
      · simp [go_sem, sact, zrule, e10, q1, r0, r1, r2, r3, r4, r5, rf]
      · refine At5.of (W := W) ⟨g0, g1, g2, g3, g4⟩ ?_
        repeat rw [Below.heap_setCell _ _ _ _ (by show w.heap.size ≠ p; omega)]
      · exact (((((hB.setCell (p := ⟨p, 0, none⟩) (by show _ ≤ p; omega) _).setCell (p := ⟨p, 1, none⟩) (by show _ ≤ p; omega) _).setCell (p := ⟨p, 2, none⟩) (by show _ ≤ p; omega) _).setCell (p := ⟨p, 3, none⟩) (by show _ ≤ p; omega) _).setCell (p := ⟨p, 4, none⟩) (by show _ ≤ p; omega) _).setCell (p := ⟨p, 5, none⟩) (by show _ ≤ p; omega) _
      · simpa using q3
    · have e11 := hx 11 (by decide) (by decide) (by decide) (hpr 11 (by decide)); simp only [sval] at e11
      refine step_val (v := sval f (.agg #[.int .i64 F, .int .i64 S, .int .i64 J, .int .i64 L, .int .i64 H]) code 14) rfl rfl (fun _ _ => trivial) ?_ ⟨updS x 14 _, rfl, updS_ok hsz hx (fun _ _ => rfl), ⟨g0, g1, g2, g3, g4⟩, hB, hkeep (by decide) (by decide)⟩
      simp [go_sem, sact, sval, zrule, e11, g0, g1, g2, g3, g4]

set_option maxRecDepth 100000 in
set_option maxHeartbeats 1000000 in
theorem Shown_bad2 (F S J L H f : Int) (a : Option Addr) (n cap : Nat) (xs : List Int) (w : World) (hN : Nums w a n xs) (hr : isRuleB F S J L H = false) (hl : lies f 0 10000000 = true) (hn : ¬ n ≤ 200) :
    Calls Tryd.prog 24 #[.agg #[.int .i64 F, .int .i64 S, .int .i64 J, .int .i64 L, .int .i64 H], .int .i64 f, .slice a n cap] w fun e w' => e = .returned (.tuple #[.slice none 0 0, .int .i64 40]) ∧ Below w.heap.size w w' := by
  have hm := hN.2.1
  go_enter Tryd.func24, Tryd.ntmps24
  go_wp2_with fail
  go_region_held3 (fun W1 : World => W1.cell? ⟨w.heap.size, 0, none⟩ = some (.int .i64 F) ∧ W1.cell? ⟨w.heap.size, 1, none⟩ = some (.int .i64 S) ∧ W1.cell? ⟨w.heap.size, 2, none⟩ = some (.int .i64 J) ∧ W1.cell? ⟨w.heap.size, 3, none⟩ = some (.int .i64 L) ∧ W1.cell? ⟨w.heap.size, 4, none⟩ = some (.int .i64 H)) (first | with_reducible exact At5.below hq hb | (rename_i hq2 _ _; first | with_reducible exact hq2 | with_reducible exact At5.alloc hq2 _ | ((repeat with_reducible refine At5.setCell ?_ (by first | omega | (simp <;> omega))) <;> with_reducible exact hq2)) | (simp [go_sem, *]; done))
    (first | (go_at_call 57; rename_i hq _ _; refine (lies_is hl _).mono ?_; rintro e w' ⟨rfl, rfl⟩) | (go_at_call 54; rename_i hq _ _; refine (opened_bad F S J L H _ _ hr).mono ?_; rintro e w1 ⟨rfl, hb⟩; obtain ⟨hc, hf⟩ := bcell hb; have hz := hb.size; simp at hz; have hz1 : w.heap.size < w1.heap.size := (by omega); try (have hz2 : w.heap.size + 1 < w1.heap.size := (by omega)); try (have hz3 : w.heap.size + 1 + 1 < w1.heap.size := (by omega))))
  all_goals
    go_wp2
    have hB1 : Below w.heap.size w w1 := by
      refine below_call ?_ hb
      repeat with_reducible (first | assumption | exact Below.refl _ _ | refine Below.setCell ?_ (by first | omega | (simp <;> omega)) _ | refine Below.alloc ?_ (by first | omega | (simp <;> omega)) _ | refine Below.drew ?_)
    go_ret2
    refine ⟨rfl, ?_⟩
    clear hb hc hf
    repeat with_reducible (first | assumption | exact Below.refl _ _ | refine Below.setCell ?_ (by first | omega | (simp <;> omega)) _ | refine Below.alloc ?_ (by first | omega | (simp <;> omega)) _ | refine Below.drew ?_)

set_option maxRecDepth 100000 in
set_option maxHeartbeats 1000000 in
theorem Shown_bad3 (F S J L H f : Int) (a : Option Addr) (n cap : Nat) (xs : List Int) (w : World) (hN : Nums w a n xs) (hr : isRuleB F S J L H = false) (hl : lies f 0 10000000 = true) (hn : n ≤ 200) :
    Calls Tryd.prog 24 #[.agg #[.int .i64 F, .int .i64 S, .int .i64 J, .int .i64 L, .int .i64 H], .int .i64 f, .slice a n cap] w fun e w' => e = .returned (.tuple #[.slice none 0 0, .int .i64 40]) ∧ Below w.heap.size w w' := by
  have hm := hN.2.1
  go_enter Tryd.func24, Tryd.ntmps24
  go_wp2_with fail
  go_region_held3 (fun W1 : World => W1.cell? ⟨w.heap.size, 0, none⟩ = some (.int .i64 F) ∧ W1.cell? ⟨w.heap.size, 1, none⟩ = some (.int .i64 S) ∧ W1.cell? ⟨w.heap.size, 2, none⟩ = some (.int .i64 J) ∧ W1.cell? ⟨w.heap.size, 3, none⟩ = some (.int .i64 L) ∧ W1.cell? ⟨w.heap.size, 4, none⟩ = some (.int .i64 H)) (first | with_reducible exact At5.below hq hb | (rename_i hq2 _ _; first | with_reducible exact hq2 | with_reducible exact At5.alloc hq2 _ | ((repeat with_reducible refine At5.setCell ?_ (by first | omega | (simp <;> omega))) <;> with_reducible exact hq2)) | (simp [go_sem, *]; done))
    (first | (go_at_call 57; rename_i hq _ _; refine (lies_is hl _).mono ?_; rintro e w' ⟨rfl, rfl⟩) | (go_at_call 54; rename_i hq _ _; refine (opened_bad F S J L H _ _ hr).mono ?_; rintro e w1 ⟨rfl, hb⟩; obtain ⟨hc, hf⟩ := bcell hb; have hz := hb.size; simp at hz; have hz1 : w.heap.size < w1.heap.size := (by omega); try (have hz2 : w.heap.size + 1 < w1.heap.size := (by omega)); try (have hz3 : w.heap.size + 1 + 1 < w1.heap.size := (by omega))))
  all_goals
    go_wp2
    have hB1 : Below w.heap.size w w1 := by
      refine below_call ?_ hb
      repeat with_reducible (first | assumption | exact Below.refl _ _ | refine Below.setCell ?_ (by first | omega | (simp <;> omega)) _ | refine Below.alloc ?_ (by first | omega | (simp <;> omega)) _ | refine Below.drew ?_)
    go_ret2
    refine ⟨rfl, ?_⟩
    clear hb hc hf
    repeat with_reducible (first | assumption | exact Below.refl _ _ | refine Below.setCell ?_ (by first | omega | (simp <;> omega)) _ | refine Below.alloc ?_ (by first | omega | (simp <;> omega)) _ | refine Below.drew ?_)

theorem Shown_bad1 (F S J L H f : Int) (a : Option Addr) (n cap : Nat) (xs : List Int) (w : World) (hN : Nums w a n xs) (hr : isRuleB F S J L H = false) (hl : lies f 0 10000000 = false) :
    Calls Tryd.prog 24 #[.agg #[.int .i64 F, .int .i64 S, .int .i64 J, .int .i64 L, .int .i64 H], .int .i64 f, .slice a n cap] w fun e w' => e = .returned (.tuple #[.slice none 0 0, .int .i64 40]) ∧ Below w.heap.size w w' :=
  Shown_no F S J L H f 40 a n cap w hl (fun W => opened_bad F S J L H false W hr) (by decide)
theorem Shown_ask1 (F S J L H f : Int) (a : Option Addr) (n cap : Nat) (xs : List Int) (w : World) (hN : Nums w a n xs) (hr : isRuleB F S J L H = true) (hl : lies f 0 10000000 = false) :
    Calls Tryd.prog 24 #[.agg #[.int .i64 F, .int .i64 S, .int .i64 J, .int .i64 L, .int .i64 H], .int .i64 f, .slice a n cap] w fun e w' => e = .returned (.tuple #[.slice none 0 0, .int .i64 41]) ∧ Below w.heap.size w w' :=
  Shown_no F S J L H f 41 a n cap w hl (fun W => opened_ask F S J L H W hr) (by decide)

set_option maxRecDepth 100000 in
set_option maxHeartbeats 1000000 in
theorem Shown_ask2 (F S J L H f : Int) (a : Option Addr) (n cap : Nat) (xs : List Int) (w : World) (hN : Nums w a n xs) (hr : isRuleB F S J L H = true) (hl : lies f 0 10000000 = true) (hn : ¬ n ≤ 200) :
    Calls Tryd.prog 24 #[.agg #[.int .i64 F, .int .i64 S, .int .i64 J, .int .i64 L, .int .i64 H], .int .i64 f, .slice a n cap] w fun e w' => e = .returned (.tuple #[.slice none 0 0, .int .i64 41]) ∧ Below w.heap.size w w' := by
  have hm := hN.2.1
  go_enter Tryd.func24, Tryd.ntmps24
  go_wp2_with fail
  go_region_held3 (fun W1 : World => W1.cell? ⟨w.heap.size, 0, none⟩ = some (.int .i64 F) ∧ W1.cell? ⟨w.heap.size, 1, none⟩ = some (.int .i64 S) ∧ W1.cell? ⟨w.heap.size, 2, none⟩ = some (.int .i64 J) ∧ W1.cell? ⟨w.heap.size, 3, none⟩ = some (.int .i64 L) ∧ W1.cell? ⟨w.heap.size, 4, none⟩ = some (.int .i64 H)) (first | with_reducible exact At5.below hq hb | (rename_i hq2 _ _; first | with_reducible exact hq2 | with_reducible exact At5.alloc hq2 _ | ((repeat with_reducible refine At5.setCell ?_ (by first | omega | (simp <;> omega))) <;> with_reducible exact hq2)) | (simp [go_sem, *]; done))
    (first | (go_at_call 57; rename_i hq _ _; refine (lies_is hl _).mono ?_; rintro e w' ⟨rfl, rfl⟩) | (go_at_call 54; rename_i hq _ _; refine (opened_ask' F S J L H (by first | rfl | (simp; omega)) _ hr).mono ?_; rintro e w1 ⟨rfl, hb⟩; obtain ⟨hc, hf⟩ := bcell hb; have hz := hb.size; simp at hz; have hz1 : w.heap.size < w1.heap.size := (by omega); try (have hz2 : w.heap.size + 1 < w1.heap.size := (by omega)); try (have hz3 : w.heap.size + 1 + 1 < w1.heap.size := (by omega))))
  all_goals
    go_wp2
    have hB1 : Below w.heap.size w w1 := by
      refine below_call ?_ hb
      repeat with_reducible (first | assumption | exact Below.refl _ _ | refine Below.setCell ?_ (by first | omega | (simp <;> omega)) _ | refine Below.alloc ?_ (by first | omega | (simp <;> omega)) _ | refine Below.drew ?_)
    go_ret2
    refine ⟨rfl, ?_⟩
    clear hb hc hf
    repeat with_reducible (first | assumption | exact Below.refl _ _ | refine Below.setCell ?_ (by first | omega | (simp <;> omega)) _ | refine Below.alloc ?_ (by first | omega | (simp <;> omega)) _ | refine Below.drew ?_)

set_option maxRecDepth 100000 in
set_option maxHeartbeats 1000000 in
theorem Shown_not (F S J L H f : Int) (a : Option Addr) (n cap : Nat) (xs : List Int) (w : World) (hN : Nums w a n xs) (hr : isRuleB F S J L H = true) (hl : lies f 0 10000000 = true) (hn : n ≤ 200) (hk : keepsB F S J 0 xs = false) :
    Calls Tryd.prog 24 #[.agg #[.int .i64 F, .int .i64 S, .int .i64 J, .int .i64 L, .int .i64 H], .int .i64 f, .slice a n cap] w fun e w' => e = .returned (.tuple #[.slice none 0 0, .int .i64 41]) ∧ Below w.heap.size w w' := by
  have hm := hN.2.1
  go_enter Tryd.func24, Tryd.ntmps24
  go_wp2_with fail
  go_region_held3 (fun W1 : World => W1.cell? ⟨w.heap.size, 0, none⟩ = some (.int .i64 F) ∧ W1.cell? ⟨w.heap.size, 1, none⟩ = some (.int .i64 S) ∧ W1.cell? ⟨w.heap.size, 2, none⟩ = some (.int .i64 J) ∧ W1.cell? ⟨w.heap.size, 3, none⟩ = some (.int .i64 L) ∧ W1.cell? ⟨w.heap.size, 4, none⟩ = some (.int .i64 H)) (first | with_reducible exact At5.below hq hb | (rename_i hq2 _ _; first | with_reducible exact hq2 | with_reducible exact At5.alloc hq2 _ | ((repeat with_reducible refine At5.setCell ?_ (by first | omega | (simp <;> omega))) <;> with_reducible exact hq2)) | (simp [go_sem, *]; done))
    (first | (go_at_call 57; rename_i hq _ _; refine (lies_is hl _).mono ?_; rintro e w' ⟨rfl, rfl⟩) | (go_at_call 54; rename_i hq _ _; refine (opened_ok' F S J L H (by first | rfl | (simp; omega)) _ hr).mono ?_; rintro e w1 ⟨b, rfl, hb, hnb, hnew⟩; obtain ⟨hc, hf⟩ := bcell hb; have hz := hb.size; simp at hz; simp at hnb; have hz1 : w.heap.size < w1.heap.size := (by omega); try (have hz2 : w.heap.size + 1 < w1.heap.size := (by omega)); try (have hz3 : w.heap.size + 1 + 1 < w1.heap.size := (by omega))))
  all_goals
    have hB1 : Below w.heap.size w w1 := by
      refine below_call ?_ hb
      repeat with_reducible (first | assumption | exact Below.refl _ _ | refine Below.setCell ?_ (by first | omega | (simp <;> omega)) _ | refine Below.alloc ?_ (by first | omega | (simp <;> omega)) _ | refine Below.drew ?_)
    have HNB := Lib.hid hnb; have HBL := Lib.hid (Array.getElem?_eq_some_iff.1 hnew).1; have HB := Lib.hid hB1; have HN := Lib.hid hnew; clear hnb hB1 hnew hb
    go_wp2_with fail
    refine (keeps_any F S J L H (some b) a n cap xs _ (hN.below ?_) hr).mono ?_
    · have hnb := HNB.out
      repeat with_reducible (first | assumption | exact HB.out | exact Below.refl _ _ | refine Below.setCell ?_ (by first | omega | (simp <;> omega)) _ | refine Below.alloc ?_ (by first | omega | (simp <;> omega)) _ | refine Below.drew ?_)
    rintro e w2 ⟨rfl, hb2⟩
    rw [hk]
    have hB2 : Below w.heap.size w w2 := by
      refine below_call ?_ hb2
      have hnb := HNB.out
      repeat with_reducible (first | assumption | exact HB.out | exact Below.refl _ _ | refine Below.setCell ?_ (by first | omega | (simp <;> omega)) _ | refine Below.alloc ?_ (by first | omega | (simp <;> omega)) _ | refine Below.drew ?_)
    have HB2 := Lib.hid hB2; clear hB2 hb2
    go_wp2_with fail
    go_ret2
    exact ⟨rfl, HB2.out⟩

/-- What the scale shows at the beginning of the tick k. -/
def shownAt (f : Int) (xs : List Int) (k : Nat) : Int := f + 1000 * k + sumL (xs.take k)
def shownTo (f : Int) (xs : List Int) (k : Nat) : List Int := (List.range (k + 1)).map (shownAt f xs)
def shownL (f : Int) (xs : List Int) : List Int := shownTo f xs xs.length
theorem sumL_append (l m : List Int) : sumL (l ++ m) = sumL l + sumL m := by
  induction l with
  | nil => simp [sumL]
  | cons x l ih => simp only [sumL, List.cons_append, List.foldr_cons] at ih ⊢; omega
theorem shownAt_succ (f : Int) (xs : List Int) (k : Nat) (h : k < xs.length) : shownAt f xs (k + 1) = shownAt f xs k + (1000 + xs[k]?.getD 0) := by
  unfold shownAt
  rw [take_snoc_getD xs k h, sumL_append, List.getD_eq_getElem?_getD]
  simp [sumL]; omega
theorem shownTo_succ (f : Int) (xs : List Int) (k : Nat) : shownTo f xs (k + 1) = shownTo f xs k ++ [shownAt f xs (k + 1)] := by
  simp [shownTo, List.range_succ]
theorem keepsB_mem (F S J : Int) (l : List Int) : ∀ d, keepsB F S J d l = true → ∀ x ∈ l, -S ≤ x ∧ x ≤ F := by
  induction l with
  | nil => intro d _ x hx; cases hx
  | cons n l ih =>
    intro d h x hx
    simp only [keepsB, Bool.and_eq_true, lies_iff] at h
    rcases List.mem_cons.1 hx with rfl | hx
    · exact h.1.1
    · exact ih n h.2 x hx
theorem sumL_abs (xs : List Int) (h1 : ∀ x ∈ xs, -500 ≤ x ∧ x ≤ 500) : -(500 * (xs.length : Int)) ≤ sumL xs ∧ sumL xs ≤ 500 * xs.length := by
  induction xs with
  | nil => simp [sumL]
  | cons x xs ih =>
    have h2 := ih (fun y hy => h1 y (by simp [hy]))
    have hx := h1 x (by simp)
    simp only [sumL, List.foldr_cons, List.length_cons] at h2 ⊢
    omega
theorem shownAt_bd (f : Int) (xs : List Int) (k : Nat) (h1 : ∀ x ∈ xs, -500 ≤ x ∧ x ≤ 500) (hf : 0 ≤ f ∧ f ≤ 10000000) (hk : k ≤ 200) : 0 ≤ shownAt f xs k ∧ shownAt f xs k ≤ 11000000 := by
  have h2 := sumL_abs (xs.take k) (fun x hx => h1 x (List.mem_of_mem_take hx))
  have h3 : (xs.take k).length ≤ k := List.length_take_le _ _
  unfold shownAt
  omega
/-- A result that is a slice of numbers in the call's own memory, and a code. -/
def ListPost (code : Int) (l : List Int) (w : World) (e : Ending) (w' : World) : Prop := ∃ a cap, e = .returned (.tuple #[.slice a l.length cap, .int .i64 code]) ∧ (Nums w' a l.length l ∧ l.length ≤ cap ∧ ∀ g o, a = some ⟨g, o, none⟩ → 0 < l.length → w.heap.size ≤ g) ∧ Below w.heap.size w w'
theorem ownsRow_new (W : World) (base : Nat) (x : Value) (hb : base ≤ W.heap.size) : (W.alloc (.cells #[x] 3)).ownsRow base 3 1 (.slice (some ⟨W.heap.size, 0, none⟩) 1 1) 1 [x] :=
  ⟨rfl, .inr ⟨W.heap.size, 1, #[x], rfl, hb, World.alloc_heap_new W _, Nat.le_refl _, by decide, rfl, rfl⟩⟩


end Go.Proofs.YtidnopmjhhmedaaDoor
end

section
/- Shown: what it returns of what it takes. -/
set_option linter.unusedSimpArgs false
set_option linter.unusedVariables false
namespace Go.Proofs.YtidnopmjhhmedaaDoor
open Go.RowKit

theorem own_ge {w : World} {base : Nat} {e : TypeId} {size n : Nat} {v : Value} {xs : List Value} (h : w.ownsRow base e size v n xs) : ∀ k, v.ownBlock = some k → base ≤ k := by
  intro k hk
  rcases h.2 with ⟨rfl, _⟩ | ⟨g, cap, cur, rfl, hb, _⟩
  · simp [Value.ownBlock] at hk
  · have : g = k := by simpa [Value.ownBlock] using hk
    omega

theorem shown_fin {f : Int} {xs : List Int} {k : Nat} (hk : xs.length = k) {W : World} {base : Nat} {v : Value} (h : W.ownsRow base 3 1 v (k + 1) ((shownTo f xs k).map (Value.int .i64))) (hs : k ≤ 200) :
    ∃ g cap, v = .slice (some ⟨g, 0, none⟩) (k + 1) cap ∧ k + 1 ≤ cap ∧ base ≤ g ∧ Nums W (some ⟨g, 0, none⟩) (shownL f xs).length (shownL f xs) := by
  have hl : (shownL f xs).length = k + 1 := by simp [shownL, shownTo, hk]
  have hown := h
  rcases h.2 with ⟨_, h0⟩ | ⟨g, cap, cur, rfl, hbg, _, hc, _⟩
  · omega
  · refine ⟨g, cap, rfl, hc, hbg, rfl, by omega, fun _ => ⟨g, 0, rfl, fun j hj => ?_⟩⟩
    rw [Nat.zero_add, hown.cellAt j (by omega), List.getElem?_map]
    have e : shownTo f xs k = shownL f xs := by rw [shownL, hk]
    rw [e, List.getElem?_eq_getElem hj]
    simp [List.getD_eq_getElem?_getD, hj]

set_option maxRecDepth 100000 in
set_option maxHeartbeats 1000000 in
theorem Shown_ok (F S J L H f : Int) (a : Option Addr) (n cap : Nat) (xs : List Int) (w : World) (hN : Nums w a n xs) (hr : isRuleB F S J L H = true) (hl : lies f 0 10000000 = true) (hn : n ≤ 200) (hk : keepsB F S J 0 xs = true) :
    Calls Tryd.prog 24 #[.agg #[.int .i64 F, .int .i64 S, .int .i64 J, .int .i64 L, .int .i64 H], .int .i64 f, .slice a n cap] w (ListPost 0 (shownL f xs) w) := by
  obtain ⟨hF, hS, hJ, _⟩ := isRuleB_spec hr
  have hfb := lies_iff.1 hl
  have hmem : ∀ x ∈ xs, -500 ≤ x ∧ x ≤ 500 := fun x hx => by have := keepsB_mem F S J xs 0 hk x hx; omega
  obtain ⟨i0, hi, hy0, hy1, hy2⟩ := info_parts Tryd.info3
  have HM := Lib.hid hmem; clear hmem
  have hm := hN.2.1
  go_enter Tryd.func24, Tryd.ntmps24
  go_wp2_with fail
  go_region_held3 (fun W1 : World => W1.cell? ⟨w.heap.size, 0, none⟩ = some (.int .i64 F) ∧ W1.cell? ⟨w.heap.size, 1, none⟩ = some (.int .i64 S) ∧ W1.cell? ⟨w.heap.size, 2, none⟩ = some (.int .i64 J) ∧ W1.cell? ⟨w.heap.size, 3, none⟩ = some (.int .i64 L) ∧ W1.cell? ⟨w.heap.size, 4, none⟩ = some (.int .i64 H)) (first | with_reducible exact At5.below hq hb | (rename_i hq2 _ _; first | with_reducible exact hq2 | with_reducible exact At5.alloc hq2 _ | ((repeat with_reducible refine At5.setCell ?_ (by first | omega | (simp <;> omega))) <;> with_reducible exact hq2)) | (simp [go_sem, *]; done))
    (first | (go_at_call 57; rename_i hq _ _; refine (lies_is hl _).mono ?_; rintro e w' ⟨rfl, rfl⟩) | (go_at_call 54; rename_i hq _ _; refine (opened_ok' F S J L H (by first | rfl | (simp; omega)) _ hr).mono ?_; rintro e w1 ⟨b, rfl, hb, hnb, hnew⟩; obtain ⟨hc, hf⟩ := bcell hb; have hz := hb.size; simp at hz; simp at hnb; have hz1 : w.heap.size < w1.heap.size := (by omega); try (have hz2 : w.heap.size + 1 < w1.heap.size := (by omega)); try (have hz3 : w.heap.size + 1 + 1 < w1.heap.size := (by omega))))
  all_goals
    have hB1 : Below w.heap.size w w1 := by
      refine below_call ?_ hb
      repeat with_reducible (first | assumption | exact Below.refl _ _ | refine Below.setCell ?_ (by first | omega | (simp <;> omega)) _ | refine Below.alloc ?_ (by first | omega | (simp <;> omega)) _ | refine Below.drew ?_)
    have HNB := Lib.hid hnb; have HBL := Lib.hid (Array.getElem?_eq_some_iff.1 hnew).1; have HB := Lib.hid hB1; have HN := Lib.hid hnew; clear hnb hB1 hnew hb
    go_wp2_with fail
    refine (keeps_any F S J L H (some b) a n cap xs _ (hN.below ?_) hr).mono ?_
    · have hnb := HNB.out
      repeat with_reducible (first | assumption | exact HB.out | exact Below.refl _ _ | refine Below.setCell ?_ (by first | omega | (simp <;> omega)) _ | refine Below.alloc ?_ (by first | omega | (simp <;> omega)) _ | refine Below.drew ?_)
    rintro e w2 ⟨rfl, hb2⟩
    rw [hk]
    have hB2 : Below w.heap.size w w2 := by
      refine below_call ?_ hb2
      have hnb := HNB.out
      repeat with_reducible (first | assumption | exact HB.out | exact Below.refl _ _ | refine Below.setCell ?_ (by first | omega | (simp <;> omega)) _ | refine Below.alloc ?_ (by first | omega | (simp <;> omega)) _ | refine Below.drew ?_)
    have hN2 := hN.below hB2
    have hl2 := hN.1
    have HL := Lib.hid hl2; clear hl2
    have HC := Lib.hid hN2.2.2
    have hzw := hB2.size
    have HB2 := Lib.hid hB2; clear hB2 hb2 hN2
    have hs0 : shownAt f xs 0 = f := by simp [shownAt, sumL]
    go_wp2
    go_loopw [1, 10, 36] (fun t v i wr => ∃ k : Nat, k ≤ n ∧ i = .int .i64 k ∧ t = .int .i64 (shownAt f xs k) ∧ wr.ownsRow w.heap.size 3 1 v (k + 1) ((shownTo f xs k).map (Value.int .i64)) ∧ Below w.heap.size w wr) (fun _ _ i _ => n - (intOf i).toNat)
    case atStart =>
      refine ⟨0, Nat.zero_le _, rfl, by rw [hs0], ?_, HB2.out.alloc hzw _⟩
      have := ownsRow_new w2 w.heap.size (.int .i64 f) hzw
      simpa [shownTo, hs0] using this
    case round =>
      obtain ⟨k, hk, rfl, rfl, hown, hB⟩ := hrel
      have hbz := hB.size
      by_cases hlt : k < n
      · obtain ⟨pb, po, hpa, hcell⟩ := hN.2.2 (by omega)
        have hck := cell_below hB (hcell k hlt)
        rw [List.getD_eq_getElem?_getD] at hck
        have hsucc := shownAt_succ f xs k (by rw [HL.out]; exact hlt)
        have hb1 := shownAt_bd f xs k HM.out hfb (by omega)
        have hb2 := shownAt_bd f xs (k + 1) HM.out hfb (by omega)
        rw [hsucc] at hb2
        have hx1 : -500 ≤ xs[k]?.getD 0 ∧ xs[k]?.getD 0 ≤ 500 := by
          have h2 : k < xs.length := by rw [HL.out]; exact hlt
          have := HM.out (xs[k]) (List.getElem_mem h2)
          simpa [h2] using this
        obtain ⟨hb1a, hb1b⟩ := hb1
        obtain ⟨hb2a, hb2b⟩ := hb2
        obtain ⟨hx1a, hx1b⟩ := hx1
        have HSU := Lib.hid hsucc
        clear hsucc
        subst hpa
        clear hcell hc hf
        go_wp2_with (at_builtin; go_loud (refine wpList_append_own _ rfl _ _ 26 rfl w.heap.size 3 i0 (.int .i64 0) 1 8 Tryd.underlying26 hi hy0 hy1 hy2 rfl (by decide) _ _ _ rfl (hown.alloc _) ⟨wr.heap.size, 0, none⟩ 1 1 [.int .i64 (shownAt f xs k + (1000 + xs[k]?.getD 0))] rfl rfl (cell_one_new _ _ _) (by simp [Value.oneCell']) (by unfold maxLen; omega) (by omega) (by simp; omega) ?_); intro v' w3 hown' hgrow _)
        have hown2 : w3.ownsRow w.heap.size 3 1 v' (k + 1 + 1) ((shownTo f xs (k + 1)).map (Value.int .i64)) := by
          rw [shownTo_succ, HSU.out]
          simpa using hown'
        have hB3 : Below w.heap.size w w3 := (hB.alloc hbz _).grown hgrow (by simp; omega) (own_ge hown)
        clear hown' hgrow
        go_roundw
        case rel => exact ⟨k + 1, by omega, by go_num, by rw [HSU.out], hown2, hB3⟩
        case measure => simp [intOf]; omega
      · obtain rfl : k = n := by omega
        have hfin := shown_fin (HL.out) hown (by omega)
        obtain ⟨g, cap2, rfl, hcap, hbg, hNN⟩ := hfin
        have HNN := Lib.hid hNN
        clear hNN
        go_wp2
        go_ret2
        have hlen : (shownL f xs).length = k + 1 := by simp [shownL, shownTo, HL.out]
        refine ⟨some ⟨g, 0, none⟩, k + 1, by (rw [hlen]; rfl), ⟨HNN.out, by rw [hlen]; exact Nat.le_refl _, fun g' o' ha _ => ?_⟩, hB⟩
        injection ha with ha
        injection ha with ha
        omega

end Go.Proofs.YtidnopmjhhmedaaDoor
end

section
/- The levels of a plan. -/
set_option linter.unusedSimpArgs false
set_option linter.unusedVariables false
namespace Go.Proofs.YtidnopmjhhmedaaDoor
open Go.RowKit

def levelL (n : Int) (xs : List Int) : List Int := xs.map fun m => min n m
/-- A result that is a list of its own, in new memory. -/
def OwnPost (l : List Int) (w : World) (e : Ending) (w' : World) : Prop := ∃ v, e = .returned v ∧ w'.ownsRow w.heap.size 3 1 v l.length (l.map (Value.int .i64)) ∧ Below w.heap.size w w'
theorem levelL_take (n : Int) (xs : List Int) (k : Nat) (h : k < xs.length) : levelL n (xs.take (k + 1)) = levelL n (xs.take k) ++ [min n (xs[k]?.getD 0)] := by
  rw [take_snoc_getD xs k h, List.getD_eq_getElem?_getD]; simp [levelL]

set_option maxRecDepth 100000 in
set_option maxHeartbeats 1000000 in
theorem level_any (N : Int) (B : Nat) (a : Option Addr) (n cap : Nat) (xs : List Int) (w : World) (hB : w.cell? ⟨B, 0, none⟩ = some (.slice a n cap)) (hN : Nums w a n xs) (hn : n ≤ 200) :
    Calls Tryd.prog 66 #[.int .i64 N, .pointer (some ⟨B, 0, none⟩)] w (OwnPost (levelL N xs) w) := by
  obtain ⟨i0, hi, hy0, hy1, hy2⟩ := info_parts Tryd.info3
  have hl := hN.1
  have HL := Lib.hid hl; clear hl
  have HC := Lib.hid hN.2.2
  clear hN
  go_enter Tryd.func66, Tryd.ntmps66
  go_wp2
  go_loopw [4, 6, 9] (fun v _ i wr => ∃ k : Nat, k ≤ n ∧ i = .int .i64 k ∧ wr.ownsRow w.heap.size 3 1 v k ((levelL N (xs.take k)).map (Value.int .i64)) ∧ Below w.heap.size w wr) (fun _ _ i _ => n - (intOf i).toNat)
  case atStart => exact ⟨0, Nat.zero_le _, rfl, World.ownsRow_nil _ _ _ _, Below.refl _ _⟩
  case round =>
    obtain ⟨k, hk, rfl, hown, hB1⟩ := hrel
    have hbz := hB1.size
    by_cases hlt : k < n
    · obtain ⟨pb, po, rfl, hcell⟩ := HC.out (by omega)
      have hck := cell_below hB1 (hcell k hlt)
      rw [List.getD_eq_getElem?_getD] at hck
      clear hcell
      have HT := Lib.hid (levelL_take N xs k (by rw [HL.out]; exact hlt))
      go_wp2_with (at_builtin; refine wpList_append_own _ rfl _ _ 26 rfl w.heap.size 3 i0 (.int .i64 0) 1 8 Tryd.underlying26 hi hy0 hy1 hy2 rfl (by decide) _ _ _ rfl (hown.alloc _) ⟨wr.heap.size, 0, none⟩ 1 1 [.int .i64 (min N (xs[k]?.getD 0))] rfl rfl (cell_one_new _ _ _) (by simp [Value.oneCell']) (by unfold maxLen; omega) (by omega) (by simp; omega) ?_; intro v' w3 hown' hgrow _)
      have hown2 : w3.ownsRow w.heap.size 3 1 v' (k + 1) ((levelL N (xs.take (k + 1))).map (Value.int .i64)) := by
        rw [HT.out]
        simpa using hown'
      have hB3 : Below w.heap.size w w3 := (hB1.alloc hbz _).grown hgrow (by simp; omega) (own_ge hown)
      clear hown' hgrow
      go_roundw
      case rel => exact ⟨k + 1, by omega, by go_num, hown2, hB3⟩
      case measure => simp [intOf]; omega
    · obtain rfl : k = n := by omega
      have hx : xs.take k = xs := List.take_of_length_le (by rw [HL.out]; omega)
      have hl2 : (levelL N xs).length = k := by simp [levelL, HL.out]
      rw [hx] at hown
      have HO := Lib.hid hown
      have HL2 := Lib.hid hl2
      clear hx hl2 hown
      go_wp2
      go_ret
      exact ⟨_, rfl, by rw [HL2.out]; exact HO.out, hB1⟩

end Go.Proofs.YtidnopmjhhmedaaDoor
end

section
/- Plain: the levels of a plan, and its adjustments. -/
set_option linter.unusedSimpArgs false
set_option linter.unusedVariables false
namespace Go.Proofs.YtidnopmjhhmedaaDoor
open Go.RowKit

/-- The level: the greatest one, from k on, at which all ticks together are at most what is wanted. -/
def nFrom (want : Int) (xs : List Int) : Nat → Nat → Nat
  | 0, k => k
  | d + 1, k => if sumL (levelL (k + 1) xs) ≤ want then nFrom want xs d (k + 1) else k
def nLevel (want : Int) (xs : List Int) : Nat := nFrom want xs 500 0
def fillS (n : Int) : Int → List Int → Int
  | left, [] => left
  | left, m :: ms => if 0 < left ∧ n < m then fillS n (left - 1) ms else fillS n left ms
def fillL (n : Int) : Int → List Int → List Int
  | _, [] => []
  | left, m :: ms => if 0 < left ∧ n < m then (min n m + 1) :: fillL n (left - 1) ms else min n m :: fillL n left ms
theorem fillL_length (n : Int) (xs : List Int) : ∀ left, (fillL n left xs).length = xs.length := by
  induction xs with
  | nil => intro left; rfl
  | cons m ms ih => intro left; simp only [fillL]; split <;> simp [ih]
theorem fillL_snoc (n : Int) (xs : List Int) (m : Int) : ∀ left, fillL n left (xs ++ [m]) = fillL n left xs ++ [if 0 < fillS n left xs ∧ n < m then min n m + 1 else min n m] := by
  induction xs with
  | nil => intro left; simp only [List.nil_append, fillL, fillS]; split <;> simp [*]
  | cons x xs ih => intro left; simp only [List.cons_append, fillL, fillS]; split <;> simp [ih]
theorem fillS_snoc (n : Int) (xs : List Int) (m : Int) : ∀ left, fillS n left (xs ++ [m]) = if 0 < fillS n left xs ∧ n < m then fillS n left xs - 1 else fillS n left xs := by
  induction xs with
  | nil => intro left; simp only [List.nil_append, fillS]; split <;> rename_i h <;> first | (simp [h]; done) | (simp only [h, if_false]; done)
  | cons x xs ih => intro left; simp only [List.cons_append, fillS]; split <;> simp [ih]
theorem fillS_bd (n : Int) (xs : List Int) : ∀ left, fillS n left xs ≤ left ∧ (fillS n left xs = left ∨ 0 ≤ fillS n left xs) := by
  induction xs with
  | nil => intro left; exact ⟨Int.le_refl _, .inl rfl⟩
  | cons x xs ih =>
    intro left
    simp only [fillS]
    split
    · have := ih (left - 1); omega
    · exact ih left

/-- The list while it is filled: k ticks are done. -/
def midL (n left : Int) (xs : List Int) (k : Nat) : List Int := fillL n left (xs.take k) ++ levelL n (xs.drop k)
theorem midL_zero (n left : Int) (xs : List Int) : midL n left xs 0 = levelL n xs := by simp [midL, fillL]
theorem midL_end (n left : Int) (xs : List Int) : midL n left xs xs.length = fillL n left xs := by simp [midL, levelL]
theorem midL_length (n left : Int) (xs : List Int) (k : Nat) (h : k ≤ xs.length) : (midL n left xs k).length = xs.length := by
  simp [midL, fillL_length, levelL]; omega
theorem midL_at (n left : Int) (xs : List Int) (k : Nat) (h : k < xs.length) : (midL n left xs k)[k]? = some (min n (xs[k]?.getD 0)) := by
  have h1 : (fillL n left (xs.take k)).length = k := by rw [fillL_length]; simp; omega
  rw [midL, List.getElem?_append_right (by omega), h1]
  simp [levelL, h]
theorem drop_cons_getD (xs : List Int) (k : Nat) (h : k < xs.length) : xs.drop k = xs[k]?.getD 0 :: xs.drop (k + 1) := by
  rw [List.drop_eq_getElem_cons h]; simp [h]
theorem set_append_at (l m : List Int) (x y : Int) (k : Nat) (h : l.length = k) : (l ++ x :: m).set k y = (l ++ [y]) ++ m := by
  subst h; simp
theorem midL_succ (n left : Int) (xs : List Int) (k : Nat) (h : k < xs.length) :
    midL n left xs (k + 1) = (midL n left xs k).set k (if 0 < fillS n left (xs.take k) ∧ n < xs[k]?.getD 0 then min n (xs[k]?.getD 0) + 1 else min n (xs[k]?.getD 0)) := by
  have h1 : (fillL n left (xs.take k)).length = k := by rw [fillL_length]; simp; omega
  unfold midL
  rw [take_snoc_getD xs k h, List.getD_eq_getElem?_getD, fillL_snoc, drop_cons_getD xs k h]
  simp only [levelL, List.map_cons]
  rw [set_append_at _ _ _ _ k h1]
theorem midL_go (n left : Int) (xs : List Int) (k : Nat) (h : k < xs.length) (hc : 0 < fillS n left (xs.take k) ∧ n < xs[k]?.getD 0) :
    midL n left xs (k + 1) = (midL n left xs k).set k (min n (xs[k]?.getD 0) + 1) ∧ fillS n left (xs.take (k + 1)) = fillS n left (xs.take k) - 1 := by
  refine ⟨by rw [midL_succ n left xs k h, if_pos hc], ?_⟩
  rw [take_snoc_getD xs k h, List.getD_eq_getElem?_getD, fillS_snoc, if_pos hc]
theorem midL_stay (n left : Int) (xs : List Int) (k : Nat) (h : k < xs.length) (hc : ¬ (0 < fillS n left (xs.take k) ∧ n < xs[k]?.getD 0)) :
    midL n left xs (k + 1) = midL n left xs k ∧ fillS n left (xs.take (k + 1)) = fillS n left (xs.take k) := by
  constructor
  · rw [midL_succ n left xs k h, if_neg hc]
    have h2 := midL_at n left xs k h
    have h3 : k < (midL n left xs k).length := by rw [midL_length n left xs k (by omega)]; exact h
    apply List.ext_getElem?
    intro i
    rw [List.getElem?_set]
    split
    · rename_i e; subst e; first | exact h2.symm | (rw [if_pos h3, h2])
    · rfl
  · rw [take_snoc_getD xs k h, List.getD_eq_getElem?_getD, fillS_snoc, if_neg hc]

def mulL (s : Int) (l : List Int) (k : Nat) : List Int := (l.take k).map (fun x => x * s) ++ l.drop k
theorem mulL_zero (s : Int) (l : List Int) : mulL s l 0 = l := by simp [mulL]
theorem mulL_end (s : Int) (l : List Int) : mulL s l l.length = l.map fun x => x * s := by simp [mulL]
theorem mulL_at (s : Int) (l : List Int) (k : Nat) (h : k < l.length) : (mulL s l k)[k]? = some (l[k]?.getD 0) := by
  have h1 : ((l.take k).map (fun x => x * s)).length = k := by simp; omega
  rw [mulL, List.getElem?_append_right (by omega), h1]
  simp [h]
theorem mulL_succ (s : Int) (l : List Int) (k : Nat) (h : k < l.length) : mulL s l (k + 1) = (mulL s l k).set k (l[k]?.getD 0 * s) := by
  have h1 : ((l.take k).map (fun x => x * s)).length = k := by simp; omega
  unfold mulL
  rw [take_snoc_getD l k h, List.getD_eq_getElem?_getD, List.map_append, drop_cons_getD l k h, set_append_at _ _ _ _ k h1]
  simp
theorem fillL_bd (n : Int) (hn : 0 ≤ n) (hn2 : n ≤ 500) (xs : List Int) (h : ∀ x ∈ xs, 0 ≤ x ∧ x ≤ 500) : ∀ left, ∀ y ∈ fillL n left xs, 0 ≤ y ∧ y ≤ 501 := by
  induction xs with
  | nil => intro left y hy; cases hy
  | cons m ms ih =>
    intro left y hy
    have hm := h m (by simp)
    simp only [fillL] at hy
    split at hy
    · rcases List.mem_cons.1 hy with rfl | hy
      · omega
      · exact ih (fun x hx => h x (by simp [hx])) _ y hy
    · rcases List.mem_cons.1 hy with rfl | hy
      · omega
      · exact ih (fun x hx => h x (by simp [hx])) _ y hy
theorem levelL_bd (n : Int) (hn : 0 ≤ n) (xs : List Int) (h : ∀ x ∈ xs, 0 ≤ x ∧ x ≤ 500) : ∀ y ∈ levelL n xs, 0 ≤ y ∧ y ≤ 500 := by
  intro y hy
  simp only [levelL, List.mem_map] at hy
  obtain ⟨x, hx, rfl⟩ := hy
  have := h x hx
  omega
theorem total_level (n : Int) (hn : 0 ≤ n) (xs : List Int) (h : ∀ x ∈ xs, 0 ≤ x ∧ x ≤ 500) (hl : xs.length ≤ 200) : total (levelL n xs) = sumL (levelL n xs) :=
  total_small _ (levelL_bd n hn xs h) (by simpa [levelL] using hl)
theorem sumL_level_bd (n : Int) (hn : 0 ≤ n) (xs : List Int) (h : ∀ x ∈ xs, 0 ≤ x ∧ x ≤ 500) (hl : xs.length ≤ 200) : 0 ≤ sumL (levelL n xs) ∧ sumL (levelL n xs) ≤ 100000 := by
  have h1 := sumL_bd _ (levelL_bd n hn xs h)
  have h2 : (levelL n xs).length = xs.length := by simp [levelL]
  rw [h2] at h1
  omega

/-- A plan: how far each tick is steered. -/
def planOf (sign want : Int) (xs : List Int) : List Int := (fillL (nLevel want xs) (want - sumL (levelL (nLevel want xs) xs)) xs).map fun x => x * sign
theorem planOf_length (sign want : Int) (xs : List Int) : (planOf sign want xs).length = xs.length := by simp [planOf, fillL_length]
theorem own_some {w : World} {base : Nat} {n cap : Nat} {a : Option Addr} {xs : List Value} (h : w.ownsRow base 3 1 (.slice a n cap) n xs) : (0 < n → ∃ g, a = some ⟨g, 0, none⟩ ∧ base ≤ g) ∧ n ≤ cap ∧ n ≤ maxLen := by
  rcases h.2 with ⟨h0, h1⟩ | ⟨g, cap', cur, h0, hb, _, hc, hm, _⟩
  · simp only [Value.slice.injEq] at h0
    exact ⟨fun hn => by omega, by omega, by omega⟩
  · have ha : a = some ⟨g, 0, none⟩ := by injection h0
    have hk : cap = cap' := by injection h0
    exact ⟨fun _ => ⟨g, ha, hb⟩, by omega, by omega⟩
/-- What owns a row reads as its numbers. -/
theorem own_mono {w : World} {base base' : Nat} {v : Value} {n : Nat} {xs : List Value} (h : w.ownsRow base 3 1 v n xs) (hb : base' ≤ base) : w.ownsRow base' 3 1 v n xs :=
  ⟨h.1, h.2.imp id fun ⟨g, cap, cur, h1, h2, h3⟩ => ⟨g, cap, cur, h1, Nat.le_trans hb h2, h3⟩⟩
theorem nums_of_own {w : World} {base : Nat} {a : Option Addr} {n cap : Nat} {xs : List Int} (h : w.ownsRow base 3 1 (.slice a n cap) n (xs.map (Value.int .i64))) (hl : xs.length = n) (hn : n ≤ 17592186044416) : Nums w a n xs := by
  subst hl
  obtain ⟨a', cap', he, hN⟩ := nums_of_row h hn
  simp only [Value.slice.injEq] at he
  obtain ⟨rfl, _⟩ := he
  exact hN
theorem nums_putObj {w : World} {a : Option Addr} {n D : Nat} {xs : List Int} {o : Obj} (h : Nums w a n xs) (hD : ∀ g o', 0 < n → a = some ⟨g, o', none⟩ → g ≠ D) : Nums (w.putObj D o) a n xs := by
  refine ⟨h.1, h.2.1, fun hn => ?_⟩
  obtain ⟨g, o', ha, hc⟩ := h.2.2 hn
  exact ⟨g, o', ha, fun j hj => (World.cell?_of_block (World.putObj_heap_other (fun e => hD g o' hn ha e))).trans (hc j hj)⟩
theorem below_putObj {n D : Nat} {w W : World} {o : Obj} (h : Below n w W) (hD : n ≤ D) : Below n w (W.putObj D o) :=
  h.trans ⟨rfl, rfl, rfl, (grownBy_putObj' W D o).size, fun k hk => World.putObj_heap_other (by omega)⟩

end Go.Proofs.YtidnopmjhhmedaaDoor
end

section
/- Plan. -/
set_option linter.unusedSimpArgs false
set_option linter.unusedVariables false
namespace Go.Proofs.YtidnopmjhhmedaaDoor
open Go.RowKit
attribute [local go_sem] Oper.semAt_some

/-- The world in which Plan's first loop begins, out of the one behind opened. -/
def planW (F S J L H : Int) (b ticks way : Nat) (w : World) : World :=
  ((((w.alloc (.cells #[.int .i64 F, .int .i64 S, .int .i64 J, .int .i64 L, .int .i64 H, .map (some b)] 80)).alloc (.cells #[.slice none 0 0] 26)).alloc (.cells #[.int .i64 F, .int .i64 S, .int .i64 J, .int .i64 L, .int .i64 H, .map (some b)] 80)).alloc (.cells #[.int .i64 ticks] 3)).alloc (.cells #[.int .i64 way] 3)
structure PlanW (F S J L H : Int) (b ticks way : Nat) (w W : World) : Prop where
  bel : Below w.heap.size w W
  size : W.heap.size = w.heap.size + 5
  box : Boxed W (w.heap.size + 1) 26 (.slice none 0 0)
  rule : W.cell? ⟨w.heap.size + 2, 0, none⟩ = some (.int .i64 F) ∧ W.cell? ⟨w.heap.size + 2, 1, none⟩ = some (.int .i64 S) ∧ W.cell? ⟨w.heap.size + 2, 2, none⟩ = some (.int .i64 J) ∧ W.cell? ⟨w.heap.size + 2, 3, none⟩ = some (.int .i64 L) ∧ W.cell? ⟨w.heap.size + 2, 4, none⟩ = some (.int .i64 H) ∧ W.cell? ⟨w.heap.size + 2, 5, none⟩ = some (.map (some b))
  tk : W.cell? ⟨w.heap.size + 2 + 1, 0, none⟩ = some (.int .i64 ticks)
  wy : W.cell? ⟨w.heap.size + 2 + 2, 0, none⟩ = some (.int .i64 way)
theorem planW_is (F S J L H : Int) (b ticks way : Nat) (w : World) : PlanW F S J L H b ticks way w (planW F S J L H b ticks way w) := by
  unfold planW
  refine ⟨?_, by simp, ?_, ?_, ?_, ?_⟩
  · repeat with_reducible (first | exact Below.refl _ _ | refine Below.alloc ?_ (by simp <;> omega) _)
  · have h := Boxed.new (w.alloc (.cells #[.int .i64 F, .int .i64 S, .int .i64 J, .int .i64 L, .int .i64 H, .map (some b)] 80)) 26 (.slice none 0 0)
    rw [World.size_alloc] at h
    exact ((h.alloc _).alloc _).alloc _
  all_goals simp [go_sem]

theorem fewFrom_le (F S J off : Int) (d : Nat) : ∀ t : Nat, t + d = 201 → fewFrom F S J off d t ≤ 200 := by
  induction d with
  | zero => intro t h; simp [fewFrom]
  | succ d ih =>
    intro t h
    simp only [fewFrom]
    split
    · omega
    · exact ih (t + 1) (by omega)
theorem fewest_le (F S J off : Int) : fewest F S J off ≤ 200 := fewFrom_le F S J off 201 0 rfl

set_option maxRecDepth 100000 in
set_option maxHeartbeats 1000000 in
theorem Plan_err (F S J L H off e : Int) (w : World) (he : (e == 0) = false)
    (hF : Calls Tryd.prog 18 #[.agg #[.int .i64 F, .int .i64 S, .int .i64 J, .int .i64 L, .int .i64 H], .int .i64 off] (w.alloc (.cells #[.int .i64 F, .int .i64 S, .int .i64 J, .int .i64 L, .int .i64 H] 25)) fun e' w' => e' = .returned (.tuple #[.int .i64 0, .int .i64 e]) ∧ Below (w.heap.size + 1) (w.alloc (.cells #[.int .i64 F, .int .i64 S, .int .i64 J, .int .i64 L, .int .i64 H] 25)) w') :
    Calls Tryd.prog 20 #[.agg #[.int .i64 F, .int .i64 S, .int .i64 J, .int .i64 L, .int .i64 H], .int .i64 off] w fun e' w' => e' = .returned (.tuple #[.slice none 0 0, .int .i64 e]) ∧ Below w.heap.size w w' := by
  go_enter Tryd.func20, Tryd.ntmps20
  go_wp2_with fail
  refine hF.mono ?_
  rintro e' w1 ⟨rfl, hb⟩
  have hB : Below w.heap.size w w1 := ((Below.refl _ _).alloc (Nat.le_refl _) _).trans (hb.mono (by omega))
  clear hb
  go_wp2_with fail
  go_ret2
  exact ⟨rfl, hB⟩


set_option maxRecDepth 100000 in
set_option maxHeartbeats 2000000 in
theorem Plan_pos (F S J L H off : Int) (ticks : Nat) (w : World) (hw : Ways w) (hr : isRuleB F S J L H = true) (ho : -20000 ≤ off ∧ off ≤ 20000) (hs : 0 < off) (ht : ticks ≤ 200) (hft : fewest F S J off = ticks) :
    Calls Tryd.prog 20 #[.agg #[.int .i64 F, .int .i64 S, .int .i64 J, .int .i64 L, .int .i64 H], .int .i64 off] w (ListPost 0 (planOf (-1) (off) (caps S J ticks)) w) := by
  obtain ⟨i0, hi, hy0, hy1, hy2⟩ := info_parts Tryd.info3
  have hfew := fun W h => Fewest_ok F S J L H off hr (lies_iff.2 ho) W h
  have hn0 : ¬ (fewest F S J off < 0) := by omega
  simp only [hn0, if_false] at hfew
  rw [hft] at hfew
  have hB0 : Below w.heap.size w (w.alloc (.cells #[.int .i64 F, .int .i64 S, .int .i64 J, .int .i64 L, .int .i64 H] 25)) := (Below.refl _ _).alloc (Nat.le_refl _) _
  have hw1 := hw.below hB0
  have HFT := Lib.hid hft
  clear hft hn0
  refine (callsIn_wide (n := 5)).1 ?_
  refine callsIn_of_wp_marks Tryd.func20 rfl trivial ?_ rfl
  simp only [Tryd.ntmps20, List.size_toArray, List.length_cons, List.length_nil, Nat.reduceAdd, Nat.reduceSub, Array.replicate_succ, Array.replicate_zero, List.push_toArray, List.append_toArray, List.nil_append, List.cons_append]
  refine wpIn_wide.2 ?_
  go_wp2_with fail
  refine (hfew _ hw1).mono ?_
  rintro e w1 ⟨rfl, hb1⟩
  have hB1 := below_call hB0 hb1
  obtain ⟨hc, hf⟩ := bcell hb1
  have hz := hb1.size
  simp at hz
  have hz1 : w.heap.size < w1.heap.size := by omega
  have HB1 := Lib.hid hB1
  clear hb1 hB1 hfew
  go_wp2_with fail
  refine (opened_ok F S J L H _ hr).mono ?_
  rintro e w2 ⟨b, rfl, hb2, hnb, hnew⟩
  have hB2 := below_call HB1.out hb2
  have hw2 := hw.below hB2
  have hz2 := hb2.size
  have HB2 := Lib.hid hB2
  clear hb2 hB2 hc hf hnew
  go_wp2_with (go_at_call 65; refine (most_any _ _ _ _ rfl).mono ?_; rintro e w' ⟨rfl, rfl⟩)
  change Code.wp Tryd.prog _ _ _ (planW F S J L H b ticks 1 w2)
  have hpf := planW_is F S J L H b ticks 1 w2
  have hw0 := hw2.below hpf.bel
  generalize planW F S J L H b ticks 1 w2 = W0 at hpf hw0 ⊢
  have hsz := hpf.size
  obtain ⟨hF, hS, hJ, _⟩ := isRuleB_spec hr
  refine (wpIn_wide (n := 5)).1 ?_
  refine wpIn_rangeFunc_ownG rfl (by decide) (gf := 81) (lb := #[.pointer (some ⟨w2.heap.size + 2 + 1, 0, none⟩), .pointer (some ⟨w2.heap.size + 2 + 2, 0, none⟩), .pointer (some ⟨w2.heap.size + 2, 0, none⟩)]) rfl trivial (enters_of Tryd.func81 (by kernel_rfl) rfl)
    (most_stops _ (w2.heap.size + 2) (fun k => k < w2.heap.size ∨ (w2.heap.size + 2 ≤ k ∧ k < w2.heap.size + 5)) F S J L H (some b) ticks 1 S (by exact .inr ⟨rfl, rfl⟩) ht hr W0 hw0 ⟨.inl (by have := World.block_lt_of_cell? w2 _ hw2.1; exact this), .inr (by omega), .inr (by omega), .inr (by omega)⟩ (fun k hk => by omega) hpf.rule hpf.tk hpf.wy)
    Kept.trans (keptK_b (fun k hk => by omega)) (Below.refl _ _) (fun _ => rfl)
    (fun pre W => (∃ v, Boxed W (w2.heap.size + 1) 26 v ∧ W.ownsRow (w2.heap.size + 5) 3 1 v pre.length (pre.map (Value.int .i64)) ∧ True) ∧ Below (w2.heap.size + 1) W0 W)
    (fun _ _ _ => False) ?hI (fun _ _ _ _ _ hs _ _ => hs) ?h0 (fun x => { tmps := #[.agg #[.int .i64 F, .int .i64 S, .int .i64 J, .int .i64 L, .int .i64 H], .int .i64 off, .pointer (some ⟨w.heap.size, 0, none⟩), undef, .slice none 0 0, .int .i64 0, .int .i64 ticks, .int .i64 0, .pointer (some ⟨w2.heap.size, 0, none⟩), .int .i64 0, .int .i64 1, .int .i64 (-1), .pointer (some ⟨w2.heap.size + 1, 0, none⟩), .int .i64 x, undef, undef, undef, undef, undef, undef, undef, undef, .tuple #[.int .i64 ticks, .int .i64 0], .agg #[.int .i64 F, .int .i64 S, .int .i64 J, .int .i64 L, .int .i64 H], .int .i64 off, .tuple #[.int .i64 ticks, .int .i64 0], .int .i64 ticks, .int .i64 0, .int .i64 0, .bool false, undef, .tuple #[.agg #[.int .i64 F, .int .i64 S, .int .i64 J, .int .i64 L, .int .i64 H, .map (some b)], .int .i64 0], .agg #[.int .i64 F, .int .i64 S, .int .i64 J, .int .i64 L, .int .i64 H], .tuple #[.agg #[.int .i64 F, .int .i64 S, .int .i64 J, .int .i64 L, .int .i64 H, .map (some b)], .int .i64 0], .agg #[.int .i64 F, .int .i64 S, .int .i64 J, .int .i64 L, .int .i64 H, .map (some b)], .int .i64 0, .int .i64 off, .bool true, .agg #[.int .i64 F, .int .i64 S, .int .i64 J, .int .i64 L, .int .i64 H, .map (some b)], .int .i64 ticks, .int .i64 1, .func (.func 81) #[] #[.pointer (some ⟨w2.heap.size + 1 + 1 + 1, 0, none⟩), .pointer (some ⟨w2.heap.size + 1 + 1 + 2, 0, none⟩), .pointer (some ⟨w2.heap.size + 1 + 1, 0, none⟩)], .int .i64 x, undef, undef, undef, undef, undef, undef, undef, undef, undef, undef, undef, undef, undef, undef, undef, undef, undef, undef, undef, undef, undef, undef, undef, undef, undef, undef, undef, undef, undef, undef, undef, undef, undef, undef, undef, undef, undef, undef, undef, undef, undef, undef, undef, undef, undef, undef, undef, undef, undef, undef, undef, undef, undef, undef, undef, undef, undef, undef, undef, undef, undef, undef, undef, undef, undef, undef, undef, undef, undef, undef, undef], defers := [] }) ?assign ?body ?done ?stop
  case hI => exact OwnFrom.and (Own.from (holdsRow_own (w2.heap.size + 5) (w2.heap.size + 1) 26 3 1 (fun pre : List Int => pre.length) (fun pre => pre.map (Value.int .i64)) (fun _ _ => True)) _) (ownFrom_below (by omega) (by omega))
  case h0 => exact ⟨⟨_, hpf.box, World.ownsRow_nil _ _ _ _, trivial⟩, Below.refl _ _⟩
  case assign =>
    intro l x W K hK
    gi_wp2
    exact hK
  case body =>
    rintro l pre x W ⟨⟨v, hv, hrow, _⟩, hB⟩ hlt
    have hc := hv.cell
    have hBW := hB.size
    gi_wp2_with (gi_at_builtin; refine wpListIn_append_own _ rfl _ _ 26 rfl (w2.heap.size + 5) 3 i0 (.int .i64 0) 1 8 Tryd.underlying26 hi hy0 hy1 hy2 rfl (by decide) _ _ _ rfl (hrow.alloc _) ⟨W.heap.size, 0, none⟩ 1 1 [.int .i64 x] rfl rfl (cell_one_new _ _ _) (by simp [Value.oneCell']) (by unfold maxLen; omega) (by omega) (by simp; omega) ?_; intro v' w1' hown' hgrow _; obtain ⟨g', cap', rfl⟩ := ownsRow_succ hown'; obtain ⟨hv1, hv2, hr2, hk2, hs2, hb2⟩ := appended_kept (St := fun k => k < w2.heap.size ∨ w2.heap.size + 2 ≤ k ∧ k < w2.heap.size + 5) (n₁ := w2.heap.size + 1) hv (by decide) hrow (by omega) (by omega) (fun k hk => by omega) (by omega) (by omega) hown' hgrow; have hc1 := hv1.cell; have hf1 := hv1.frozen)
    exact ⟨hk2.from _, hs2, ⟨_, hv2, by simpa using hr2, trivial⟩, hB.trans hb2⟩
  case stop =>
    rintro D c pre W _ _ h _
    exact h.elim
  case done =>
    rintro D ys W hD rfl ⟨⟨v, hv, hrow, _⟩, hB⟩ hK1
    obtain ⟨a, cap, rfl, hN⟩ := nums_of_row hrow (by simp [caps]; omega)
    obtain ⟨n, hn⟩ : ∃ n, n = (caps S J ticks).length := ⟨_, rfl⟩
    obtain ⟨xs, hxs⟩ : ∃ xs, xs = caps S J ticks := ⟨_, rfl⟩
    rw [← hn, ← hxs] at hN
    rw [← hn] at hv
    have hxb : ∀ x ∈ xs, 0 ≤ x ∧ x ≤ 500 := by rw [hxs]; exact caps_bd (by omega) (by omega) hJ.1
    have hn200 : n ≤ 200 := by rw [hn]; simp [caps]; exact ht
    have hxl : xs.length = n := by rw [hxs, hn]
    have hc26 := hv.cell
    have hBw : Below w.heap.size w W := (HB2.out.trans (hpf.bel.mono HB2.out.size)).trans (hB.mono (by have := HB2.out.size; omega))
    have HXS := Lib.hid hxs
    have HXB := Lib.hid hxb
    have HXL := Lib.hid hxl
    have HBW := Lib.hid hBw
    have HK1 := Lib.hid hK1
    clear hn hxs hxb hxl hBw hK1 hrow hB hv hpf hw0
    obtain ⟨want, hwant⟩ : ∃ want, want = off := ⟨_, rfl⟩
    have hwb : -20000 ≤ want ∧ want ≤ 20000 := by omega
    have HWN := Lib.hid hwb
    have HWE := Lib.hid hwant
    clear hwb hwant
    go_wp2_with fail
    rw [show off = want from HWE.out.symm]
    go_loopw [16] (fun i wr => ∃ k : Nat, k ≤ 500 ∧ i = .int .i64 k ∧ nFrom want xs (500 - k) k = nLevel want xs ∧ Below W.heap.size W wr) (fun i _ => 500 - (intOf i).toNat)
    case atStart => exact ⟨0, by omega, rfl, rfl, Below.refl _ _⟩
    case round =>
      obtain ⟨k, hk, rfl, hkn, hB2⟩ := hrel
      by_cases hlt : k < 500
      · have hcb := cell_below hB2 hc26
        have hNk := hN.below hB2
        have hl1 : (levelL ((k : Int) + 1) xs).length ≤ 17592186044416 := by simp [levelL, HXL.out]; omega
        have ht1 : total (levelL ((k : Int) + 1) xs) = sumL (levelL ((k : Int) + 1) xs) := total_level _ (by omega) xs HXB.out (by rw [HXL.out]; exact hn200)
        have hbd1 := sumL_level_bd ((k : Int) + 1) (by omega) xs HXB.out (by rw [HXL.out]; exact hn200)
        have HL1 := Lib.hid hl1
        have HT1 := Lib.hid ht1
        have HNF := Lib.hid hkn
        have HW2 := Lib.hid (show W.heap.size ≤ wr.heap.size from hB2.size)
        clear hl1 ht1 hkn
        go_wp2_with (first | (go_at_call 66; (refine (level_any _ (w2.heap.size + 1) a n cap xs _ hcb hNk hn200).mono ?_; rintro e w3 ⟨v, rfl, hown3, hb3⟩; obtain ⟨a3, cap3, rfl, hN3⟩ := nums_of_row hown3 HL1.out; clear hown3)) | (go_at_call 58; (refine (sum_any _ _ _ _ _ hN3).mono ?_; rintro e w' ⟨rfl, rfl⟩; rw [HT1.out])))
        · go_roundw
          case rel => exact ⟨k + 1, by omega, by go_num, by rw [← HNF.out, show 500 - k = 500 - (k + 1) + 1 from by omega, nFrom]; rw [if_pos (by assumption)], below_call hB2 (hb3.mono (by have := HW2.out; omega))⟩
          case measure => simp [intOf]; omega
        · have hlev : k = nLevel want xs := by rw [← HNF.out, show 500 - k = 500 - (k + 1) + 1 from by omega, nFrom, if_neg (by first | assumption | omega)]
          have hbz := ((below_call hB2 (hb3.mono (by have := HW2.out; omega)))).size
          refine (level_any _ (w2.heap.size + 1) a n cap xs _ (cell_below (below_call hB2 (hb3.mono (by have := HW2.out; omega))) hc26) (hN.below (below_call hB2 (hb3.mono (by have := HW2.out; omega)))) hn200).mono ?_
          rintro e w4 ⟨v4, rfl, hown4, hb4⟩
          have hlen : (levelL (k : Int) xs).length = n := by simp [levelL, HXL.out]
          obtain ⟨a4, cap4, rfl, hN4⟩ := nums_of_row hown4 (by omega)
          rw [hlen] at hown4 hN4
          rw [hlen]
          have hB4 : Below W.heap.size W w4 := below_call (below_call hB2 (hb3.mono (by have := HW2.out; omega))) hb4
          have ht4 : total (levelL (k : Int) xs) = sumL (levelL (k : Int) xs) := total_level _ (by omega) xs HXB.out (by rw [HXL.out]; exact hn200)
          have hbd4 := sumL_level_bd (k : Int) (by omega) xs HXB.out (by rw [HXL.out]; exact hn200)
          obtain ⟨sm, hsm⟩ : ∃ sm, sm = sumL (levelL (k : Int) xs) := ⟨_, rfl⟩
          rw [← hsm] at ht4 hbd4
          have hwn := HWN.out
          have HSM := Lib.hid hsm
          have HLEV := Lib.hid hlev
          have HLEN := Lib.hid hlen
          have hc26' := cell_below hB4 hc26
          clear hlev hlen hsm
          go_wp2_with (go_at_call 58; refine (sum_any _ _ _ _ _ hN4).mono ?_; rintro e w' ⟨rfl, rfl⟩; rw [ht4])
          have hown5 : w4.ownsRow W.heap.size 3 1 (.slice a4 n cap4) n ((midL k (want - sm) xs 0).map (Value.int .i64)) := by
            rw [midL_zero]; exact own_mono hown4 hbz
          obtain ⟨hg4, hcap4, hmx4⟩ := own_some hown5
          have HB4 := Lib.hid hB4
          have HO5 := Lib.hid hown5
          clear hown4 hown5 hb4 hN4 hB4 ht4
          go_loopw [18, 19, 20, 74] (fun l _ _ i wr => ∃ j : Nat, j ≤ n ∧ i = .int .i64 j ∧ l = .int .i64 (fillS k (want - sm) (xs.take j)) ∧ wr.ownsRow W.heap.size 3 1 (.slice a4 n cap4) n ((midL k (want - sm) xs j).map (Value.int .i64)) ∧ Below W.heap.size W wr) (fun _ _ _ i _ => n - (intOf i).toNat)
          case atStart => exact ⟨0, Nat.zero_le _, rfl, rfl, HO5.out, HB4.out⟩
          case round =>
            obtain ⟨j, hj, rfl, rfl, hownj, hBj⟩ := hrel
            by_cases hlt : j < n
            · have hlx : j < xs.length := by rw [HXL.out]; exact hlt
              have hcl := midL_at (k : Int) (want - sm) xs j hlx
              have hfb := fillS_bd (k : Int) (xs.take j) (want - sm)
              obtain ⟨x, hx⟩ : ∃ x, x = xs[j]?.getD 0 := ⟨_, rfl⟩
              have hxb : 0 ≤ x ∧ x ≤ 500 := by rw [hx]; have := HXB.out xs[j] (List.getElem_mem hlx); simpa [hlx] using this
              obtain ⟨pb, po, rfl, hcell⟩ := (hN.below hBj).2.2 (by omega)
              obtain ⟨g, rfl, hgb⟩ := hg4 (by omega)
              have hck := hcell j hlt
              rw [List.getD_eq_getElem?_getD, ← hx] at hck
              have hcg : wr.cell? ⟨g, j, none⟩ = some (.int .i64 (min (k : Int) x)) := by
                rw [hownj.cellAt j (by omega), List.getElem?_map, hcl, ← hx]; rfl
              have hfg := hownj.frozenAt j
              have hGO := midL_go (k : Int) (want - sm) xs j hlx
              have hST := midL_stay (k : Int) (want - sm) xs j hlx
              rw [← hx] at hGO hST
              obtain ⟨f, hf⟩ : ∃ f, f = fillS k (want - sm) (xs.take j) := ⟨_, rfl⟩
              rw [← hf] at hfb hGO hST ⊢
              have hst1 := hownj.stored j (.int .i64 (min (k : Int) x + 1))
              have HGO := Lib.hid hGO
              have HST := Lib.hid hST
              have HS1 := Lib.hid hst1
              have HOJ := Lib.hid hownj
              have hbj := hBj.size
              have HBJ := Lib.hid hBj
              clear hcell hf hx hGO hST hst1 hownj hcl hBj
              by_cases hf0 : 0 < f
              · by_cases hkx : (k : Int) < x
                · obtain ⟨hg1, hg2⟩ := HGO.out ⟨hf0, hkx⟩
                  have HG1 := Lib.hid hg1
                  have HG2 := Lib.hid hg2
                  clear hg1 hg2
                  go_wp2_with fail
                  go_roundw
                  case rel => exact ⟨j + 1, by omega, by go_num, by rw [HG2.out], by rw [HG1.out, List.map_set]; exact HS1.out.1, HBJ.out.setCell hgb _⟩
                  case measure => simp [intOf]; omega
                · obtain ⟨hg1, hg2⟩ := HST.out (by omega)
                  have HG1 := Lib.hid hg1
                  have HG2 := Lib.hid hg2
                  clear hg1 hg2
                  go_wp2_with fail
                  go_roundw
                  case rel => exact ⟨j + 1, by omega, by go_num, by rw [HG2.out], by rw [HG1.out]; exact HOJ.out, HBJ.out⟩
                  case measure => simp [intOf]; omega
              · obtain ⟨hg1, hg2⟩ := HST.out (by omega)
                have HG1 := Lib.hid hg1
                have HG2 := Lib.hid hg2
                clear hg1 hg2
                go_wp2_with fail
                go_roundw
                case rel => exact ⟨j + 1, by omega, by go_num, by rw [HG2.out], by rw [HG1.out]; exact HOJ.out, HBJ.out⟩
                case measure => simp [intOf]; omega
            · obtain rfl : j = n := by omega
              have hend : (midL (k : Int) (want - sm) xs j) = mulL (-1) (fillL k (want - sm) xs) 0 := by
                have := midL_end (k : Int) (want - sm) xs
                rw [HXL.out] at this
                rw [this, mulL_zero]
              rw [hend] at hownj
              have HOJ := Lib.hid hownj
              have HBJ := Lib.hid hBj
              clear hend hownj hBj
              go_wp2_with fail
              go_loopw [21, 97] (fun _ i wr => ∃ m : Nat, m ≤ j ∧ i = .int .i64 m ∧ wr.ownsRow W.heap.size 3 1 (.slice a4 j cap4) j ((mulL (-1) (fillL k (want - sm) xs) m).map (Value.int .i64)) ∧ Below W.heap.size W wr) (fun _ i _ => j - (intOf i).toNat)
              case atStart => exact ⟨0, Nat.zero_le _, rfl, HOJ.out, HBJ.out⟩
              case round =>
                obtain ⟨m, hm, rfl, hownm, hBm⟩ := hrel
                by_cases hlt : m < j
                · have hlm : m < (fillL (k : Int) (want - sm) xs).length := by rw [fillL_length, HXL.out]; exact hlt
                  have hcl := mulL_at (-1) (fillL (k : Int) (want - sm) xs) m hlm
                  have hsu := mulL_succ (-1) (fillL (k : Int) (want - sm) xs) m hlm
                  obtain ⟨y, hy⟩ : ∃ y, y = (fillL (k : Int) (want - sm) xs)[m]?.getD 0 := ⟨_, rfl⟩
                  have hyb : 0 ≤ y ∧ y ≤ 501 := by rw [hy]; have := fillL_bd (k : Int) (by omega) (by omega) xs HXB.out (want - sm) _ (List.getElem_mem hlm); simpa [hlm] using this
                  obtain ⟨g, rfl, hgb⟩ := hg4 (by omega)
                  have hcg : wr.cell? ⟨g, m, none⟩ = some (.int .i64 y) := by
                    rw [hownm.cellAt m (by omega), List.getElem?_map, hcl, ← hy]; rfl
                  have hfg := hownm.frozenAt m
                  rw [← hy] at hsu
                  have hst1 := hownm.stored m (.int .i64 (-y))
                  have HSU := Lib.hid hsu
                  have HS1 := Lib.hid hst1
                  have HBM := Lib.hid hBm
                  clear hcl hy hsu hst1 hownm hBm
                  go_wp2_with fail
                  go_roundw
                  case rel => exact ⟨m + 1, by omega, by go_num, by rw [HSU.out, show y * (-1) = -y from by omega, List.map_set]; exact HS1.out.1, HBM.out.setCell hgb _⟩
                  case measure => simp [intOf]; omega
                · obtain rfl : m = j := by omega
                  have hend : mulL (-1) (fillL (k : Int) (want - sm) xs) m = planOf (-1) want xs := by
                    have := mulL_end (-1) (fillL (k : Int) (want - sm) xs)
                    rw [fillL_length, HXL.out] at this
                    rw [this, planOf, ← HLEV.out, ← HSM.out]
                  rw [hend] at hownm
                  have HOM := Lib.hid hownm
                  have HBM := Lib.hid hBm
                  clear hend hownm hBm
                  have hDl : D < W.heap.size := (Array.getElem?_eq_some_iff.1 HK1.out).1
                  have hkD := (HBM.out.block D hDl).trans HK1.out
                  have hpl : (planOf (-1) want xs).length = m := by rw [planOf_length, HXL.out]
                  have hnm := nums_of_own HOM.out hpl (by omega)
                  have HKD := Lib.hid hkD
                  have HNM := Lib.hid hnm
                  have HPL := Lib.hid hpl
                  clear hkD hnm hpl
                  go_wp2_with fail
                  refine ⟨by simp, .inl ⟨_, _, rfl, run_takeDeferred HKD.out, ?_⟩⟩
                  have hBw := HBW.out
                  have hBm := HBM.out
                  have hzz := hBw.size
                  refine ⟨_, results_tmp2 rfl _ _ _, ?_⟩
                  have hxe := HXS.out
                  have hwe := HWE.out
                  rw [← hxe, ← hwe]
                  refine ⟨a4, m, ?_, ?_, ?_⟩
                  · rw [HPL.out]; rfl
                  · rw [HPL.out]
                    refine ⟨nums_putObj HNM.out ?_, Nat.le_refl _, ?_⟩
                    · intro g o' hp ha
                      obtain ⟨g', hg', hgb⟩ := hg4 hp
                      rw [hg'] at ha
                      injection ha with ha
                      injection ha with ha
                      omega
                    · intro g o' ha hp
                      obtain ⟨g', hg', hgb⟩ := hg4 hp
                      rw [hg'] at ha
                      injection ha with ha
                      injection ha with ha
                      omega
                  · exact below_putObj (hBw.trans (hBm.mono hzz)) (by omega)
      · have HK5 := Lib.hid (show k = 500 by omega)
        have HNF := Lib.hid hkn
        clear hkn
        go_wp2_with fail
        have hlev : k = nLevel want xs := by have h := HNF.out; rw [HK5.out] at h ⊢; exact h
        have hbz := (hB2).size
        refine (level_any _ (w2.heap.size + 1) a n cap xs _ (cell_below hB2 hc26) (hN.below hB2) hn200).mono ?_
        rintro e w4 ⟨v4, rfl, hown4, hb4⟩
        have hlen : (levelL (k : Int) xs).length = n := by simp [levelL, HXL.out]
        obtain ⟨a4, cap4, rfl, hN4⟩ := nums_of_row hown4 (by omega)
        rw [hlen] at hown4 hN4
        rw [hlen]
        have hB4 : Below W.heap.size W w4 := below_call hB2 hb4
        have ht4 : total (levelL (k : Int) xs) = sumL (levelL (k : Int) xs) := total_level _ (by omega) xs HXB.out (by rw [HXL.out]; exact hn200)
        have hbd4 := sumL_level_bd (k : Int) (by omega) xs HXB.out (by rw [HXL.out]; exact hn200)
        obtain ⟨sm, hsm⟩ : ∃ sm, sm = sumL (levelL (k : Int) xs) := ⟨_, rfl⟩
        rw [← hsm] at ht4 hbd4
        have hwn := HWN.out
        have HSM := Lib.hid hsm
        have HLEV := Lib.hid hlev
        have HLEN := Lib.hid hlen
        have hc26' := cell_below hB4 hc26
        clear hlev hlen hsm
        go_wp2_with (go_at_call 58; refine (sum_any _ _ _ _ _ hN4).mono ?_; rintro e w' ⟨rfl, rfl⟩; rw [ht4])
        have hown5 : w4.ownsRow W.heap.size 3 1 (.slice a4 n cap4) n ((midL k (want - sm) xs 0).map (Value.int .i64)) := by
          rw [midL_zero]; exact own_mono hown4 hbz
        obtain ⟨hg4, hcap4, hmx4⟩ := own_some hown5
        have HB4 := Lib.hid hB4
        have HO5 := Lib.hid hown5
        clear hown4 hown5 hb4 hN4 hB4 ht4
        go_loopw [18, 19, 20, 74] (fun l _ _ i wr => ∃ j : Nat, j ≤ n ∧ i = .int .i64 j ∧ l = .int .i64 (fillS k (want - sm) (xs.take j)) ∧ wr.ownsRow W.heap.size 3 1 (.slice a4 n cap4) n ((midL k (want - sm) xs j).map (Value.int .i64)) ∧ Below W.heap.size W wr) (fun _ _ _ i _ => n - (intOf i).toNat)
        case atStart => exact ⟨0, Nat.zero_le _, rfl, rfl, HO5.out, HB4.out⟩
        case round =>
          obtain ⟨j, hj, rfl, rfl, hownj, hBj⟩ := hrel
          by_cases hlt : j < n
          · have hlx : j < xs.length := by rw [HXL.out]; exact hlt
            have hcl := midL_at (k : Int) (want - sm) xs j hlx
            have hfb := fillS_bd (k : Int) (xs.take j) (want - sm)
            obtain ⟨x, hx⟩ : ∃ x, x = xs[j]?.getD 0 := ⟨_, rfl⟩
            have hxb : 0 ≤ x ∧ x ≤ 500 := by rw [hx]; have := HXB.out xs[j] (List.getElem_mem hlx); simpa [hlx] using this
            obtain ⟨pb, po, rfl, hcell⟩ := (hN.below hBj).2.2 (by omega)
            obtain ⟨g, rfl, hgb⟩ := hg4 (by omega)
            have hck := hcell j hlt
            rw [List.getD_eq_getElem?_getD, ← hx] at hck
            have hcg : wr.cell? ⟨g, j, none⟩ = some (.int .i64 (min (k : Int) x)) := by
              rw [hownj.cellAt j (by omega), List.getElem?_map, hcl, ← hx]; rfl
            have hfg := hownj.frozenAt j
            have hGO := midL_go (k : Int) (want - sm) xs j hlx
            have hST := midL_stay (k : Int) (want - sm) xs j hlx
            rw [← hx] at hGO hST
            obtain ⟨f, hf⟩ : ∃ f, f = fillS k (want - sm) (xs.take j) := ⟨_, rfl⟩
            rw [← hf] at hfb hGO hST ⊢
            have hst1 := hownj.stored j (.int .i64 (min (k : Int) x + 1))
            have HGO := Lib.hid hGO
            have HST := Lib.hid hST
            have HS1 := Lib.hid hst1
            have HOJ := Lib.hid hownj
            have hbj := hBj.size
            have HBJ := Lib.hid hBj
            clear hcell hf hx hGO hST hst1 hownj hcl hBj
            by_cases hf0 : 0 < f
            · by_cases hkx : (k : Int) < x
              · exfalso; omega
              · obtain ⟨hg1, hg2⟩ := HST.out (by omega)
                have HG1 := Lib.hid hg1
                have HG2 := Lib.hid hg2
                clear hg1 hg2
                go_wp2_with fail
                go_roundw
                case rel => exact ⟨j + 1, by omega, by go_num, by rw [HG2.out], by rw [HG1.out]; exact HOJ.out, HBJ.out⟩
                case measure => simp [intOf]; omega
            · obtain ⟨hg1, hg2⟩ := HST.out (by omega)
              have HG1 := Lib.hid hg1
              have HG2 := Lib.hid hg2
              clear hg1 hg2
              go_wp2_with fail
              go_roundw
              case rel => exact ⟨j + 1, by omega, by go_num, by rw [HG2.out], by rw [HG1.out]; exact HOJ.out, HBJ.out⟩
              case measure => simp [intOf]; omega
          · obtain rfl : j = n := by omega
            have hend : (midL (k : Int) (want - sm) xs j) = mulL (-1) (fillL k (want - sm) xs) 0 := by
              have := midL_end (k : Int) (want - sm) xs
              rw [HXL.out] at this
              rw [this, mulL_zero]
            rw [hend] at hownj
            have HOJ := Lib.hid hownj
            have HBJ := Lib.hid hBj
            clear hend hownj hBj
            go_wp2_with fail
            go_loopw [21, 97] (fun _ i wr => ∃ m : Nat, m ≤ j ∧ i = .int .i64 m ∧ wr.ownsRow W.heap.size 3 1 (.slice a4 j cap4) j ((mulL (-1) (fillL k (want - sm) xs) m).map (Value.int .i64)) ∧ Below W.heap.size W wr) (fun _ i _ => j - (intOf i).toNat)
            case atStart => exact ⟨0, Nat.zero_le _, rfl, HOJ.out, HBJ.out⟩
            case round =>
              obtain ⟨m, hm, rfl, hownm, hBm⟩ := hrel
              by_cases hlt : m < j
              · have hlm : m < (fillL (k : Int) (want - sm) xs).length := by rw [fillL_length, HXL.out]; exact hlt
                have hcl := mulL_at (-1) (fillL (k : Int) (want - sm) xs) m hlm
                have hsu := mulL_succ (-1) (fillL (k : Int) (want - sm) xs) m hlm
                obtain ⟨y, hy⟩ : ∃ y, y = (fillL (k : Int) (want - sm) xs)[m]?.getD 0 := ⟨_, rfl⟩
                have hyb : 0 ≤ y ∧ y ≤ 501 := by rw [hy]; have := fillL_bd (k : Int) (by omega) (by omega) xs HXB.out (want - sm) _ (List.getElem_mem hlm); simpa [hlm] using this
                obtain ⟨g, rfl, hgb⟩ := hg4 (by omega)
                have hcg : wr.cell? ⟨g, m, none⟩ = some (.int .i64 y) := by
                  rw [hownm.cellAt m (by omega), List.getElem?_map, hcl, ← hy]; rfl
                have hfg := hownm.frozenAt m
                rw [← hy] at hsu
                have hst1 := hownm.stored m (.int .i64 (-y))
                have HSU := Lib.hid hsu
                have HS1 := Lib.hid hst1
                have HBM := Lib.hid hBm
                clear hcl hy hsu hst1 hownm hBm
                go_wp2_with fail
                go_roundw
                case rel => exact ⟨m + 1, by omega, by go_num, by rw [HSU.out, show y * (-1) = -y from by omega, List.map_set]; exact HS1.out.1, HBM.out.setCell hgb _⟩
                case measure => simp [intOf]; omega
              · obtain rfl : m = j := by omega
                have hend : mulL (-1) (fillL (k : Int) (want - sm) xs) m = planOf (-1) want xs := by
                  have := mulL_end (-1) (fillL (k : Int) (want - sm) xs)
                  rw [fillL_length, HXL.out] at this
                  rw [this, planOf, ← HLEV.out, ← HSM.out]
                rw [hend] at hownm
                have HOM := Lib.hid hownm
                have HBM := Lib.hid hBm
                clear hend hownm hBm
                have hDl : D < W.heap.size := (Array.getElem?_eq_some_iff.1 HK1.out).1
                have hkD := (HBM.out.block D hDl).trans HK1.out
                have hpl : (planOf (-1) want xs).length = m := by rw [planOf_length, HXL.out]
                have hnm := nums_of_own HOM.out hpl (by omega)
                have HKD := Lib.hid hkD
                have HNM := Lib.hid hnm
                have HPL := Lib.hid hpl
                clear hkD hnm hpl
                go_wp2_with fail
                refine ⟨by simp, .inl ⟨_, _, rfl, run_takeDeferred HKD.out, ?_⟩⟩
                have hBw := HBW.out
                have hBm := HBM.out
                have hzz := hBw.size
                refine ⟨_, results_tmp2 rfl _ _ _, ?_⟩
                have hxe := HXS.out
                have hwe := HWE.out
                rw [← hxe, ← hwe]
                refine ⟨a4, m, ?_, ?_, ?_⟩
                · rw [HPL.out]; rfl
                · rw [HPL.out]
                  refine ⟨nums_putObj HNM.out ?_, Nat.le_refl _, ?_⟩
                  · intro g o' hp ha
                    obtain ⟨g', hg', hgb⟩ := hg4 hp
                    rw [hg'] at ha
                    injection ha with ha
                    injection ha with ha
                    omega
                  · intro g o' ha hp
                    obtain ⟨g', hg', hgb⟩ := hg4 hp
                    rw [hg'] at ha
                    injection ha with ha
                    injection ha with ha
                    omega
                · exact below_putObj (hBw.trans (hBm.mono hzz)) (by omega)

set_option maxRecDepth 100000 in
set_option maxHeartbeats 2000000 in
theorem Plan_neg (F S J L H off : Int) (ticks : Nat) (w : World) (hw : Ways w) (hr : isRuleB F S J L H = true) (ho : -20000 ≤ off ∧ off ≤ 20000) (hs : ¬ 0 < off) (ht : ticks ≤ 200) (hft : fewest F S J off = ticks) :
    Calls Tryd.prog 20 #[.agg #[.int .i64 F, .int .i64 S, .int .i64 J, .int .i64 L, .int .i64 H], .int .i64 off] w (ListPost 0 (planOf (1) (-off) (caps F J ticks)) w) := by
  obtain ⟨i0, hi, hy0, hy1, hy2⟩ := info_parts Tryd.info3
  have hfew := fun W h => Fewest_ok F S J L H off hr (lies_iff.2 ho) W h
  have hn0 : ¬ (fewest F S J off < 0) := by omega
  simp only [hn0, if_false] at hfew
  rw [hft] at hfew
  have hB0 : Below w.heap.size w (w.alloc (.cells #[.int .i64 F, .int .i64 S, .int .i64 J, .int .i64 L, .int .i64 H] 25)) := (Below.refl _ _).alloc (Nat.le_refl _) _
  have hw1 := hw.below hB0
  have HFT := Lib.hid hft
  clear hft hn0
  refine (callsIn_wide (n := 5)).1 ?_
  refine callsIn_of_wp_marks Tryd.func20 rfl trivial ?_ rfl
  simp only [Tryd.ntmps20, List.size_toArray, List.length_cons, List.length_nil, Nat.reduceAdd, Nat.reduceSub, Array.replicate_succ, Array.replicate_zero, List.push_toArray, List.append_toArray, List.nil_append, List.cons_append]
  refine wpIn_wide.2 ?_
  go_wp2_with fail
  refine (hfew _ hw1).mono ?_
  rintro e w1 ⟨rfl, hb1⟩
  have hB1 := below_call hB0 hb1
  obtain ⟨hc, hf⟩ := bcell hb1
  have hz := hb1.size
  simp at hz
  have hz1 : w.heap.size < w1.heap.size := by omega
  have HB1 := Lib.hid hB1
  clear hb1 hB1 hfew
  go_wp2_with fail
  refine (opened_ok F S J L H _ hr).mono ?_
  rintro e w2 ⟨b, rfl, hb2, hnb, hnew⟩
  have hB2 := below_call HB1.out hb2
  have hw2 := hw.below hB2
  have hz2 := hb2.size
  have HB2 := Lib.hid hB2
  clear hb2 hB2 hc hf hnew
  go_wp2_with (go_at_call 65; refine (most_any _ _ _ _ rfl).mono ?_; rintro e w' ⟨rfl, rfl⟩)
  change Code.wp Tryd.prog _ _ _ (planW F S J L H b ticks 0 w2)
  have hpf := planW_is F S J L H b ticks 0 w2
  have hw0 := hw2.below hpf.bel
  generalize planW F S J L H b ticks 0 w2 = W0 at hpf hw0 ⊢
  have hsz := hpf.size
  obtain ⟨hF, hS, hJ, _⟩ := isRuleB_spec hr
  refine (wpIn_wide (n := 5)).1 ?_
  refine wpIn_rangeFunc_ownG rfl (by decide) (gf := 81) (lb := #[.pointer (some ⟨w2.heap.size + 2 + 1, 0, none⟩), .pointer (some ⟨w2.heap.size + 2 + 2, 0, none⟩), .pointer (some ⟨w2.heap.size + 2, 0, none⟩)]) rfl trivial (enters_of Tryd.func81 (by kernel_rfl) rfl)
    (most_stops _ (w2.heap.size + 2) (fun k => k < w2.heap.size ∨ (w2.heap.size + 2 ≤ k ∧ k < w2.heap.size + 5)) F S J L H (some b) ticks 0 F (by exact .inl ⟨rfl, rfl⟩) ht hr W0 hw0 ⟨.inl (by have := World.block_lt_of_cell? w2 _ hw2.1; exact this), .inr (by omega), .inr (by omega), .inr (by omega)⟩ (fun k hk => by omega) hpf.rule hpf.tk hpf.wy)
    Kept.trans (keptK_b (fun k hk => by omega)) (Below.refl _ _) (fun _ => rfl)
    (fun pre W => (∃ v, Boxed W (w2.heap.size + 1) 26 v ∧ W.ownsRow (w2.heap.size + 5) 3 1 v pre.length (pre.map (Value.int .i64)) ∧ True) ∧ Below (w2.heap.size + 1) W0 W)
    (fun _ _ _ => False) ?hI (fun _ _ _ _ _ hs _ _ => hs) ?h0 (fun x => { tmps := #[.agg #[.int .i64 F, .int .i64 S, .int .i64 J, .int .i64 L, .int .i64 H], .int .i64 off, .pointer (some ⟨w.heap.size, 0, none⟩), undef, .slice none 0 0, .int .i64 0, .int .i64 ticks, .int .i64 0, .pointer (some ⟨w2.heap.size, 0, none⟩), .int .i64 0, .int .i64 0, .int .i64 (1), .pointer (some ⟨w2.heap.size + 1, 0, none⟩), .int .i64 x, undef, undef, undef, undef, undef, undef, undef, undef, .tuple #[.int .i64 ticks, .int .i64 0], .agg #[.int .i64 F, .int .i64 S, .int .i64 J, .int .i64 L, .int .i64 H], .int .i64 off, .tuple #[.int .i64 ticks, .int .i64 0], .int .i64 ticks, .int .i64 0, .int .i64 0, .bool false, undef, .tuple #[.agg #[.int .i64 F, .int .i64 S, .int .i64 J, .int .i64 L, .int .i64 H, .map (some b)], .int .i64 0], .agg #[.int .i64 F, .int .i64 S, .int .i64 J, .int .i64 L, .int .i64 H], .tuple #[.agg #[.int .i64 F, .int .i64 S, .int .i64 J, .int .i64 L, .int .i64 H, .map (some b)], .int .i64 0], .agg #[.int .i64 F, .int .i64 S, .int .i64 J, .int .i64 L, .int .i64 H, .map (some b)], .int .i64 0, .int .i64 off, .bool (decide (0 < off)), .agg #[.int .i64 F, .int .i64 S, .int .i64 J, .int .i64 L, .int .i64 H, .map (some b)], .int .i64 ticks, .int .i64 0, .func (.func 81) #[] #[.pointer (some ⟨w2.heap.size + 1 + 1 + 1, 0, none⟩), .pointer (some ⟨w2.heap.size + 1 + 1 + 2, 0, none⟩), .pointer (some ⟨w2.heap.size + 1 + 1, 0, none⟩)], .int .i64 x, undef, undef, undef, undef, undef, undef, undef, undef, undef, undef, undef, undef, undef, undef, undef, undef, undef, undef, undef, undef, undef, undef, undef, undef, undef, undef, undef, undef, undef, undef, undef, undef, undef, undef, undef, undef, undef, undef, undef, undef, undef, undef, undef, undef, undef, undef, undef, undef, undef, undef, undef, undef, undef, undef, undef, undef, undef, undef, undef, undef, undef, undef, undef, undef, undef, undef, undef, undef, undef, undef, undef], defers := [] }) ?assign ?body ?done ?stop
  case hI => exact OwnFrom.and (Own.from (holdsRow_own (w2.heap.size + 5) (w2.heap.size + 1) 26 3 1 (fun pre : List Int => pre.length) (fun pre => pre.map (Value.int .i64)) (fun _ _ => True)) _) (ownFrom_below (by omega) (by omega))
  case h0 => exact ⟨⟨_, hpf.box, World.ownsRow_nil _ _ _ _, trivial⟩, Below.refl _ _⟩
  case assign =>
    intro l x W K hK
    gi_wp2
    exact hK
  case body =>
    rintro l pre x W ⟨⟨v, hv, hrow, _⟩, hB⟩ hlt
    have hc := hv.cell
    have hBW := hB.size
    gi_wp2_with (gi_at_builtin; refine wpListIn_append_own _ rfl _ _ 26 rfl (w2.heap.size + 5) 3 i0 (.int .i64 0) 1 8 Tryd.underlying26 hi hy0 hy1 hy2 rfl (by decide) _ _ _ rfl (hrow.alloc _) ⟨W.heap.size, 0, none⟩ 1 1 [.int .i64 x] rfl rfl (cell_one_new _ _ _) (by simp [Value.oneCell']) (by unfold maxLen; omega) (by omega) (by simp; omega) ?_; intro v' w1' hown' hgrow _; obtain ⟨g', cap', rfl⟩ := ownsRow_succ hown'; obtain ⟨hv1, hv2, hr2, hk2, hs2, hb2⟩ := appended_kept (St := fun k => k < w2.heap.size ∨ w2.heap.size + 2 ≤ k ∧ k < w2.heap.size + 5) (n₁ := w2.heap.size + 1) hv (by decide) hrow (by omega) (by omega) (fun k hk => by omega) (by omega) (by omega) hown' hgrow; have hc1 := hv1.cell; have hf1 := hv1.frozen)
    exact ⟨hk2.from _, hs2, ⟨_, hv2, by simpa using hr2, trivial⟩, hB.trans hb2⟩
  case stop =>
    rintro D c pre W _ _ h _
    exact h.elim
  case done =>
    rintro D ys W hD rfl ⟨⟨v, hv, hrow, _⟩, hB⟩ hK1
    obtain ⟨a, cap, rfl, hN⟩ := nums_of_row hrow (by simp [caps]; omega)
    obtain ⟨n, hn⟩ : ∃ n, n = (caps F J ticks).length := ⟨_, rfl⟩
    obtain ⟨xs, hxs⟩ : ∃ xs, xs = caps F J ticks := ⟨_, rfl⟩
    rw [← hn, ← hxs] at hN
    rw [← hn] at hv
    have hxb : ∀ x ∈ xs, 0 ≤ x ∧ x ≤ 500 := by rw [hxs]; exact caps_bd (by omega) (by omega) hJ.1
    have hn200 : n ≤ 200 := by rw [hn]; simp [caps]; exact ht
    have hxl : xs.length = n := by rw [hxs, hn]
    have hc26 := hv.cell
    have hBw : Below w.heap.size w W := (HB2.out.trans (hpf.bel.mono HB2.out.size)).trans (hB.mono (by have := HB2.out.size; omega))
    have HXS := Lib.hid hxs
    have HXB := Lib.hid hxb
    have HXL := Lib.hid hxl
    have HBW := Lib.hid hBw
    have HK1 := Lib.hid hK1
    clear hn hxs hxb hxl hBw hK1 hrow hB hv hpf hw0
    obtain ⟨want, hwant⟩ : ∃ want, want = -off := ⟨_, rfl⟩
    have hwb : -20000 ≤ want ∧ want ≤ 20000 := by omega
    have HWN := Lib.hid hwb
    have HWE := Lib.hid hwant
    clear hwb hwant
    go_wp2_with fail
    rw [show -off = want from HWE.out.symm]
    go_loopw [16] (fun i wr => ∃ k : Nat, k ≤ 500 ∧ i = .int .i64 k ∧ nFrom want xs (500 - k) k = nLevel want xs ∧ Below W.heap.size W wr) (fun i _ => 500 - (intOf i).toNat)
    case atStart => exact ⟨0, by omega, rfl, rfl, Below.refl _ _⟩
    case round =>
      obtain ⟨k, hk, rfl, hkn, hB2⟩ := hrel
      by_cases hlt : k < 500
      · have hcb := cell_below hB2 hc26
        have hNk := hN.below hB2
        have hl1 : (levelL ((k : Int) + 1) xs).length ≤ 17592186044416 := by simp [levelL, HXL.out]; omega
        have ht1 : total (levelL ((k : Int) + 1) xs) = sumL (levelL ((k : Int) + 1) xs) := total_level _ (by omega) xs HXB.out (by rw [HXL.out]; exact hn200)
        have hbd1 := sumL_level_bd ((k : Int) + 1) (by omega) xs HXB.out (by rw [HXL.out]; exact hn200)
        have HL1 := Lib.hid hl1
        have HT1 := Lib.hid ht1
        have HNF := Lib.hid hkn
        have HW2 := Lib.hid (show W.heap.size ≤ wr.heap.size from hB2.size)
        clear hl1 ht1 hkn
        go_wp2_with (first | (go_at_call 66; (refine (level_any _ (w2.heap.size + 1) a n cap xs _ hcb hNk hn200).mono ?_; rintro e w3 ⟨v, rfl, hown3, hb3⟩; obtain ⟨a3, cap3, rfl, hN3⟩ := nums_of_row hown3 HL1.out; clear hown3)) | (go_at_call 58; (refine (sum_any _ _ _ _ _ hN3).mono ?_; rintro e w' ⟨rfl, rfl⟩; rw [HT1.out])))
        · go_roundw
          case rel => exact ⟨k + 1, by omega, by go_num, by rw [← HNF.out, show 500 - k = 500 - (k + 1) + 1 from by omega, nFrom]; rw [if_pos (by assumption)], below_call hB2 (hb3.mono (by have := HW2.out; omega))⟩
          case measure => simp [intOf]; omega
        · have hlev : k = nLevel want xs := by rw [← HNF.out, show 500 - k = 500 - (k + 1) + 1 from by omega, nFrom, if_neg (by first | assumption | omega)]
          have hbz := ((below_call hB2 (hb3.mono (by have := HW2.out; omega)))).size
          refine (level_any _ (w2.heap.size + 1) a n cap xs _ (cell_below (below_call hB2 (hb3.mono (by have := HW2.out; omega))) hc26) (hN.below (below_call hB2 (hb3.mono (by have := HW2.out; omega)))) hn200).mono ?_
          rintro e w4 ⟨v4, rfl, hown4, hb4⟩
          have hlen : (levelL (k : Int) xs).length = n := by simp [levelL, HXL.out]
          obtain ⟨a4, cap4, rfl, hN4⟩ := nums_of_row hown4 (by omega)
          rw [hlen] at hown4 hN4
          rw [hlen]
          have hB4 : Below W.heap.size W w4 := below_call (below_call hB2 (hb3.mono (by have := HW2.out; omega))) hb4
          have ht4 : total (levelL (k : Int) xs) = sumL (levelL (k : Int) xs) := total_level _ (by omega) xs HXB.out (by rw [HXL.out]; exact hn200)
          have hbd4 := sumL_level_bd (k : Int) (by omega) xs HXB.out (by rw [HXL.out]; exact hn200)
          obtain ⟨sm, hsm⟩ : ∃ sm, sm = sumL (levelL (k : Int) xs) := ⟨_, rfl⟩
          rw [← hsm] at ht4 hbd4
          have hwn := HWN.out
          have HSM := Lib.hid hsm
          have HLEV := Lib.hid hlev
          have HLEN := Lib.hid hlen
          have hc26' := cell_below hB4 hc26
          clear hlev hlen hsm
          go_wp2_with (go_at_call 58; refine (sum_any _ _ _ _ _ hN4).mono ?_; rintro e w' ⟨rfl, rfl⟩; rw [ht4])
          have hown5 : w4.ownsRow W.heap.size 3 1 (.slice a4 n cap4) n ((midL k (want - sm) xs 0).map (Value.int .i64)) := by
            rw [midL_zero]; exact own_mono hown4 hbz
          obtain ⟨hg4, hcap4, hmx4⟩ := own_some hown5
          have HB4 := Lib.hid hB4
          have HO5 := Lib.hid hown5
          clear hown4 hown5 hb4 hN4 hB4 ht4
          go_loopw [18, 19, 20, 74] (fun l _ _ i wr => ∃ j : Nat, j ≤ n ∧ i = .int .i64 j ∧ l = .int .i64 (fillS k (want - sm) (xs.take j)) ∧ wr.ownsRow W.heap.size 3 1 (.slice a4 n cap4) n ((midL k (want - sm) xs j).map (Value.int .i64)) ∧ Below W.heap.size W wr) (fun _ _ _ i _ => n - (intOf i).toNat)
          case atStart => exact ⟨0, Nat.zero_le _, rfl, rfl, HO5.out, HB4.out⟩
          case round =>
            obtain ⟨j, hj, rfl, rfl, hownj, hBj⟩ := hrel
            by_cases hlt : j < n
            · have hlx : j < xs.length := by rw [HXL.out]; exact hlt
              have hcl := midL_at (k : Int) (want - sm) xs j hlx
              have hfb := fillS_bd (k : Int) (xs.take j) (want - sm)
              obtain ⟨x, hx⟩ : ∃ x, x = xs[j]?.getD 0 := ⟨_, rfl⟩
              have hxb : 0 ≤ x ∧ x ≤ 500 := by rw [hx]; have := HXB.out xs[j] (List.getElem_mem hlx); simpa [hlx] using this
              obtain ⟨pb, po, rfl, hcell⟩ := (hN.below hBj).2.2 (by omega)
              obtain ⟨g, rfl, hgb⟩ := hg4 (by omega)
              have hck := hcell j hlt
              rw [List.getD_eq_getElem?_getD, ← hx] at hck
              have hcg : wr.cell? ⟨g, j, none⟩ = some (.int .i64 (min (k : Int) x)) := by
                rw [hownj.cellAt j (by omega), List.getElem?_map, hcl, ← hx]; rfl
              have hfg := hownj.frozenAt j
              have hGO := midL_go (k : Int) (want - sm) xs j hlx
              have hST := midL_stay (k : Int) (want - sm) xs j hlx
              rw [← hx] at hGO hST
              obtain ⟨f, hf⟩ : ∃ f, f = fillS k (want - sm) (xs.take j) := ⟨_, rfl⟩
              rw [← hf] at hfb hGO hST ⊢
              have hst1 := hownj.stored j (.int .i64 (min (k : Int) x + 1))
              have HGO := Lib.hid hGO
              have HST := Lib.hid hST
              have HS1 := Lib.hid hst1
              have HOJ := Lib.hid hownj
              have hbj := hBj.size
              have HBJ := Lib.hid hBj
              clear hcell hf hx hGO hST hst1 hownj hcl hBj
              by_cases hf0 : 0 < f
              · by_cases hkx : (k : Int) < x
                · obtain ⟨hg1, hg2⟩ := HGO.out ⟨hf0, hkx⟩
                  have HG1 := Lib.hid hg1
                  have HG2 := Lib.hid hg2
                  clear hg1 hg2
                  go_wp2_with fail
                  go_roundw
                  case rel => exact ⟨j + 1, by omega, by go_num, by rw [HG2.out], by rw [HG1.out, List.map_set]; exact HS1.out.1, HBJ.out.setCell hgb _⟩
                  case measure => simp [intOf]; omega
                · obtain ⟨hg1, hg2⟩ := HST.out (by omega)
                  have HG1 := Lib.hid hg1
                  have HG2 := Lib.hid hg2
                  clear hg1 hg2
                  go_wp2_with fail
                  go_roundw
                  case rel => exact ⟨j + 1, by omega, by go_num, by rw [HG2.out], by rw [HG1.out]; exact HOJ.out, HBJ.out⟩
                  case measure => simp [intOf]; omega
              · obtain ⟨hg1, hg2⟩ := HST.out (by omega)
                have HG1 := Lib.hid hg1
                have HG2 := Lib.hid hg2
                clear hg1 hg2
                go_wp2_with fail
                go_roundw
                case rel => exact ⟨j + 1, by omega, by go_num, by rw [HG2.out], by rw [HG1.out]; exact HOJ.out, HBJ.out⟩
                case measure => simp [intOf]; omega
            · obtain rfl : j = n := by omega
              have hend : (midL (k : Int) (want - sm) xs j) = mulL (1) (fillL k (want - sm) xs) 0 := by
                have := midL_end (k : Int) (want - sm) xs
                rw [HXL.out] at this
                rw [this, mulL_zero]
              rw [hend] at hownj
              have HOJ := Lib.hid hownj
              have HBJ := Lib.hid hBj
              clear hend hownj hBj
              go_wp2_with fail
              go_loopw [21, 97] (fun _ i wr => ∃ m : Nat, m ≤ j ∧ i = .int .i64 m ∧ wr.ownsRow W.heap.size 3 1 (.slice a4 j cap4) j ((mulL (1) (fillL k (want - sm) xs) m).map (Value.int .i64)) ∧ Below W.heap.size W wr) (fun _ i _ => j - (intOf i).toNat)
              case atStart => exact ⟨0, Nat.zero_le _, rfl, HOJ.out, HBJ.out⟩
              case round =>
                obtain ⟨m, hm, rfl, hownm, hBm⟩ := hrel
                by_cases hlt : m < j
                · have hlm : m < (fillL (k : Int) (want - sm) xs).length := by rw [fillL_length, HXL.out]; exact hlt
                  have hcl := mulL_at (1) (fillL (k : Int) (want - sm) xs) m hlm
                  have hsu := mulL_succ (1) (fillL (k : Int) (want - sm) xs) m hlm
                  obtain ⟨y, hy⟩ : ∃ y, y = (fillL (k : Int) (want - sm) xs)[m]?.getD 0 := ⟨_, rfl⟩
                  have hyb : 0 ≤ y ∧ y ≤ 501 := by rw [hy]; have := fillL_bd (k : Int) (by omega) (by omega) xs HXB.out (want - sm) _ (List.getElem_mem hlm); simpa [hlm] using this
                  obtain ⟨g, rfl, hgb⟩ := hg4 (by omega)
                  have hcg : wr.cell? ⟨g, m, none⟩ = some (.int .i64 y) := by
                    rw [hownm.cellAt m (by omega), List.getElem?_map, hcl, ← hy]; rfl
                  have hfg := hownm.frozenAt m
                  rw [← hy] at hsu
                  have hst1 := hownm.stored m (.int .i64 (y))
                  have HSU := Lib.hid hsu
                  have HS1 := Lib.hid hst1
                  have HBM := Lib.hid hBm
                  clear hcl hy hsu hst1 hownm hBm
                  go_wp2_with fail
                  go_roundw
                  case rel => exact ⟨m + 1, by omega, by go_num, by rw [HSU.out, show y * (1) = y from by omega, List.map_set]; exact HS1.out.1, HBM.out.setCell hgb _⟩
                  case measure => simp [intOf]; omega
                · obtain rfl : m = j := by omega
                  have hend : mulL (1) (fillL (k : Int) (want - sm) xs) m = planOf (1) want xs := by
                    have := mulL_end (1) (fillL (k : Int) (want - sm) xs)
                    rw [fillL_length, HXL.out] at this
                    rw [this, planOf, ← HLEV.out, ← HSM.out]
                  rw [hend] at hownm
                  have HOM := Lib.hid hownm
                  have HBM := Lib.hid hBm
                  clear hend hownm hBm
                  have hDl : D < W.heap.size := (Array.getElem?_eq_some_iff.1 HK1.out).1
                  have hkD := (HBM.out.block D hDl).trans HK1.out
                  have hpl : (planOf (1) want xs).length = m := by rw [planOf_length, HXL.out]
                  have hnm := nums_of_own HOM.out hpl (by omega)
                  have HKD := Lib.hid hkD
                  have HNM := Lib.hid hnm
                  have HPL := Lib.hid hpl
                  clear hkD hnm hpl
                  go_wp2_with fail
                  refine ⟨by simp, .inl ⟨_, _, rfl, run_takeDeferred HKD.out, ?_⟩⟩
                  have hBw := HBW.out
                  have hBm := HBM.out
                  have hzz := hBw.size
                  refine ⟨_, results_tmp2 rfl _ _ _, ?_⟩
                  have hxe := HXS.out
                  have hwe := HWE.out
                  rw [← hxe, ← hwe]
                  refine ⟨a4, m, ?_, ?_, ?_⟩
                  · rw [HPL.out]; rfl
                  · rw [HPL.out]
                    refine ⟨nums_putObj HNM.out ?_, Nat.le_refl _, ?_⟩
                    · intro g o' hp ha
                      obtain ⟨g', hg', hgb⟩ := hg4 hp
                      rw [hg'] at ha
                      injection ha with ha
                      injection ha with ha
                      omega
                    · intro g o' ha hp
                      obtain ⟨g', hg', hgb⟩ := hg4 hp
                      rw [hg'] at ha
                      injection ha with ha
                      injection ha with ha
                      omega
                  · exact below_putObj (hBw.trans (hBm.mono hzz)) (by omega)
      · have HK5 := Lib.hid (show k = 500 by omega)
        have HNF := Lib.hid hkn
        clear hkn
        go_wp2_with fail
        have hlev : k = nLevel want xs := by have h := HNF.out; rw [HK5.out] at h ⊢; exact h
        have hbz := (hB2).size
        refine (level_any _ (w2.heap.size + 1) a n cap xs _ (cell_below hB2 hc26) (hN.below hB2) hn200).mono ?_
        rintro e w4 ⟨v4, rfl, hown4, hb4⟩
        have hlen : (levelL (k : Int) xs).length = n := by simp [levelL, HXL.out]
        obtain ⟨a4, cap4, rfl, hN4⟩ := nums_of_row hown4 (by omega)
        rw [hlen] at hown4 hN4
        rw [hlen]
        have hB4 : Below W.heap.size W w4 := below_call hB2 hb4
        have ht4 : total (levelL (k : Int) xs) = sumL (levelL (k : Int) xs) := total_level _ (by omega) xs HXB.out (by rw [HXL.out]; exact hn200)
        have hbd4 := sumL_level_bd (k : Int) (by omega) xs HXB.out (by rw [HXL.out]; exact hn200)
        obtain ⟨sm, hsm⟩ : ∃ sm, sm = sumL (levelL (k : Int) xs) := ⟨_, rfl⟩
        rw [← hsm] at ht4 hbd4
        have hwn := HWN.out
        have HSM := Lib.hid hsm
        have HLEV := Lib.hid hlev
        have HLEN := Lib.hid hlen
        have hc26' := cell_below hB4 hc26
        clear hlev hlen hsm
        go_wp2_with (go_at_call 58; refine (sum_any _ _ _ _ _ hN4).mono ?_; rintro e w' ⟨rfl, rfl⟩; rw [ht4])
        have hown5 : w4.ownsRow W.heap.size 3 1 (.slice a4 n cap4) n ((midL k (want - sm) xs 0).map (Value.int .i64)) := by
          rw [midL_zero]; exact own_mono hown4 hbz
        obtain ⟨hg4, hcap4, hmx4⟩ := own_some hown5
        have HB4 := Lib.hid hB4
        have HO5 := Lib.hid hown5
        clear hown4 hown5 hb4 hN4 hB4 ht4
        go_loopw [18, 19, 20, 74] (fun l _ _ i wr => ∃ j : Nat, j ≤ n ∧ i = .int .i64 j ∧ l = .int .i64 (fillS k (want - sm) (xs.take j)) ∧ wr.ownsRow W.heap.size 3 1 (.slice a4 n cap4) n ((midL k (want - sm) xs j).map (Value.int .i64)) ∧ Below W.heap.size W wr) (fun _ _ _ i _ => n - (intOf i).toNat)
        case atStart => exact ⟨0, Nat.zero_le _, rfl, rfl, HO5.out, HB4.out⟩
        case round =>
          obtain ⟨j, hj, rfl, rfl, hownj, hBj⟩ := hrel
          by_cases hlt : j < n
          · have hlx : j < xs.length := by rw [HXL.out]; exact hlt
            have hcl := midL_at (k : Int) (want - sm) xs j hlx
            have hfb := fillS_bd (k : Int) (xs.take j) (want - sm)
            obtain ⟨x, hx⟩ : ∃ x, x = xs[j]?.getD 0 := ⟨_, rfl⟩
            have hxb : 0 ≤ x ∧ x ≤ 500 := by rw [hx]; have := HXB.out xs[j] (List.getElem_mem hlx); simpa [hlx] using this
            obtain ⟨pb, po, rfl, hcell⟩ := (hN.below hBj).2.2 (by omega)
            obtain ⟨g, rfl, hgb⟩ := hg4 (by omega)
            have hck := hcell j hlt
            rw [List.getD_eq_getElem?_getD, ← hx] at hck
            have hcg : wr.cell? ⟨g, j, none⟩ = some (.int .i64 (min (k : Int) x)) := by
              rw [hownj.cellAt j (by omega), List.getElem?_map, hcl, ← hx]; rfl
            have hfg := hownj.frozenAt j
            have hGO := midL_go (k : Int) (want - sm) xs j hlx
            have hST := midL_stay (k : Int) (want - sm) xs j hlx
            rw [← hx] at hGO hST
            obtain ⟨f, hf⟩ : ∃ f, f = fillS k (want - sm) (xs.take j) := ⟨_, rfl⟩
            rw [← hf] at hfb hGO hST ⊢
            have hst1 := hownj.stored j (.int .i64 (min (k : Int) x + 1))
            have HGO := Lib.hid hGO
            have HST := Lib.hid hST
            have HS1 := Lib.hid hst1
            have HOJ := Lib.hid hownj
            have hbj := hBj.size
            have HBJ := Lib.hid hBj
            clear hcell hf hx hGO hST hst1 hownj hcl hBj
            by_cases hf0 : 0 < f
            · by_cases hkx : (k : Int) < x
              · exfalso; omega
              · obtain ⟨hg1, hg2⟩ := HST.out (by omega)
                have HG1 := Lib.hid hg1
                have HG2 := Lib.hid hg2
                clear hg1 hg2
                go_wp2_with fail
                go_roundw
                case rel => exact ⟨j + 1, by omega, by go_num, by rw [HG2.out], by rw [HG1.out]; exact HOJ.out, HBJ.out⟩
                case measure => simp [intOf]; omega
            · obtain ⟨hg1, hg2⟩ := HST.out (by omega)
              have HG1 := Lib.hid hg1
              have HG2 := Lib.hid hg2
              clear hg1 hg2
              go_wp2_with fail
              go_roundw
              case rel => exact ⟨j + 1, by omega, by go_num, by rw [HG2.out], by rw [HG1.out]; exact HOJ.out, HBJ.out⟩
              case measure => simp [intOf]; omega
          · obtain rfl : j = n := by omega
            have hend : (midL (k : Int) (want - sm) xs j) = mulL (1) (fillL k (want - sm) xs) 0 := by
              have := midL_end (k : Int) (want - sm) xs
              rw [HXL.out] at this
              rw [this, mulL_zero]
            rw [hend] at hownj
            have HOJ := Lib.hid hownj
            have HBJ := Lib.hid hBj
            clear hend hownj hBj
            go_wp2_with fail
            go_loopw [21, 97] (fun _ i wr => ∃ m : Nat, m ≤ j ∧ i = .int .i64 m ∧ wr.ownsRow W.heap.size 3 1 (.slice a4 j cap4) j ((mulL (1) (fillL k (want - sm) xs) m).map (Value.int .i64)) ∧ Below W.heap.size W wr) (fun _ i _ => j - (intOf i).toNat)
            case atStart => exact ⟨0, Nat.zero_le _, rfl, HOJ.out, HBJ.out⟩
            case round =>
              obtain ⟨m, hm, rfl, hownm, hBm⟩ := hrel
              by_cases hlt : m < j
              · have hlm : m < (fillL (k : Int) (want - sm) xs).length := by rw [fillL_length, HXL.out]; exact hlt
                have hcl := mulL_at (1) (fillL (k : Int) (want - sm) xs) m hlm
                have hsu := mulL_succ (1) (fillL (k : Int) (want - sm) xs) m hlm
                obtain ⟨y, hy⟩ : ∃ y, y = (fillL (k : Int) (want - sm) xs)[m]?.getD 0 := ⟨_, rfl⟩
                have hyb : 0 ≤ y ∧ y ≤ 501 := by rw [hy]; have := fillL_bd (k : Int) (by omega) (by omega) xs HXB.out (want - sm) _ (List.getElem_mem hlm); simpa [hlm] using this
                obtain ⟨g, rfl, hgb⟩ := hg4 (by omega)
                have hcg : wr.cell? ⟨g, m, none⟩ = some (.int .i64 y) := by
                  rw [hownm.cellAt m (by omega), List.getElem?_map, hcl, ← hy]; rfl
                have hfg := hownm.frozenAt m
                rw [← hy] at hsu
                have hst1 := hownm.stored m (.int .i64 (y))
                have HSU := Lib.hid hsu
                have HS1 := Lib.hid hst1
                have HBM := Lib.hid hBm
                clear hcl hy hsu hst1 hownm hBm
                go_wp2_with fail
                go_roundw
                case rel => exact ⟨m + 1, by omega, by go_num, by rw [HSU.out, show y * (1) = y from by omega, List.map_set]; exact HS1.out.1, HBM.out.setCell hgb _⟩
                case measure => simp [intOf]; omega
              · obtain rfl : m = j := by omega
                have hend : mulL (1) (fillL (k : Int) (want - sm) xs) m = planOf (1) want xs := by
                  have := mulL_end (1) (fillL (k : Int) (want - sm) xs)
                  rw [fillL_length, HXL.out] at this
                  rw [this, planOf, ← HLEV.out, ← HSM.out]
                rw [hend] at hownm
                have HOM := Lib.hid hownm
                have HBM := Lib.hid hBm
                clear hend hownm hBm
                have hDl : D < W.heap.size := (Array.getElem?_eq_some_iff.1 HK1.out).1
                have hkD := (HBM.out.block D hDl).trans HK1.out
                have hpl : (planOf (1) want xs).length = m := by rw [planOf_length, HXL.out]
                have hnm := nums_of_own HOM.out hpl (by omega)
                have HKD := Lib.hid hkD
                have HNM := Lib.hid hnm
                have HPL := Lib.hid hpl
                clear hkD hnm hpl
                go_wp2_with fail
                refine ⟨by simp, .inl ⟨_, _, rfl, run_takeDeferred HKD.out, ?_⟩⟩
                have hBw := HBW.out
                have hBm := HBM.out
                have hzz := hBw.size
                refine ⟨_, results_tmp2 rfl _ _ _, ?_⟩
                have hxe := HXS.out
                have hwe := HWE.out
                rw [← hxe, ← hwe]
                refine ⟨a4, m, ?_, ?_, ?_⟩
                · rw [HPL.out]; rfl
                · rw [HPL.out]
                  refine ⟨nums_putObj HNM.out ?_, Nat.le_refl _, ?_⟩
                  · intro g o' hp ha
                    obtain ⟨g', hg', hgb⟩ := hg4 hp
                    rw [hg'] at ha
                    injection ha with ha
                    injection ha with ha
                    omega
                  · intro g o' ha hp
                    obtain ⟨g', hg', hgb⟩ := hg4 hp
                    rw [hg'] at ha
                    injection ha with ha
                    injection ha with ha
                    omega
                · exact below_putObj (hBw.trans (hBm.mono hzz)) (by omega)

end Go.Proofs.YtidnopmjhhmedaaDoor
end

section
/- Check of a book. -/
set_option linter.unusedSimpArgs false
set_option linter.unusedVariables false
namespace Go.Proofs.YtidnopmjhhmedaaDoor
open Go.RowKit
attribute [local go_sem] Oper.semAt_some

/-- A look: its tick, and between what the offset was seen. -/
structure Lk where
  t : Int
  lo : Int
  hi : Int
def Lk.zero : Lk := ⟨0, 0, 0⟩
/-- The slice value reads as the looks. -/
def Looks (w : World) (a : Option Addr) (n : Nat) (ls : List Lk) : Prop :=
  ls.length = n ∧ n ≤ 17592186044416 ∧ (0 < n → ∃ b o, a = some ⟨b, o, none⟩ ∧ ∀ j, j < n → w.cell? ⟨b, o + j * 3, none⟩ = some (.int .i64 (ls.getD j Lk.zero).t) ∧ w.cell? ⟨b, o + j * 3 + 1, none⟩ = some (.int .i64 (ls.getD j Lk.zero).lo) ∧ w.cell? ⟨b, o + j * 3 + 2, none⟩ = some (.int .i64 (ls.getD j Lk.zero).hi))
theorem Looks.below {w W : World} {a : Option Addr} {n : Nat} {ls : List Lk} (h : Looks w a n ls) (hb : Below w.heap.size w W) : Looks W a n ls := by
  refine ⟨h.1, h.2.1, fun hn => ?_⟩
  obtain ⟨b, o, ha, hc⟩ := h.2.2 hn
  exact ⟨b, o, ha, fun j hj => ⟨cell_below hb (hc j hj).1, cell_below hb (hc j hj).2.1, cell_below hb (hc j hj).2.2⟩⟩
/-- Is a look one of a book of so many ticks? -/
def lookB (T : Int) (l : Lk) : Bool := lies l.t 0 T && decide (-20000 ≤ l.lo) && decide (l.lo ≤ l.hi) && decide (l.hi ≤ 20000)
def checkB (F S J L H T : Int) (st : List Int) (lk : List Lk) : Bool :=
  isRuleB F S J L H && lies T 1 60 && decide ((st.length : Int) ≤ T) && keepsB F S J 0 st && decide (lk.length ≤ 10) && lk.all (lookB T)
theorem lies_not {n a b : Int} (h : ¬ lies n a b = true) (w : World) : Calls Tryd.prog 57 #[.int .i64 n, .int .i64 a, .int .i64 b] w fun e w' => e = .returned (.bool false) ∧ w = w' := by
  have := lies_any n a b w
  rwa [Bool.eq_false_iff.2 h] at this
theorem Nums.alloc1 {w : World} {a : Option Addr} {n : Nat} {xs : List Int} (h : Nums w a n xs) (o : Obj) : Nums (w.alloc o) a n xs := h.below ((Below.refl _ _).alloc (Nat.le_refl _) _)
theorem Looks.alloc1 {w : World} {a : Option Addr} {n : Nat} {xs : List Lk} (h : Looks w a n xs) (o : Obj) : Looks (w.alloc o) a n xs := h.below ((Below.refl _ _).alloc (Nat.le_refl _) _)
theorem all_take_succ (T : Int) (ls : List Lk) (k : Nat) (h : k < ls.length) : (ls.take (k + 1)).all (lookB T) = ((ls.take k).all (lookB T) && lookB T (ls.getD k Lk.zero)) := by
  rw [List.take_succ_eq_append_getElem h, List.all_append]
  simp [List.getD_eq_getElem?_getD, h]

set_option maxRecDepth 100000 in
set_option maxHeartbeats 1000000 in
theorem Check_no (F S J L H T : Int) (a : Option Addr) (n c : Nat) (a' : Option Addr) (n' c' : Nat) (lk : List Lk) (w : World) (hK : Looks w a' n' lk) (hr : isRuleB F S J L H = false) :
    Calls Tryd.prog 29 #[.agg #[.int .i64 F, .int .i64 S, .int .i64 J, .int .i64 L, .int .i64 H, .int .i64 T, .slice a n c, .slice a' n' c']] w fun e w' => e = .returned (.int .i64 40) ∧ Below w.heap.size w w' := by
  go_enter Tryd.func29, Tryd.ntmps29
  go_wp2_with fail
  refine (opened_bad F S J L H _ _ hr).mono ?_
  rintro e w1 ⟨rfl, hb⟩
  have hB1 := below_call ((Below.refl _ _).alloc (Nat.le_refl _) _) hb
  obtain ⟨hc, hf⟩ := bcell hb
  have hz := hb.size
  simp at hz
  have hz1 : w.heap.size < w1.heap.size := by omega
  go_wp2_with fail
  go_loopw [5, 7, 44] (fun okv _ i wr => ∃ k : Nat, k ≤ n' ∧ i = .int .i64 k ∧ okv = .bool false ∧ Below w.heap.size w wr) (fun _ _ i _ => n' - (intOf i).toNat)
  case atStart => exact ⟨0, Nat.zero_le _, rfl, by first | rfl | (simp; omega), hB1.alloc (by omega) _⟩
  case round =>
    obtain ⟨k, hk, rfl, rfl, hB⟩ := hrel
    have hbz := hB.size
    have HKn := (hK).2.1
    by_cases hlt : k < n'
    · obtain ⟨pb, po, rfl, hcell⟩ := ((hK).below hB).2.2 (by omega)
      obtain ⟨hck0, hck1, hck2⟩ := hcell k hlt
      clear hcell
      go_wp2_with fail
      go_roundw
      case rel => exact ⟨k + 1, by omega, by go_num, rfl, hB.alloc hbz _⟩
      case measure => simp [intOf]; omega
    · go_wp2_with fail
      go_ret
      exact ⟨rfl, hB⟩

set_option maxRecDepth 100000 in
set_option maxHeartbeats 2000000 in
theorem Check_is (F S J L H T : Int) (a : Option Addr) (n c : Nat) (a' : Option Addr) (n' c' : Nat) (st : List Int) (lk : List Lk) (w : World) (hN : Nums w a n st) (hK : Looks w a' n' lk) (hr : isRuleB F S J L H = true) (code : Int) (hcode : code = if checkB F S J L H T st lk then 0 else 40) :
    Calls Tryd.prog 29 #[.agg #[.int .i64 F, .int .i64 S, .int .i64 J, .int .i64 L, .int .i64 H, .int .i64 T, .slice a n c, .slice a' n' c']] w fun e w' => e = .returned (.int .i64 code) ∧ Below w.heap.size w w' := by
  have hnl := hN.1
  have hkl := hK.1
  have hcb : checkB F S J L H T st lk = (lies T 1 60 && decide ((n : Int) ≤ T) && keepsB F S J 0 st && decide (n' ≤ 10) && lk.all (lookB T)) := by simp [checkB, hr, hnl, hkl]
  rw [hcb] at hcode
  have HCB := Lib.hid hcode
  have HKL := Lib.hid hkl
  clear hcb hcode hnl hkl
  go_enter Tryd.func29, Tryd.ntmps29
  go_wp2_with fail
  refine (opened_ok F S J L H _ hr).mono ?_
  rintro e w1 ⟨b, rfl, hb, hnb, hnew⟩
  have hB1 := below_call ((Below.refl _ _).alloc (Nat.le_refl _) _) hb
  have hN1 := hN.below hB1
  obtain ⟨hc, hf⟩ := bcell hb
  have hz := hb.size
  simp at hz
  have hz1 : w.heap.size < w1.heap.size := by omega
  have HNN := hN.2.1
  have HKN := hK.2.1
  have HB1 := Lib.hid hB1
  have HN1 := Lib.hid hN1
  have HK0 := Lib.hid hK
  clear hb hnb hnew hB1 hN1 hN hK
  by_cases h1 : lies T 1 60 = true
  · by_cases h2 : (n : Int) ≤ T
    · cases h3 : keepsB F S J 0 st
      · have HNE := Lib.hid (show code = 40 by rw [HCB.out]; simp [h3])
        go_wp2_with (first | (go_at_call 57; refine (lies_is h1 _).mono ?_; rintro e w' ⟨rfl, rfl⟩) | (go_at_call 56; refine (keeps_any F S J L H (some b) a n c st _ (HN1.out.alloc1 _) hr).mono ?_; rintro e w2 ⟨rfl, hb2⟩; rw [h3]; have hB2 := Lib.hid (below_call (HB1.out.alloc (by omega) _) hb2); obtain ⟨hc2, hf2⟩ := bcell hb2; have hz2 := hb2.size; simp at hz2; have hz3 : w.heap.size < w2.heap.size := (by omega); have hz4 : w1.heap.size < w2.heap.size := (by omega)))
        go_loopw [5, 7, 44] (fun okv _ i wr => ∃ k : Nat, k ≤ n' ∧ i = .int .i64 k ∧ okv = .bool false ∧ Below w.heap.size w wr) (fun _ _ i _ => n' - (intOf i).toNat)
        case atStart => exact ⟨0, Nat.zero_le _, rfl, by first | rfl | (simp; omega), hB2.out⟩
        case round =>
          obtain ⟨k, hk, rfl, rfl, hB⟩ := hrel
          have hbz := hB.size
          have HKn := (HK0.out).2.1
          by_cases hlt : k < n'
          · obtain ⟨pb, po, rfl, hcell⟩ := ((HK0.out).below hB).2.2 (by omega)
            obtain ⟨hck0, hck1, hck2⟩ := hcell k hlt
            clear hcell
            go_wp2_with fail
            go_roundw
            case rel => exact ⟨k + 1, by omega, by go_num, rfl, hB.alloc hbz _⟩
            case measure => simp [intOf]; omega
          · go_wp2_with fail
            go_ret
            exact ⟨by rw [HNE.out]; first | rfl | simp, hB⟩

      · by_cases h4 : n' ≤ 10
        · go_wp2_with (first | (go_at_call 57; refine (lies_is h1 _).mono ?_; rintro e w' ⟨rfl, rfl⟩) | (go_at_call 56; refine (keeps_any F S J L H (some b) a n c st _ (HN1.out.alloc1 _) hr).mono ?_; rintro e w2 ⟨rfl, hb2⟩; rw [h3]; have hB2 := Lib.hid (below_call (HB1.out.alloc (by omega) _) hb2); obtain ⟨hc2, hf2⟩ := bcell hb2; have hz2 := hb2.size; simp at hz2; have hz3 : w.heap.size < w2.heap.size := (by omega); have hz4 : w1.heap.size < w2.heap.size := (by omega)))
          have hW0 : w2.cell? ⟨w.heap.size, 5, none⟩ = some (.int .i64 T) := by rw [hc2 _ _ (by simp; omega)]; simp [go_sem, *]
          have HKL' := HKL.out
          go_loopw [5, 7, 44] (fun okv _ i wr => ∃ k : Nat, k ≤ n' ∧ i = .int .i64 k ∧ okv = .bool ((lk.take k).all (lookB T)) ∧ Below w2.heap.size w2 wr) (fun _ _ i _ => n' - (intOf i).toNat)
          case atStart => exact ⟨0, Nat.zero_le _, rfl, by simp; omega, Below.refl _ _⟩
          case round =>
            obtain ⟨k, hk, rfl, rfl, hB⟩ := hrel
            have hbz := hB.size
            by_cases hlt : k < n'
            · obtain ⟨pb, po, rfl, hcell⟩ := ((HK0.out.below hB2.out).below hB).2.2 (by omega)
              obtain ⟨hck0, hck1, hck2⟩ := hcell k hlt
              have hcT := cell_below hB hW0
              have hz9 : w.heap.size < wr.heap.size := by omega
              have HT := Lib.hid (all_take_succ T lk k (by rw [HKL']; exact hlt))
              obtain ⟨x, hx⟩ : ∃ x, x = lk.getD k Lk.zero := ⟨_, rfl⟩
              rw [← hx] at hck0 hck1 hck2
              have HX := Lib.hid hx
              clear hcell hx
              cases hp : (lk.take k).all (lookB T)
              · go_wp2_with fail
                go_roundw
                case rel => exact ⟨k + 1, by omega, by go_num, by rw [HT.out, hp]; rfl, hB.alloc hbz _⟩
                case measure => simp [intOf]; omega
              · by_cases hl1 : lies x.t 0 T = true
                · by_cases hl2 : -20000 ≤ x.lo
                  · by_cases hl3 : x.lo ≤ x.hi
                    · by_cases hl4 : x.hi ≤ 20000
                      · go_wp2_with (go_at_call 57; refine (lies_is hl1 _).mono ?_; rintro e w' ⟨rfl, rfl⟩)
                        go_roundw
                        case rel => exact ⟨k + 1, by omega, by go_num, by rw [HT.out, hp, Bool.true_and, ← HX.out]; simp [lookB, *], hB.alloc hbz _⟩
                        case measure => simp [intOf]; omega
                      · go_wp2_with (go_at_call 57; refine (lies_is hl1 _).mono ?_; rintro e w' ⟨rfl, rfl⟩)
                        go_roundw
                        case rel => exact ⟨k + 1, by omega, by go_num, by rw [HT.out, hp, Bool.true_and, ← HX.out]; simp [lookB, *], hB.alloc hbz _⟩
                        case measure => simp [intOf]; omega
                    · go_wp2_with (go_at_call 57; refine (lies_is hl1 _).mono ?_; rintro e w' ⟨rfl, rfl⟩)
                      go_roundw
                      case rel => exact ⟨k + 1, by omega, by go_num, by rw [HT.out, hp, Bool.true_and, ← HX.out]; simp [lookB, *], hB.alloc hbz _⟩
                      case measure => simp [intOf]; omega
                  · go_wp2_with (go_at_call 57; refine (lies_is hl1 _).mono ?_; rintro e w' ⟨rfl, rfl⟩)
                    go_roundw
                    case rel => exact ⟨k + 1, by omega, by go_num, by rw [HT.out, hp, Bool.true_and, ← HX.out]; simp [lookB, *], hB.alloc hbz _⟩
                    case measure => simp [intOf]; omega
                · go_wp2_with (go_at_call 57; refine (lies_not hl1 _).mono ?_; rintro e w' ⟨rfl, rfl⟩)
                  go_roundw
                  case rel => exact ⟨k + 1, by omega, by go_num, by rw [HT.out, hp, Bool.true_and, ← HX.out]; simp [lookB, *], hB.alloc hbz _⟩
                  case measure => simp [intOf]; omega
            · have HNE := Lib.hid (show code = if lk.all (lookB T) then 0 else 40 by rw [HCB.out]; simp [h1, h2, h3, h4])
              have hkn : lk.take k = lk := List.take_of_length_le (by omega)
              rw [hkn]
              cases hp : lk.all (lookB T)
              · go_wp2_with fail
                go_ret
                exact ⟨by rw [HNE.out, hp]; rfl, below_call hB2.out hB⟩
              · go_wp2_with fail
                go_ret
                exact ⟨by rw [HNE.out, hp]; rfl, below_call hB2.out hB⟩

        · have HNE := Lib.hid (show code = 40 by rw [HCB.out]; simp [h4])
          go_wp2_with (first | (go_at_call 57; refine (lies_is h1 _).mono ?_; rintro e w' ⟨rfl, rfl⟩) | (go_at_call 56; refine (keeps_any F S J L H (some b) a n c st _ (HN1.out.alloc1 _) hr).mono ?_; rintro e w2 ⟨rfl, hb2⟩; rw [h3]; have hB2 := Lib.hid (below_call (HB1.out.alloc (by omega) _) hb2); obtain ⟨hc2, hf2⟩ := bcell hb2; have hz2 := hb2.size; simp at hz2; have hz3 : w.heap.size < w2.heap.size := (by omega); have hz4 : w1.heap.size < w2.heap.size := (by omega)))
          go_loopw [5, 7, 44] (fun okv _ i wr => ∃ k : Nat, k ≤ n' ∧ i = .int .i64 k ∧ okv = .bool false ∧ Below w.heap.size w wr) (fun _ _ i _ => n' - (intOf i).toNat)
          case atStart => exact ⟨0, Nat.zero_le _, rfl, by first | rfl | (simp; omega), hB2.out⟩
          case round =>
            obtain ⟨k, hk, rfl, rfl, hB⟩ := hrel
            have hbz := hB.size
            have HKn := (HK0.out).2.1
            by_cases hlt : k < n'
            · obtain ⟨pb, po, rfl, hcell⟩ := ((HK0.out).below hB).2.2 (by omega)
              obtain ⟨hck0, hck1, hck2⟩ := hcell k hlt
              clear hcell
              go_wp2_with fail
              go_roundw
              case rel => exact ⟨k + 1, by omega, by go_num, rfl, hB.alloc hbz _⟩
              case measure => simp [intOf]; omega
            · go_wp2_with fail
              go_ret
              exact ⟨by rw [HNE.out]; first | rfl | simp, hB⟩

    · have HNE := Lib.hid (show code = 40 by rw [HCB.out]; simp [h2])
      go_wp2_with (go_at_call 57; refine (lies_is h1 _).mono ?_; rintro e w' ⟨rfl, rfl⟩)
      go_loopw [5, 7, 44] (fun okv _ i wr => ∃ k : Nat, k ≤ n' ∧ i = .int .i64 k ∧ okv = .bool false ∧ Below w.heap.size w wr) (fun _ _ i _ => n' - (intOf i).toNat)
      case atStart => exact ⟨0, Nat.zero_le _, rfl, by first | rfl | (simp; omega), HB1.out.alloc (by omega) _⟩
      case round =>
        obtain ⟨k, hk, rfl, rfl, hB⟩ := hrel
        have hbz := hB.size
        have HKn := (HK0.out).2.1
        by_cases hlt : k < n'
        · obtain ⟨pb, po, rfl, hcell⟩ := ((HK0.out).below hB).2.2 (by omega)
          obtain ⟨hck0, hck1, hck2⟩ := hcell k hlt
          clear hcell
          go_wp2_with fail
          go_roundw
          case rel => exact ⟨k + 1, by omega, by go_num, rfl, hB.alloc hbz _⟩
          case measure => simp [intOf]; omega
        · go_wp2_with fail
          go_ret
          exact ⟨by rw [HNE.out]; first | rfl | simp, hB⟩

  · have HNE := Lib.hid (show code = 40 by rw [HCB.out]; simp [h1])
    go_wp2_with (go_at_call 57; refine (lies_not h1 _).mono ?_; rintro e w' ⟨rfl, rfl⟩)
    go_loopw [5, 7, 44] (fun okv _ i wr => ∃ k : Nat, k ≤ n' ∧ i = .int .i64 k ∧ okv = .bool false ∧ Below w.heap.size w wr) (fun _ _ i _ => n' - (intOf i).toNat)
    case atStart => exact ⟨0, Nat.zero_le _, rfl, by first | rfl | (simp; omega), HB1.out.alloc (by omega) _⟩
    case round =>
      obtain ⟨k, hk, rfl, rfl, hB⟩ := hrel
      have hbz := hB.size
      have HKn := (HK0.out).2.1
      by_cases hlt : k < n'
      · obtain ⟨pb, po, rfl, hcell⟩ := ((HK0.out).below hB).2.2 (by omega)
        obtain ⟨hck0, hck1, hck2⟩ := hcell k hlt
        clear hcell
        go_wp2_with fail
        go_roundw
        case rel => exact ⟨k + 1, by omega, by go_num, rfl, hB.alloc hbz _⟩
        case measure => simp [intOf]; omega
      · go_wp2_with fail
        go_ret
        exact ⟨by rw [HNE.out]; first | rfl | simp, hB⟩


end Go.Proofs.YtidnopmjhhmedaaDoor
end

section
/- The array of 61 spans: its cells, its loads and stores, and when two are the same. -/
set_option linter.unusedSimpArgs false
set_option linter.unusedVariables false
namespace Go.Proofs.YtidnopmjhhmedaaDoor
open Go.RowKit

/-- A span. -/
structure Sp where
  lo : Int
  hi : Int
deriving DecidableEq

/-- The cells of an array of spans. -/
def encL (f : Nat → Sp) : List Value := (List.range 122).map fun j => Value.int .i64 (if j % 2 = 0 then (f (j / 2)).lo else (f (j / 2)).hi)
theorem encL_length (f : Nat → Sp) : (encL f).length = 122 := by simp [encL]
theorem encL_at (f : Nat → Sp) (j : Nat) (h : j < 122) : (encL f)[j]? = some (Value.int .i64 (if j % 2 = 0 then (f (j / 2)).lo else (f (j / 2)).hi)) := by
  simp [encL, h]
theorem encL_lo (f : Nat → Sp) (k : Nat) (h : k < 61) : (encL f)[k * 2]? = some (Value.int .i64 (f k).lo) := by
  rw [encL_at f _ (by omega), if_pos (by omega), show k * 2 / 2 = k by omega]
theorem encL_hi (f : Nat → Sp) (k : Nat) (h : k < 61) : (encL f)[k * 2 + 1]? = some (Value.int .i64 (f k).hi) := by
  rw [encL_at f _ (by omega), if_neg (by omega), show (k * 2 + 1) / 2 = k by omega]
theorem encL_one (f : Nat → Sp) : ∀ v ∈ encL f, v.oneCell' = true := by
  intro v hv
  simp only [encL, List.mem_map] at hv
  obtain ⟨j, _, rfl⟩ := hv
  rfl

/-- The block b holds the spans f. -/
def At (w : World) (b : Nat) (f : Nat → Sp) : Prop := w.rangeAt b 0 (encL f) ∧ w.there b 0 122
theorem At.lo {w : World} {b : Nat} {f : Nat → Sp} (h : At w b f) (k : Nat) (hk : k < 61) : w.cell? ⟨b, k * 2, none⟩ = some (.int .i64 (f k).lo) := by
  have := h.1 (k * 2) _ (encL_lo f k hk)
  rwa [Nat.zero_add] at this
theorem At.hi {w : World} {b : Nat} {f : Nat → Sp} (h : At w b f) (k : Nat) (hk : k < 61) : w.cell? ⟨b, k * 2 + 1, none⟩ = some (.int .i64 (f k).hi) := by
  have := h.1 (k * 2 + 1) _ (encL_hi f k hk)
  rwa [Nat.zero_add] at this
theorem At.free {w : World} {b : Nat} {f : Nat → Sp} (h : At w b f) (j : Nat) (hj : j < 122) : w.frozen? ⟨b, j, none⟩ = false := by
  have := (h.2 j hj).2
  rwa [Nat.zero_add] at this
theorem At.lt {w : World} {b : Nat} {f : Nat → Sp} (h : At w b f) : b < w.heap.size := World.block_lt_of_cell? w _ (h.lo 0 (by omega))
theorem At.below {w W : World} {b : Nat} {f : Nat → Sp} (h : At w b f) (hb : Below w.heap.size w W) : At W b f := by
  have hl := h.lt
  refine ⟨fun j v hv => cell_below hb (h.1 j v hv), fun j hj => ?_⟩
  have h1 := hb.cell (p := ⟨b, 0 + j, none⟩) hl
  have h2 := hb.frozen (p := ⟨b, 0 + j, none⟩) hl
  rw [h1, h2]
  exact h.2 j hj
theorem At.belowN {N : Nat} {w W : World} {b : Nat} {f : Nat → Sp} (h : At w b f) (hN : b < N) (hb : Below N w W) : At W b f := by
  refine ⟨fun j v hv => (hb.cell (p := ⟨b, 0 + j, none⟩) hN).trans (h.1 j v hv), fun j hj => ?_⟩
  rw [hb.cell (p := ⟨b, 0 + j, none⟩) hN, hb.frozen (p := ⟨b, 0 + j, none⟩) hN]
  exact h.2 j hj
theorem At.congr {w : World} {b : Nat} {f g : Nat → Sp} (h : At w b f) (hfg : ∀ k, k < 61 → f k = g k) : At w b g := by
  have : encL f = encL g := by
    apply List.map_congr_left
    intro j hj
    have hj' : j < 122 := by simpa using hj
    rw [hfg (j / 2) (by omega)]
  unfold At
  rw [← this]
  exact h
/-- One span is another then. -/
def putS (f : Nat → Sp) (k : Nat) (s : Sp) : Nat → Sp := fun j => if j = k then s else f j
theorem At.set {w : World} {b : Nat} {f : Nat → Sp} (h : At w b f) (k : Nat) (hk : k < 61) (x y : Int) :
    At ((w.setCell ⟨b, k * 2, none⟩ (.int .i64 x)).setCell ⟨b, k * 2 + 1, none⟩ (.int .i64 y)) b (putS f k ⟨x, y⟩) := by
  have e : ((w.setCell ⟨b, k * 2, none⟩ (.int .i64 x)).setCell ⟨b, k * 2 + 1, none⟩ (.int .i64 y)) = w.setCells b (k * 2) [.int .i64 x, .int .i64 y] := rfl
  refine ⟨fun j v hv => ?_, fun j hj => ?_⟩
  · have hj : j < 122 := by
      rcases Nat.lt_or_ge j 122 with h1 | h1
      · exact h1
      · rw [List.getElem?_eq_none (by rw [encL_length]; exact h1)] at hv; cases hv
    rw [encL_at _ j hj] at hv
    injection hv with hv
    subst hv
    have h0 := h.1 j _ (encL_at f j hj)
    by_cases h1 : j = k * 2
    · have hs := World.rangeAt_setCells_same w b (k * 2) [.int .i64 x, .int .i64 y] (fun i hi => by have := h.2 (k * 2 + i) (by simp at hi; omega); rwa [Nat.zero_add] at this)
      have := hs 0 _ rfl
      rw [e, h1, Nat.zero_add]
      rw [show k * 2 / 2 = k by omega, if_pos (by omega)]
      simpa [putS] using this
    · by_cases h2 : j = k * 2 + 1
      · have hs := World.rangeAt_setCells_same w b (k * 2) [.int .i64 x, .int .i64 y] (fun i hi => by have := h.2 (k * 2 + i) (by simp at hi; omega); rwa [Nat.zero_add] at this)
        have := hs 1 _ rfl
        rw [e, h2, Nat.zero_add]
        rw [show (k * 2 + 1) / 2 = k by omega, if_neg (by omega)]
        simpa [putS] using this
      · have ha := World.rangeAt_setCells_apart (w := w) (b' := b) (o' := j) (cs := [Value.int .i64 (if j % 2 = 0 then (f (j / 2)).lo else (f (j / 2)).hi)]) (fun i v hv => by
          cases i with
          | zero => simp only [List.getElem?_cons_zero] at hv; rw [← hv]; rwa [Nat.zero_add] at h0
          | succ i => simp at hv) b (k * 2) [.int .i64 x, .int .i64 y] (by right; simp; omega)
        have := ha 0 _ rfl
        rw [e, Nat.zero_add]
        have hn : ¬ (j / 2 = k) := by omega
        simpa [putS, hn] using this
  · rw [e]
    exact World.there_setCells h.2 b (k * 2) _ j hj

theorem below_setCells {n b : Nat} {w : World} (vs : List Value) : ∀ (o : Nat) (W : World), Below n w W → n ≤ b → Below n w (W.setCells b o vs) := by
  induction vs with
  | nil => intro o W h _; exact h
  | cons v vs ih => intro o W h hn; exact ih _ _ (h.setCell hn _) hn
/-- The whole array is stored. -/
theorem At.store {w : World} {b : Nat} {f : Nat → Sp} (h : At w b f) (g : Nat → Sp) : At (w.setCells b 0 (encL g)) b g :=
  ⟨World.rangeAt_setCells_same w b 0 _ (by rw [encL_length]; exact h.2), World.there_setCells h.2 b 0 _⟩
theorem At.apart {w : World} {b b' : Nat} {f : Nat → Sp} (h : At w b f) (hb : b ≠ b') (o : Nat) (vs : List Value) : At (w.setCells b' o vs) b f :=
  ⟨World.rangeAt_setCells_apart h.1 b' o vs (.inl hb), World.there_setCells h.2 b' o vs⟩
theorem size_setCells {b : Nat} (vs : List Value) : ∀ (o : Nat) (W : World), (W.setCells b o vs).heap.size = W.heap.size := by
  induction vs with
  | nil => intro o W; rfl
  | cons v vs ih => intro o W; show ((W.setCell _ v).setCells b (o + 1) vs).heap.size = _; rw [ih]; simp

def zeroF : Nat → Sp := fun _ => ⟨0, 0⟩
theorem zeroCells_is : Tryd.zeroCells96 = (encL zeroF).toArray := by kernel_rfl
theorem At.new (w : World) : At (w.alloc (.cells Tryd.zeroCells96 96)) w.heap.size zeroF := by
  have hb := World.alloc_heap_new w (.cells Tryd.zeroCells96 96)
  rw [zeroCells_is] at hb ⊢
  refine ⟨fun j v hv => ?_, fun j hj => ⟨?_, ?_⟩⟩
  · rw [cell_of_row _ _ _ _ _ _ hb]; simpa using hv
  · rw [cell_of_row _ _ _ _ _ _ hb]; simp [encL, hj]
  · exact frozen_of_row _ _ _ _ _ hb

theorem loadVar_At {w : World} {b : Nat} {f : Nat → Sp} (h : At w b f) : (loadVar 96 ⟨b, 0, none⟩).run Tryd.prog w = .ok (.agg (encL f).toArray) w :=
  run_loadVar_mid w b 0 96 (encL f) _ h.1 Tryd.underlying96 rfl (by rw [encL_length]; kernel_rfl)
def eqF (f g : Nat → Sp) : Bool := (List.range 61).all fun k => decide ((f k).lo = (g k).lo) && decide ((f k).hi = (g k).hi)
theorem encL_span (f : Nat → Sp) (k : Nat) (h : k < 61) : ((encL f).toArray).extract (k * 2) (k * 2 + 2) = #[.int .i64 (f k).lo, .int .i64 (f k).hi] := by
  apply Array.ext_getElem?
  intro i
  rw [Array.getElem?_extract]
  have hs : (encL f).toArray.size = 122 := by rw [List.size_toArray, encL_length]
  rcases i with _ | _ | i
  · rw [if_pos (by omega), List.getElem?_toArray, Nat.add_zero, encL_lo f k h]; rfl
  · rw [if_pos (by omega), List.getElem?_toArray, encL_hi f k h]; rfl
  · rw [if_neg (by omega)]; rfl
theorem part_At (f : Nat → Sp) (k : Nat) (h : k < 61) (w : World) : (part 23 (encL f).toArray (k * 2)).run Tryd.prog w = .ok (.agg #[.int .i64 (f k).lo, .int .i64 (f k).hi]) w := by
  have h1 : ∀ w, (isAgg 23).run Tryd.prog w = .ok true w := fun w => by simp [go_sem]
  have h2 : ∀ w, (sizeOf 23).run Tryd.prog w = .ok 2 w := fun w => by simp [go_sem]
  simp only [part, Sem.run_bind, h1, h2, Result.andThen_ok, if_true, Sem.run_pure, encL_span f k h]
theorem eq_span (d : Nat) (a b a' b' : Int) (w : World) : (Op.equalIn (d + 2) 23 (.agg #[.int .i64 a, .int .i64 b]) (.agg #[.int .i64 a', .int .i64 b'])).run Tryd.prog w = .ok (decide (a = a') && decide (b = b')) w := by
  simp [go_sem]
  by_cases h1 : a = a'
  · by_cases h2 : b = b'
    · simp [h1, h2]
    · simp [h1, h2]
  · simp [h1]
theorem eqItems_At (d : Nat) (f g : Nat → Sp) (w : World) : ∀ l : List Nat, (∀ k ∈ l, k < 61) →
    (Op.eqItems (d + 2) 23 2 (encL f).toArray (encL g).toArray l).run Tryd.prog w = .ok (l.all fun k => decide ((f k).lo = (g k).lo) && decide ((f k).hi = (g k).hi)) w
  | [], _ => by simp [Op.eqItems]
  | k :: l, h => by
    have hk := h k (by simp)
    have ih := eqItems_At d f g w l fun j hj => h j (by simp [hj])
    simp only [Op.eqItems, Sem.run_bind, part_At f k hk, part_At g k hk, eq_span, Result.andThen_ok, List.all_cons]
    cases hb : (decide ((f k).lo = (g k).lo) && decide ((f k).hi = (g k).hi))
    · simp
    · simpa using ih
theorem eq_At (f g : Nat → Sp) (w : World) : (Op.equalIn 10000 96 (.agg (encL f).toArray) (.agg (encL g).toArray)).run Tryd.prog w = .ok (eqF f g) w := by
  have hc : Tryd.prog.cellsOf 23 = 2 := by kernel_rfl
  have he : ∃ i, Tryd.prog.info? 23 = some i := by
    cases h : Tryd.prog.info? 23 with
    | some i => exact ⟨i, rfl⟩
    | none => exfalso; have : (Tryd.prog.info? 23).isSome = true := by kernel_rfl
              rw [h] at this; cases this
  obtain ⟨i, hi⟩ := he
  rw [run_equalIn_array w 9999 _ _ Tryd.underlying96 hi, hc, eqItems_At 9997 f g w _ (fun k hk => by simpa using hk)]
  rfl

theorem zeroL_is : Tryd.zeroCells96.toList = encL zeroF := by rw [zeroCells_is]
theorem storeCells_At {w : World} {b : Nat} {f : Nat → Sp} (h : At w b f) (g : Nat → Sp) : (storeCells ⟨b, 0, none⟩ (encL g)).run Tryd.prog w = .ok () (w.setCells b 0 (encL g)) := by
  have := run_storeCells_cells (P := Tryd.prog) b 0 (encL g) 0 w (fun j hj => by simpa using (h.2 j (by rw [encL_length] at hj; exact hj)).1) (fun j hj => by simpa using (h.2 j (by rw [encL_length] at hj; exact hj)).2) (encL_one g)
  simpa using this
end Go.Proofs.YtidnopmjhhmedaaDoor
end

section
/- Plain: between what the offset lies. -/
set_option linter.unusedSimpArgs false
set_option linter.unusedVariables false
namespace Go.Proofs.YtidnopmjhhmedaaDoor
open Go.RowKit

def bothS (s t : Sp) : Sp := ⟨max s.lo t.lo, min s.hi t.hi⟩
def stAt (st : List Int) (k : Nat) : Int := st[k]?.getD 0
def wideF : Nat → Sp := fun _ => ⟨-20000, 20000⟩
def lookS (f : Nat → Sp) (l : Lk) : Nat → Sp := putS f l.t.toNat (bothS (f l.t.toNat) ⟨l.lo, l.hi⟩)
def looksF (lk : List Lk) : Nat → Sp := lk.foldl lookS wideF
def fwdS (st : List Int) (L H : Int) (f : Nat → Sp) (k : Nat) : Nat → Sp := putS f (k + 1) (bothS (f (k + 1)) ⟨(f k).lo + stAt st k + L, (f k).hi + stAt st k + H⟩)
def fwdTo (st : List Int) (L H : Int) (f : Nat → Sp) : Nat → (Nat → Sp)
  | 0 => f
  | k + 1 => fwdS st L H (fwdTo st L H f k) k
def bwdS (st : List Int) (L H : Int) (f : Nat → Sp) (k : Nat) : Nat → Sp := putS f k (bothS (f k) ⟨(f (k + 1)).lo - stAt st k - H, (f (k + 1)).hi - stAt st k - L⟩)
/-- From tick t on back, as many as j. -/
def bwdTo (st : List Int) (L H : Int) (t : Nat) (f : Nat → Sp) : Nat → (Nat → Sp)
  | 0 => f
  | j + 1 => bwdS st L H (bwdTo st L H t f j) (t - (j + 1))
def roundF (st : List Int) (L H : Int) (t : Nat) (f : Nat → Sp) : Nat → Sp := bwdTo st L H t (fwdTo st L H f t) t
def okF (t : Nat) (f : Nat → Sp) : Bool := (List.range (t + 1)).all fun k => decide ((f k).lo ≤ (f k).hi)

theorem putS_same (f : Nat → Sp) (k : Nat) (s : Sp) (h : s = f k) : putS f k s = f := by
  funext j
  unfold putS
  split
  · rename_i e; rw [e, h]
  · rfl
theorem putS_self (f : Nat → Sp) (k : Nat) (s : Sp) : putS f k s k = s := by simp [putS]
theorem putS_ne (f : Nat → Sp) {k j : Nat} (s : Sp) (h : j ≠ k) : putS f k s j = f j := by simp [putS, h]

/-- All ends lie within so much. -/
def Bnd (B : Int) (f : Nat → Sp) : Prop := ∀ k, -B ≤ (f k).lo ∧ (f k).lo ≤ B ∧ -B ≤ (f k).hi ∧ (f k).hi ≤ B
theorem Bnd.mono {B C : Int} {f : Nat → Sp} (h : Bnd B f) (hc : B ≤ C) : Bnd C f := fun k => by have := h k; omega
theorem Bnd.put {B C : Int} {f : Nat → Sp} (h : Bnd B f) (k : Nat) (s : Sp) (hc : B ≤ C) (hs : -C ≤ s.lo ∧ s.lo ≤ C ∧ -C ≤ s.hi ∧ s.hi ≤ C) : Bnd C (putS f k s) := by
  intro j
  unfold putS
  split
  · exact hs
  · have := h j; omega
theorem wide_bnd : Bnd 20000 wideF := fun k => by simp [wideF]
theorem lookS_bnd {f : Nat → Sp} (h : Bnd 20000 f) (T : Int) (l : Lk) (hl : lookB T l = true) : Bnd 20000 (lookS f l) := by
  simp only [lookB, Bool.and_eq_true, decide_eq_true_eq, lies_iff] at hl
  refine h.put _ _ (Int.le_refl _) ?_
  have := h l.t.toNat
  simp only [bothS]
  omega
theorem looks_bnd (T : Int) (lk : List Lk) : ∀ f, Bnd 20000 f → lk.all (lookB T) = true → Bnd 20000 (lk.foldl lookS f) := by
  induction lk with
  | nil => intro f h _; exact h
  | cons l lk ih =>
    intro f h ha
    simp only [List.all_cons, Bool.and_eq_true] at ha
    exact ih _ (lookS_bnd h T l ha.1) ha.2
theorem looksF_bnd (T : Int) (lk : List Lk) (h : lk.all (lookB T) = true) : Bnd 20000 (looksF lk) := looks_bnd T lk _ wide_bnd h

section
variable {st : List Int} {L H : Int} (hst : ∀ k, -500 ≤ stAt st k ∧ stAt st k ≤ 500) (hd : -100 ≤ L ∧ L ≤ H ∧ H ≤ 100)
include hst hd
theorem fwdS_bnd {B : Int} {f : Nat → Sp} (hB : 0 ≤ B) (h : Bnd B f) (k : Nat) : Bnd (B + 600) (fwdS st L H f k) := by
  refine h.put _ _ (by omega) ?_
  have h1 := h k
  have h2 := h (k + 1)
  have h3 := hst k
  simp only [bothS]
  omega
theorem bwdS_bnd {B : Int} {f : Nat → Sp} (hB : 0 ≤ B) (h : Bnd B f) (k : Nat) : Bnd (B + 600) (bwdS st L H f k) := by
  refine h.put _ _ (by omega) ?_
  have h1 := h k
  have h2 := h (k + 1)
  have h3 := hst k
  simp only [bothS]
  omega
theorem fwdTo_bnd {B : Int} {f : Nat → Sp} (hB : 0 ≤ B) (h : Bnd B f) : ∀ k : Nat, Bnd (B + 600 * k) (fwdTo st L H f k)
  | 0 => h.mono (by omega)
  | k + 1 => (fwdS_bnd hst hd (by omega) (fwdTo_bnd hB h k) k).mono (by omega)
theorem bwdTo_bnd {B : Int} {f : Nat → Sp} (hB : 0 ≤ B) (t : Nat) (h : Bnd B f) : ∀ k : Nat, Bnd (B + 600 * k) (bwdTo st L H t f k)
  | 0 => h.mono (by omega)
  | k + 1 => (bwdS_bnd hst hd (by omega) (bwdTo_bnd hB t h k) _).mono (by omega)
theorem roundF_bnd {B : Int} {f : Nat → Sp} (hB : 0 ≤ B) (t : Nat) (ht : t ≤ 60) (h : Bnd B f) : Bnd (B + 72000) (roundF st L H t f) :=
  (bwdTo_bnd hst hd (by omega) t (fwdTo_bnd hst hd hB h t) t).mono (by omega)
end

/-- Going forth changes nothing any more. -/
def Fwd (st : List Int) (L H : Int) (t : Nat) (f : Nat → Sp) : Prop := ∀ k, k < t → (f k).lo + stAt st k + L ≤ (f (k + 1)).lo ∧ (f (k + 1)).hi ≤ (f k).hi + stAt st k + H
/-- Going back changes nothing any more. -/
def Bwd (st : List Int) (L H : Int) (t : Nat) (f : Nat → Sp) : Prop := ∀ k, k < t → (f (k + 1)).lo - stAt st k - H ≤ (f k).lo ∧ (f k).hi ≤ (f (k + 1)).hi - stAt st k - L
theorem fwdTo_fwd (st : List Int) (L H : Int) (f : Nat → Sp) : ∀ j, Fwd st L H j (fwdTo st L H f j)
  | 0 => fun k h => by omega
  | j + 1 => by
    intro k hk
    have ih := fwdTo_fwd st L H f j
    simp only [fwdTo, fwdS]
    by_cases h : k = j
    · subst h
      rw [putS_self, putS_ne _ _ (by omega)]
      simp only [bothS]
      omega
    · rw [putS_ne _ _ (by omega), putS_ne _ _ (by omega)]
      exact ih k (by omega)
theorem bwdS_fwd {st : List Int} {L H : Int} (hd : L ≤ H) {t : Nat} {f : Nat → Sp} (h : Fwd st L H t f) (k : Nat) (hk : k < t) : Fwd st L H t (bwdS st L H f k) := by
  intro j hj
  have h1 := h j hj
  unfold bwdS
  by_cases e : j = k
  · subst e
    rw [putS_self, putS_ne _ _ (by omega)]
    simp only [bothS]
    omega
  · rw [putS_ne _ _ e]
    by_cases e2 : j + 1 = k
    · subst e2
      rw [putS_self]
      simp only [bothS]
      omega
    · rw [putS_ne _ _ e2]
      exact h1
theorem bwdTo_fwd {st : List Int} {L H : Int} (hd : L ≤ H) {t : Nat} {f : Nat → Sp} (h : Fwd st L H t f) : ∀ j, j ≤ t → Fwd st L H t (bwdTo st L H t f j)
  | 0, _ => h
  | j + 1, hj => bwdS_fwd hd (bwdTo_fwd hd h j (by omega)) _ (by omega)
theorem bwdTo_bwd (st : List Int) (L H : Int) (t : Nat) (f : Nat → Sp) : ∀ j, j ≤ t → ∀ k, t - j ≤ k → k < t → (bwdTo st L H t f j (k + 1)).lo - stAt st k - H ≤ (bwdTo st L H t f j k).lo ∧ (bwdTo st L H t f j k).hi ≤ (bwdTo st L H t f j (k + 1)).hi - stAt st k - L
  | 0, _ => fun k h1 h2 => by omega
  | j + 1, hj => by
    intro k h1 h2
    have ih := bwdTo_bwd st L H t f j (by omega)
    simp only [bwdTo, bwdS]
    by_cases e : k = t - (j + 1)
    · rw [← e, putS_self, putS_ne _ _ (by omega)]
      simp only [bothS]
      omega
    · rw [putS_ne _ _ (by omega), putS_ne _ _ (by omega)]
      exact ih k (by omega) h2
theorem fwdTo_same {st : List Int} {L H : Int} {t : Nat} {f : Nat → Sp} (h : Fwd st L H t f) : ∀ j, j ≤ t → fwdTo st L H f j = f
  | 0, _ => rfl
  | j + 1, hj => by
    rw [fwdTo, fwdTo_same h j (by omega), fwdS]
    apply putS_same
    have := h j (by omega)
    cases hc : f (j + 1) with
    | mk a b =>
      rw [hc] at this
      simp only [bothS, Sp.mk.injEq] at *
      omega
theorem bwdTo_same {st : List Int} {L H : Int} {t : Nat} {f : Nat → Sp} (h : Bwd st L H t f) : ∀ j, j ≤ t → bwdTo st L H t f j = f
  | 0, _ => rfl
  | j + 1, hj => by
    rw [bwdTo, bwdTo_same h j (by omega), bwdS]
    apply putS_same
    have := h (t - (j + 1)) (by omega)
    cases hc : f (t - (j + 1)) with
    | mk a b =>
      rw [hc] at this
      simp only [bothS, Sp.mk.injEq] at *
      omega
theorem roundF_fwd (st : List Int) {L H : Int} (hd : L ≤ H) (t : Nat) (f : Nat → Sp) : Fwd st L H t (roundF st L H t f) := bwdTo_fwd hd (fwdTo_fwd st L H f t) t (Nat.le_refl _)
theorem roundF_bwd (st : List Int) (L H : Int) (t : Nat) (f : Nat → Sp) : Bwd st L H t (roundF st L H t f) := fun k hk => bwdTo_bwd st L H t _ t (Nat.le_refl _) k (by omega) hk
/-- A second round changes nothing. -/
theorem roundF_twice (st : List Int) {L H : Int} (hd : L ≤ H) (t : Nat) (f : Nat → Sp) : roundF st L H t (roundF st L H t f) = roundF st L H t f := by
  have h1 := fwdTo_same (roundF_fwd st hd t f) t (Nat.le_refl _)
  have h2 := bwdTo_same (roundF_bwd st L H t f) t (Nat.le_refl _)
  rw [roundF, h1, h2]

theorem exists_not_mem : ∀ (n : Nat) (l : List Nat), l.length < n → ∃ k, k < n ∧ k ∉ l
  | 0, l, h => by omega
  | n + 1, l, h => by
    by_cases hn : n ∈ l
    · obtain ⟨k, hk, hkl⟩ := exists_not_mem n (l.erase n) (by rw [List.length_erase_of_mem hn]; have := List.length_pos_of_mem hn; omega)
      exact ⟨k, by omega, fun hm => hkl ((List.mem_erase_of_ne (by omega)).2 hm)⟩
    · exact ⟨n, by omega, hn⟩
theorem looks_other (k : Nat) (lk : List Lk) : ∀ f, k ∉ lk.map (fun l => l.t.toNat) → lk.foldl lookS f k = f k := by
  induction lk with
  | nil => intro f _; rfl
  | cons l lk ih =>
    intro f h
    simp only [List.map_cons, List.mem_cons, not_or] at h
    rw [List.foldl_cons, ih _ h.2, lookS, putS_ne _ _ h.1]
theorem looksF_ne_zero (lk : List Lk) (h : lk.length ≤ 10) : eqF (looksF lk) zeroF = false := by
  obtain ⟨k, hk, hn⟩ := exists_not_mem 11 (lk.map fun l => l.t.toNat) (by simpa using by omega)
  rw [← Bool.not_eq_true, eqF, List.all_eq_true]
  intro ha
  have := ha k (by simp; omega)
  rw [looksF, looks_other k lk _ hn] at this
  simp [wideF, zeroF] at this
theorem eqF_iff {f g : Nat → Sp} : eqF f g = true ↔ ∀ k, k < 61 → f k = g k := by
  rw [eqF, List.all_eq_true]
  constructor
  · intro h k hk
    have := h k (by simpa using hk)
    simp only [Bool.and_eq_true, decide_eq_true_eq] at this
    cases hf : f k; cases hg : g k
    rw [hf, hg] at this
    simp only [Sp.mk.injEq]
    exact this
  · intro h k hk
    have := h k (by simpa using hk)
    simp [this]

end Go.Proofs.YtidnopmjhhmedaaDoor
end

section
/- Between what the offset lies. -/
set_option linter.unusedSimpArgs false
set_option linter.unusedVariables false
namespace Go.Proofs.YtidnopmjhhmedaaDoor
open Go.RowKit
attribute [local go_sem] Oper.semAt_some

set_option maxHeartbeats 1000000 in
theorem steer_any (k : Nat) (B : Nat) (a : Option Addr) (n c : Nat) (st : List Int) (w : World) (hB : w.cell? ⟨B, 6, none⟩ = some (.slice a n c)) (hN : Nums w a n st) :
    Calls Tryd.prog 89 #[.int .i64 k, .pointer (some ⟨B, 0, none⟩)] w fun e w' => e = .returned (.int .i64 (stAt st k)) ∧ w = w' := by
  have hl := hN.1
  have hm := hN.2.1
  by_cases hlt : k < n
  · obtain ⟨pb, po, rfl, hcell⟩ := hN.2.2 (by omega)
    have hck := hcell k hlt
    rw [List.getD_eq_getElem?_getD] at hck
    clear hcell hN hl
    go_enter Tryd.func89, Tryd.ntmps89
    go_wp2_with fail
    go_ret
    exact ⟨rfl, rfl⟩
  · have hz : stAt st k = 0 := by rw [stAt, List.getElem?_eq_none (by omega)]; rfl
    rw [hz]
    clear hN hl hz
    go_enter Tryd.func89, Tryd.ntmps89
    go_wp2_with fail
    go_ret
    exact ⟨rfl, rfl⟩

/-- A fact that no tactic opens. -/
structure Shut (p : Prop) : Prop where mk :: (out : p)
/-- The first so many spans are wide. -/
def begF (k : Nat) : Nat → Sp := fun j => if j < k then ⟨-20000, 20000⟩ else ⟨0, 0⟩
theorem begF_succ (k : Nat) : begF (k + 1) = putS (begF k) k ⟨-20000, 20000⟩ := by
  funext j
  by_cases h : j = k
  · simp [begF, putS, h]
  · by_cases h2 : j < k
    · simp [begF, putS, h, h2, show j < k + 1 by omega]
    · simp [begF, putS, h, h2, show ¬ j < k + 1 by omega]
theorem begF_end : ∀ k, k < 61 → begF 61 k = wideF k := fun k h => by simp [begF, wideF, h]

theorem size96 (f : Nat → Sp) : (Tryd.prog.info? 96).map (·.size) = some (encL f).length := by rw [encL_length]; kernel_rfl
theorem size96a (f : Nat → Sp) : (Tryd.prog.info? 96).map (·.size) = some (encL f).toArray.size := by rw [List.size_toArray, encL_length]; kernel_rfl
theorem At.there {w : World} {b : Nat} {f : Nat → Sp} (h : At w b f) (g : Nat → Sp) : w.there b 0 (encL g).toArray.size := by rw [List.size_toArray, encL_length]; exact h.2
/-- A load that is to be left to its turn. -/
def laterLoad (t : Tmp) : Op := .load 23 (.tmp t)
theorem load_later (t : Tmp) : Op.load 23 (.tmp t) = laterLoad t := rfl
attribute [local go_sem] laterLoad
theorem three_below {W W1 : World} {b : Nat} {v0 v1 v2 : Value} (h : W.cell? ⟨b, 0, none⟩ = some v0 ∧ W.cell? ⟨b, 1, none⟩ = some v1 ∧ W.cell? ⟨b, 2, none⟩ = some v2) (hb : Below W.heap.size W W1) :
    W1.cell? ⟨b, 0, none⟩ = some v0 ∧ W1.cell? ⟨b, 1, none⟩ = some v1 ∧ W1.cell? ⟨b, 2, none⟩ = some v2 :=
  ⟨cell_below hb h.1, cell_below hb h.2.1, cell_below hb h.2.2⟩

theorem four_below {W W1 : World} {b b' : Nat} {o : Nat} {v0 v1 v2 v3 : Value} (h : W.cell? ⟨b, 3, none⟩ = some v0 ∧ W.cell? ⟨b, 4, none⟩ = some v1 ∧ W.cell? ⟨b', o, none⟩ = some v2 ∧ W.cell? ⟨b', o + 1, none⟩ = some v3) (hb : Below W.heap.size W W1) :
    W1.cell? ⟨b, 3, none⟩ = some v0 ∧ W1.cell? ⟨b, 4, none⟩ = some v1 ∧ W1.cell? ⟨b', o, none⟩ = some v2 ∧ W1.cell? ⟨b', o + 1, none⟩ = some v3 :=
  ⟨cell_below hb h.1, cell_below hb h.2.1, cell_below hb h.2.2.1, cell_below hb h.2.2.2⟩

/-- The world in which between's loops begin. -/
noncomputable def betW (F S J L H : Int) (t : Nat) (a : Option Addr) (n c : Nat) (a' : Option Addr) (n' c' : Nat) (w : World) : World :=
  ((w.alloc (.cells #[.int .i64 F, .int .i64 S, .int .i64 J, .int .i64 L, .int .i64 H, .int .i64 t, .slice a n c, .slice a' n' c'] 44)).alloc (.cells Tryd.zeroCells96 96)).alloc (.cells Tryd.zeroCells96 96)
structure BetW (L H : Int) (t : Nat) (a : Option Addr) (n c : Nat) (a' : Option Addr) (n' c' : Nat) (w W : World) : Prop where
  bel : Below w.heap.size w W
  size : W.heap.size = w.heap.size + 3
  dl : W.cell? ⟨w.heap.size, 3, none⟩ = some (.int .i64 L)
  dh : W.cell? ⟨w.heap.size, 4, none⟩ = some (.int .i64 H)
  tk : W.cell? ⟨w.heap.size, 5, none⟩ = some (.int .i64 t)
  st : W.cell? ⟨w.heap.size, 6, none⟩ = some (.slice a n c)
  lk : W.cell? ⟨w.heap.size, 7, none⟩ = some (.slice a' n' c')
  res : At W (w.heap.size + 1) zeroF
  at_ : At W (w.heap.size + 1 + 1) zeroF
theorem betW_is (F S J L H : Int) (t : Nat) (a : Option Addr) (n c : Nat) (a' : Option Addr) (n' c' : Nat) (w : World) : BetW L H t a n c a' n' c' w (betW F S J L H t a n c a' n' c' w) := by
  unfold betW
  refine ⟨?_, by simp, by simp [go_sem], by simp [go_sem], by simp [go_sem], by simp [go_sem], by simp [go_sem], ?_, ?_⟩
  · repeat with_reducible (first | exact Below.refl _ _ | refine Below.alloc ?_ (by simp <;> omega) _)
  · have h := At.new (w.alloc (.cells #[.int .i64 F, .int .i64 S, .int .i64 J, .int .i64 L, .int .i64 H, .int .i64 t, .slice a n c, .slice a' n' c'] 44))
    rw [World.size_alloc] at h
    exact h.below ((Below.refl _ _).alloc (Nat.le_refl _) _)
  · have h := At.new ((w.alloc (.cells #[.int .i64 F, .int .i64 S, .int .i64 J, .int .i64 L, .int .i64 H, .int .i64 t, .slice a n c, .slice a' n' c'] 44)).alloc (.cells Tryd.zeroCells96 96))
    rw [World.size_alloc, World.size_alloc] at h
    exact h

set_option maxRecDepth 100000 in
set_option maxHeartbeats 16000000 in
theorem between_any (F S J L H : Int) (t : Nat) (a : Option Addr) (n c : Nat) (a' : Option Addr) (n' c' : Nat) (st : List Int) (lk : List Lk) (w : World) (hN : Nums w a n st) (hK : Looks w a' n' lk) (hb : checkB F S J L H t st lk = true) :
    Calls Tryd.prog 83 #[.agg #[.int .i64 F, .int .i64 S, .int .i64 J, .int .i64 L, .int .i64 H, .int .i64 t, .slice a n c, .slice a' n' c']] w fun e w' => e = .returned (.tuple #[.agg (encL (roundF st L H t (looksF lk))).toArray, .bool (okF t (roundF st L H t (looksF lk)))]) ∧ Below w.heap.size w w' := by
  have hcb := hb
  simp only [checkB, Bool.and_eq_true, decide_eq_true_eq, lies_iff] at hcb
  obtain ⟨⟨⟨⟨⟨hrule, hT1, hT2⟩, hlen⟩, hkeep⟩, hlk10⟩, hlkall⟩ := hcb
  have hrl := hrule
  simp only [isRuleB, Bool.and_eq_true, decide_eq_true_eq, lies_iff] at hrl
  have hdr : -100 ≤ L ∧ L ≤ H ∧ H ≤ 100 := by omega
  have hsteer : ∀ k, -500 ≤ stAt st k ∧ stAt st k ≤ 500 := by
    intro k
    unfold stAt
    rcases Nat.lt_or_ge k st.length with h1 | h1
    · have := keepsB_mem F S J st 0 hkeep st[k] (List.getElem_mem h1)
      simp only [List.getElem?_eq_getElem h1, Option.getD_some]
      omega
    · rw [List.getElem?_eq_none h1]; simp
  have HST := Lib.hid hsteer
  have HF1 := Lib.hid (looksF_bnd t lk hlkall)
  have HNZ := Lib.hid (looksF_ne_zero lk hlk10)
  have HTW := Lib.hid (roundF_twice st hdr.2.1 t (looksF lk))
  obtain ⟨R, hR⟩ : ∃ R, R = roundF st L H t (looksF lk) := ⟨_, rfl⟩
  rw [← hR] at HTW ⊢
  have HBR : Hid (Bnd 92000 R) := Lib.hid (by rw [hR]; exact (roundF_bnd hsteer hdr (by omega) t (by omega) (looksF_bnd t lk hlkall)).mono (by omega))
  have HR := Lib.hid hR
  clear hrule hlen hkeep hlk10 hlkall hrl hsteer hR hT1 hT2
  go_enter Tryd.func83, Tryd.ntmps83
  go_wp2_with fail
  change Code.wp Tryd.prog _ _ _ (betW F S J L H t a n c a' n' c' w)
  have hW := betW_is F S J L H t a n c a' n' c' w
  generalize betW F S J L H t a n c a' n' c' w = W0 at hW ⊢
  have hsz := hW.size
  have HW := Lib.hid hW
  have HA0 := Lib.hid hW.at_
  clear hW
  go_loopw [5, 15] (fun _ i wr => ∃ k : Nat, k ≤ 61 ∧ i = .int .i64 k ∧ At wr (w.heap.size + 1 + 1) (begF k) ∧ Below (w.heap.size + 2) W0 wr) (fun _ i _ => 61 - (intOf i).toNat)
  case atStart => exact ⟨0, Nat.zero_le _, rfl, HA0.out.congr (fun k _ => by simp [begF, zeroF]), Below.refl _ _⟩
  case round =>
    obtain ⟨k, hk, rfl, hat, hB⟩ := hrel
    by_cases hlt : k < 61
    · have hc1 := hat.lo k hlt
      have hc2 := hat.hi k hlt
      have hf1 := hat.free (k * 2) (by omega)
      have hf2 := hat.free (k * 2 + 1) (by omega)
      have HAT := Lib.hid hat
      clear hat
      go_wp2_with fail
      go_roundw
      case rel => exact ⟨k + 1, by omega, by go_num, by rw [begF_succ]; exact HAT.out.set k hlt _ _, by repeat with_reducible (first | exact hB | refine Below.setCell ?_ (by first | omega | (simp <;> omega)) _)⟩
      case measure => simp [intOf]; omega
    · have HAT := Lib.hid (hat.congr (g := wideF) (fun j hj => by rw [show k = 61 by omega]; exact begF_end j hj) : At wr (w.heap.size + 1 + 1) wideF)
      rw [show (k : Int) = 61 by omega]
      clear hat
      have hcl := (hB.cell (p := ⟨w.heap.size, 7, none⟩) (by show w.heap.size < w.heap.size + 2; omega)).trans HW.out.lk
      have HB := Lib.hid hB
      have hz1 := hB.size
      have hkl := hK.1
      have hkm := hK.2.1
      have hn10 : n' ≤ 10 ∧ (t : Int) ≤ 60 ∧ 1 ≤ (t : Int) ∧ lk.all (lookB t) = true := by
        simp only [checkB, Bool.and_eq_true, decide_eq_true_eq, lies_iff] at hb
        have := hb.1.1.1.1.2
        exact ⟨by omega, this.2, this.1, hb.2⟩
      obtain ⟨hn10, ht60, ht1, hall⟩ := hn10
      have HALL := Lib.hid hall
      clear hB hall
      go_wp2_with fail
      go_loopw [7, 25] (fun _ i wr => ∃ k : Nat, k ≤ n' ∧ i = .int .i64 k ∧ At wr (w.heap.size + 1 + 1) ((lk.take k).foldl lookS wideF) ∧ Below (w.heap.size + 2) W0 wr) (fun _ i _ => n' - (intOf i).toNat)
      case atStart => exact ⟨0, Nat.zero_le _, rfl, HAT.out, HB.out⟩
      case round =>
        obtain ⟨k, hk, rfl, hat, hB⟩ := hrel
        by_cases hlt : k < n'
        · have hwr : Below w.heap.size w wr := HW.out.bel.trans (hB.mono (by omega))
          obtain ⟨pb, po, rfl, hcell⟩ := (hK.below hwr).2.2 (by omega)
          have hck := hcell k hlt
          clear hcell
          obtain ⟨x, hx⟩ : ∃ x, x = lk.getD k Lk.zero := ⟨_, rfl⟩
          rw [← hx] at hck
          obtain ⟨hck0, hck1, hck2⟩ := hck
          have hxm : lookB t x = true := by
            have := List.all_eq_true.1 HALL.out (lk[k]'(by omega)) (List.getElem_mem _)
            rw [hx]; simpa [List.getD_eq_getElem?_getD, show k < lk.length by omega] using this
          have htk : (lk.take (k + 1)).foldl lookS wideF = lookS ((lk.take k).foldl lookS wideF) x := by
            rw [List.take_succ_eq_append_getElem (show k < lk.length by omega), List.foldl_append, hx]
            simp [List.getD_eq_getElem?_getD, show k < lk.length by omega]
          obtain ⟨g, hg⟩ : ∃ g, g = (lk.take k).foldl lookS wideF := ⟨_, rfl⟩
          rw [← hg] at hat htk
          have hxm' := hxm
          simp only [lookB, Bool.and_eq_true, lies_iff, decide_eq_true_eq] at hxm'
          obtain ⟨q, hq⟩ : ∃ q : Nat, x.t = q := ⟨x.t.toNat, by omega⟩
          have hq61 : q < 61 := by omega
          have hc1 := hat.lo q hq61
          have hc2 := hat.hi q hq61
          have hf1 := hat.free (q * 2) (by omega)
          have hf2 := hat.free (q * 2 + 1) (by omega)
          have hz2 := hB.size
          have hz3 : w.heap.size + 2 < wr.heap.size := by omega
          rw [hq] at hck0
          have HAT2 := Lib.hid hat
          have HTK := Lib.hid htk
          have HQ := Lib.hid hq
          clear hat htk hq hxm hxm' hg hx
          have hq0 : (0 : Int) ≤ (q : Int) := by omega
          have hq1 : (q : Int) < 61 := by omega
          go_wp2_with fail
          rw [load_later 33]
          go_region_held3 (fun W1 : World => W1.cell? ⟨wr.heap.size, 0, none⟩ = some (.int .i64 q) ∧ W1.cell? ⟨wr.heap.size, 1, none⟩ = some (.int .i64 x.lo) ∧ W1.cell? ⟨wr.heap.size, 2, none⟩ = some (.int .i64 x.hi)) (first | with_reducible exact three_below hq2 hb2 | (simp [go_sem, *]; done))
            (first | (go_at_call 88; rename_i hq2 _ _; refine (both_any _ _ _ _ _).mono ?_; rintro e w3 ⟨rfl, hb2⟩; have hB3 := below_call (((Below.refl _ _).alloc (Nat.le_refl _) _).drew) hb2; have hat3 := HAT2.out.below hB3; have hff1 := hat3.free (q * 2) (by omega); have hff2 := hat3.free (q * 2 + 1) (by omega); have hcc1 := hat3.lo q hq61; have hcc2 := hat3.hi q hq61; have HB3 := Lib.hid hB3; have HA3 := Lib.hid hat3; clear hB3 hat3; have hz4 := hb2.size; simp at hz4; have hz5 : w.heap.size + 1 + 1 < w3.heap.size := (by omega); have hz6 : wr.heap.size < w3.heap.size := (by omega)))
          go_wp2_with fail
          go_roundw
          case rel =>
            refine ⟨k + 1, by omega, by go_num, ?_, ?_⟩
            · rw [HTK.out, lookS, HQ.out]
              exact HA3.out.set q hq61 _ _
            · refine Below.setCell (Below.setCell (hB.trans (HB3.out.mono (by omega))) ?_ _) ?_ _
              · show w.heap.size + 2 ≤ w.heap.size + 1 + 1; omega
              · show w.heap.size + 2 ≤ w.heap.size + 1 + 1; omega
          case measure => simp [intOf]; omega
        · obtain rfl : k = n' := by omega
          have htk : (lk.take k).foldl lookS wideF = looksF lk := by rw [List.take_of_length_le (by omega)]; rfl
          rw [htk] at hat
          have HAT2 := Lib.hid hat
          have hz2 := hB.size
          have hsto := storeCells_At (At.new wr) zeroF
          rw [← zeroL_is] at hsto
          have hAw := (At.new wr).store zeroF
          have hBw : Below wr.heap.size wr ((wr.alloc (.cells Tryd.zeroCells96 96)).setCells wr.heap.size 0 (encL zeroF)) := below_setCells _ _ _ ((Below.refl _ _).alloc (Nat.le_refl _) _) (Nat.le_refl _)
          have hA3 := HAT2.out.below hBw
          rw [← zeroL_is] at hAw hBw hA3
          have hSz : ((wr.alloc (.cells Tryd.zeroCells96 96)).setCells wr.heap.size 0 Tryd.zeroCells96.toList).heap.size = wr.heap.size + 1 := by rw [size_setCells]; simp
          have HAW := Lib.hid hAw
          have HBW := Lib.hid hBw
          have HA3 := Lib.hid hA3
          have HSZ := Lib.hid hSz
          clear htk hat hAw hBw hA3 hSz
          go_wp2_with fail
          generalize (wr.alloc (.cells Tryd.zeroCells96 96)).setCells wr.heap.size 0 Tryd.zeroCells96.toList = W3 at *
          go_loopg [9, 10, 11, 12, 13, 14] 3 (fun r p9 _ _ _ _ _ wx => ∃ (f g : Nat → Sp) (b9 : Nat), p9 = .pointer (some ⟨b9, 0, none⟩) ∧ w.heap.size + 1 + 1 < b9 ∧ At wx (w.heap.size + 1 + 1) f ∧ At wx b9 g ∧ Below (w.heap.size + 2) W0 wx ∧ roundF st L H t f = R ∧ Bnd 92000 f ∧ ((r = 3 ∧ eqF f g = false) ∨ (r = 2 ∧ f = R ∧ okF t R = true) ∨ (r = 1 ∧ f = R ∧ okF t R = true ∧ g = R)))
          case atStart => exact ⟨_, _, _, rfl, by omega, HA3.out, HAW.out, hB.trans (HBW.out.mono (by omega)), HR.out.symm, HF1.out.mono (by omega), .inl ⟨rfl, HNZ.out⟩⟩
          case round =>
            obtain ⟨f, g, b9, rfl, hb9, hAt, hA9, hB4, hRf, hbf, hst3⟩ := hrel
            have heq := eq_At f g wr
            have HRF := Lib.hid hRf
            have HBF := Lib.hid hbf
            have HS3 := Lib.hid hst3
            have HAT := Lib.hid hAt
            have HA9 := Lib.hid hA9
            clear hRf hbf hst3 hA9
            cases he : eqF f g
            · rw [he] at heq
              have HA5 := Lib.hid (show At (wr.setCells b9 0 (encL f).toArray.toList) (w.heap.size + 1 + 1) f from HAT.out.apart (by omega) _ _)
              have HA59 := Lib.hid (show At (wr.setCells b9 0 (encL f).toArray.toList) b9 f from HA9.out.store f)
              have hb5 : Below (w.heap.size + 2) W0 (wr.setCells b9 0 (encL f).toArray.toList) := below_setCells _ _ _ hB4 (by omega)
              have HC5 := Lib.hid ((hb5.cell (p := ⟨w.heap.size, 5, none⟩) (by show w.heap.size < w.heap.size + 2; omega)).trans HW.out.tk)
              have HZ5 := Lib.hid hb5.size
              have HB5 := Lib.hid hb5
              clear hb5
              go_wp2_with (first | (refine wpList_load_mid rfl 96 _ rfl (w.heap.size + 1 + 1) 0 rfl (encL f) _ HAT.out.1 Tryd.underlying96 rfl (size96 f) ?_) | (refine wpList_load_mid rfl 96 _ rfl b9 0 rfl (encL g) _ HA9.out.1 Tryd.underlying96 rfl (size96 g) ?_) | (refine wpList_store_mid rfl 96 _ _ rfl b9 0 (encL f).toArray rfl rfl (HA9.out.there f) (size96a f) (all_oneCell_toArray (encL_one f)) ?_; generalize wr.setCells b9 0 (encL f).toArray.toList = W5 at *; have hc5 := HC5.out; have hz5 := HZ5.out))
              go_step3
              go_wp2_with (first | (refine wpList_load_mid rfl 96 _ rfl (w.heap.size + 1 + 1) 0 rfl (encL f) _ HAT.out.1 Tryd.underlying96 rfl (size96 f) ?_) | (refine wpList_load_mid rfl 96 _ rfl b9 0 rfl (encL g) _ HA9.out.1 Tryd.underlying96 rfl (size96 g) ?_) | (refine wpList_store_mid rfl 96 _ _ rfl b9 0 (encL f).toArray rfl rfl (HA9.out.there f) (size96a f) (all_oneCell_toArray (encL_one f)) ?_; generalize wr.setCells b9 0 (encL f).toArray.toList = W5 at *; have hc5 := HC5.out; have hz5 := HZ5.out))
              go_loopw [10, 11, 48] (fun _ _ i wx => ∃ j : Nat, j ≤ t ∧ i = .int .i64 j ∧ At wx (w.heap.size + 1 + 1) (fwdTo st L H f j) ∧ At wx b9 f ∧ Below (w.heap.size + 2) W0 wx) (fun _ _ i _ => t - (intOf i).toNat)
              case atStart => exact ⟨0, Nat.zero_le _, rfl, HA5.out, HA59.out, HB5.out⟩
              case round =>
                obtain ⟨j, hj, rfl, hAx, hA9x, hBx⟩ := hrel
                have hzx := hBx.size
                by_cases hlt : j < t
                · have hNx := hN.below (HW.out.bel.trans (hBx.mono (by omega)))
                  have hc6 := (hBx.cell (p := ⟨w.heap.size, 6, none⟩) (by show w.heap.size < w.heap.size + 2; omega)).trans HW.out.st
                  have hc3 := (hBx.cell (p := ⟨w.heap.size, 3, none⟩) (by show w.heap.size < w.heap.size + 2; omega)).trans HW.out.dl
                  have hc4 := (hBx.cell (p := ⟨w.heap.size, 4, none⟩) (by show w.heap.size < w.heap.size + 2; omega)).trans HW.out.dh
                  have hbj := fwdTo_bnd HST.out hdr (by omega) HBF.out j
                  obtain ⟨h, hh⟩ : ∃ h, h = fwdTo st L H f j := ⟨_, rfl⟩
                  have hnext : fwdTo st L H f (j + 1) = putS h (j + 1) (bothS (h (j + 1)) ⟨(h j).lo + stAt st j + L, (h j).hi + stAt st j + H⟩) := by rw [hh]; rfl
                  rw [← hh] at hAx hbj
                  have hc21 := hAx.lo j (by omega)
                  have hc22 := hAx.hi j (by omega)
                  have hc23 := hAx.lo (j + 1) (by omega)
                  have hc24 := hAx.hi (j + 1) (by omega)
                  have hbs := HST.out j
                  have hbj := hbj j
                  obtain ⟨p0, hp0⟩ : ∃ p0, p0 = (h j).lo := ⟨_, rfl⟩
                  obtain ⟨p1, hp1⟩ : ∃ p1, p1 = (h j).hi := ⟨_, rfl⟩
                  obtain ⟨q0, hq0⟩ : ∃ q0, q0 = (h (j + 1)).lo := ⟨_, rfl⟩
                  obtain ⟨q1, hq1⟩ : ∃ q1, q1 = (h (j + 1)).hi := ⟨_, rfl⟩
                  obtain ⟨s, hs⟩ : ∃ s, s = stAt st j := ⟨_, rfl⟩
                  have hste := steer_any j w.heap.size a n c st wr hc6 hNx
                  rw [← hs] at hste
                  rw [← hs, ← hp0, ← hp1] at hnext
                  rw [← hp0] at hc21
                  rw [← hp1] at hc22
                  rw [← hq0] at hc23
                  rw [← hq1] at hc24
                  rw [← hs] at hbs
                  rw [← hp0, ← hp1] at hbj
                  have HAX := Lib.hid hAx
                  have HA9X := Lib.hid hA9x
                  have HNE := Lib.hid hnext
                  have HQ0 := Lib.hid hq0
                  have HQ1 := Lib.hid hq1
                  have HBX := Lib.hid hBx
                  have hlt9 := hA9x.lt
                  clear hAx hA9x hnext hp0 hp1 hq0 hq1 hs hh hNx hBx
                  have hj0 : (0 : Int) ≤ (j : Int) := by omega
                  have hj1 : (j : Int) < 61 := by omega
                  have hj2 : (0 : Int) ≤ (j : Int) + 1 := by omega
                  have hj3 : (j : Int) + 1 < 61 := by omega
                  have hwr1 : IntKind.i64.wrap ((j : Int) + 1) = (j : Int) + 1 := IntWalk.i64_in _ (by constructor <;> omega)
                  have hwr2 : IntKind.i64.wrap (p0 + s) = p0 + s := IntWalk.i64_in _ (by constructor <;> omega)
                  have hwr3 : IntKind.i64.wrap (p0 + s + L) = p0 + s + L := IntWalk.i64_in _ (by constructor <;> omega)
                  have hwr4 : IntKind.i64.wrap (p1 + s) = p1 + s := IntWalk.i64_in _ (by constructor <;> omega)
                  have hwr5 : IntKind.i64.wrap (p1 + s + H) = p1 + s + H := IntWalk.i64_in _ (by constructor <;> omega)
                  have hx1 : w.heap.size + 1 + 1 < wr.heap.size := by omega
                  have hx0 : w.heap.size < wr.heap.size := by omega
                  go_wp2_with (go_at_call 89; refine hste.mono ?_; rintro e w' ⟨rfl, rfl⟩)
                  rw [load_later 58]
                  go_region_held3 (fun W1 : World => W1.cell? ⟨w.heap.size, 3, none⟩ = some (.int .i64 L) ∧ W1.cell? ⟨w.heap.size, 4, none⟩ = some (.int .i64 H) ∧ W1.cell? ⟨w.heap.size + 1 + 1, j * 2, none⟩ = some (.int .i64 p0) ∧ W1.cell? ⟨w.heap.size + 1 + 1, j * 2 + 1, none⟩ = some (.int .i64 p1)) (first | with_reducible exact four_below hq2 hb2 | (simp [go_sem, *]; done) | (simp [go_sem, *]; omega))
                    (first | (go_at_call 88; rename_i hq2 _ _; refine (both_any _ _ _ _ _).mono ?_; rintro e w3 ⟨rfl, hb2⟩; have hB3 := below_call ((Below.refl _ _).drew) hb2; have hat3 := HAX.out.below hB3; have hff1 := hat3.free ((j + 1) * 2) (by omega); have hff2 := hat3.free ((j + 1) * 2 + 1) (by omega); have hcc1 := hat3.lo (j + 1) (by omega); have hcc2 := hat3.hi (j + 1) (by omega); rw [← HQ0.out] at hcc1; rw [← HQ1.out] at hcc2; have HB3 := Lib.hid hB3; have HA3 := Lib.hid hat3; clear hB3 hat3; have hz4 := hb2.size; simp at hz4; have hz5 : w.heap.size + 1 + 1 < w3.heap.size := (by omega); have hz6 : w.heap.size < w3.heap.size := (by omega)))
                  go_wp2_with fail
                  go_roundw
                  case rel =>
                    refine ⟨j + 1, by omega, by go_num, ?_, ?_, ?_⟩
                    · rw [HNE.out]
                      have := HA3.out.set (j + 1) (by omega) (max q0 (p0 + s + L)) (min q1 (p1 + s + H))
                      rw [HQ0.out, HQ1.out] at this ⊢
                      exact this
                    · exact (HA9X.out.below HB3.out).apart (by omega) ((j + 1) * 2) [_, _]
                    · refine Below.setCell (Below.setCell (HBX.out.trans (HB3.out.mono (by omega))) ?_ _) ?_ _
                      · show w.heap.size + 2 ≤ w.heap.size + 1 + 1; omega
                      · show w.heap.size + 2 ≤ w.heap.size + 1 + 1; omega
                  case measure => simp [intOf]; omega
                · obtain rfl : t = j := by omega
                  have hc5 := (hBx.cell (p := ⟨w.heap.size, 5, none⟩) (by show w.heap.size < w.heap.size + 2; omega)).trans HW.out.tk
                  have hbj := fwdTo_bnd HST.out hdr (by omega) HBF.out t
                  obtain ⟨h, hh⟩ : ∃ h, h = fwdTo st L H f t := ⟨_, rfl⟩
                  rw [← hh] at hAx hbj
                  have HH := Lib.hid hh
                  have HAX := Lib.hid hAx
                  have HA9X := Lib.hid hA9x
                  have HBX := Lib.hid hBx
                  have HBJ := Lib.hid hbj
                  clear hh hAx hA9x hBx hbj
                  go_wp2_with fail
                  go_loopw [12, 13] (fun v _ wx => ∃ i : Nat, i ≤ t ∧ v = .int .i64 ((t : Int) - 1 - i) ∧ At wx (w.heap.size + 1 + 1) (bwdTo st L H t h i) ∧ At wx b9 f ∧ Below (w.heap.size + 2) W0 wx) (fun v _ _ => (intOf v + 1).toNat)
                  case atStart => exact ⟨0, Nat.zero_le _, by go_num, HAX.out, HA9X.out, HBX.out⟩
                  case round =>
                    obtain ⟨i, hi, rfl, hAx, hA9x, hBx⟩ := hrel
                    have hzx := hBx.size
                    by_cases hlt : i < t
                    · obtain ⟨q, hq⟩ : ∃ q : Nat, t = q + 1 + i := ⟨t - 1 - i, by omega⟩
                      rw [show (t : Int) - 1 - i = (q : Int) by omega]
                      have hNx := hN.below (HW.out.bel.trans (hBx.mono (by omega)))
                      have hc6 := (hBx.cell (p := ⟨w.heap.size, 6, none⟩) (by show w.heap.size < w.heap.size + 2; omega)).trans HW.out.st
                      have hc3 := (hBx.cell (p := ⟨w.heap.size, 3, none⟩) (by show w.heap.size < w.heap.size + 2; omega)).trans HW.out.dl
                      have hc4 := (hBx.cell (p := ⟨w.heap.size, 4, none⟩) (by show w.heap.size < w.heap.size + 2; omega)).trans HW.out.dh
                      have hbj := bwdTo_bnd HST.out hdr (by omega) t HBJ.out i
                      obtain ⟨h', hh⟩ : ∃ h', h' = bwdTo st L H t h i := ⟨_, rfl⟩
                      have hnext : bwdTo st L H t h (i + 1) = putS h' q (bothS (h' q) ⟨(h' (q + 1)).lo - stAt st q - H, (h' (q + 1)).hi - stAt st q - L⟩) := by
                        rw [hh, bwdTo, show t - (i + 1) = q by omega]; rfl
                      rw [← hh] at hAx hbj
                      have hc21 := hAx.lo (q + 1) (by omega)
                      have hc22 := hAx.hi (q + 1) (by omega)
                      have hc23 := hAx.lo q (by omega)
                      have hc24 := hAx.hi q (by omega)
                      have hbs := HST.out q
                      have hbj := hbj (q + 1)
                      obtain ⟨p0, hp0⟩ : ∃ p0, p0 = (h' (q + 1)).lo := ⟨_, rfl⟩
                      obtain ⟨p1, hp1⟩ : ∃ p1, p1 = (h' (q + 1)).hi := ⟨_, rfl⟩
                      obtain ⟨q0, hq0⟩ : ∃ q0, q0 = (h' q).lo := ⟨_, rfl⟩
                      obtain ⟨q1, hq1⟩ : ∃ q1, q1 = (h' q).hi := ⟨_, rfl⟩
                      obtain ⟨s, hs⟩ : ∃ s, s = stAt st q := ⟨_, rfl⟩
                      have hste := steer_any q w.heap.size a n c st wr hc6 hNx
                      rw [← hs] at hste
                      rw [← hs, ← hp0, ← hp1] at hnext
                      rw [← hp0] at hc21
                      rw [← hp1] at hc22
                      rw [← hq0] at hc23
                      rw [← hq1] at hc24
                      rw [← hs] at hbs
                      rw [← hp0, ← hp1] at hbj
                      have HAX2 := Lib.hid hAx
                      have HA9X2 := Lib.hid hA9x
                      have HNE := Lib.hid hnext
                      have HQ0 := Lib.hid hq0
                      have HQ1 := Lib.hid hq1
                      have HBX2 := Lib.hid hBx
                      have HQ := Lib.hid hq
                      have hlt9 := hA9x.lt
                      have hj0 : (0 : Int) ≤ (q : Int) := by omega
                      have hj1 : (q : Int) < 61 := by omega
                      have hj2 : (0 : Int) ≤ (q : Int) + 1 := by omega
                      have hj3 : (q : Int) + 1 < 61 := by omega
                      have hqi : q + 1 < 61 := by omega
                      have hwr0 : IntKind.i64.wrap ((q : Int) - 1) = (q : Int) - 1 := IntWalk.i64_in _ (by constructor <;> omega)
                      have hwr1 : IntKind.i64.wrap ((q : Int) + 1) = (q : Int) + 1 := IntWalk.i64_in _ (by constructor <;> omega)
                      have hwr2 : IntKind.i64.wrap (p0 - s) = p0 - s := IntWalk.i64_in _ (by constructor <;> omega)
                      have hwr3 : IntKind.i64.wrap (p0 - s - H) = p0 - s - H := IntWalk.i64_in _ (by constructor <;> omega)
                      have hwr4 : IntKind.i64.wrap (p1 - s) = p1 - s := IntWalk.i64_in _ (by constructor <;> omega)
                      have hwr5 : IntKind.i64.wrap (p1 - s - L) = p1 - s - L := IntWalk.i64_in _ (by constructor <;> omega)
                      have hx1 : w.heap.size + 1 + 1 < wr.heap.size := by omega
                      have hx0 : w.heap.size < wr.heap.size := by omega
                      clear hAx hA9x hnext hp0 hp1 hq0 hq1 hs hh hNx hBx hq
                      go_wp2_with (go_at_call 89; refine hste.mono ?_; rintro e w' ⟨rfl, rfl⟩)
                      rw [load_later 98]
                      go_region_held3 (fun W1 : World => W1.cell? ⟨w.heap.size, 3, none⟩ = some (.int .i64 L) ∧ W1.cell? ⟨w.heap.size, 4, none⟩ = some (.int .i64 H) ∧ W1.cell? ⟨w.heap.size + 1 + 1, (q + 1) * 2, none⟩ = some (.int .i64 p0) ∧ W1.cell? ⟨w.heap.size + 1 + 1, (q + 1) * 2 + 1, none⟩ = some (.int .i64 p1)) (first | with_reducible exact four_below hq2 hb2 | (simp [go_sem, *]; done) | (simp [go_sem, *]; omega))
                        (first | (go_at_call 88; rename_i hq2 _ _; refine (both_any _ _ _ _ _).mono ?_; rintro e w3 ⟨rfl, hb2⟩; have hB3 := below_call ((Below.refl _ _).drew) hb2; have hat3 := HAX2.out.below hB3; have hff1 := hat3.free (q * 2) (by omega); have hff2 := hat3.free (q * 2 + 1) (by omega); have hcc1 := hat3.lo q (by omega); have hcc2 := hat3.hi q (by omega); rw [← HQ0.out] at hcc1; rw [← HQ1.out] at hcc2; have HB3 := Lib.hid hB3; have HA3 := Lib.hid hat3; clear hB3 hat3; have hz4 := hb2.size; simp at hz4; have hz5 : w.heap.size + 1 + 1 < w3.heap.size := (by omega); have hz6 : w.heap.size < w3.heap.size := (by omega)))
                      go_wp2_with fail
                      go_roundw
                      case rel =>
                        refine ⟨i + 1, by omega, by congr 1; have := HQ.out; omega, ?_, ?_, ?_⟩
                        · rw [HNE.out]
                          have := HA3.out.set q (by omega) (max q0 (p0 - s - H)) (min q1 (p1 - s - L))
                          rw [HQ0.out, HQ1.out] at this ⊢
                          exact this
                        · exact (HA9X2.out.below HB3.out).apart (by omega) (q * 2) [_, _]
                        · refine Below.setCell (Below.setCell (HBX2.out.trans (HB3.out.mono (by omega))) ?_ _) ?_ _
                          · show w.heap.size + 2 ≤ w.heap.size + 1 + 1; omega
                          · show w.heap.size + 2 ≤ w.heap.size + 1 + 1; omega
                      case measure => simp [intOf] <;> omega
                    · have hit : i = t := by omega
                      have hfin : bwdTo st L H t h i = R := by rw [hit, HH.out, ← HRF.out]; rfl
                      rw [hfin] at hAx
                      rw [show (t : Int) - 1 - i = -1 by omega]
                      have hc5 := (hBx.cell (p := ⟨w.heap.size, 5, none⟩) (by show w.heap.size < w.heap.size + 2; omega)).trans HW.out.tk
                      have HAX2 := Lib.hid hAx
                      have HA9X2 := Lib.hid hA9x
                      have HBX2 := Lib.hid hBx
                      have HRES := Lib.hid (HW.out.res.belowN (by omega) hBx)
                      have hwr1 : IntKind.i64.wrap ((t : Int) + 1) = (t : Int) + 1 := IntWalk.i64_in _ (by constructor <;> omega)
                      clear hfin hAx hA9x hBx
                      go_wp2_with fail
                      go_step3
                      go_wp2_with fail
                      go_loopw [14, 130] (fun _ v wx => ∃ m : Nat, m ≤ t + 1 ∧ v = .int .i64 m ∧ (∀ k, k < m → (R k).lo ≤ (R k).hi) ∧ At wx (w.heap.size + 1 + 1) R ∧ At wx b9 f ∧ At wx (w.heap.size + 1) zeroF ∧ Below (w.heap.size + 2) W0 wx) (fun _ v _ => t + 1 - (intOf v).toNat)
                      case atStart => exact ⟨0, Nat.zero_le _, rfl, fun k hk => by omega, HAX2.out, HA9X2.out, HRES.out, HBX2.out⟩
                      case round =>
                        obtain ⟨m, hm, rfl, hok, hAx, hA9x, hAr, hBx⟩ := hrel
                        have hzx := hBx.size
                        by_cases hlt : m < t + 1
                        · have hc21 := hAx.lo m (by omega)
                          have hc22 := hAx.hi m (by omega)
                          obtain ⟨p0, hp0⟩ : ∃ p0, p0 = (R m).lo := ⟨_, rfl⟩
                          obtain ⟨p1, hp1⟩ : ∃ p1, p1 = (R m).hi := ⟨_, rfl⟩
                          rw [← hp0] at hc21
                          rw [← hp1] at hc22
                          have hj0 : (0 : Int) ≤ (m : Int) := by omega
                          have hj1 : (m : Int) < 61 := by omega
                          have hlt' : (m : Int) < (t : Int) + 1 := by omega
                          have HAX3 := Lib.hid hAx
                          have HA9X3 := Lib.hid hA9x
                          have HAR := Lib.hid hAr
                          have HOK := Lib.hid hok
                          have HBX3 := Lib.hid hBx
                          have HP0 := Lib.hid hp0
                          have HP1 := Lib.hid hp1
                          clear hAx hA9x hAr hBx hok hp0 hp1
                          by_cases hpp : p0 ≤ p1
                          · go_wp2_with fail
                            go_region_held3 (fun W1 : World => W1.cell? ⟨w.heap.size + 1 + 1, m * 2, none⟩ = some (.int .i64 p0) ∧ W1.cell? ⟨w.heap.size + 1 + 1, m * 2 + 1, none⟩ = some (.int .i64 p1)) (first | (simp [go_sem, *]; done)) (fail)
                            go_wp2_with fail
                            go_roundw
                            case rel =>
                              refine ⟨m + 1, by omega, by go_num, fun k hk => ?_, HAX3.out.below ((Below.refl _ _).drew), HA9X3.out.below ((Below.refl _ _).drew), HAR.out.below ((Below.refl _ _).drew), HBX3.out.drew⟩
                              by_cases hkm : k = m
                              · rw [hkm, ← HP0.out, ← HP1.out]; exact hpp
                              · exact HOK.out k (by omega)
                            case measure => simp [intOf] <;> omega
                          · have hbad : okF t R = false := by
                              rw [← Bool.not_eq_true, okF, List.all_eq_true]
                              intro ha
                              have h1 := ha m (by simpa using (by omega : m < t + 1))
                              simp only [decide_eq_true_eq] at h1
                              rw [← HP0.out, ← HP1.out] at h1
                              exact hpp h1
                            have HBAD := Lib.hid hbad
                            have hAd : At wr.drew (w.heap.size + 1 + 1) R := HAX3.out.below ((Below.refl _ _).drew)
                            have hRd : At wr.drew (w.heap.size + 1) zeroF := HAR.out.below ((Below.refl _ _).drew)
                            have HAD := Lib.hid hAd
                            have HRD := Lib.hid hRd
                            have HBF6 : Hid (Below w.heap.size w (wr.drew.setCells (w.heap.size + 1) 0 (encL R).toArray.toList)) := Lib.hid (below_setCells _ _ _ ((HW.out.bel.trans (HBX3.out.mono (by omega))).drew) (by omega))
                            have HLV2 : Shut ((loadVar 96 ⟨w.heap.size + 1, 0, none⟩).run Tryd.prog (wr.drew.setCells (w.heap.size + 1) 0 (encL R).toArray.toList) = .ok (.agg (encL R).toArray) (wr.drew.setCells (w.heap.size + 1) 0 (encL R).toArray.toList)) := ⟨loadVar_At (hRd.store R)⟩
                            clear hAd hRd hbad
                            go_wp2_with fail
                            go_region_held3 (fun W1 : World => W1.cell? ⟨w.heap.size + 1 + 1, m * 2, none⟩ = some (.int .i64 p0) ∧ W1.cell? ⟨w.heap.size + 1 + 1, m * 2 + 1, none⟩ = some (.int .i64 p1)) (first | (simp [go_sem, *]; done)) (fail)
                            go_wp2_with (first | (refine wpList_load_mid rfl 96 _ rfl (w.heap.size + 1 + 1) 0 rfl (encL R) _ HAD.out.1 Tryd.underlying96 rfl (size96 R) ?_) | (refine wpList_store_mid rfl 96 _ _ rfl (w.heap.size + 1) 0 (encL R).toArray rfl rfl (HRD.out.there R) (size96a R) (all_oneCell_toArray (encL_one R)) ?_; generalize wr.drew.setCells (w.heap.size + 1) 0 (encL R).toArray.toList = W6 at *))
                            rw [Exit.noGoto_ret]
                            go_wp2_with fail
                            have hlv := HLV2.out
                            refine bodyPost_ret (v := .tuple #[.agg (encL R).toArray, .bool false]) (by have ha : ∀ W : World, Sem.run Tryd.prog (asAddr (Value.pointer (some ⟨w.heap.size + 1, 0, none⟩))) W = .ok ⟨w.heap.size + 1, 0, none⟩ W := fun _ => rfl; simp [results, Tryd.results83, Sem.run_bind, hlv, ha]) rfl ?_
                            rw [HBAD.out]
                            exact ⟨rfl, HBF6.out⟩
                        · have hall : okF t R = true := by
                            rw [okF, List.all_eq_true]
                            intro k hk
                            have hk' : k < t + 1 := by simpa using hk
                            simp only [decide_eq_true_eq]
                            exact hok k (by omega)
                          have HALLR := Lib.hid hall
                          have hlt' : ¬ ((m : Int) < (t : Int) + 1) := by omega
                          have hnew := At.new wr
                          have HNEW := Lib.hid hnew
                          have HN9 := Lib.hid (hnew.store f)
                          have hbn : Below wr.heap.size wr ((wr.alloc (.cells Tryd.zeroCells96 96)).setCells wr.heap.size 0 (encL f).toArray.toList) := below_setCells _ _ _ ((Below.refl _ _).alloc (Nat.le_refl _) _) (Nat.le_refl _)
                          have HN9 : Hid (At ((wr.alloc (.cells Tryd.zeroCells96 96)).setCells wr.heap.size 0 (encL f).toArray.toList) wr.heap.size f) := Lib.hid (hnew.store f)
                          have HBN := Lib.hid hbn
                          have HAX3 := Lib.hid (hAx.below hbn)
                          have HA9X3 := Lib.hid hA9x
                          have HBX3 := Lib.hid hBx
                          clear hAx hA9x hAr hBx hok hall hnew hbn
                          go_wp2_with (first | (refine wpList_load_mid rfl 96 _ rfl b9 0 rfl (encL f) _ HA9X3.out.1 Tryd.underlying96 rfl (size96 f) ?_) | (refine wpList_store_mid rfl 96 _ _ rfl wr.heap.size 0 (encL f).toArray rfl rfl (HNEW.out.there f) (size96a f) (all_oneCell_toArray (encL_one f)) ?_; generalize (wr.alloc (.cells Tryd.zeroCells96 96)).setCells wr.heap.size 0 (encL f).toArray.toList = W6 at *))
                          have HS3' : (gk = 3 ∧ eqF f g = false) ∨ (gk = 2 ∧ f = R ∧ okF t R = true) := by
                            rcases HS3.out with h1 | h1 | ⟨_, h2, _, h4⟩
                            · exact .inl h1
                            · exact .inr h1
                            · exfalso
                              have : eqF f g = true := by rw [h2, h4]; exact eqF_iff.2 fun _ _ => rfl
                              rw [he] at this
                              cases this
                          rcases HS3' with ⟨h3, _⟩ | ⟨h3, h4, _⟩
                          · go_roundg 2
                            case measure => omega
                            case rel => exact ⟨R, f, wr.heap.size, rfl, by omega, HAX3.out, HN9.out, HBX3.out.trans (HBN.out.mono (by omega)), HTW.out, HBR.out, .inr (.inl ⟨rfl, rfl, HALLR.out⟩)⟩
                          · go_roundg 1
                            case measure => omega
                            case rel => exact ⟨R, f, wr.heap.size, rfl, by omega, HAX3.out, HN9.out, HBX3.out.trans (HBN.out.mono (by omega)), HTW.out, HBR.out, .inr (.inr ⟨rfl, rfl, HALLR.out, h4⟩)⟩
            · rw [he] at heq
              have hfR : f = R ∧ okF t R = true := by
                rcases HS3.out with ⟨_, h2⟩ | ⟨_, h2, h3⟩ | ⟨_, h2, h3, _⟩
                · rw [he] at h2; cases h2
                · exact ⟨h2, h3⟩
                · exact ⟨h2, h3⟩
              have HFR := Lib.hid hfR
              have hres := HW.out.res.belowN (show w.heap.size + 1 < w.heap.size + 2 by omega) hB4
              have HRES := Lib.hid hres
              have hr6 := hres.store f
              have HLV := Lib.hid (loadVar_At hr6)
              have HBF6 : Hid (Below w.heap.size w (wr.setCells (w.heap.size + 1) 0 (encL f).toArray.toList)) := Lib.hid (below_setCells _ _ _ (HW.out.bel.trans (hB4.mono (by omega))) (by omega))
              have HLV2 : Shut ((loadVar 96 ⟨w.heap.size + 1, 0, none⟩).run Tryd.prog (wr.setCells (w.heap.size + 1) 0 (encL f).toArray.toList) = .ok (.agg (encL f).toArray) (wr.setCells (w.heap.size + 1) 0 (encL f).toArray.toList)) := ⟨loadVar_At hr6⟩
              clear hfR hres hr6 HLV
              go_wp2_with (first | (refine wpList_load_mid rfl 96 _ rfl (w.heap.size + 1 + 1) 0 rfl (encL f) _ HAT.out.1 Tryd.underlying96 rfl (size96 f) ?_) | (refine wpList_load_mid rfl 96 _ rfl b9 0 rfl (encL g) _ HA9.out.1 Tryd.underlying96 rfl (size96 g) ?_) | (refine wpList_store_mid rfl 96 _ _ rfl (w.heap.size + 1) 0 (encL f).toArray rfl rfl (HRES.out.there f) (size96a f) (all_oneCell_toArray (encL_one f)) ?_; generalize wr.setCells (w.heap.size + 1) 0 (encL f).toArray.toList = W6 at *))
              have hlv := HLV2.out
              refine bodyPost_ret (v := .tuple #[.agg (encL f).toArray, .bool true]) (by have ha : ∀ W : World, Sem.run Tryd.prog (asAddr (Value.pointer (some ⟨w.heap.size + 1, 0, none⟩))) W = .ok ⟨w.heap.size + 1, 0, none⟩ W := fun _ => rfl; simp [results, Tryd.results83, Sem.run_bind, hlv, ha]) rfl ?_
              rw [HFR.out.2, HFR.out.1]
              exact ⟨rfl, HBF6.out⟩

end Go.Proofs.YtidnopmjhhmedaaDoor
end

section
/- What is asked of a book. -/
set_option linter.unusedSimpArgs false
set_option linter.unusedVariables false
namespace Go.Proofs.YtidnopmjhhmedaaDoor
open Go.RowKit
attribute [local go_sem] Oper.semAt_some

theorem Check_any (F S J L H T : Int) (a : Option Addr) (n c : Nat) (a' : Option Addr) (n' c' : Nat) (st : List Int) (lk : List Lk) (w : World) (hN : Nums w a n st) (hK : Looks w a' n' lk) :
    Calls Tryd.prog 29 #[.agg #[.int .i64 F, .int .i64 S, .int .i64 J, .int .i64 L, .int .i64 H, .int .i64 T, .slice a n c, .slice a' n' c']] w fun e w' => e = .returned (.int .i64 (if checkB F S J L H T st lk then 0 else 40)) ∧ Below w.heap.size w w' := by
  cases hr : isRuleB F S J L H
  · have : checkB F S J L H T st lk = false := by simp [checkB, hr]
    rw [this]
    exact Check_no F S J L H T a n c a' n' c' lk w hK hr
  · exact Check_is F S J L H T a n c a' n' c' st lk w hN hK hr _ rfl

theorem zero_size : (Tryd.prog.info? 96).map (·.size) = some Tryd.zeroCells96.size := by kernel_rfl
theorem zero_one : ∀ v ∈ Tryd.zeroCells96.toList, v.oneCell' = true := by rw [zeroL_is]; exact encL_one _
theorem zero_there {w : World} {b : Nat} {f : Nat → Sp} (h : At w b f) : w.there b 0 Tryd.zeroCells96.size := by rw [zeroCells_is]; exact h.there _
theorem store_zero {w : World} {b : Nat} {f : Nat → Sp} (h : At w b f) : At (w.setCells b 0 Tryd.zeroCells96.toList) b zeroF := by rw [zeroL_is]; exact h.store _
theorem asAddr_is (b : Nat) (W : World) : Sem.run Tryd.prog (asAddr (Value.pointer (some ⟨b, 0, none⟩))) W = .ok ⟨b, 0, none⟩ W := rfl

/-- A book's cells. -/
abbrev BookAt (W : World) (b : Nat) (F S J L H T : Int) (a : Option Addr) (n c : Nat) (a' : Option Addr) (n' c' : Nat) : Prop :=
  W.cell? ⟨b, 0, none⟩ = some (.int .i64 F) ∧ W.cell? ⟨b, 1, none⟩ = some (.int .i64 S) ∧ W.cell? ⟨b, 2, none⟩ = some (.int .i64 J) ∧ W.cell? ⟨b, 3, none⟩ = some (.int .i64 L) ∧ W.cell? ⟨b, 4, none⟩ = some (.int .i64 H) ∧
  W.cell? ⟨b, 5, none⟩ = some (.int .i64 T) ∧ W.cell? ⟨b, 6, none⟩ = some (.slice a n c) ∧ W.cell? ⟨b, 7, none⟩ = some (.slice a' n' c')
theorem BookAt.new (w : World) (F S J L H T : Int) (a : Option Addr) (n c : Nat) (a' : Option Addr) (n' c' : Nat) :
    BookAt (w.alloc (.cells #[.int .i64 F, .int .i64 S, .int .i64 J, .int .i64 L, .int .i64 H, .int .i64 T, .slice a n c, .slice a' n' c'] 44)) w.heap.size F S J L H T a n c a' n' c' := by
  unfold BookAt
  refine ⟨?_, ?_, ?_, ?_, ?_, ?_, ?_, ?_⟩ <;> simp [go_sem]
theorem BookAt.below {W W1 : World} {b : Nat} {F S J L H T : Int} {a : Option Addr} {n c : Nat} {a' : Option Addr} {n' c' : Nat} (h : BookAt W b F S J L H T a n c a' n' c') (hb : Below W.heap.size W W1) : BookAt W1 b F S J L H T a n c a' n' c' :=
  ⟨cell_below hb h.1, cell_below hb h.2.1, cell_below hb h.2.2.1, cell_below hb h.2.2.2.1, cell_below hb h.2.2.2.2.1, cell_below hb h.2.2.2.2.2.1, cell_below hb h.2.2.2.2.2.2.1, cell_below hb h.2.2.2.2.2.2.2⟩

/-- The world in which asked begins. -/
noncomputable def askW (F S J L H T : Int) (a : Option Addr) (n c : Nat) (a' : Option Addr) (n' c' : Nat) (w : World) : World :=
  (w.alloc (.cells #[.int .i64 F, .int .i64 S, .int .i64 J, .int .i64 L, .int .i64 H, .int .i64 T, .slice a n c, .slice a' n' c'] 44)).alloc (.cells Tryd.zeroCells96 96)
structure AskW (F S J L H T : Int) (a : Option Addr) (n c : Nat) (a' : Option Addr) (n' c' : Nat) (w W : World) : Prop where
  bel : Below w.heap.size w W
  size : W.heap.size = w.heap.size + 2
  book : BookAt W w.heap.size F S J L H T a n c a' n' c'
  res : At W (w.heap.size + 1) zeroF
theorem askW_is (F S J L H T : Int) (a : Option Addr) (n c : Nat) (a' : Option Addr) (n' c' : Nat) (w : World) : AskW F S J L H T a n c a' n' c' w (askW F S J L H T a n c a' n' c' w) := by
  unfold askW
  refine ⟨?_, by simp, ?_, ?_⟩
  · repeat with_reducible (first | exact Below.refl _ _ | refine Below.alloc ?_ (by simp <;> omega) _)
  · exact (BookAt.new w F S J L H T a n c a' n' c').below ((Below.refl _ _).alloc (Nat.le_refl _) _)
  · have h := At.new (w.alloc (.cells #[.int .i64 F, .int .i64 S, .int .i64 J, .int .i64 L, .int .i64 H, .int .i64 T, .slice a n c, .slice a' n' c'] 44))
    rw [World.size_alloc] at h
    exact h

set_option maxRecDepth 100000 in
set_option maxHeartbeats 1000000 in
theorem asked_bad (F S J L H T : Int) (a : Option Addr) (n c : Nat) (a' : Option Addr) (n' c' : Nat) (st : List Int) (lk : List Lk) (ok : Bool) (w : World) (hN : Nums w a n st) (hK : Looks w a' n' lk) (hb : checkB F S J L H T st lk = false) :
    Calls Tryd.prog 71 #[.agg #[.int .i64 F, .int .i64 S, .int .i64 J, .int .i64 L, .int .i64 H, .int .i64 T, .slice a n c, .slice a' n' c'], .bool ok] w fun e w' => e = .returned (.tuple #[.agg (encL zeroF).toArray, .int .i64 40]) ∧ Below w.heap.size w w' := by
  have hW := askW_is F S J L H T a n c a' n' c' w
  have hNa := hN.below hW.bel
  have hKa := hK.below hW.bel
  have hck := Check_any F S J L H T a n c a' n' c' st lk _ hNa hKa
  simp only [hb, if_true, Bool.false_eq_true, if_false] at hck
  go_enter Tryd.func71, Tryd.ntmps71
  go_wp2_with (fail)
  change Calls Tryd.prog 29 _ (askW F S J L H T a n c a' n' c' w) _
  generalize askW F S J L H T a n c a' n' c' w = W0 at *
  refine hck.mono ?_
  clear hck
  rintro e w1 ⟨rfl, hb1⟩
  have hsz := hW.size
  have hz1 := hb1.size
  have hres := hW.res.below hb1
  have hBk := hW.book.below hb1
  obtain ⟨hk0, hk1, hk2, hk3, hk4, hk5, hk6, hk7⟩ := hBk
  have hbw : Below w.heap.size w w1 := below_call hW.bel hb1
  have HRES := Lib.hid hres
  have HBW := Lib.hid hbw
  have HN := Lib.hid (hN.below hbw)
  have HK := Lib.hid (hK.below hbw)
  have hlv := loadVar_At (store_zero hres)
  have HLV : Shut ((loadVar 96 ⟨w.heap.size + 1, 0, none⟩).run Tryd.prog (w1.setCells (w.heap.size + 1) 0 Tryd.zeroCells96.toList) = .ok (.agg (encL zeroF).toArray) (w1.setCells (w.heap.size + 1) 0 Tryd.zeroCells96.toList)) := ⟨hlv⟩
  have HB6 : Shut (Below w.heap.size w (w1.setCells (w.heap.size + 1) 0 Tryd.zeroCells96.toList)) := ⟨below_setCells _ _ _ hbw (by omega)⟩
  clear hlv hres hbw hNa hKa hN hK hb hW hb1
  go_wp2_with (first | (refine wpList_store_mid rfl 96 _ _ rfl (w.heap.size + 1) 0 Tryd.zeroCells96 rfl rfl (zero_there HRES.out) zero_size (Array.all_eq_true'.2 fun v hv => zero_one v (Array.mem_toList_iff.2 hv)) ?_; generalize w1.setCells (w.heap.size + 1) 0 Tryd.zeroCells96.toList = W6 at *))
  have hlv := HLV.out
  refine bodyPost_ret (v := .tuple #[.agg (encL zeroF).toArray, .int .i64 40]) (by simp [results, Tryd.results71, Sem.run_bind, hlv, asAddr_is]) rfl ⟨rfl, HB6.out⟩

set_option maxRecDepth 100000 in
set_option maxHeartbeats 1000000 in
theorem asked_ask (F S J L H T : Int) (a : Option Addr) (n c : Nat) (a' : Option Addr) (n' c' : Nat) (st : List Int) (lk : List Lk) (w : World) (hN : Nums w a n st) (hK : Looks w a' n' lk) (hb : checkB F S J L H T st lk = true) :
    Calls Tryd.prog 71 #[.agg #[.int .i64 F, .int .i64 S, .int .i64 J, .int .i64 L, .int .i64 H, .int .i64 T, .slice a n c, .slice a' n' c'], .bool false] w fun e w' => e = .returned (.tuple #[.agg (encL zeroF).toArray, .int .i64 41]) ∧ Below w.heap.size w w' := by
  have hW := askW_is F S J L H T a n c a' n' c' w
  have hNa := hN.below hW.bel
  have hKa := hK.below hW.bel
  have hck := Check_any F S J L H T a n c a' n' c' st lk _ hNa hKa
  simp only [hb, if_true, Bool.false_eq_true, if_false] at hck
  go_enter Tryd.func71, Tryd.ntmps71
  go_wp2_with (fail)
  change Calls Tryd.prog 29 _ (askW F S J L H T a n c a' n' c' w) _
  generalize askW F S J L H T a n c a' n' c' w = W0 at *
  refine hck.mono ?_
  clear hck
  rintro e w1 ⟨rfl, hb1⟩
  have hsz := hW.size
  have hz1 := hb1.size
  have hres := hW.res.below hb1
  have hBk := hW.book.below hb1
  obtain ⟨hk0, hk1, hk2, hk3, hk4, hk5, hk6, hk7⟩ := hBk
  have hbw : Below w.heap.size w w1 := below_call hW.bel hb1
  have HRES := Lib.hid hres
  have HBW := Lib.hid hbw
  have HN := Lib.hid (hN.below hbw)
  have HK := Lib.hid (hK.below hbw)
  have hlv := loadVar_At (store_zero hres)
  have HLV : Shut ((loadVar 96 ⟨w.heap.size + 1, 0, none⟩).run Tryd.prog (w1.setCells (w.heap.size + 1) 0 Tryd.zeroCells96.toList) = .ok (.agg (encL zeroF).toArray) (w1.setCells (w.heap.size + 1) 0 Tryd.zeroCells96.toList)) := ⟨hlv⟩
  have HB6 : Shut (Below w.heap.size w (w1.setCells (w.heap.size + 1) 0 Tryd.zeroCells96.toList)) := ⟨below_setCells _ _ _ hbw (by omega)⟩
  clear hlv hres hbw hNa hKa hN hK hb hW hb1
  go_wp2_with (first | (refine wpList_store_mid rfl 96 _ _ rfl (w.heap.size + 1) 0 Tryd.zeroCells96 rfl rfl (zero_there HRES.out) zero_size (Array.all_eq_true'.2 fun v hv => zero_one v (Array.mem_toList_iff.2 hv)) ?_; generalize w1.setCells (w.heap.size + 1) 0 Tryd.zeroCells96.toList = W6 at *))
  have hlv := HLV.out
  refine bodyPost_ret (v := .tuple #[.agg (encL zeroF).toArray, .int .i64 41]) (by simp [results, Tryd.results71, Sem.run_bind, hlv, asAddr_is]) rfl ⟨rfl, HB6.out⟩

set_option maxRecDepth 100000 in
set_option maxHeartbeats 2000000 in
theorem asked_false (F S J L H : Int) (a : Option Addr) (n c : Nat) (a' : Option Addr) (n' c' : Nat) (st : List Int) (lk : List Lk) (t : Nat) (w : World) (hN : Nums w a n st) (hK : Looks w a' n' lk) (hb : checkB F S J L H t st lk = true) (hok : okF t (roundF st L H t (looksF lk)) = false) :
    Calls Tryd.prog 71 #[.agg #[.int .i64 F, .int .i64 S, .int .i64 J, .int .i64 L, .int .i64 H, .int .i64 t, .slice a n c, .slice a' n' c'], .bool true] w fun e w' => e = .returned (.tuple #[.agg (encL (zeroF)).toArray, .int .i64 42]) ∧ Below w.heap.size w w' := by
  have hb0 := hb
  obtain ⟨R, hR⟩ : ∃ R, R = roundF st L H t (looksF lk) := ⟨_, rfl⟩
  rw [← hR] at hok 
  have HR := Lib.hid hR
  clear hR
  have hW := askW_is F S J L H t a n c a' n' c' w
  have hNa := hN.below hW.bel
  have hKa := hK.below hW.bel
  have hck := Check_any F S J L H t a n c a' n' c' st lk _ hNa hKa
  simp only [hb, if_true, Bool.false_eq_true, if_false] at hck
  go_enter Tryd.func71, Tryd.ntmps71
  go_wp2_with (fail)
  change Calls Tryd.prog 29 _ (askW F S J L H t a n c a' n' c' w) _
  generalize askW F S J L H t a n c a' n' c' w = W0 at *
  refine hck.mono ?_
  clear hck
  rintro e w1 ⟨rfl, hb1⟩
  have hsz := hW.size
  have hz1 := hb1.size
  have hres := hW.res.below hb1
  have hBk := hW.book.below hb1
  obtain ⟨hk0, hk1, hk2, hk3, hk4, hk5, hk6, hk7⟩ := hBk
  have hbw : Below w.heap.size w w1 := below_call hW.bel hb1
  have HRES := Lib.hid hres
  have HBW := Lib.hid hbw
  have HN := Lib.hid (hN.below hbw)
  have HK := Lib.hid (hK.below hbw)
  have hlv := loadVar_At (store_zero hres)
  have HLV : Shut ((loadVar 96 ⟨w.heap.size + 1, 0, none⟩).run Tryd.prog (w1.setCells (w.heap.size + 1) 0 Tryd.zeroCells96.toList) = .ok (.agg (encL zeroF).toArray) (w1.setCells (w.heap.size + 1) 0 Tryd.zeroCells96.toList)) := ⟨hlv⟩
  have HB6 : Shut (Below w.heap.size w (w1.setCells (w.heap.size + 1) 0 Tryd.zeroCells96.toList)) := ⟨below_setCells _ _ _ hbw (by omega)⟩
  clear hlv hres hbw hNa hKa hN hK hb hW hb1
  have hbt := between_any F S J L H t a n c a' n' c' st lk w1 HN.out HK.out hb0
  rw [← HR.out, hok] at hbt
  clear hok
  clear hb0
  go_wp2_with fail
  refine hbt.mono ?_
  clear hbt
  rintro e w2 ⟨rfl, hb2⟩
  have hz2 := hb2.size
  have hres2 := HRES.out.below hb2
  have hbw2 := below_call HBW.out hb2
  have hnew := At.new w2
  have hNEW := Lib.hid hnew
  have hbn : Below w2.heap.size w2 ((w2.alloc (.cells Tryd.zeroCells96 96)).setCells w2.heap.size 0 (encL R).toArray.toList) := below_setCells _ _ _ ((Below.refl _ _).alloc (Nat.le_refl _) _) (Nat.le_refl _)
  have hr4 := hres2.below hbn
  have h74 : At ((w2.alloc (.cells Tryd.zeroCells96 96)).setCells w2.heap.size 0 (encL R).toArray.toList) w2.heap.size R := hnew.store R
  have hbw4 := below_call hbw2 hbn
  have hz4 := hbn.size
  have HR4 := Lib.hid hr4
  have H74 := Lib.hid h74
  have HBW4 := Lib.hid hbw4
  clear HLV HB6 HN HK hres2 hbw2 hnew hbn hr4 h74 hbw4 HBW HRES
  go_upto_region 7 with ((refine wpList_store_mid rfl 96 (Operand.tmp 7) (Operand.tmp 21) rfl w2.heap.size 0 (encL R).toArray rfl rfl (hNEW.out.there R) (size96a R) (all_oneCell_toArray (encL_one R)) ?_; generalize (w2.alloc (.cells Tryd.zeroCells96 96)).setCells w2.heap.size 0 (encL R).toArray.toList = W4 at *; have HLV : Shut ((loadVar 96 ⟨w.heap.size + 1, 0, none⟩).run Tryd.prog (W4.setCells (w.heap.size + 1) 0 Tryd.zeroCells96.toList) = .ok (.agg (encL zeroF).toArray) (W4.setCells (w.heap.size + 1) 0 Tryd.zeroCells96.toList)) := ⟨loadVar_At (store_zero HR4.out)⟩; have HB6 : Shut (Below w.heap.size w (W4.setCells (w.heap.size + 1) 0 Tryd.zeroCells96.toList)) := ⟨below_setCells _ _ _ HBW4.out (by omega)⟩))
  go_upto_region 8 with (fail)
  go_wp2_with (first | (refine wpList_store_mid rfl 96 (Operand.tmp 4) (Operand.tmp 25) rfl (w.heap.size + 1) 0 Tryd.zeroCells96 rfl rfl (zero_there HR4.out) zero_size (Array.all_eq_true'.2 fun v hv => zero_one v (Array.mem_toList_iff.2 hv)) ?_; generalize W4.setCells (w.heap.size + 1) 0 Tryd.zeroCells96.toList = W6 at *))
  have hlv := HLV.out
  refine bodyPost_ret (v := .tuple #[.agg (encL zeroF).toArray, .int .i64 42]) (by simp [results, Tryd.results71, Sem.run_bind, hlv, asAddr_is]) rfl ⟨rfl, HB6.out⟩

set_option maxRecDepth 100000 in
set_option maxHeartbeats 2000000 in
theorem asked_true (F S J L H : Int) (a : Option Addr) (n c : Nat) (a' : Option Addr) (n' c' : Nat) (st : List Int) (lk : List Lk) (t : Nat) (w : World) (hN : Nums w a n st) (hK : Looks w a' n' lk) (hb : checkB F S J L H t st lk = true) (hok : okF t (roundF st L H t (looksF lk)) = true) :
    Calls Tryd.prog 71 #[.agg #[.int .i64 F, .int .i64 S, .int .i64 J, .int .i64 L, .int .i64 H, .int .i64 t, .slice a n c, .slice a' n' c'], .bool true] w fun e w' => e = .returned (.tuple #[.agg (encL (roundF st L H t (looksF lk))).toArray, .int .i64 0]) ∧ Below w.heap.size w w' := by
  have hb0 := hb
  obtain ⟨R, hR⟩ : ∃ R, R = roundF st L H t (looksF lk) := ⟨_, rfl⟩
  rw [← hR] at hok ⊢
  have HR := Lib.hid hR
  clear hR
  have hW := askW_is F S J L H t a n c a' n' c' w
  have hNa := hN.below hW.bel
  have hKa := hK.below hW.bel
  have hck := Check_any F S J L H t a n c a' n' c' st lk _ hNa hKa
  simp only [hb, if_true, Bool.false_eq_true, if_false] at hck
  go_enter Tryd.func71, Tryd.ntmps71
  go_wp2_with (fail)
  change Calls Tryd.prog 29 _ (askW F S J L H t a n c a' n' c' w) _
  generalize askW F S J L H t a n c a' n' c' w = W0 at *
  refine hck.mono ?_
  clear hck
  rintro e w1 ⟨rfl, hb1⟩
  have hsz := hW.size
  have hz1 := hb1.size
  have hres := hW.res.below hb1
  have hBk := hW.book.below hb1
  obtain ⟨hk0, hk1, hk2, hk3, hk4, hk5, hk6, hk7⟩ := hBk
  have hbw : Below w.heap.size w w1 := below_call hW.bel hb1
  have HRES := Lib.hid hres
  have HBW := Lib.hid hbw
  have HN := Lib.hid (hN.below hbw)
  have HK := Lib.hid (hK.below hbw)
  have hlv := loadVar_At (store_zero hres)
  have HLV : Shut ((loadVar 96 ⟨w.heap.size + 1, 0, none⟩).run Tryd.prog (w1.setCells (w.heap.size + 1) 0 Tryd.zeroCells96.toList) = .ok (.agg (encL zeroF).toArray) (w1.setCells (w.heap.size + 1) 0 Tryd.zeroCells96.toList)) := ⟨hlv⟩
  have HB6 : Shut (Below w.heap.size w (w1.setCells (w.heap.size + 1) 0 Tryd.zeroCells96.toList)) := ⟨below_setCells _ _ _ hbw (by omega)⟩
  clear hlv hres hbw hNa hKa hN hK hb hW hb1
  have hbt := between_any F S J L H t a n c a' n' c' st lk w1 HN.out HK.out hb0
  rw [← HR.out, hok] at hbt
  clear hok
  clear hb0
  go_wp2_with fail
  refine hbt.mono ?_
  clear hbt
  rintro e w2 ⟨rfl, hb2⟩
  have hz2 := hb2.size
  have hres2 := HRES.out.below hb2
  have hbw2 := below_call HBW.out hb2
  have hnew := At.new w2
  have hNEW := Lib.hid hnew
  have hbn : Below w2.heap.size w2 ((w2.alloc (.cells Tryd.zeroCells96 96)).setCells w2.heap.size 0 (encL R).toArray.toList) := below_setCells _ _ _ ((Below.refl _ _).alloc (Nat.le_refl _) _) (Nat.le_refl _)
  have hr4 := hres2.below hbn
  have h74 : At ((w2.alloc (.cells Tryd.zeroCells96 96)).setCells w2.heap.size 0 (encL R).toArray.toList) w2.heap.size R := hnew.store R
  have hbw4 := below_call hbw2 hbn
  have hz4 := hbn.size
  have HR4 := Lib.hid hr4
  have H74 := Lib.hid h74
  have HBW4 := Lib.hid hbw4
  clear HLV HB6 HN HK hres2 hbw2 hnew hbn hr4 h74 hbw4 HBW HRES
  go_upto_region 7 with ((refine wpList_store_mid rfl 96 (Operand.tmp 7) (Operand.tmp 21) rfl w2.heap.size 0 (encL R).toArray rfl rfl (hNEW.out.there R) (size96a R) (all_oneCell_toArray (encL_one R)) ?_; generalize (w2.alloc (.cells Tryd.zeroCells96 96)).setCells w2.heap.size 0 (encL R).toArray.toList = W4 at *; have HLV : Shut ((loadVar 96 ⟨w.heap.size + 1, 0, none⟩).run Tryd.prog (W4.setCells (w.heap.size + 1) 0 (encL R).toArray.toList) = .ok (.agg (encL R).toArray) (W4.setCells (w.heap.size + 1) 0 (encL R).toArray.toList)) := ⟨loadVar_At (HR4.out.store R)⟩; have HB6 : Shut (Below w.heap.size w (W4.setCells (w.heap.size + 1) 0 (encL R).toArray.toList)) := ⟨below_setCells _ _ _ HBW4.out (by omega)⟩))
  go_upto_region 9 with (fail)
  go_wp2_with (first | (refine wpList_load_mid rfl 96 (Operand.tmp 7) rfl w2.heap.size 0 rfl (encL R) _ H74.out.1 Tryd.underlying96 rfl (size96 R) ?_) | (refine wpList_store_mid rfl 96 (Operand.tmp 4) (Operand.tmp 26) rfl (w.heap.size + 1) 0 (encL R).toArray rfl rfl (HR4.out.there R) (size96a R) (all_oneCell_toArray (encL_one R)) ?_; generalize W4.setCells (w.heap.size + 1) 0 (encL R).toArray.toList = W6 at *))
  have hlv := HLV.out
  refine bodyPost_ret (v := .tuple #[.agg (encL R).toArray, .int .i64 0]) (by simp [results, Tryd.results71, Sem.run_bind, hlv, asAddr_is]) rfl ⟨rfl, HB6.out⟩


end Go.Proofs.YtidnopmjhhmedaaDoor
end

section
/- What an offset is told as: Error, Stated, Worst. -/
set_option linter.unusedSimpArgs false
set_option linter.unusedVariables false
namespace Go.Proofs.YtidnopmjhhmedaaDoor
open Go.RowKit
attribute [local go_sem] Oper.semAt_some

/-- What is solved of a book. -/
def solF (F S J L H T : Int) (st : List Int) (lk : List Lk) : Nat → Sp := roundF st L H T.toNat (looksF lk)
/-- The error of a book that is asked. -/
def askE (F S J L H T : Int) (st : List Int) (lk : List Lk) (ok : Bool) : Int :=
  if checkB F S J L H T st lk = true then if ok = true then if okF T.toNat (solF F S J L H T st lk) = true then 0 else 42 else 41 else 40
theorem askE_ok {F S J L H T : Int} {st : List Int} {lk : List Lk} {ok : Bool} (h : askE F S J L H T st lk ok = 0) : checkB F S J L H T st lk = true ∧ ok = true ∧ okF T.toNat (solF F S J L H T st lk) = true := by
  unfold askE at h
  split at h
  · split at h
    · split at h
      · exact ⟨‹_›, ‹_›, ‹_›⟩
      · omega
    · omega
  · omega
theorem check_ticks {F S J L H T : Int} {st : List Int} {lk : List Lk} (h : checkB F S J L H T st lk = true) : 1 ≤ T ∧ T ≤ 60 := by
  simp only [checkB, Bool.and_eq_true, decide_eq_true_eq, lies_iff] at h
  omega

theorem asked_is (F S J L H T : Int) (a : Option Addr) (n c : Nat) (a' : Option Addr) (n' c' : Nat) (st : List Int) (lk : List Lk) (ok : Bool) (E : Int) (G : Nat → Sp) (hE : E = askE F S J L H T st lk ok) (hG : G = if E = 0 then solF F S J L H T st lk else zeroF) (w : World) (hN : Nums w a n st) (hK : Looks w a' n' lk) :
    Calls Tryd.prog 71 #[.agg #[.int .i64 F, .int .i64 S, .int .i64 J, .int .i64 L, .int .i64 H, .int .i64 T, .slice a n c, .slice a' n' c'], .bool ok] w fun e w' => e = .returned (.tuple #[.agg (encL G).toArray, .int .i64 E]) ∧ Below w.heap.size w w' := by
  cases hb : checkB F S J L H T st lk
  · obtain rfl : E = 40 := by rw [hE, askE, hb]; rfl
    obtain rfl : G = zeroF := by rw [hG]; rfl
    exact asked_bad F S J L H T a n c a' n' c' st lk ok w hN hK hb
  · cases ok
    · obtain rfl : E = 41 := by rw [hE, askE, hb]; rfl
      obtain rfl : G = zeroF := by rw [hG]; rfl
      exact asked_ask F S J L H T a n c a' n' c' st lk w hN hK hb
    · have hT := check_ticks hb
      obtain ⟨t, rfl⟩ : ∃ t : Nat, T = t := ⟨T.toNat, by omega⟩
      cases hok : okF t (roundF st L H t (looksF lk))
      · obtain rfl : E = 42 := by rw [hE, askE, hb]; simp only [if_true, solF, Int.toNat_natCast, hok, Bool.false_eq_true, if_false]
        obtain rfl : G = zeroF := by rw [hG]; rfl
        exact asked_false F S J L H a n c a' n' c' st lk t w hN hK hb hok
      · obtain rfl : E = 0 := by rw [hE, askE, hb]; simp only [if_true, solF, Int.toNat_natCast, hok]
        obtain rfl : G = roundF st L H t (looksF lk) := by rw [hG]; simp only [if_true, solF, Int.toNat_natCast]
        exact asked_true F S J L H a n c a' n' c' st lk t w hN hK hb hok

theorem stored {w : World} {b : Nat} {f : Nat → Sp} (h : At w b f) (g : Nat → Sp) : ∃ W, (storeCells ⟨b, 0, none⟩ (encL g)).run Tryd.prog w = .ok () W ∧ At W b g ∧ (∀ n, n ≤ b → Below n w W) ∧ W.heap.size = w.heap.size :=
  ⟨_, storeCells_At h g, by have := h.store g; simpa using this, fun n hn => below_setCells _ _ _ (Below.refl _ _) hn, size_setCells _ _ _⟩
theorem bcellN {n : Nat} {W w1 : World} (hb : Below n W w1) : (∀ b o, b < n → w1.cell? ⟨b, o, none⟩ = W.cell? ⟨b, o, none⟩) ∧ (∀ b o, b < n → w1.frozen? ⟨b, o, none⟩ = W.frozen? ⟨b, o, none⟩) :=
  ⟨fun b o h => hb.cell (p := ⟨b, o, none⟩) h, fun b o h => hb.frozen (p := ⟨b, o, none⟩) h⟩
theorem far_cells (W : World) (b : Nat) (g : Nat → Sp) : (∀ b' o, b' < b → (W.setCells b 0 (encL g)).cell? ⟨b', o, none⟩ = W.cell? ⟨b', o, none⟩) ∧ (∀ b' o, b' < b → (W.setCells b 0 (encL g)).frozen? ⟨b', o, none⟩ = W.frozen? ⟨b', o, none⟩) :=
  bcellN (below_setCells (encL g) 0 W (Below.refl b W) (Nat.le_refl b))
theorem At.drew {w : World} {b : Nat} {f : Nat → Sp} (h : At w b f) : At w.drew b f := h.below ((Below.refl _ _).drew)
theorem there_enc {W : World} {b : Nat} {f : Nat → Sp} (h : At W b f) (g : Nat → Sp) : W.there b 0 (encL g).length := by rw [encL_length]; exact h.2
theorem bookAt_held {W W1 : World} {b : Nat} {F S J L H T : Int} {a : Option Addr} {n c : Nat} {a' : Option Addr} {n' c' : Nat} (h : BookAt W b F S J L H T a n c a' n' c') (hb : Below W.heap.size W W1) : BookAt W1 b F S J L H T a n c a' n' c' := h.below hb
/-- The world in which Error begins. -/
noncomputable def errW0 (F S J L H T : Int) (a : Option Addr) (n c : Nat) (a' : Option Addr) (n' c' : Nat) (w : World) : World :=
  (w.alloc (.cells #[.int .i64 F, .int .i64 S, .int .i64 J, .int .i64 L, .int .i64 H, .int .i64 T, .slice a n c, .slice a' n' c'] 44)).alloc (.cells #[.int .i64 0, .int .i64 0] 23)
structure ErrW (F S J L H T : Int) (a : Option Addr) (n c : Nat) (a' : Option Addr) (n' c' : Nat) (w W : World) : Prop where
  bel : Below w.heap.size w W
  size : W.heap.size = w.heap.size + 2
  book : BookAt W w.heap.size F S J L H T a n c a' n' c'
  r0 : W.cell? ⟨w.heap.size + 1, 0, none⟩ = some (.int .i64 0)
  r1 : W.cell? ⟨w.heap.size + 1, 1, none⟩ = some (.int .i64 0)
  f0 : W.frozen? ⟨w.heap.size + 1, 0, none⟩ = false
  f1 : W.frozen? ⟨w.heap.size + 1, 1, none⟩ = false
theorem errW_is (F S J L H T : Int) (a : Option Addr) (n c : Nat) (a' : Option Addr) (n' c' : Nat) (w : World) : ErrW F S J L H T a n c a' n' c' w (errW0 F S J L H T a n c a' n' c' w) := by
  unfold errW0
  refine ⟨?_, by simp, ?_, by simp [go_sem], by simp [go_sem], by simp [go_sem], by simp [go_sem]⟩
  · repeat with_reducible (first | exact Below.refl _ _ | refine Below.alloc ?_ (by simp <;> omega) _)
  · exact (BookAt.new w F S J L H T a n c a' n' c').below ((Below.refl _ _).alloc (Nat.le_refl _) _)
set_option maxRecDepth 100000 in
set_option maxHeartbeats 2000000 in
theorem Error_bad (F S J L H T tick : Int) (a : Option Addr) (n c : Nat) (a' : Option Addr) (n' c' : Nat) (st : List Int) (lk : List Lk) (E : Int) (hE : E = askE F S J L H T st lk (lies tick 0 T)) (hE0 : (E == 0) = false) (w : World) (hN : Nums w a n st) (hK : Looks w a' n' lk) :
    Calls Tryd.prog 27 #[.agg #[.int .i64 F, .int .i64 S, .int .i64 J, .int .i64 L, .int .i64 H, .int .i64 T, .slice a n c, .slice a' n' c'], .int .i64 tick] w fun e w' => e = .returned (.tuple #[.agg #[.int .i64 0, .int .i64 0], .int .i64 E]) ∧ Below w.heap.size w w' := by
  obtain ⟨G, hG⟩ : ∃ G, G = if E = 0 then solF F S J L H T st lk else zeroF := ⟨_, rfl⟩
  have hask := fun W h1 h2 => asked_is F S J L H T a n c a' n' c' st lk (lies tick 0 T) E G hE hG W h1 h2
  have hW := errW_is F S J L H T a n c a' n' c' w
  have hN0 := hN.below hW.bel
  have hK0 := hK.below hW.bel
  clear hE hG hN hK
  have hE1 : (E != 0) = true := by simpa using hE0
  go_enter Tryd.func27, Tryd.ntmps27
  go_wp2_with fail
  change Code.wp Tryd.prog _ _ _ (errW0 F S J L H T a n c a' n' c' w)
  generalize errW0 F S J L H T a n c a' n' c' w = W0 at *
  have hsz := hW.size
  obtain ⟨hk0, hk1, hk2, hk3, hk4, hk5, hk6, hk7⟩ := hW.book
  have hr0 := hW.r0
  have hr1 := hW.r1
  have hf0 := hW.f0
  have hf1 := hW.f1
  have HN := Lib.hid hN0
  have HK := Lib.hid hK0
  have HB := Lib.hid hW.bel
  clear hW hN0 hK0
  have hone := encL_one G
  have hsize := size96 G
  go_region_held3 (fun W : World => W.cell? ⟨w.heap.size, 0, none⟩ = some (.int .i64 F) ∧ W.cell? ⟨w.heap.size, 1, none⟩ = some (.int .i64 S) ∧ W.cell? ⟨w.heap.size, 2, none⟩ = some (.int .i64 J) ∧ W.cell? ⟨w.heap.size, 3, none⟩ = some (.int .i64 L) ∧ W.cell? ⟨w.heap.size, 4, none⟩ = some (.int .i64 H) ∧ W.cell? ⟨w.heap.size, 5, none⟩ = some (.int .i64 T) ∧ W.cell? ⟨w.heap.size, 6, none⟩ = some (.slice a n c) ∧ W.cell? ⟨w.heap.size, 7, none⟩ = some (.slice a' n' c')) (first | with_reducible exact bookAt_held (by assumption) (by assumption) | (simp [go_sem, *]; done))
    (first | (go_at_call 57; refine (lies_any _ _ _ _).mono ?_; rintro e w' ⟨rfl, rfl⟩) | (go_at_call 71; refine (hask _ (HN.out.below (by repeat with_reducible (first | exact Below.refl _ _ | refine Below.drew ?_ | refine Below.alloc ?_ (Nat.le_refl _) _))) (HK.out.below (by repeat with_reducible (first | exact Below.refl _ _ | refine Below.drew ?_ | refine Below.alloc ?_ (Nat.le_refl _) _)))).mono ?_; rintro e w2 ⟨rfl, hb2⟩; have hz2 := hb2.size; simp at hz2; have hz3 : w.heap.size + 1 < w2.heap.size := (by omega); have hz4 : w.heap.size < w2.heap.size := (by omega); have hbW := below_call (w := W0) (by repeat with_reducible (first | exact Below.refl _ _ | refine Below.drew ?_ | refine Below.alloc ?_ (Nat.le_refl _) _)) hb2; have hq0 := cell_below hbW hr0; have hq1 := cell_below hbW hr1; have hg0 := (hbW.frozen (p := ⟨w.heap.size + 1, 0, none⟩) (by show w.heap.size + 1 < _; omega)).trans hf0; have hg1 := (hbW.frozen (p := ⟨w.heap.size + 1, 1, none⟩) (by show w.heap.size + 1 < _; omega)).trans hf1; have HBF := Lib.hid (HB.out.trans (hbW.mono (by omega)) : Below w.heap.size w w2); clear hbW; (first | (have hA0 := (At.new _).drew.below hb2; have hA : At w2 (w.heap.size + 2) zeroF := (by rw [← hsz]; exact hA0); clear hA0; have hth := there_enc hA G; have hfar := (far_cells w2 (w.heap.size + 2) G); have HA := Lib.hid hA; clear hA) | (have hA := At.new w2; have hth := there_enc hA G; have hfar := far_cells (w2.alloc (.cells Tryd.zeroCells96 96)) w2.heap.size G; have HA := Lib.hid hA; clear hA))))
  all_goals
    go_wp2_with fail
    refine bodyPost_ret (v := .tuple #[.agg #[.int .i64 0, .int .i64 0], .int .i64 E]) (by simp [results, Tryd.results27, go_sem, *]) rfl ⟨rfl, ?_⟩
    have hbf := ‹Hid (Below w.heap.size w _)›.out
    repeat (refine Below.setCell ?_ (by show w.heap.size ≤ w.heap.size + 1; omega) _)
    first
    | exact below_setCells _ _ _ hbf (by omega)
    | exact below_setCells _ _ _ (hbf.alloc (by omega) _) (by omega)
set_option maxRecDepth 100000 in
set_option maxHeartbeats 2000000 in
theorem Error_ok (F S J L H T tick : Int) (a : Option Addr) (n c : Nat) (a' : Option Addr) (n' c' : Nat) (st : List Int) (lk : List Lk) (hE : askE F S J L H T st lk (lies tick 0 T) = 0) (w : World) (hN : Nums w a n st) (hK : Looks w a' n' lk) :
    Calls Tryd.prog 27 #[.agg #[.int .i64 F, .int .i64 S, .int .i64 J, .int .i64 L, .int .i64 H, .int .i64 T, .slice a n c, .slice a' n' c'], .int .i64 tick] w fun e w' => e = .returned (.tuple #[.agg #[.int .i64 (solF F S J L H T st lk tick.toNat).lo, .int .i64 (solF F S J L H T st lk tick.toNat).hi], .int .i64 0]) ∧ Below w.heap.size w w' := by
  obtain ⟨hch, hli, _⟩ := askE_ok hE
  have hT := check_ticks hch
  rw [lies_iff] at hli
  obtain ⟨G, hG⟩ : ∃ G, G = solF F S J L H T st lk := ⟨_, rfl⟩
  rw [← hG]
  have hask := fun W h1 h2 => asked_is F S J L H T a n c a' n' c' st lk (lies tick 0 T) 0 G hE.symm (by rw [hG]; rfl) W h1 h2
  have hW := errW_is F S J L H T a n c a' n' c' w
  have hN0 := hN.below hW.bel
  have hK0 := hK.below hW.bel
  clear hE hG hN hK
  obtain ⟨k, rfl⟩ : ∃ k : Nat, tick = k := ⟨tick.toNat, by omega⟩
  have hk61 : k < 61 := by omega
  have hk0 : (0 : Int) ≤ (k : Int) := by omega
  have hk1 : (k : Int) < 61 := by omega
  rw [Int.toNat_natCast]
  obtain ⟨p0, hp0⟩ : ∃ p0, p0 = (G k).lo := ⟨_, rfl⟩
  obtain ⟨p1, hp1⟩ : ∃ p1, p1 = (G k).hi := ⟨_, rfl⟩
  rw [← hp0, ← hp1]
  have HP0 := Lib.hid hp0
  have HP1 := Lib.hid hp1
  clear hp0 hp1 hch hli hT
  go_enter Tryd.func27, Tryd.ntmps27
  go_wp2_with fail
  change Code.wp Tryd.prog _ _ _ (errW0 F S J L H T a n c a' n' c' w)
  generalize errW0 F S J L H T a n c a' n' c' w = W0 at *
  have hsz := hW.size
  obtain ⟨hb0, hb1, hb22, hb3, hb4, hb5, hb6, hb7⟩ := hW.book
  have hr0 := hW.r0
  have hr1 := hW.r1
  have hf0 := hW.f0
  have hf1 := hW.f1
  have HN := Lib.hid hN0
  have HK := Lib.hid hK0
  have HB := Lib.hid hW.bel
  clear hW hN0 hK0
  have hone := encL_one G
  have hsize := size96 G
  go_region_held3 (fun W : World => W.cell? ⟨w.heap.size, 0, none⟩ = some (.int .i64 F) ∧ W.cell? ⟨w.heap.size, 1, none⟩ = some (.int .i64 S) ∧ W.cell? ⟨w.heap.size, 2, none⟩ = some (.int .i64 J) ∧ W.cell? ⟨w.heap.size, 3, none⟩ = some (.int .i64 L) ∧ W.cell? ⟨w.heap.size, 4, none⟩ = some (.int .i64 H) ∧ W.cell? ⟨w.heap.size, 5, none⟩ = some (.int .i64 T) ∧ W.cell? ⟨w.heap.size, 6, none⟩ = some (.slice a n c) ∧ W.cell? ⟨w.heap.size, 7, none⟩ = some (.slice a' n' c')) (first | with_reducible exact bookAt_held (by assumption) (by assumption) | (simp [go_sem, *]; done))
    (first | (go_at_call 57; refine (lies_any _ _ _ _).mono ?_; rintro e w' ⟨rfl, rfl⟩) | (go_at_call 71; refine (hask _ (HN.out.below (by repeat with_reducible (first | exact Below.refl _ _ | refine Below.drew ?_ | refine Below.alloc ?_ (Nat.le_refl _) _))) (HK.out.below (by repeat with_reducible (first | exact Below.refl _ _ | refine Below.drew ?_ | refine Below.alloc ?_ (Nat.le_refl _) _)))).mono ?_; rintro e w2 ⟨rfl, hb2⟩; have hz2 := hb2.size; simp at hz2; have hz3 : w.heap.size + 1 < w2.heap.size := (by omega); have hz4 : w.heap.size < w2.heap.size := (by omega); have hbW := below_call (w := W0) (by repeat with_reducible (first | exact Below.refl _ _ | refine Below.drew ?_ | refine Below.alloc ?_ (Nat.le_refl _) _)) hb2; have hq0 := cell_below hbW hr0; have hq1 := cell_below hbW hr1; have hg0 := (hbW.frozen (p := ⟨w.heap.size + 1, 0, none⟩) (by show w.heap.size + 1 < _; omega)).trans hf0; have hg1 := (hbW.frozen (p := ⟨w.heap.size + 1, 1, none⟩) (by show w.heap.size + 1 < _; omega)).trans hf1; have HBF := Lib.hid (HB.out.trans (hbW.mono (by omega)) : Below w.heap.size w w2); clear hbW; (first | (have hA0 := (At.new _).drew.below hb2; have hA : At w2 (w.heap.size + 2) zeroF := (by rw [← hsz]; exact hA0); clear hA0; have hth := there_enc hA G; have hfar := (far_cells w2 (w.heap.size + 2) G); have hl0 := (hA.store G).lo k hk61; have hl1 := (hA.store G).hi k hk61; rw [← HP0.out] at hl0; rw [← HP1.out] at hl1; have HL0 := Shut.mk hl0; have HL1 := Shut.mk hl1; clear hA hl0 hl1) | (have hA := At.new w2; have hth := there_enc hA G; have hfar := far_cells (w2.alloc (.cells Tryd.zeroCells96 96)) w2.heap.size G; have hl0 := (hA.store G).lo k hk61; have hl1 := (hA.store G).hi k hk61; rw [← HP0.out] at hl0; rw [← HP1.out] at hl1; have HL0 := Shut.mk hl0; have HL1 := Shut.mk hl1; clear hA hl0 hl1))))
  all_goals
    go_upto_region 4 with (fail)
    have hl0 := (‹Shut (_ = some (Value.int .i64 p0))›).out
    have hl1 := (‹Shut (_ = some (Value.int .i64 p1))›).out
    go_wp2_with fail
    refine bodyPost_ret (v := .tuple #[.agg #[.int .i64 p0, .int .i64 p1], .int .i64 0]) (by simp [results, Tryd.results27, go_sem, *]) rfl ⟨rfl, ?_⟩
    have hbf := ‹Hid (Below w.heap.size w _)›.out
    repeat (refine Below.setCell ?_ (by show w.heap.size ≤ w.heap.size + 1; omega) _)
    first
    | exact below_setCells _ _ _ hbf (by omega)
    | exact below_setCells _ _ _ (hbf.alloc (by omega) _) (by omega)

end Go.Proofs.YtidnopmjhhmedaaDoor
end
