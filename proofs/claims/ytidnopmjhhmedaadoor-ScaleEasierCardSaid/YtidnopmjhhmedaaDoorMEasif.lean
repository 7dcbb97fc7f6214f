/- PROVED: ScaleEasierCardSaid, for every input, where the listed variable reads as the program's text lays it. Part 6 of 6: of this session; merged by wip/tools/mkClaim.py. -/
import Derived.Test.YtidnopmjhhmedaaDoorMEasib
import Derived.Test.YtidnopmjhhmedaaDoorMEasie
import Derived.Test.YtidnopmjhhmedaaDoorMEasic
import Derived.Test.YtidnopmjhhmedaaDoorCards
import Derived.Test.YtidnopmjhhmedaaDoorTie
import Derived.WalkKit
import Derived.Below
import Derived.Carry
import Derived.SevenTiedAt
section
-- Written by wip/tools/pr.py (a program of this repo over the kit's print.py).
namespace Go.Proofs.TrydX.X
open Go.RowKit Go.Proofs.YtidnopmjhhmedaaDoorW.PrintWords Go.Proofs.YtidnopmjhhmedaaDoorW.PrintLast Go.Proofs.YtidnopmjhhmedaaDoorW.PrintMore
attribute [local go_sem] max2_int min2_int max_two min_two max_three min_three max_four min_four   -- for this text's walks alone
set_option linter.unusedVariables false
set_option linter.unusedSimpArgs false

end Go.Proofs.TrydX.X
end

section
-- Written by wip/tools/pr.py (a program of this repo over the kit's print.py).
namespace Go.Proofs.TrydX.X
open Go.RowKit Go.Proofs.YtidnopmjhhmedaaDoorW.PrintWords Go.Proofs.YtidnopmjhhmedaaDoorW.PrintLast Go.Proofs.YtidnopmjhhmedaaDoorW.PrintMore
attribute [local go_sem] max2_int min2_int max_two min_two max_three min_three max_four min_four   -- for this text's walks alone
set_option linter.unusedVariables false
set_option linter.unusedSimpArgs false

end Go.Proofs.TrydX.X
end

section
-- Written by wip/tools/pr.py (a program of this repo over the kit's print.py).
namespace Go.Proofs.TrydX.X
open Go.RowKit Go.Proofs.YtidnopmjhhmedaaDoorW.PrintWords Go.Proofs.YtidnopmjhhmedaaDoorW.PrintLast Go.Proofs.YtidnopmjhhmedaaDoorW.PrintMore
attribute [local go_sem] max2_int min2_int max_two min_two max_three min_three max_four min_four   -- for this text's walks alone
set_option linter.unusedVariables false
set_option linter.unusedSimpArgs false

end Go.Proofs.TrydX.X
end

section
-- Written by wip/tools/pr.py (a program of this repo over the kit's print.py).
namespace Go.Proofs.TrydX.X
open Go.RowKit Go.Proofs.YtidnopmjhhmedaaDoorW.PrintWords Go.Proofs.YtidnopmjhhmedaaDoorW.PrintLast Go.Proofs.YtidnopmjhhmedaaDoorW.PrintMore
attribute [local go_sem] max2_int min2_int max_two min_two max_three min_three max_four min_four   -- for this text's walks alone
set_option linter.unusedVariables false
set_option linter.unusedSimpArgs false

end Go.Proofs.TrydX.X
end

section
-- Written by wip/tools/pr.py (a program of this repo over the kit's print.py).
namespace Go.Proofs.TrydX.X
open Go.RowKit Go.Proofs.YtidnopmjhhmedaaDoorW.PrintWords Go.Proofs.YtidnopmjhhmedaaDoorW.PrintLast Go.Proofs.YtidnopmjhhmedaaDoorW.PrintMore
attribute [local go_sem] max2_int min2_int max_two min_two max_three min_three max_four min_four   -- for this text's walks alone
set_option linter.unusedVariables false
set_option linter.unusedSimpArgs false

end Go.Proofs.TrydX.X
end

section
/- Plain: what the reference's functions of chapter 04 tell, in the hand's own words. -/
set_option linter.unusedSimpArgs false
set_option linter.unusedVariables false
namespace Go.Proofs.TrydX.X
open Go.RowKit Go.Proofs.YtidnopmjhhmedaaDoorW.PrintWords Go.Proofs.YtidnopmjhhmedaaDoorW.PrintLast
open Go.Proofs.YtidnopmjhhmedaaDoor

theorem wr {x : Int} (h : -9223372036854775808 ≤ x ∧ x ≤ 9223372036854775807) : wrap64 x = x := IntWalk.wrap64_in x h
theorem lies_f (n a b : Int) : remontoirref00_Lies.f n a b = some (lies n a b) := by
  unfold remontoirref00_Lies.f lies
  by_cases h : a ≤ n <;> simp [h]
theorem valid_f (a b l h : Int) : remontoirref00_Valid.f a b l h = some (decide (a ≤ b) && decide (l ≤ a) && decide (b ≤ h)) := by
  unfold remontoirref00_Valid.f
  by_cases h1 : a ≤ b <;> by_cases h2 : l ≤ a <;> simp [h1, h2]
theorem mn_eq (a b : Int) : mn a b = min a b := by unfold mn; omega
theorem capSum_bd' {each J : Int} {t : Nat} (he : 0 ≤ each ∧ each ≤ 500) (hJ : 1 ≤ J) (ht : t ≤ 201) : 0 ≤ capSum each J t ∧ capSum each J t ≤ 200000 := by
  have h := sumL_bd (caps each J t) (caps_bd he.1 he.2 hJ)
  simp [caps] at h
  unfold capSum caps
  omega
end Go.Proofs.TrydX.X
end

section
-- Written by wip/tools/pr.py (a program of this repo over the kit's print.py).
namespace Go.Proofs.TrydX.X
open Go.RowKit Go.Proofs.YtidnopmjhhmedaaDoorW.PrintWords Go.Proofs.YtidnopmjhhmedaaDoorW.PrintLast Go.Proofs.YtidnopmjhhmedaaDoorW.PrintMore
attribute [local go_sem] max2_int min2_int max_two min_two max_three min_three max_four min_four   -- for this text's walks alone
set_option linter.unusedVariables false
set_option linter.unusedSimpArgs false

end Go.Proofs.TrydX.X
end

section
-- Written by wip/tools/pr.py (a program of this repo over the kit's print.py).
namespace Go.Proofs.TrydX.X
open Go.RowKit Go.Proofs.YtidnopmjhhmedaaDoorW.PrintWords Go.Proofs.YtidnopmjhhmedaaDoorW.PrintLast Go.Proofs.YtidnopmjhhmedaaDoorW.PrintMore
attribute [local go_sem] max2_int min2_int max_two min_two max_three min_three max_four min_four   -- for this text's walks alone
set_option linter.unusedVariables false
set_option linter.unusedSimpArgs false

end Go.Proofs.TrydX.X
end

section
-- Written by wip/tools/pr.py (a program of this repo over the kit's print.py).
namespace Go.Proofs.TrydX.X
open Go.RowKit Go.Proofs.YtidnopmjhhmedaaDoorW.PrintWords Go.Proofs.YtidnopmjhhmedaaDoorW.PrintLast Go.Proofs.YtidnopmjhhmedaaDoorW.PrintMore
attribute [local go_sem] max2_int min2_int max_two min_two max_three min_three max_four min_four   -- for this text's walks alone
set_option linter.unusedVariables false
set_option linter.unusedSimpArgs false

end Go.Proofs.TrydX.X
end

section
/- Plain: draws that are steered within a rule. -/
set_option linter.unusedSimpArgs false
set_option linter.unusedVariables false
namespace Go.Proofs.TrydX.X
open Go.RowKit Go.Proofs.YtidnopmjhhmedaaDoorW.PrintWords Go.Proofs.YtidnopmjhhmedaaDoorW.PrintLast
open Go.Proofs.YtidnopmjhhmedaaDoor

theorem isRule_f (F S J L H : Int) : remontoirlaw04_isRule.f F S J L H = some (isRuleB F S J L H) := by
  unfold remontoirlaw04_isRule.f scale_Reach.f
  cases hr : isRuleB F S J L H
  · simp
  · obtain ⟨hF, hS, hJ, hL⟩ := isRuleB_spec hr
    have h0 : lies 0 0 200 = true := by decide
    simp only [if_true, h0, Option.bind_some, lies_f, valid_f, lies_iff.2 hF, lies_iff.2 hS, lies_iff.2 hJ]
    simp; omega
theorem Rest_f (x m : Int) (hm : 0 < m) (hm2 : m ≤ 4611686018427387904) : ∃ r, remontoirref00_Rest.f x m = some r ∧ 0 ≤ r ∧ r < m := by
  unfold remontoirref00_Rest.f
  rw [if_neg (by omega)]
  have h1 := Int.tmod_lt_of_pos x hm
  have h2 := Int.lt_tmod_of_pos x hm
  split
  · rename_i h
    rw [wr (by omega)]
    exact ⟨_, rfl, by omega, by omega⟩
  · exact ⟨_, rfl, by omega, h1⟩
theorem From_f (a b v : Int) (ha : -1000000000 ≤ a ∧ a ≤ 1000000000) (hb : -1000000000 ≤ b ∧ b ≤ 1000000000) : ∃ r, remontoirref00_From.f a b v = some r ∧ (a ≤ b → a ≤ r ∧ r ≤ b) := by
  unfold remontoirref00_From.f
  split
  · exact ⟨_, rfl, fun _ => by omega⟩
  · rw [wr (x := b - a) (by omega), wr (x := b - a + 1) (by omega), if_neg (by omega)]
    obtain ⟨r, h1, h2, h3⟩ := Rest_f v (b - a + 1) (by omega) (by omega)
    rw [h1]
    simp only [Option.bind_some]
    rw [wr (x := a + r) (by omega)]
    exact ⟨_, rfl, fun _ => by omega⟩
theorem sumL_le : ∀ (l m : List Int), l.length = m.length → (∀ (k : Nat) x y, l[k]? = some x → m[k]? = some y → x ≤ y) → sumL l ≤ sumL m
  | [], [], _, _ => Int.le_refl _
  | x :: l, y :: m, h, hp => by
    have h1 := hp 0 x y rfl rfl
    have h2 := sumL_le l m (by simpa using h) (fun k a b ha hb => hp (k + 1) a b (by simpa using ha) (by simpa using hb))
    rw [sumL_cons, sumL_cons]; omega
  | [], _ :: _, h, _ => by simp at h
  | _ :: _, [], h, _ => by simp at h
theorem caps_len (each J : Int) (n : Nat) : (caps each J n).length = n := by simp [caps]
end Go.Proofs.TrydX.X
end

section
/- The plain law of ScaleEasier. -/
set_option linter.unusedSimpArgs false
set_option linter.unusedVariables false
namespace Go.Proofs.YtidnopmjhhmedaaDoor
open Go.RowKit Go.Proofs.YtidnopmjhhmedaaDoorW.PrintWords Go.Proofs.YtidnopmjhhmedaaDoorW.PrintLast TrydX.X
theorem capSum_le {each each' J J' : Int} (he : each ≤ each') (hJ : J ≤ J') (n : Nat) : capSum each J n ≤ capSum each' J' n := by
  unfold capSum
  refine sumL_le _ _ (by simp [caps]) ?_
  intro k x y hx hy
  have hk : k < n := by
    rcases Nat.lt_or_ge k n with h | h
    · exact h
    · rw [List.getElem?_eq_none (by rw [caps_len]; exact h)] at hx; cases hx
  rw [caps_get _ _ _ _ hk] at hx hy
  cases hx; cases hy
  have h1 : J * ((k : Int) + 1) ≤ J' * ((k : Int) + 1) := Int.mul_le_mul_of_nonneg_right hJ (by omega)
  have h2 : J * ((n : Int) - k) ≤ J' * ((n : Int) - k) := Int.mul_le_mul_of_nonneg_right hJ (by omega)
  simp only [capAt]; omega
theorem few_easier {F S J F' S' J' off : Int} (hF : F ≤ F') (hS : S ≤ S') (hJ : J ≤ J') (h : ¬ fewest F S J off < 0) : ¬ fewest F' S' J' off < 0 ∧ fewest F' S' J' off ≤ fewest F S J off := by
  rcases fewest_spec F S J off with ⟨h1, _⟩ | ⟨n, h1, h2, h3, _⟩
  · omega
  · have e1 := capSum_le hF hJ n
    have e2 := capSum_le hS hJ n
    have h3' := lies_iff.1 (show lies (-off) (-(capSum S J n)) (capSum F J n) = true from h3)
    have he : enoughB F' S' J' off n = true := lies_iff.2 (by omega)
    rcases fewest_spec F' S' J' off with ⟨_, g2⟩ | ⟨m, g1, g2, g3, g4⟩
    · rw [g2 n h2] at he; cases he
    · rcases Nat.lt_or_ge n m with hlt | hge
      · rw [g4 n hlt] at he; cases he
      · omega
theorem enough_swap (F S J off : Int) (t : Nat) : enoughB S F J (-off) t = enoughB F S J off t := by
  unfold enoughB
  rw [Bool.eq_iff_iff, lies_iff, lies_iff]
  omega
theorem few_swap (F S J off : Int) (d : Nat) : ∀ t, fewFrom S F J (-off) d t = fewFrom F S J off d t := by
  induction d with
  | zero => intro t; rfl
  | succ d ih => intro t; simp only [fewFrom, enough_swap, ih]
theorem scaleEasier_pure (F S J L H n0 n1 n2 n3 : Int) (wf : W64 F ∧ W64 S ∧ W64 J ∧ W64 L ∧ W64 H) (wa : W64 n0 ∧ W64 n1 ∧ W64 n2 ∧ W64 n3) :
    ∃ k, remontoirlaw04_ScaleEasier.f k F S J L H n0 n1 n2 n3 = some true := by
  obtain ⟨K, hK⟩ : ∃ K : Nat, K = 500 := ⟨_, rfl⟩
  refine ⟨K + 1 + 1, ?_⟩
  unfold remontoirlaw04_ScaleEasier.f
  rw [isRule_f]
  simp only [Option.bind_some]
  cases hr : isRuleB F S J L H
  · simp [remontoirlaw04_works.f]
  · obtain ⟨hF, hS, hJ, hL⟩ := isRuleB_spec hr
    obtain ⟨r1, e1, g1, g1'⟩ := Rest_f n1 20 (by omega) (by omega)
    obtain ⟨r2, e2, g2, g2'⟩ := Rest_f n2 20 (by omega) (by omega)
    obtain ⟨r3, e3, g3, g3'⟩ := Rest_f n3 5 (by omega) (by omega)
    obtain ⟨off, e4, g4⟩ := From_f (-3000) 3000 n0 (by omega) (by omega)
    obtain ⟨t0, e5, g5, g5'⟩ := Rest_f n0 201 (by omega) (by omega)
    obtain ⟨t, rfl⟩ : ∃ t : Nat, t0 = t := ⟨t0.toNat, by omega⟩
    have ho := g4 (by omega)
    have hlo : lies off (-20000) 20000 = true := lies_iff.2 (by omega)
    have hlo2 : lies (-off) (-20000) 20000 = true := lies_iff.2 (by omega)
    have hcS := capSum_bd' (t := t) hS hJ.1 (by omega)
    have hcF := capSum_bd' (t := t) hF hJ.1 (by omega)
    have hry : isRuleB S F J L H = true := by
      unfold isRuleB
      simp only [Bool.and_eq_true, decide_eq_true_eq]
      refine ⟨⟨⟨⟨⟨?_, ?_⟩, ?_⟩, ?_⟩, ?_⟩, ?_⟩ <;> first | exact lies_iff.2 (by omega) | omega
    have hrx : isRuleB (min 500 (F + r1)) (min 500 (S + r2)) (min 500 (J + r3)) L H = true := by
      unfold isRuleB
      simp only [Bool.and_eq_true, decide_eq_true_eq]
      refine ⟨⟨⟨⟨⟨?_, ?_⟩, ?_⟩, ?_⟩, ?_⟩, ?_⟩ <;> first | exact lies_iff.2 (by omega) | omega
    have eJ : remontoirlaw04_ScaleEasier.j0 (K + 1 + 1) off (if fewest F S J off < 0 then 0 else fewest F S J off) (if fewest F S J off < 0 then 4 else 0) false F S J L H n0 n1 n2 n3 = some true := by
      simp only [remontoirlaw04_ScaleEasier.j0]
      rw [if_neg (by decide), e5]
      simp only [Option.bind_some]
      unfold scale_Reach.f scale_Fewest.f
      have hlt : lies (t : Int) 0 200 = true := lies_iff.2 (by omega)
      rw [if_pos hr, if_pos hlt, if_pos hry, if_pos hlt, if_pos hry, wr (x := -off) (by omega), if_pos hlo2, Int.toNat_natCast]
      have hsw : fewest S F J (-off) = fewest F S J off := few_swap F S J off 201 0
      rw [hsw]
      generalize fewest F S J off = fe
      generalize capSum S J t = cs at hcS
      generalize capSum F J t = cf at hcF
      simp only [Option.bind_some, remontoirlaw04_ScaleEasier.j1, if_true, remontoirref00_To.f]
      rw [wr (x := -cf) (by omega), wr (x := -(-cs)) (by omega)]
      simp [remontoirlaw04_works.f]
    rw [if_pos rfl, e1, e2, e3]
    simp only [Option.bind_some, remontoirref00_To.f, e4, mn_eq]
    rw [wr (x := F + r1) (by omega), wr (x := S + r2) (by omega), wr (x := J + r3) (by omega)]
    have eA : scale_Fewest.f F S J L H off = some (if fewest F S J off < 0 then 0 else fewest F S J off, if fewest F S J off < 0 then 4 else 0) := by
      unfold scale_Fewest.f
      rw [if_pos hr, if_pos hlo]
    have eB : scale_Fewest.f (min 500 (F + r1)) (min 500 (S + r2)) (min 500 (J + r3)) L H off = some (if fewest (min 500 (F + r1)) (min 500 (S + r2)) (min 500 (J + r3)) off < 0 then 0 else fewest (min 500 (F + r1)) (min 500 (S + r2)) (min 500 (J + r3)) off, if fewest (min 500 (F + r1)) (min 500 (S + r2)) (min 500 (J + r3)) off < 0 then 4 else 0) := by
      unfold scale_Fewest.f
      rw [if_pos hrx, if_pos hlo]
    have hee : ¬ fewest F S J off < 0 → ¬ fewest (min 500 (F + r1)) (min 500 (S + r2)) (min 500 (J + r3)) off < 0 ∧ fewest (min 500 (F + r1)) (min 500 (S + r2)) (min 500 (J + r3)) off ≤ fewest F S J off :=
      few_easier (by omega) (by omega) (by omega)
    rw [eA, eB]
    generalize fewest (min 500 (F + r1)) (min 500 (S + r2)) (min 500 (J + r3)) off = fx at hee
    generalize fewest F S J off = fe at hee eJ
    simp only [Option.bind_some]
    by_cases hn : fe < 0
    · simp only [hn, if_true] at eJ ⊢
      rw [if_neg (by decide)]
      exact eJ
    · obtain ⟨q1, q2⟩ := hee hn
      simp only [hn, q1, if_false, if_true] at eJ ⊢
      rw [if_neg (by omega)]
      exact eJ
end Go.Proofs.YtidnopmjhhmedaaDoor
end

section
/- The row and the card of ScaleEasier. Written by wip/tools/mkRow.py. -/
set_option linter.unusedVariables false
set_option linter.unusedSimpArgs false
namespace Go.Proofs.YtidnopmjhhmedaaDoor
open Go.ChangeShapes Go.WideShapes Go.ChangeAt Go.RowKit TrydX.X

set_option maxRecDepth 100000 in
theorem scaleEasier_lifted (os : Os) (started : os.Started) (H : Type) (enc : TypeId × Value → H) :
    ReturnsInHanded {} Tryd.checked os 10 .any (fun w args => (Rows.scaleEasierSpec.pre enc Tryd.prog Tryd.f10 [] false w args ∧ laidMetH Tryd.prog laid1 w) ∧ sizedMet enc Tryd.prog Tryd.f10 (OpenSpec.ofChange Rows.scaleEasierSpec) false w args)
      (Rows.scaleEasierSpec.post enc Tryd.prog Tryd.f10 false true false false) := by
  refine returnsInHanded_of_change_and (C := Tryd.checked) (X := fun w _ => laidMetH Tryd.prog laid1 w) (fun _ _ _ hh h => h.of_heap hh) own started (by kernel_rfl) Tryd.func10
    (ChangeSpec.witness_shaped (enc := enc) (C := Tryd.checked) (os := os) (X := fun w _ => laidMetH Tryd.prog laid1 w) false (World.doorLaid Tryd.prog 400 os) #[.agg #[.int .i64 0, .int .i64 0, .int .i64 0, .int .i64 0, .int .i64 0], .agg #[.int .i64 0, .int .i64 0, .int .i64 0, .int .i64 0]] 8 rfl (World.shaped_of_RefB (by kernel_rfl) (by kernel_rfl)) (by kernel_rfl) (by kernel_rfl) (by kernel_rfl) (door_met os _)) ?_
  intro W base args ds gs before hval0 hW hcnd hsz0 hL _
  have hsz : (DataW.weightsEach Tryd.prog (Tryd.f10.params.toList ++ Rows.scaleEasierSpec.plain.varTypes Tryd.prog) (ds ++ gs)).all (· ≤ reachBytes) = true := hsz0
  have hval : ∀ (j : Nat) t v, Tryd.f10.params[j]? = some t → args[j]? = some v → Value.okWide Tryd.prog W .any base t v := hval0
  have hW' := hW
  obtain ⟨p, q, hA0, hV, rfl, hfz, hnd⟩ := hW
  have hA : DataW.TrodAll enc Tryd.prog W 0 (fun _ => true) true Tryd.f10.params.toList args.toList ds p := hA0
  rw [Tryd.params10] at hA hval hsz
  obtain ⟨v0, vs0, d0, ds0, p0, q0, hargs, rfl, rfl, h0, r0⟩ := trodAll_cons hA
  obtain ⟨v1, vs1, d1, ds1, p1, q1, rfl, rfl, rfl, h1, r1⟩ := trodAll_cons r0
  obtain ⟨rfl, rfl, rfl⟩ := trodAll_nil r1
  obtain rfl : args = #[v0, v1] := by cases args; simp_all
  obtain ⟨rfl, rfl⟩ := trodVars_none hV
  have lt0 : ∀ x ∈ p0, x.block < W.heap.size := by obtain ⟨m, hm⟩ := h0; exact DataW.trod_lt m _ _ _ hm
  have k0 := h0
  obtain ⟨cs0, rfl, hcs0⟩ := agg_of Tryd.underlying25 (hval 0 25 v0 rfl rfl)
  obtain ⟨m0, hm0⟩ := h0
  rw [hcs0] at hm0
  obtain ⟨a_0, b_0, c_0, d_0, e_0, rfl, wf0⟩ := op25 hm0
  have lt1 : ∀ x ∈ p1, x.block < W.heap.size := by obtain ⟨m, hm⟩ := h1; exact DataW.trod_lt m _ _ _ hm
  have k1 := h1
  obtain ⟨cs1, rfl, hcs1⟩ := agg_arr Tryd.underlying65 (hval 1 65 v1 rfl rfl)
  obtain ⟨m1, hm1⟩ := h1
  rw [hcs1] at hm1
  obtain ⟨a_1, b_1, c_1, d_1, rfl, wf1⟩ := op65 hm1
  obtain ⟨k, hk⟩ := scaleEasier_pure a_0 b_0 c_0 d_0 e_0 a_1 b_1 c_1 d_1 wf0 wf1
  clear hA0 hval0 hsz0 hsz
  refine (remontoirlaw04_ScaleEasier.calls k a_0 b_0 c_0 d_0 e_0 a_1 b_1 c_1 d_1 true W  (ways_of_laid hL) hk).mono fun e W' ⟨he, bel⟩ => ?_
  subst he
  exact ⟨_, rfl, _, _, _, [], _, [], hW', trodAll_mk1 (shut_bool Tryd.underlying4 _), (trodAll_cons_mk (Below.trod laidOut (by kernel_rfl) (of_decide_eq_true (by kernel_rfl)) k0 bel lt0) (trodAll_cons_mk (Below.trod laidOut (by kernel_rfl) (of_decide_eq_true (by kernel_rfl)) k1 bel lt1) trodAll_mk0)), rfl, bel.frame _, fun h => by cases h⟩

theorem scaleEasier_row : Rows.ScaleEasierSaid :=
  OpenClaim.holds_of_wide 10 Tryd.f10 rfl rfl rfl rfl rfl rfl rfl ⟨rfl, rfl, rfl, rfl, rfl⟩ rfl rfl rfl rfl rfl (by kernel_rfl) Tryd.func10 (by kernel_rfl)
    (of_decide_eq_true (by kernel_rfl)) (by unfold Func.isWrapper; first | (rw [if_pos (by decide +kernel)]; kernel_rfl) | (rw [if_neg (by decide +kernel)]; exact ⟨rfl, rfl⟩))
    (fun os started H enc _ => scaleEasier_lifted os started H enc)

/-- THE CARD. -/
theorem scaleEasier_holds : Rows.ScaleEasierCardSaid :=
  Claim7.holds_tied_plain_at .later [] [.funcs] true (true, "42c157d2a2e9e6c40d73358f232322a0bd5e742c3af8e9a8c48de9150ba4d318") false
    scaleEasier_row (fun _ h => by cases h) (by kernel_rfl) (fun _ h => by cases h) scaleEasier_row_tie rfl ⟨rfl, rfl⟩ (by kernel_rfl) rfl
    (fun f fn hf hfn => by
      obtain rfl : f = 10 := Option.some.inj ((show Tryd.prog.funcNamed "remontoir/remontoirlaw04.ScaleEasier" = some 10 by kernel_rfl).symm.trans hf) |>.symm
      obtain rfl : fn = Tryd.f10 := (Option.some.inj (Tryd.func10.symm.trans hfn)).symm
      exact ⟨by kernel_rfl, fun j t ht => by
        rw [Tryd.params10] at ht
        have h3 : t ∈ [(25 : TypeId), (65 : TypeId)] := by
          obtain ⟨hj, e⟩ := Array.getElem?_eq_some_iff.1 ht
          rw [← e]
          exact Array.getElem_mem_toList hj
        simp only [List.mem_cons, List.not_mem_nil, or_false] at h3
        rcases h3 with rfl | rfl
        · exact (show Tryd.prog.wantsStandIn 25 = false by kernel_rfl)
        · exact (show Tryd.prog.wantsStandIn 65 = false by kernel_rfl)⟩)
    (by kernel_rfl)
#print axioms scaleEasier_holds
end Go.Proofs.YtidnopmjhhmedaaDoor
end
