/- PROVED: ScalePlansCardSaid, for every input, where the listed variable reads as the program's text lays it. Part 6 of 6: of this session; merged by wip/tools/mkClaim.py. -/
import Derived.Test.YtidnopmjhhmedaaDoorMPlanse
import Derived.Test.YtidnopmjhhmedaaDoorMPlansc
import Derived.Test.YtidnopmjhhmedaaDoorMPlansd
import Derived.Test.YtidnopmjhhmedaaDoorCards
import Derived.Test.YtidnopmjhhmedaaDoorTie
import Derived.WalkKit
import Derived.Below
import Derived.Carry
import Derived.SevenTiedAt
section
/- Plain: what the reference's functions of chapter 04 tell, in the hand's own words. -/
set_option linter.unusedSimpArgs false
set_option linter.unusedVariables false
namespace Go.Proofs.TrydX.X
open Go.RowKit Go.Proofs.YtidnopmjhhmedaaDoorW.PrintWords Go.Proofs.YtidnopmjhhmedaaDoorW.PrintLast
open Go.Proofs.YtidnopmjhhmedaaDoor

theorem wr {x : Int} (h : -9223372036854775808 ≤ x ∧ x ≤ 9223372036854775807) : wrap64 x = x := IntWalk.wrap64_in x h
theorem lies_f (n a b : Int) : remontoirref00_Lies.f n a b = some (lies n a b) := by
  unfold remontoirref00_Lies.f lies
  by_cases h : a ≤ n <;> simp [h]
theorem valid_f (a b l h : Int) : remontoirref00_Valid.f a b l h = some (decide (a ≤ b) && decide (l ≤ a) && decide (b ≤ h)) := by
  unfold remontoirref00_Valid.f
  by_cases h1 : a ≤ b <;> by_cases h2 : l ≤ a <;> simp [h1, h2]
theorem checkRule_f (F S J L H : Int) : remontoirref04_checkRule.f F S J L H = some (isRuleB F S J L H) := by
  unfold remontoirref04_checkRule.f isRuleB
  simp only [lies_f, valid_f, Option.bind_some]
  cases lies F 0 500 <;> cases lies S 0 500 <;> cases lies J 1 500 <;> simp
  by_cases h1 : L ≤ H <;> by_cases h2 : -100 ≤ L <;> simp [h1, h2]
theorem asked_f (F S J L H off : Int) : remontoirref04_asked.f F S J L H off = some (if isRuleB F S J L H = true then (if lies off (-20000) 20000 = true then 0 else 41) else 40) := by
  unfold remontoirref04_asked.f
  simp only [checkRule_f, lies_f, Option.bind_some]
  cases isRuleB F S J L H <;> cases lies off (-20000) 20000 <;> simp

theorem drop_rd (l : List Int) (i : Nat) (h : i < l.length) : l.drop i = rd l i :: l.drop (i + 1) := by
  rw [List.drop_eq_getElem_cons h]; simp [rd, h]
theorem keeps_l0 {F S J L H : Int} (hr : isRuleB F S J L H = true) (l : List Int) (hl : l.length ≤ 17592186044416) (d : Nat) : ∀ (k i : Nat) (last : Int), i + d = l.length → d < k → -500 ≤ last ∧ last ≤ 500 →
    remontoirref04_keeps.l0 k l last i F S J L H = some (keepsB F S J last (l.drop i)) := by
  obtain ⟨hF, hS, hJ, _⟩ := isRuleB_spec hr
  induction d with
  | zero =>
    intro k i last hi hk _
    obtain ⟨k, rfl⟩ : ∃ m, k = m + 1 := ⟨k - 1, by omega⟩
    simp only [remontoirref04_keeps.l0]
    rw [if_neg (by omega), List.drop_eq_nil_of_le (by omega)]; rfl
  | succ d ih =>
    intro k i last hi hk hla
    obtain ⟨k, rfl⟩ : ∃ m, k = m + 1 := ⟨k - 1, by omega⟩
    simp only [remontoirref04_keeps.l0]
    rw [if_pos (by omega), if_pos (by omega), drop_rd l i (by omega)]
    simp only [lies_f, Option.bind_some, keepsB]
    rw [wr (x := -S) (by omega), wr (x := last - J) (by omega), wr (x := last + J) (by omega), wr (x := (i : Int) + 1) (by omega)]
    cases h1 : lies (rd l i) (-S) F
    · simp
    · have h1' := lies_iff.1 h1
      have h2 : lies (rd l i) (last - J) (last + J) = lies (rd l i - last) (-J) J := by
        rw [Bool.eq_iff_iff, lies_iff, lies_iff]; omega
      rw [h2]
      cases h3 : lies (rd l i - last) (-J) J
      · simp
      · have := ih k (i + 1) (rd l i) (by omega) (by omega) (by omega)
        simpa using this
theorem keeps_f {F S J L H : Int} (hr : isRuleB F S J L H = true) (l : List Int) (hl : l.length ≤ 17592186044416) (k : Nat) (hk : l.length < k) : remontoirref04_keeps.f k F S J L H l = some (keepsB F S J 0 l) := by
  have := keeps_l0 hr l hl l.length k 0 0 (by omega) hk (by omega)
  simpa [remontoirref04_keeps.f] using this
theorem total_l0 (l : List Int) (hl : l.length ≤ 17592186044416) (d : Nat) : ∀ (k i : Nat) (a : Int), i + d = l.length → d < k →
    remontoirref00_Total.l0 k l a l.length i = some ((l.drop i).foldl (fun a b => wrap64 (a + b)) a) := by
  induction d with
  | zero =>
    intro k i a hi hk
    obtain ⟨k, rfl⟩ : ∃ m, k = m + 1 := ⟨k - 1, by omega⟩
    simp only [remontoirref00_Total.l0]
    rw [if_neg (by omega), List.drop_eq_nil_of_le (by omega)]; rfl
  | succ d ih =>
    intro k i a hi hk
    obtain ⟨k, rfl⟩ : ∃ m, k = m + 1 := ⟨k - 1, by omega⟩
    simp only [remontoirref00_Total.l0]
    rw [if_pos (by omega), if_pos (by omega), if_pos (by omega), drop_rd l i (by omega), wr (x := (i : Int) + 1) (by omega)]
    have := ih k (i + 1) (wrap64 (a + rd l i)) (by omega) (by omega)
    simpa using this
theorem total_f (l : List Int) (hl : l.length ≤ 17592186044416) (k : Nat) (hk : l.length < k) : remontoirref00_Total.f k l = some (total l) := by
  have := total_l0 l hl l.length k 0 0 (by omega) hk
  simpa [remontoirref00_Total.f, total] using this
theorem size_f (n : Int) (h : -9223372036854775807 ≤ n) (h2 : n ≤ 9223372036854775807) : remontoirref00_Size.f n = some (if n < 0 then -n else n) := by
  unfold remontoirref00_Size.f
  by_cases hn : n < 0
  · rw [if_pos hn, if_pos hn, wr (by omega)]
  · rw [if_neg hn, if_neg hn]
theorem smooth_f {F S J L H : Int} (l : List Int) (hl : l.length ≤ 17592186044416) (hm : ∀ x ∈ l, -1000 ≤ x ∧ x ≤ 1000) : remontoirref04_smooth.f F S J L H l = some (smoothB J l.length l) := by
  unfold remontoirref04_smooth.f smoothB
  by_cases h0 : l.length = 0
  · rw [if_pos (by omega)]; simp [h0]
  · rw [if_neg (by omega), wr (x := (l.length : Int) - 1) (by omega), if_pos (by omega), if_pos (by omega)]
    have hk : l.length - 1 < l.length := by omega
    have hx := hm l[l.length - 1] (List.getElem_mem hk)
    have he : rd l ((l.length : Int) - 1) = l[l.length - 1] := by
      unfold rd
      rw [show ((l.length : Int) - 1).toNat = l.length - 1 by omega, List.getD_eq_getElem?_getD, List.getElem?_eq_getElem hk]; rfl
    rw [he, size_f _ (by omega) (by omega), List.getElem?_eq_getElem hk]
    simp only [Option.bind_some, Option.getD_some, h0, decide_false, Bool.false_or]
    congr 1
    rw [Bool.eq_iff_iff, decide_eq_true_eq, lies_iff]
    split <;> omega
theorem IsPlan_f (F S J L H off : Int) (l : List Int) (hl : l.length ≤ 17592186044416) (k : Nat) (hk : l.length < k) : remontoirref04_IsPlan.f k F S J L H off l = scale_IsPlan.f F S J L H off l := by
  unfold remontoirref04_IsPlan.f scale_IsPlan.f
  rw [asked_f, if_pos hl]
  simp only [Option.bind_some]
  cases hr : isRuleB F S J L H
  · simp
  · cases ho : lies off (-20000) 20000
    · simp
    · simp only [if_true]
      have ho' := lies_iff.1 ho
      by_cases hn : l.length ≤ 200
      · rw [if_pos (by omega), keeps_f hr l hl k hk]
        simp only [Option.bind_some]
        cases hkp : keepsB F S J 0 l
        · simp [isPlanB, hkp]
        · have hb := (of_keeps l 0 hkp).1
          obtain ⟨hF, hS, _⟩ := isRuleB_spec hr
          rw [if_pos rfl, smooth_f l hl fun x hx => by have := hb x hx; omega]
          simp only [Option.bind_some]
          cases hsm : smoothB J l.length l
          · simp [isPlanB, hkp, hsm]
          · rw [if_pos rfl, total_f l hl k hk, wr (x := -off) (by omega)]
            have hbe : (total l == -off) = decide (total l = -off) := by rw [Bool.eq_iff_iff]; simp
            simp [isPlanB, hkp, hsm, hn, hbe]
      · rw [if_neg (by omega)]
        simp [isPlanB, hn]

theorem has_f (a b n : Int) : remontoirref00_Has.f a b n = some (lies n a b) := by
  unfold remontoirref00_Has.f
  rw [lies_f]; rfl
theorem mul_bd {a b : Int} (h0 : 0 ≤ a ∧ a ≤ 500) (h1 : 0 ≤ b ∧ b ≤ 100000) : 0 ≤ a * b ∧ a * b ≤ 50000000 := by
  have h2 : 0 ≤ a * b := Int.mul_nonneg h0.1 h1.1
  have h3 : a * b ≤ 500 * 100000 := Int.mul_le_mul h0.2 h1.2 h1.1 (by omega)
  omega
theorem mn_eq (a b : Int) : mn a b = min a b := by unfold mn; omega
theorem mx_eq (a b : Int) : mx a b = max a b := by unfold mx; omega
theorem capsTo_sum (each J : Int) (t k : Nat) : sumL (capsTo each J t (k + 1)) = sumL (capsTo each J t k) + capAt each J t k := by
  rw [capsTo_succ, sumL_append]; simp [sumL]
theorem most_l0 {each J : Int} {t : Nat} (he : 0 ≤ each ∧ each ≤ 500) (hJ : 1 ≤ J ∧ J ≤ 500) (ht : t ≤ 201) (d : Nat) : ∀ (k i : Nat), i + d = t → d < k →
    remontoirref04_most.l0 k t each J (sumL (capsTo each J t i)) ((i : Int) + 1) = some (capSum each J t) := by
  induction d with
  | zero =>
    intro k i hi hk
    obtain ⟨k, rfl⟩ : ∃ m, k = m + 1 := ⟨k - 1, by omega⟩
    simp only [remontoirref04_most.l0]
    rw [if_neg (by omega)]
    obtain rfl : i = t := by omega
    rfl
  | succ d ih =>
    intro k i hi hk
    obtain ⟨k, rfl⟩ : ∃ m, k = m + 1 := ⟨k - 1, by omega⟩
    simp only [remontoirref04_most.l0]
    rw [if_pos (by omega)]
    have h1 := mul_bd (a := J) (b := (i : Int) + 1) (by omega) (by omega)
    have h2 := mul_bd (a := J) (b := (t : Int) - i) (by omega) (by omega)
    have hs := sumL_bd (capsTo each J t i) (fun x hx => by
      have : x ∈ caps each J t := (capsTo_prefix each J t i (by omega)).subset hx
      exact caps_bd he.1 he.2 hJ.1 x this)
    have hlen : (capsTo each J t i).length = i := by simp [capsTo]
    rw [hlen] at hs
    have hc := capAt_bd (ticks := t) (k := i) he.1 he.2 hJ.1 (by omega)
    rw [wr (x := (t : Int) + 1) (by omega), wr (x := (t : Int) + 1 - ((i : Int) + 1)) (by omega), show (t : Int) + 1 - ((i : Int) + 1) = (t : Int) - i by omega,
      wr (x := J * ((i : Int) + 1)) (by omega), wr (x := J * ((t : Int) - i)) (by omega), wr (x := (i : Int) + 1 + 1) (by omega), mn_eq, mn_eq]
    change remontoirref04_most.l0 k t each J (wrap64 (sumL (capsTo each J t i) + capAt each J t i)) _ = _
    rw [wr (x := sumL (capsTo each J t i) + capAt each J t i) (by omega), ← capsTo_sum]
    exact ih k (i + 1) (by omega) (by omega)
theorem most_f {each J : Int} {t : Nat} (he : 0 ≤ each ∧ each ≤ 500) (hJ : 1 ≤ J ∧ J ≤ 500) (ht : t ≤ 201) (k : Nat) (hk : t < k) : remontoirref04_most.f k t each J = some (capSum each J t) := by
  have := most_l0 (t := t) he hJ ht t k 0 (by omega) hk
  simpa [remontoirref04_most.f, capsTo, sumL] using this
theorem capSum_bd' {each J : Int} {t : Nat} (he : 0 ≤ each ∧ each ≤ 500) (hJ : 1 ≤ J) (ht : t ≤ 201) : 0 ≤ capSum each J t ∧ capSum each J t ≤ 200000 := by
  have h := sumL_bd (caps each J t) (caps_bd he.1 he.2 hJ)
  simp [caps] at h
  unfold capSum caps
  omega
theorem reach_f {F S J L H : Int} {t : Nat} (hr : isRuleB F S J L H = true) (ht : t ≤ 201) (k : Nat) (hk : t < k) : remontoirref04_reach.f k F S J L H t = some (-(capSum S J t), capSum F J t) := by
  obtain ⟨hF, hS, hJ, _⟩ := isRuleB_spec hr
  unfold remontoirref04_reach.f
  rw [most_f hS hJ ht k hk, most_f hF hJ ht k hk]
  have := capSum_bd' (t := t) hS hJ.1 ht
  simp only [Option.bind_some, remontoirref00_To.f]
  rw [wr (x := -(capSum S J t)) (by omega)]
/-- What can be reached in the first so many numbers of ticks. -/
def reachL (F S J : Int) (n : Nat) : List S23 := (List.range n).map fun t => ⟨-(capSum S J t), capSum F J t⟩
theorem reaches_l0 {F S J L H : Int} (hr : isRuleB F S J L H = true) (d : Nat) : ∀ (k i : Nat), i + d = 201 → 201 + d < k → remontoirref04_reaches.l0 k (reachL F S J i) i F S J L H = some (reachL F S J 201) := by
  induction d with
  | zero =>
    intro k i hi hk
    obtain ⟨k, rfl⟩ : ∃ m, k = m + 1 := ⟨k - 1, by omega⟩
    simp only [remontoirref04_reaches.l0]
    rw [if_neg (by omega)]
    obtain rfl : i = 201 := by omega
    rfl
  | succ d ih =>
    intro k i hi hk
    obtain ⟨k, rfl⟩ : ∃ m, k = m + 1 := ⟨k - 1, by omega⟩
    simp only [remontoirref04_reaches.l0]
    have hlen : (reachL F S J i).length = i := by simp [reachL]
    rw [if_pos (by omega), reach_f hr (by omega) k (by omega)]
    simp only [Option.bind_some]
    rw [if_pos (by omega), wr (x := (i : Int) + 1) (by omega)]
    have := ih k (i + 1) (by omega) (by omega)
    rw [show reachL F S J (i + 1) = reachL F S J i ++ [⟨-(capSum S J i), capSum F J i⟩] by simp [reachL, List.range_succ]] at this
    exact this
theorem reaches_f {F S J L H : Int} (hr : isRuleB F S J L H = true) (k : Nat) (hk : 402 < k) : remontoirref04_reaches.f k F S J L H = some (reachL F S J 201) := by
  have := reaches_l0 hr 201 k 0 (by omega) (by omega)
  simpa [remontoirref04_reaches.f, reachL] using this
theorem few_l0 {F S J off : Int} (ho : -20000 ≤ off ∧ off ≤ 20000) (d : Nat) : ∀ (k i : Nat), i + d = 201 → d < k → remontoirref04_fewest.l0 k (reachL F S J 201) off i = some (fewFrom F S J off d i) := by
  induction d with
  | zero =>
    intro k i hi hk
    obtain ⟨k, rfl⟩ : ∃ m, k = m + 1 := ⟨k - 1, by omega⟩
    simp only [remontoirref04_fewest.l0]
    rw [if_neg (by simp [reachL]; omega)]; rfl
  | succ d ih =>
    intro k i hi hk
    obtain ⟨k, rfl⟩ : ∃ m, k = m + 1 := ⟨k - 1, by omega⟩
    simp only [remontoirref04_fewest.l0]
    have hrd : rd_T23 (reachL F S J 201) i = ⟨-(capSum S J i), capSum F J i⟩ := by
      simp [rd_T23, reachL, List.getD_eq_getElem?_getD, show i < 201 by omega]
    rw [if_pos (by simp [reachL]; omega), if_pos (by omega), hrd, has_f, wr (x := -off) (by omega), wr (x := (i : Int) + 1) (by omega)]
    simp only [Option.bind_some, fewFrom, enoughB]
    have := ih k (i + 1) (by omega) (by omega)
    split
    · rename_i hc; exact congrArg some (if_pos hc).symm
    · rename_i hc
      have h2 : (if lies (-off) (-capSum S J i) (capSum F J i) = true then (i : Int) else fewFrom F S J off d (i + 1)) = fewFrom F S J off d (i + 1) := if_neg hc
      refine Eq.trans ?_ (congrArg some h2.symm)
      simpa using this
theorem few_f {F S J off : Int} (ho : -20000 ≤ off ∧ off ≤ 20000) (k : Nat) (hk : 201 < k) : remontoirref04_fewest.f k (reachL F S J 201) off = some (fewest F S J off) := by
  have := few_l0 (F := F) (S := S) (J := J) ho 201 k 0 (by omega) hk
  simpa [remontoirref04_fewest.f, fewest] using this
theorem Fewest_f (F S J L H off : Int) (k : Nat) (hk : 402 < k) : remontoirref04_Fewest.f k F S J L H off = scale_Fewest.f F S J L H off := by
  unfold remontoirref04_Fewest.f scale_Fewest.f
  rw [asked_f]
  simp only [Option.bind_some]
  cases hr : isRuleB F S J L H
  · simp
  · cases ho : lies off (-20000) 20000
    · simp
    · simp only [if_true]
      rw [reaches_f hr k hk]
      simp only [Option.bind_some]
      rw [few_f (lies_iff.1 ho) k (by omega)]
      simp only [Option.bind_some]
      split <;> simp_all

/-- A plan that is made is one, as short as it must be. -/
theorem planL_is {F S J L H off : Int} (hr : isRuleB F S J L H = true) (ho : lies off (-20000) 20000 = true) (hf : ¬ fewest F S J off < 0) :
    isPlanB F S J off (planL F S J off).length (planL F S J off) = true ∧ ((planL F S J off).length : Int) = fewest F S J off ∧ (planL F S J off).length ≤ 200 := by
  obtain ⟨hF, hS, hJ, _⟩ := isRuleB_spec hr
  rcases fewest_spec F S J off with ⟨h1, _⟩ | ⟨n, h1, h2, h3, _⟩
  · omega
  · have h3' := lies_iff.1 (show lies (-off) (-(capSum S J n)) (capSum F J n) = true from h3)
    unfold planL
    rw [h1, Int.toNat_natCast]
    split
    · have := plan_is (F := F) (S := S) (J := J) (off := off) (s := -1) (each := S) (want := off) (t := n) hF hS hJ.1 h2 (.inr ⟨rfl, rfl, rfl⟩) (by omega) (by omega)
      exact ⟨this.1, by rw [this.2], by rw [this.2]; exact h2⟩
    · have := plan_is (F := F) (S := S) (J := J) (off := off) (s := 1) (each := F) (want := -off) (t := n) hF hS hJ.1 h2 (.inl ⟨rfl, rfl, rfl⟩) (by omega) (by omega)
      exact ⟨this.1, by rw [this.2], by rw [this.2]; exact h2⟩

end Go.Proofs.TrydX.X
end

section
/- The plain law of ScalePlans. -/
set_option linter.unusedSimpArgs false
set_option linter.unusedVariables false
namespace Go.Proofs.YtidnopmjhhmedaaDoor
open Go.RowKit Go.Proofs.YtidnopmjhhmedaaDoorW.PrintWords Go.Proofs.YtidnopmjhhmedaaDoorW.PrintLast TrydX.X

theorem works_true : remontoirlaw04_works.f = some true := rfl
theorem scalePlans_pure (F S J L H off : Int) (l : List Int) (wr : W64 F ∧ W64 S ∧ W64 J ∧ W64 L ∧ W64 H) (wo : W64 off) (wl : ∀ z ∈ l, W64 z) (hl : l.length ≤ 17592186044416) :
    ∃ k, remontoirlaw04_ScalePlans.f k F S J L H off l = some true := by
  refine ⟨l.length + 1000, ?_⟩
  unfold remontoirlaw04_ScalePlans.f
  rw [IsPlan_f F S J L H off l hl _ (by omega)]
  have hi : ∃ x, scale_IsPlan.f F S J L H off l = some x := by
    unfold scale_IsPlan.f
    rw [if_pos hl]
    split <;> (try split) <;> exact ⟨_, rfl⟩
  obtain ⟨x, hx⟩ := hi
  rw [hx]
  simp only [Option.bind_some, bne_self_eq_false, Bool.false_eq_true, if_false]
  rw [show l.length + 1000 = (l.length + 999) + 1 from rfl]
  simp only [remontoirlaw04_ScalePlans.j0]
  rw [Fewest_f F S J L H off (l.length + 999) (by omega)]
  simp only [Bool.false_eq_true, if_false]
  unfold scale_Fewest.f scale_Plan.f
  rw [show l.length + 999 = (l.length + 998) + 1 from rfl]
  cases hr : isRuleB F S J L H
  · simp [remontoirlaw04_ScalePlans.j1, works_true]
  · cases ho : lies off (-20000) 20000
    · simp [remontoirlaw04_ScalePlans.j1, works_true]
    · by_cases hf : fewest F S J off < 0
      · simp [remontoirlaw04_ScalePlans.j1, works_true, hf]
      · obtain ⟨h1, h2, h3⟩ := planL_is hr ho hf
        simp only [if_true, Option.bind_some, hf, if_false, bne_self_eq_false, remontoirlaw04_ScalePlans.j1, Bool.false_eq_true]
        rw [IsPlan_f F S J L H off (planL F S J off) (by omega) _ (by omega)]
        unfold scale_IsPlan.f
        rw [if_pos (by omega), hr, ho]
        simp [h1, h2, works_true]
end Go.Proofs.YtidnopmjhhmedaaDoor
end

section
/- The row and the card of ScalePlans. Written by wip/tools/mkRow.py. -/
set_option linter.unusedVariables false
set_option linter.unusedSimpArgs false
namespace Go.Proofs.YtidnopmjhhmedaaDoor
open Go.ChangeShapes Go.WideShapes Go.ChangeAt Go.RowKit TrydX.X

set_option maxRecDepth 100000 in
theorem scalePlans_lifted (os : Os) (started : os.Started) (H : Type) (enc : TypeId × Value → H) :
    ReturnsInHanded {} Tryd.checked os 3 .any (fun w args => (Rows.scalePlansSpec.pre enc Tryd.prog Tryd.f3 [] false w args ∧ laidMetH Tryd.prog laid1 w) ∧ sizedMet enc Tryd.prog Tryd.f3 (OpenSpec.ofChange Rows.scalePlansSpec) false w args)
      (Rows.scalePlansSpec.post enc Tryd.prog Tryd.f3 false true false false) := by
  refine returnsInHanded_of_change_and (C := Tryd.checked) (X := fun w _ => laidMetH Tryd.prog laid1 w) (fun _ _ _ hh h => h.of_heap hh) own started (by kernel_rfl) Tryd.func3
    (ChangeSpec.witness_shaped (enc := enc) (C := Tryd.checked) (os := os) (X := fun w _ => laidMetH Tryd.prog laid1 w) false (World.doorLaid Tryd.prog 400 os) #[.agg #[.int .i64 0, .int .i64 0, .int .i64 0, .int .i64 0, .int .i64 0], .int .i64 0, .slice none 0 0] 8 rfl (World.shaped_of_RefB (by kernel_rfl) (by kernel_rfl)) (by kernel_rfl) (by kernel_rfl) (by kernel_rfl) (door_met os _)) ?_
  intro W base args ds gs before hval0 hW hcnd hsz0 hL _
  have hsz : (DataW.weightsEach Tryd.prog (Tryd.f3.params.toList ++ Rows.scalePlansSpec.plain.varTypes Tryd.prog) (ds ++ gs)).all (· ≤ reachBytes) = true := hsz0
  have hval : ∀ (j : Nat) t v, Tryd.f3.params[j]? = some t → args[j]? = some v → Value.okWide Tryd.prog W .any base t v := hval0
  have hW' := hW
  obtain ⟨p, q, hA0, hV, rfl, hfz, hnd⟩ := hW
  have hA : DataW.TrodAll enc Tryd.prog W 0 (fun _ => true) true Tryd.f3.params.toList args.toList ds p := hA0
  rw [Tryd.params3] at hA hval hsz
  obtain ⟨v0, vs0, d0, ds0, p0, q0, hargs, rfl, rfl, h0, r0⟩ := trodAll_cons hA
  obtain ⟨v1, vs1, d1, ds1, p1, q1, rfl, rfl, rfl, h1, r1⟩ := trodAll_cons r0
  obtain ⟨v2, vs2, d2, ds2, p2, q2, rfl, rfl, rfl, h2, r2⟩ := trodAll_cons r1
  obtain ⟨rfl, rfl, rfl⟩ := trodAll_nil r2
  obtain rfl : args = #[v0, v1, v2] := by cases args; simp_all
  obtain ⟨rfl, rfl⟩ := trodVars_none hV
  have lt0 : ∀ x ∈ p0, x.block < W.heap.size := by obtain ⟨m, hm⟩ := h0; exact DataW.trod_lt m _ _ _ hm
  have k0 := h0
  obtain ⟨cs0, rfl, hcs0⟩ := agg_of Tryd.underlying25 (hval 0 25 v0 rfl rfl)
  obtain ⟨m0, hm0⟩ := h0
  rw [hcs0] at hm0
  obtain ⟨a_0, b_0, c_0, d_0, e_0, rfl, wf0⟩ := op25 hm0
  have lt1 : ∀ x ∈ p1, x.block < W.heap.size := by obtain ⟨m, hm⟩ := h1; exact DataW.trod_lt m _ _ _ hm
  have k1 := h1
  obtain ⟨n_1, rfl, rfl, rfl, wf1⟩ := open_int Tryd.underlying3 (hval 1 3 v1 rfl rfl) h1
  have lt2 : ∀ x ∈ p2, x.block < W.heap.size := by obtain ⟨m, hm⟩ := h2; exact DataW.trod_lt m _ _ _ hm
  have k2 := h2
  obtain ⟨A_2, len2, cap2, rfl⟩ := okWide_slice Tryd.underlying26 (hval 2 26 v2 rfl rfl)
  obtain ⟨m2, hm2⟩ := h2
  obtain ⟨B_2, c_2, l_2, e2, rd2, hc2, wf2, hs2⟩ := op26 hm2
  have z2 := hs2 (weights_at hsz (j := 2) (t := 26) (d := d2) rfl rfl)
  simp [Value.cells] at e2
  obtain ⟨rfl, rfl, rfl⟩ := e2
  obtain ⟨k, hk⟩ := scalePlans_pure a_0 b_0 c_0 d_0 e_0 n_1 l_2 wf0 wf1 wf2 z2
  clear hA0 hval0 hsz0 hsz
  refine (remontoirlaw04_ScalePlans.calls k a_0 b_0 c_0 d_0 e_0 n_1 A_2 cap2 l_2 true W rd2 hc2 (ways_of_laid hL) hk).mono fun e W' ⟨he, bel⟩ => ?_
  subst he
  exact ⟨_, rfl, _, _, _, [], _, [], hW', trodAll_mk1 (shut_bool Tryd.underlying4 _), (trodAll_cons_mk (Below.trod laidOut (by kernel_rfl) (of_decide_eq_true (by kernel_rfl)) k0 bel lt0) (trodAll_cons_mk (Below.trod laidOut (by kernel_rfl) (of_decide_eq_true (by kernel_rfl)) k1 bel lt1) (trodAll_cons_mk (Below.trod laidOut (by kernel_rfl) (of_decide_eq_true (by kernel_rfl)) k2 bel lt2) trodAll_mk0))), rfl, bel.frame _, fun h => by cases h⟩

theorem scalePlans_row : Rows.ScalePlansSaid :=
  OpenClaim.holds_of_wide 3 Tryd.f3 rfl rfl rfl rfl rfl rfl rfl ⟨rfl, rfl, rfl, rfl, rfl⟩ rfl rfl rfl rfl rfl (by kernel_rfl) Tryd.func3 (by kernel_rfl)
    (of_decide_eq_true (by kernel_rfl)) (by unfold Func.isWrapper; first | (rw [if_pos (by decide +kernel)]; kernel_rfl) | (rw [if_neg (by decide +kernel)]; exact ⟨rfl, rfl⟩))
    (fun os started H enc _ => scalePlans_lifted os started H enc)

/-- THE CARD. -/
theorem scalePlans_holds : Rows.ScalePlansCardSaid :=
  Claim7.holds_tied_plain_at .later [] [.funcs] true (true, "42c157d2a2e9e6c40d73358f232322a0bd5e742c3af8e9a8c48de9150ba4d318") false
    scalePlans_row (fun _ h => by cases h) (by kernel_rfl) (fun _ h => by cases h) scalePlans_row_tie rfl ⟨rfl, rfl⟩ (by kernel_rfl) rfl
    (fun f fn hf hfn => by
      obtain rfl : f = 3 := Option.some.inj ((show Tryd.prog.funcNamed "remontoir/remontoirlaw04.ScalePlans" = some 3 by kernel_rfl).symm.trans hf) |>.symm
      obtain rfl : fn = Tryd.f3 := (Option.some.inj (Tryd.func3.symm.trans hfn)).symm
      exact ⟨by kernel_rfl, fun j t ht => by
        rw [Tryd.params3] at ht
        have h3 : t ∈ [(25 : TypeId), (3 : TypeId), (26 : TypeId)] := by
          obtain ⟨hj, e⟩ := Array.getElem?_eq_some_iff.1 ht
          rw [← e]
          exact Array.getElem_mem_toList hj
        simp only [List.mem_cons, List.not_mem_nil, or_false] at h3
        rcases h3 with rfl | rfl | rfl
        · exact (show Tryd.prog.wantsStandIn 25 = false by kernel_rfl)
        · exact (show Tryd.prog.wantsStandIn 3 = false by kernel_rfl)
        · exact (show Tryd.prog.wantsStandIn 26 = false by kernel_rfl)⟩)
    (by kernel_rfl)
#print axioms scalePlans_holds
end Go.Proofs.YtidnopmjhhmedaaDoor
end
