/- PROVED: ScaleBetweenCardSaid, for every input, where the listed variable reads as the program's text lays it. Part 6 of 6: of this session; merged by wip/tools/mkClaim.py. -/
import Derived.Test.YtidnopmjhhmedaaDoorMBetwe
import Derived.Test.YtidnopmjhhmedaaDoorMBetwd
import Derived.Test.YtidnopmjhhmedaaDoorMBetwc
import Derived.Test.YtidnopmjhhmedaaDoorMBetwb
import Derived.Test.YtidnopmjhhmedaaDoorCards
import Derived.Test.YtidnopmjhhmedaaDoorTie
import Derived.WalkKit
import Derived.Below
import Derived.Carry
import Derived.SevenTiedAt
section
/- Plain: draws that are steered within a rule. -/
set_option linter.unusedSimpArgs false
set_option linter.unusedVariables false
namespace Go.Proofs.TrydX.X
open Go.RowKit Go.Proofs.YtidnopmjhhmedaaDoorW.PrintWords Go.Proofs.YtidnopmjhhmedaaDoorW.PrintLast
open Go.Proofs.YtidnopmjhhmedaaDoor

theorem isRule_f (F S J L H : Int) : remontoirlaw04_isRule.f F S J L H = some (isRuleB F S J L H) := by
  unfold remontoirlaw04_isRule.f scale_Reach.f
  cases hr : isRuleB F S J L H
  · simp
  · obtain ⟨hF, hS, hJ, hL⟩ := isRuleB_spec hr
    have h0 : lies 0 0 200 = true := by decide
    simp only [if_true, h0, Option.bind_some, lies_f, valid_f, lies_iff.2 hF, lies_iff.2 hS, lies_iff.2 hJ]
    simp; omega
theorem Rest_f (x m : Int) (hm : 0 < m) (hm2 : m ≤ 4611686018427387904) : ∃ r, remontoirref00_Rest.f x m = some r ∧ 0 ≤ r ∧ r < m := by
  unfold remontoirref00_Rest.f
  rw [if_neg (by omega)]
  have h1 := Int.tmod_lt_of_pos x hm
  have h2 := Int.lt_tmod_of_pos x hm
  split
  · rename_i h
    rw [wr (by omega)]
    exact ⟨_, rfl, by omega, by omega⟩
  · exact ⟨_, rfl, by omega, h1⟩
theorem At_f (l : List Int) (i : Int) (hl : l.length ≤ 17592186044416) : ∃ v, remontoirref00_At.f l i = some v := by
  unfold remontoirref00_At.f
  split
  · exact ⟨_, rfl⟩
  · obtain ⟨r, h1, h2, h3⟩ := Rest_f i l.length (by omega) (by omega)
    rw [h1]
    simp only [Option.bind_some]
    rw [if_pos h2, if_pos h3]
    exact ⟨_, rfl⟩
theorem From_f (a b v : Int) (ha : -1000000000 ≤ a ∧ a ≤ 1000000000) (hb : -1000000000 ≤ b ∧ b ≤ 1000000000) : ∃ r, remontoirref00_From.f a b v = some r ∧ (a ≤ b → a ≤ r ∧ r ≤ b) := by
  unfold remontoirref00_From.f
  split
  · exact ⟨_, rfl, fun _ => by omega⟩
  · rw [wr (x := b - a) (by omega), wr (x := b - a + 1) (by omega), if_neg (by omega)]
    obtain ⟨r, h1, h2, h3⟩ := Rest_f v (b - a + 1) (by omega) (by omega)
    rw [h1]
    simp only [Option.bind_some]
    rw [wr (x := a + r) (by omega)]
    exact ⟨_, rfl, fun _ => by omega⟩
theorem mul_small {J : Int} {d : Nat} (hJ : 0 ≤ J ∧ J ≤ 500) (hd : d ≤ 1000) : 0 ≤ J * d ∧ J * d ≤ 500000 := by
  have h1 : 0 ≤ J * d := Int.mul_nonneg hJ.1 (by omega)
  have h2 : J * d ≤ 500 * 1000 := Int.mul_le_mul hJ.2 (by omega) (by omega) (by omega)
  omega
theorem steered_l0 {F S J L H : Int} (hr : isRuleB F S J L H = true) (l : List Int) (hl : l.length ≤ 17592186044416) (sm : Bool) {n : Nat} (hn : n ≤ 100) (d : Nat) : ∀ (k i : Nat) (last : Int) (x9 : List Int), i + d = n → d < k → x9.length = i → -S ≤ last ∧ last ≤ F →
    (sm = true → -(J * i) ≤ last ∧ last ≤ J * i ∧ -(J * (d + 1 : Nat)) ≤ last ∧ last ≤ J * (d + 1 : Nat)) →
    ∃ tl, remontoirlaw04_steered.l0 k n l sm x9 last i F S J L H = some (x9 ++ tl) ∧ tl.length = d ∧ keepsB F S J last tl = true ∧
      (sm = true → ∀ (m : Nat) x, tl[m]? = some x → -(capAt S J n (i + m)) ≤ x ∧ x ≤ capAt F J n (i + m)) := by
  obtain ⟨hF, hS, hJ, _⟩ := isRuleB_spec hr
  induction d with
  | zero =>
    intro k i last x9 hi hk hx hla hsm
    obtain ⟨k, rfl⟩ : ∃ m, k = m + 1 := ⟨k - 1, by omega⟩
    simp only [remontoirlaw04_steered.l0]
    rw [if_neg (by omega)]
    exact ⟨[], by simp, rfl, rfl, fun _ m x h => by simp at h⟩
  | succ d ih =>
    intro k i last x9 hi hk hx hla hsm
    obtain ⟨k, rfl⟩ : ∃ m, k = m + 1 := ⟨k - 1, by omega⟩
    simp only [remontoirlaw04_steered.l0, remontoirref00_To.f, Option.bind_some, remontoirref00_Both.f, mx_eq, mn_eq]
    obtain ⟨v, hv⟩ := At_f l i hl
    have hd1 := mul_small (J := J) (d := d + 1) (by omega) (by omega)
    have hd0 := mul_small (J := J) (d := d) (by omega) (by omega)
    have hi1 := mul_small (J := J) (d := i + 1) (by omega) (by omega)
    have hi0 := mul_small (J := J) (d := i) (by omega) (by omega)
    have ed : J * ((d + 1 + 1 : Nat) : Int) = J * ((d + 1 : Nat) : Int) + J := by rw [show ((d + 1 + 1 : Nat) : Int) = ((d + 1 : Nat) : Int) + 1 by omega, Int.mul_add, Int.mul_one]
    have ei : J * ((i + 1 : Nat) : Int) = J * (i : Int) + J := by rw [show ((i + 1 : Nat) : Int) = (i : Int) + 1 by omega, Int.mul_add, Int.mul_one]
    rw [if_pos (by omega), hv]
    simp only [Option.bind_some]
    rw [wr (x := -S) (by omega), wr (x := last - J) (by omega), wr (x := last + J) (by omega), wr (x := (n : Int) - i) (by omega), show (n : Int) - i = ((d + 1 : Nat) : Int) by omega,
      wr (x := J * ((d + 1 : Nat) : Int)) (by omega), wr (x := -(J * ((d + 1 : Nat) : Int))) (by omega), wr (x := (i : Int) + 1) (by omega), show (i : Int) + 1 = ((i + 1 : Nat) : Int) by omega]
    have fin : ∀ r, max (-S) (last - J) ≤ r ∧ r ≤ min F (last + J) → (sm = true → -(J * ((d + 1 : Nat) : Int)) ≤ r ∧ r ≤ J * ((d + 1 : Nat) : Int)) →
        ∃ tl, remontoirlaw04_steered.l0 k n l sm (x9 ++ [r]) r ((i + 1 : Nat) : Int) F S J L H = some (x9 ++ tl) ∧ tl.length = d + 1 ∧ keepsB F S J last tl = true ∧
          (sm = true → ∀ (m : Nat) x, tl[m]? = some x → -(capAt S J n (i + m)) ≤ x ∧ x ≤ capAt F J n (i + m)) := by
      intro r hr1 hr2
      obtain ⟨tl, g1, g2, g3, g4⟩ := ih k (i + 1) r (x9 ++ [r]) (by omega) (by omega) (by simp [hx]) (by omega) (fun h => by
        have a1 := hsm h
        have a2 := hr2 h
        exact ⟨by omega, by omega, by omega, by omega⟩)
      refine ⟨r :: tl, by rw [g1, List.append_assoc]; rfl, by simp [g2], ?_, ?_⟩
      · simp only [keepsB, Bool.and_eq_true]
        exact ⟨⟨lies_iff.2 (by omega), lies_iff.2 (by omega)⟩, g3⟩
      · intro h m x hm
        cases m with
        | zero =>
          simp at hm
          subst hm
          have a1 := hsm h
          have a2 := hr2 h
          have e1 : J * ((i : Int) + 1) = J * (i : Int) + J := by rw [Int.mul_add, Int.mul_one]
          have e2 : (n : Int) - i = ((d + 1 : Nat) : Int) := by omega
          simp only [capAt, Nat.add_zero, e1, e2]
          omega
        | succ m =>
          have := g4 h m x (by simpa using hm)
          rwa [show i + 1 + m = i + (m + 1) by omega] at this
    cases sm
    · rw [if_neg (show ¬ (false = true) by decide)]
      obtain ⟨r, h1, h2⟩ := From_f (max (-S) (last - J)) (min F (last + J)) v (by omega) (by omega)
      rw [h1]
      simp only [Option.bind_some]
      rw [if_pos (by omega)]
      exact fin r (by have := h2 (by omega); omega) (fun h => by cases h)
    · rw [if_pos rfl]
      have a1 := hsm rfl
      obtain ⟨r, h1, h2⟩ := From_f (max (max (-S) (last - J)) (-(J * ((d + 1 : Nat) : Int)))) (min (min F (last + J)) (J * ((d + 1 : Nat) : Int))) v (by omega) (by omega)
      rw [h1]
      simp only [Option.bind_some]
      rw [if_pos (by omega)]
      have := h2 (by omega)
      exact (fin r (by omega) (fun _ => by omega)).imp fun tl h => ⟨h.1, h.2.1, h.2.2.1, fun _ => h.2.2.2 rfl⟩
theorem steered_f {F S J L H : Int} (hr : isRuleB F S J L H = true) (l : List Int) (hl : l.length ≤ 17592186044416) (sm : Bool) {n : Nat} (hn : n ≤ 100) (k : Nat) (hk : n < k) :
    ∃ tl, remontoirlaw04_steered.f k F S J L H n l sm = some tl ∧ tl.length = n ∧ keepsB F S J 0 tl = true ∧ (sm = true → ∀ (m : Nat) x, tl[m]? = some x → -(capAt S J n m) ≤ x ∧ x ≤ capAt F J n m) := by
  obtain ⟨hF, hS, hJ, _⟩ := isRuleB_spec hr
  have h1 := mul_small (J := J) (d := n + 1) (by omega) (by omega)
  obtain ⟨tl, g1, g2, g3, g4⟩ := steered_l0 hr l hl sm hn n k 0 0 [] (by omega) hk rfl (by omega) (fun _ => ⟨by simp, by simp, by omega, by omega⟩)
  refine ⟨tl, by unfold remontoirlaw04_steered.f; simpa using g1, g2, g3, fun h m x hm => ?_⟩
  have := g4 h m x hm
  simpa using this
theorem sumL_le : ∀ (l m : List Int), l.length = m.length → (∀ (k : Nat) x y, l[k]? = some x → m[k]? = some y → x ≤ y) → sumL l ≤ sumL m
  | [], [], _, _ => Int.le_refl _
  | x :: l, y :: m, h, hp => by
    have h1 := hp 0 x y rfl rfl
    have h2 := sumL_le l m (by simpa using h) (fun k a b ha hb => hp (k + 1) a b (by simpa using ha) (by simpa using hb))
    rw [sumL_cons, sumL_cons]; omega
  | [], _ :: _, h, _ => by simp at h
  | _ :: _, [], h, _ => by simp at h
theorem sumL_neg (l : List Int) : sumL (l.map fun x => -x) = -(sumL l) := by
  induction l with
  | nil => rfl
  | cons x l ih => rw [List.map_cons, sumL_cons, sumL_cons, ih]; omega
theorem caps_len (each J : Int) (n : Nat) : (caps each J n).length = n := by simp [caps]
/-- What lies within the caps lies in reach. -/
theorem sum_within {F S J : Int} {n : Nat} (tl : List Int) (hl : tl.length = n) (h : ∀ (m : Nat) x, tl[m]? = some x → -(capAt S J n m) ≤ x ∧ x ≤ capAt F J n m) : -(capSum S J n) ≤ sumL tl ∧ sumL tl ≤ capSum F J n := by
  unfold capSum
  constructor
  · rw [← sumL_neg]
    refine sumL_le _ _ (by simp [caps_len, hl]) ?_
    intro k x y hx hy
    have hk : k < n := by
      rcases Nat.lt_or_ge k n with h | h
      · exact h
      · rw [List.getElem?_eq_none (by omega)] at hy; cases hy
    rw [List.getElem?_map, caps_get _ _ _ _ hk] at hx
    simp at hx
    have := h k y hy
    omega
  · refine sumL_le _ _ (by simp [caps_len, hl]) ?_
    intro k x y hx hy
    have hk : k < n := by
      rcases Nat.lt_or_ge k n with h | h
      · exact h
      · rw [List.getElem?_eq_none (by omega)] at hx; cases hx
    rw [caps_get _ _ _ _ hk] at hy
    cases hy
    exact (h k x hx).2
theorem capSum_mono {each J : Int} (he : 0 ≤ each) (hJ : 0 ≤ J) (n : Nat) : capSum each J n ≤ capSum each J (n + 1) := by
  unfold capSum
  have e : caps each J (n + 1) = capsTo each J (n + 1) n ++ [capAt each J (n + 1) n] := by
    rw [show caps each J (n + 1) = capsTo each J (n + 1) (n + 1) from rfl, capsTo_succ]
  have e2 : 0 ≤ capAt each J (n + 1) n := by
    have h1 : 0 ≤ J * ((n : Int) + 1) := Int.mul_nonneg hJ (by omega)
    have h2 : 0 ≤ J * (((n + 1 : Nat) : Int) - n) := Int.mul_nonneg hJ (by omega)
    simp only [capAt]; omega
  have e3 : sumL (caps each J n) ≤ sumL (capsTo each J (n + 1) n) := by
    refine sumL_le _ _ (by simp [caps, capsTo]) ?_
    intro k x y hx hy
    have hk : k < n := by
      rcases Nat.lt_or_ge k n with h | h
      · exact h
      · rw [List.getElem?_eq_none (by rw [caps_len]; exact h)] at hx; cases hx
    rw [caps_get _ _ _ _ hk] at hx
    cases hx
    have hy2 : (caps each J (n + 1))[k]? = some y := by
      rw [e, List.getElem?_append_left (by simp [capsTo]; exact hk)]; exact hy
    rw [caps_get _ _ _ _ (by omega)] at hy2
    cases hy2
    have h3 : J * (((n + 1 : Nat) : Int) - k) = J * ((n : Int) - k) + J := by
      rw [show (((n + 1 : Nat) : Int) - k) = ((n : Int) - k) + 1 by omega, Int.mul_add, Int.mul_one]
    simp only [capAt, h3]
    omega
  rw [e, sumL_append]
  simp only [sumL, List.foldr_cons, List.foldr_nil] at e2 e3 ⊢
  omega
end Go.Proofs.TrydX.X
end

section
/- The plain law of ScaleBetween. -/
set_option linter.unusedSimpArgs false
set_option linter.unusedVariables false
namespace Go.Proofs.YtidnopmjhhmedaaDoor
open Go.RowKit Go.Proofs.YtidnopmjhhmedaaDoorW.PrintWords Go.Proofs.YtidnopmjhhmedaaDoorW.PrintLast TrydX.X
theorem few_at {F S J off : Int} {n : Nat} (hn : n ≤ 200) (h : -(capSum S J n) ≤ -off ∧ -off ≤ capSum F J n) : 0 ≤ fewest F S J off ∧ fewest F S J off ≤ n := by
  have he : enoughB F S J off n = true := lies_iff.2 h
  rcases fewest_spec F S J off with ⟨_, g2⟩ | ⟨m, g1, g2, g3, g4⟩
  · rw [g2 n hn] at he; cases he
  · rcases Nat.lt_or_ge n m with hlt | hge
    · rw [g4 n hlt] at he; cases he
    · omega
theorem between_j1 {F S J L H x y : Int} {n : Nat} (hr : isRuleB F S J L H = true) (hn : n ≤ 200) (k : Nat) :
    remontoirlaw04_ScaleBetween.j1 (k + 1) n false F S J L H x y (-(capSum S J n)) (capSum F J n) = some true := by
  obtain ⟨hF, hS, hJ, _⟩ := isRuleB_spec hr
  have hcS := capSum_bd' (t := n) hS hJ.1 (by omega)
  have hcF := capSum_bd' (t := n) hF hJ.1 (by omega)
  simp only [remontoirlaw04_ScaleBetween.j1, Bool.false_eq_true, if_false, remontoirref00_To.f, remontoirref00_Both.f, Option.bind_some, mx_eq, mn_eq]
  obtain ⟨r, e1, g1⟩ := From_f (max (-(capSum S J n)) (-20000)) (min (capSum F J n) 20000) y (by omega) (by omega)
  rw [e1]
  simp only [Option.bind_some]
  have g2 := g1 (by omega)
  rw [wr (x := -r) (by omega)]
  have hf := few_at (F := F) (S := S) (J := J) (off := -r) (n := n) hn (by omega)
  unfold scale_Fewest.f
  rw [if_pos hr, if_pos (lies_iff.2 (by omega))]
  simp only [Option.bind_some]
  have hnl : ¬ fewest F S J (-r) < 0 := by omega
  simp only [hnl, if_false, if_true, hf.2, remontoirlaw04_works.f, Option.bind_some]
theorem scaleBetween_pure (F S J L H x y : Int) (l : List Int) (wf : W64 F ∧ W64 S ∧ W64 J ∧ W64 L ∧ W64 H) (wa : W64 x ∧ W64 y) (wl : ∀ z ∈ l, W64 z) (hl : l.length ≤ 17592186044416) :
    ∃ k, remontoirlaw04_ScaleBetween.f k F S J L H x y l = some true := by
  obtain ⟨K, hK⟩ : ∃ K : Nat, K = 500 := ⟨_, rfl⟩
  refine ⟨K + 1 + 1, ?_⟩
  unfold remontoirlaw04_ScaleBetween.f
  rw [isRule_f]
  simp only [Option.bind_some]
  cases hr : isRuleB F S J L H
  · simp [remontoirlaw04_works.f]
  · obtain ⟨n0, e1, g1, g2⟩ := Rest_f x 50 (by omega) (by omega)
    obtain ⟨n, rfl⟩ : ∃ n : Nat, n0 = n := ⟨n0.toNat, by omega⟩
    obtain ⟨tl, e4, g5, g6, g7⟩ := steered_f hr l hl true (n := n) (by omega) (K + 1 + 1) (by omega)
    obtain ⟨hF, hS, hJ, _⟩ := isRuleB_spec hr
    have hcS := capSum_bd' (t := n) hS hJ.1 (by omega)
    have hcF := capSum_bd' (t := n) hF hJ.1 (by omega)
    have hmS := capSum_mono (each := S) (J := J) (by omega) (by omega) n
    have hmF := capSum_mono (each := F) (J := J) (by omega) (by omega) n
    have hw := sum_within tl g5 (g7 rfl)
    have hb := (of_keeps tl 0 g6).1
    have htot : total tl = sumL tl := total_is tl (fun z hz => by have := hb z hz; omega) (by omega)
    have eR : ∀ m : Nat, m ≤ 200 → scale_Reach.f F S J L H m = some (-(capSum S J m), capSum F J m, 0) := by
      intro m hm
      unfold scale_Reach.f
      rw [if_pos hr, if_pos (lies_iff.2 (by omega)), Int.toNat_natCast]
    rw [if_pos rfl, e1]
    simp only [Option.bind_some]
    rw [wr (x := (n : Int) + 1) (by omega), show (n : Int) + 1 = ((n + 1 : Nat) : Int) by omega, eR n (by omega), eR (n + 1) (by omega)]
    simp only [Option.bind_some, e4, if_true]
    rw [if_neg (by omega), if_neg (by omega)]
    unfold remontoirref00_Within.f
    rw [if_pos (by omega), total_f tl (by omega) _ (by omega), htot]
    simp only [Option.bind_some]
    rw [if_pos (decide_eq_true (by omega)), has_f, lies_iff.2 (show -(capSum S J n) ≤ sumL tl ∧ sumL tl ≤ capSum F J n from hw)]
    simp only [Option.bind_some, Bool.not_true, remontoirlaw04_ScaleBetween.j0, Bool.false_eq_true, if_false]
    rw [total_f tl (by omega) _ (by omega), htot]
    simp only [Option.bind_some]
    rw [wr (x := -(sumL tl)) (by omega), size_f _ (by omega) (by omega)]
    have eI : ∃ b c, scale_IsPlan.f F S J L H (-(sumL tl)) tl = some (b, c) ∧ (-20000 ≤ sumL tl ∧ sumL tl ≤ 20000 → b = true ∧ c = 0) := by
      unfold scale_IsPlan.f
      rw [if_pos (by omega), if_pos hr]
      by_cases hs : -20000 ≤ sumL tl ∧ sumL tl ≤ 20000
      · rw [if_pos (lies_iff.2 (by omega))]
        refine ⟨_, _, rfl, fun _ => ⟨?_, rfl⟩⟩
        have hsm : smoothB J tl.length tl = true := by
          unfold smoothB
          rcases Nat.eq_zero_or_pos n with h0 | h0
          · simp [g5, h0]
          · have hlt : tl.length - 1 < tl.length := by omega
            have hg := g7 rfl (tl.length - 1) (tl[tl.length - 1]'hlt) (List.getElem?_eq_getElem hlt)
            rw [List.getElem?_eq_getElem hlt]
            simp only [Option.getD_some, Bool.or_eq_true]
            refine .inr (lies_iff.2 ?_)
            have e9 : (n : Int) - ((tl.length - 1 : Nat) : Int) = 1 := by omega
            simp only [capAt, e9, Int.mul_one] at hg
            omega
        unfold isPlanB
        rw [g6, hsm, htot]
        simp; omega
      · rw [if_neg (fun h => hs (by have := lies_iff.1 h; omega))]
        exact ⟨_, _, rfl, fun h => absurd h hs⟩
    obtain ⟨b, c, eI, gI⟩ := eI
    rw [eI]
    simp only [Option.bind_some]
    by_cases hs : -20000 ≤ sumL tl ∧ sumL tl ≤ 20000
    · obtain ⟨rfl, rfl⟩ := gI hs
      rw [if_pos (by split <;> omega), if_pos rfl]
      exact between_j1 hr (by omega) K
    · rw [if_neg (by split <;> omega)]
      exact between_j1 hr (by omega) K
end Go.Proofs.YtidnopmjhhmedaaDoor
end

section
/- The row and the card of ScaleBetween. Written by wip/tools/mkRow.py. -/
set_option linter.unusedVariables false
set_option linter.unusedSimpArgs false
namespace Go.Proofs.YtidnopmjhhmedaaDoor
open Go.ChangeShapes Go.WideShapes Go.ChangeAt Go.RowKit TrydX.X

set_option maxRecDepth 100000 in
theorem scaleBetween_lifted (os : Os) (started : os.Started) (H : Type) (enc : TypeId × Value → H) :
    ReturnsInHanded {} Tryd.checked os 9 .any (fun w args => (Rows.scaleBetweenSpec.pre enc Tryd.prog Tryd.f9 [] false w args ∧ laidMetH Tryd.prog laid1 w) ∧ sizedMet enc Tryd.prog Tryd.f9 (OpenSpec.ofChange Rows.scaleBetweenSpec) false w args)
      (Rows.scaleBetweenSpec.post enc Tryd.prog Tryd.f9 false true false false) := by
  refine returnsInHanded_of_change_and (C := Tryd.checked) (X := fun w _ => laidMetH Tryd.prog laid1 w) (fun _ _ _ hh h => h.of_heap hh) own started (by kernel_rfl) Tryd.func9
    (ChangeSpec.witness_shaped (enc := enc) (C := Tryd.checked) (os := os) (X := fun w _ => laidMetH Tryd.prog laid1 w) false (World.doorLaid Tryd.prog 400 os) #[.agg #[.int .i64 0, .int .i64 0, .int .i64 0, .int .i64 0, .int .i64 0], .agg #[.int .i64 0, .int .i64 0], .slice none 0 0] 8 rfl (World.shaped_of_RefB (by kernel_rfl) (by kernel_rfl)) (by kernel_rfl) (by kernel_rfl) (by kernel_rfl) (door_met os _)) ?_
  intro W base args ds gs before hval0 hW hcnd hsz0 hL _
  have hsz : (DataW.weightsEach Tryd.prog (Tryd.f9.params.toList ++ Rows.scaleBetweenSpec.plain.varTypes Tryd.prog) (ds ++ gs)).all (· ≤ reachBytes) = true := hsz0
  have hval : ∀ (j : Nat) t v, Tryd.f9.params[j]? = some t → args[j]? = some v → Value.okWide Tryd.prog W .any base t v := hval0
  have hW' := hW
  obtain ⟨p, q, hA0, hV, rfl, hfz, hnd⟩ := hW
  have hA : DataW.TrodAll enc Tryd.prog W 0 (fun _ => true) true Tryd.f9.params.toList args.toList ds p := hA0
  rw [Tryd.params9] at hA hval hsz
  obtain ⟨v0, vs0, d0, ds0, p0, q0, hargs, rfl, rfl, h0, r0⟩ := trodAll_cons hA
  obtain ⟨v1, vs1, d1, ds1, p1, q1, rfl, rfl, rfl, h1, r1⟩ := trodAll_cons r0
  obtain ⟨v2, vs2, d2, ds2, p2, q2, rfl, rfl, rfl, h2, r2⟩ := trodAll_cons r1
  obtain ⟨rfl, rfl, rfl⟩ := trodAll_nil r2
  obtain rfl : args = #[v0, v1, v2] := by cases args; simp_all
  obtain ⟨rfl, rfl⟩ := trodVars_none hV
  have lt0 : ∀ x ∈ p0, x.block < W.heap.size := by obtain ⟨m, hm⟩ := h0; exact DataW.trod_lt m _ _ _ hm
  have k0 := h0
  obtain ⟨cs0, rfl, hcs0⟩ := agg_of Tryd.underlying25 (hval 0 25 v0 rfl rfl)
  obtain ⟨m0, hm0⟩ := h0
  rw [hcs0] at hm0
  obtain ⟨a_0, b_0, c_0, d_0, e_0, rfl, wf0⟩ := op25 hm0
  have lt1 : ∀ x ∈ p1, x.block < W.heap.size := by obtain ⟨m, hm⟩ := h1; exact DataW.trod_lt m _ _ _ hm
  have k1 := h1
  obtain ⟨cs1, rfl, hcs1⟩ := agg_arr Tryd.underlying36 (hval 1 36 v1 rfl rfl)
  obtain ⟨m1, hm1⟩ := h1
  rw [hcs1] at hm1
  obtain ⟨a_1, b_1, rfl, wf1⟩ := op36 hm1
  have lt2 : ∀ x ∈ p2, x.block < W.heap.size := by obtain ⟨m, hm⟩ := h2; exact DataW.trod_lt m _ _ _ hm
  have k2 := h2
  obtain ⟨A_2, len2, cap2, rfl⟩ := okWide_slice Tryd.underlying26 (hval 2 26 v2 rfl rfl)
  obtain ⟨m2, hm2⟩ := h2
  obtain ⟨B_2, c_2, l_2, e2, rd2, hc2, wf2, hs2⟩ := op26 hm2
  have z2 := hs2 (weights_at hsz (j := 2) (t := 26) (d := d2) rfl rfl)
  simp [Value.cells] at e2
  obtain ⟨rfl, rfl, rfl⟩ := e2
  obtain ⟨k, hk⟩ := scaleBetween_pure a_0 b_0 c_0 d_0 e_0 a_1 b_1 l_2 wf0 wf1 wf2 z2
  clear hA0 hval0 hsz0 hsz
  refine (remontoirlaw04_ScaleBetween.calls k a_0 b_0 c_0 d_0 e_0 a_1 b_1 A_2 cap2 l_2 true W rd2 hc2 (ways_of_laid hL) hk).mono fun e W' ⟨he, bel⟩ => ?_
  subst he
  exact ⟨_, rfl, _, _, _, [], _, [], hW', trodAll_mk1 (shut_bool Tryd.underlying4 _), (trodAll_cons_mk (Below.trod laidOut (by kernel_rfl) (of_decide_eq_true (by kernel_rfl)) k0 bel lt0) (trodAll_cons_mk (Below.trod laidOut (by kernel_rfl) (of_decide_eq_true (by kernel_rfl)) k1 bel lt1) (trodAll_cons_mk (Below.trod laidOut (by kernel_rfl) (of_decide_eq_true (by kernel_rfl)) k2 bel lt2) trodAll_mk0))), rfl, bel.frame _, fun h => by cases h⟩

theorem scaleBetween_row : Rows.ScaleBetweenSaid :=
  OpenClaim.holds_of_wide 9 Tryd.f9 rfl rfl rfl rfl rfl rfl rfl ⟨rfl, rfl, rfl, rfl, rfl⟩ rfl rfl rfl rfl rfl (by kernel_rfl) Tryd.func9 (by kernel_rfl)
    (of_decide_eq_true (by kernel_rfl)) (by unfold Func.isWrapper; first | (rw [if_pos (by decide +kernel)]; kernel_rfl) | (rw [if_neg (by decide +kernel)]; exact ⟨rfl, rfl⟩))
    (fun os started H enc _ => scaleBetween_lifted os started H enc)

/-- THE CARD. -/
theorem scaleBetween_holds : Rows.ScaleBetweenCardSaid :=
  Claim7.holds_tied_plain_at .later [] [.funcs] true (true, "42c157d2a2e9e6c40d73358f232322a0bd5e742c3af8e9a8c48de9150ba4d318") false
    scaleBetween_row (fun _ h => by cases h) (by kernel_rfl) (fun _ h => by cases h) scaleBetween_row_tie rfl ⟨rfl, rfl⟩ (by kernel_rfl) rfl
    (fun f fn hf hfn => by
      obtain rfl : f = 9 := Option.some.inj ((show Tryd.prog.funcNamed "remontoir/remontoirlaw04.ScaleBetween" = some 9 by kernel_rfl).symm.trans hf) |>.symm
      obtain rfl : fn = Tryd.f9 := (Option.some.inj (Tryd.func9.symm.trans hfn)).symm
      exact ⟨by kernel_rfl, fun j t ht => by
        rw [Tryd.params9] at ht
        have h3 : t ∈ [(25 : TypeId), (36 : TypeId), (26 : TypeId)] := by
          obtain ⟨hj, e⟩ := Array.getElem?_eq_some_iff.1 ht
          rw [← e]
          exact Array.getElem_mem_toList hj
        simp only [List.mem_cons, List.not_mem_nil, or_false] at h3
        rcases h3 with rfl | rfl | rfl
        · exact (show Tryd.prog.wantsStandIn 25 = false by kernel_rfl)
        · exact (show Tryd.prog.wantsStandIn 36 = false by kernel_rfl)
        · exact (show Tryd.prog.wantsStandIn 26 = false by kernel_rfl)⟩)
    (by kernel_rfl)
#print axioms scaleBetween_holds
end Go.Proofs.YtidnopmjhhmedaaDoor
end
