/- PROVED: ScaleTrueCardSaid, for every input, where the listed variable reads as the program's text lays it. Part 8 of 8: of this session; merged by wip/tools/mkClaim.py. -/
import Derived.Test.YtidnopmjhhmedaaDoorMTrueb
import Derived.Test.YtidnopmjhhmedaaDoorMTrued
import Derived.Test.YtidnopmjhhmedaaDoorMTruec
import Derived.Test.YtidnopmjhhmedaaDoorMTruef
import Derived.Test.YtidnopmjhhmedaaDoorMTrueg
import Derived.Test.YtidnopmjhhmedaaDoorCards
import Derived.Test.YtidnopmjhhmedaaDoorTie
import Derived.WalkKit
import Derived.Below
import Derived.Carry
import Derived.SevenTiedAt
section
/- Plain: a plan that is filled up to a level is a plan. -/
set_option linter.unusedSimpArgs false
set_option linter.unusedVariables false
namespace Go.Proofs.YtidnopmjhhmedaaDoor
open Go.RowKit

theorem fewFrom_spec (F S J off : Int) (d : Nat) : ∀ t : Nat, (fewFrom F S J off d t = -1 ∧ ∀ s, t ≤ s → s < t + d → enoughB F S J off s = false) ∨
    ∃ n : Nat, fewFrom F S J off d t = n ∧ t ≤ n ∧ n < t + d ∧ enoughB F S J off n = true ∧ ∀ s, t ≤ s → s < n → enoughB F S J off s = false := by
  induction d with
  | zero => intro t; exact .inl ⟨rfl, fun s h1 h2 => by omega⟩
  | succ d ih =>
    intro t
    by_cases h : enoughB F S J off t = true
    · refine .inr ⟨t, ?_, Nat.le_refl _, by omega, h, fun s h1 h2 => by omega⟩
      simp [fewFrom, h]
    · have hs : fewFrom F S J off (d + 1) t = fewFrom F S J off d (t + 1) := by simp [fewFrom, h]
      rw [hs]
      rcases ih (t + 1) with ⟨h1, h2⟩ | ⟨n, h1, h2, h3, h4, h5⟩
      · refine .inl ⟨h1, fun s h3 h4 => ?_⟩
        rcases Nat.eq_or_lt_of_le h3 with rfl | h6
        · simpa using h
        · exact h2 s h6 (by omega)
      · refine .inr ⟨n, h1, by omega, by omega, h4, fun s h6 h7 => ?_⟩
        rcases Nat.eq_or_lt_of_le h6 with rfl | h8
        · simpa using h
        · exact h5 s h8 h7
theorem fewest_spec (F S J off : Int) : (fewest F S J off = -1 ∧ ∀ s, s ≤ 200 → enoughB F S J off s = false) ∨
    ∃ n : Nat, fewest F S J off = n ∧ n ≤ 200 ∧ enoughB F S J off n = true ∧ ∀ s, s < n → enoughB F S J off s = false := by
  rcases fewFrom_spec F S J off 201 0 with ⟨h1, h2⟩ | ⟨n, h1, h2, h3, h4, h5⟩
  · exact .inl ⟨h1, fun s hs => h2 s (Nat.zero_le _) (by omega)⟩
  · exact .inr ⟨n, h1, by omega, h4, fun s hs => h5 s (Nat.zero_le _) hs⟩

/-- Neighbours differ by at most so much; the first one from d. -/
def Steps (J : Int) : Int → List Int → Prop
  | _, [] => True
  | d, x :: l => -J ≤ x - d ∧ x - d ≤ J ∧ Steps J x l
theorem of_keeps {F S J : Int} (l : List Int) : ∀ d, keepsB F S J d l = true → (∀ x ∈ l, -S ≤ x ∧ x ≤ F) ∧ Steps J d l := by
  induction l with
  | nil => intro d _; exact ⟨fun x hx => (List.not_mem_nil hx).elim, trivial⟩
  | cons x l ih =>
    intro d h
    simp only [keepsB, Bool.and_eq_true, lies_iff] at h
    obtain ⟨h1, h2⟩ := ih x h.2
    refine ⟨fun y hy => ?_, h.1.2.1, h.1.2.2, h2⟩
    rcases List.mem_cons.1 hy with e | hy
    · subst e; exact h.1.1
    · exact h1 y hy
end Go.Proofs.YtidnopmjhhmedaaDoor
end

section
-- Written by wip/tools/pr.py (a program of this repo over the kit's print.py).
namespace Go.Proofs.TrydX.X
open Go.RowKit Go.Proofs.YtidnopmjhhmedaaDoorW.PrintWords Go.Proofs.YtidnopmjhhmedaaDoorW.PrintLast Go.Proofs.YtidnopmjhhmedaaDoorW.PrintMore
attribute [local go_sem] max2_int min2_int max_two min_two max_three min_three max_four min_four   -- for this text's walks alone
set_option linter.unusedVariables false
set_option linter.unusedSimpArgs false

end Go.Proofs.TrydX.X
end

section
-- Written by wip/tools/pr.py (a program of this repo over the kit's print.py).
namespace Go.Proofs.TrydX.X
open Go.RowKit Go.Proofs.YtidnopmjhhmedaaDoorW.PrintWords Go.Proofs.YtidnopmjhhmedaaDoorW.PrintLast Go.Proofs.YtidnopmjhhmedaaDoorW.PrintMore
attribute [local go_sem] max2_int min2_int max_two min_two max_three min_three max_four min_four   -- for this text's walks alone
set_option linter.unusedVariables false
set_option linter.unusedSimpArgs false

end Go.Proofs.TrydX.X
end

section
-- Written by wip/tools/pr.py (a program of this repo over the kit's print.py).
namespace Go.Proofs.TrydX.X
open Go.RowKit Go.Proofs.YtidnopmjhhmedaaDoorW.PrintWords Go.Proofs.YtidnopmjhhmedaaDoorW.PrintLast Go.Proofs.YtidnopmjhhmedaaDoorW.PrintMore
attribute [local go_sem] max2_int min2_int max_two min_two max_three min_three max_four min_four   -- for this text's walks alone
set_option linter.unusedVariables false
set_option linter.unusedSimpArgs false

end Go.Proofs.TrydX.X
end

section
-- Written by wip/tools/pr.py (a program of this repo over the kit's print.py).
namespace Go.Proofs.TrydX.X
open Go.RowKit Go.Proofs.YtidnopmjhhmedaaDoorW.PrintWords Go.Proofs.YtidnopmjhhmedaaDoorW.PrintLast Go.Proofs.YtidnopmjhhmedaaDoorW.PrintMore
attribute [local go_sem] max2_int min2_int max_two min_two max_three min_three max_four min_four   -- for this text's walks alone
set_option linter.unusedVariables false
set_option linter.unusedSimpArgs false

end Go.Proofs.TrydX.X
end

section
-- Written by wip/tools/pr.py (a program of this repo over the kit's print.py).
namespace Go.Proofs.TrydX.X
open Go.RowKit Go.Proofs.YtidnopmjhhmedaaDoorW.PrintWords Go.Proofs.YtidnopmjhhmedaaDoorW.PrintLast Go.Proofs.YtidnopmjhhmedaaDoorW.PrintMore
attribute [local go_sem] max2_int min2_int max_two min_two max_three min_three max_four min_four   -- for this text's walks alone
set_option linter.unusedVariables false
set_option linter.unusedSimpArgs false

end Go.Proofs.TrydX.X
end

section
-- Written by wip/tools/pr.py (a program of this repo over the kit's print.py).
namespace Go.Proofs.TrydX.X
open Go.RowKit Go.Proofs.YtidnopmjhhmedaaDoorW.PrintWords Go.Proofs.YtidnopmjhhmedaaDoorW.PrintLast Go.Proofs.YtidnopmjhhmedaaDoorW.PrintMore
attribute [local go_sem] max2_int min2_int max_two min_two max_three min_three max_four min_four   -- for this text's walks alone
set_option linter.unusedVariables false
set_option linter.unusedSimpArgs false

end Go.Proofs.TrydX.X
end

section
-- Written by wip/tools/pr.py (a program of this repo over the kit's print.py).
namespace Go.Proofs.TrydX.X
open Go.RowKit Go.Proofs.YtidnopmjhhmedaaDoorW.PrintWords Go.Proofs.YtidnopmjhhmedaaDoorW.PrintLast Go.Proofs.YtidnopmjhhmedaaDoorW.PrintMore
attribute [local go_sem] max2_int min2_int max_two min_two max_three min_three max_four min_four   -- for this text's walks alone
set_option linter.unusedVariables false
set_option linter.unusedSimpArgs false

end Go.Proofs.TrydX.X
end

section
-- Written by wip/tools/pr.py (a program of this repo over the kit's print.py).
namespace Go.Proofs.TrydX.X
open Go.RowKit Go.Proofs.YtidnopmjhhmedaaDoorW.PrintWords Go.Proofs.YtidnopmjhhmedaaDoorW.PrintLast Go.Proofs.YtidnopmjhhmedaaDoorW.PrintMore
attribute [local go_sem] max2_int min2_int max_two min_two max_three min_three max_four min_four   -- for this text's walks alone
set_option linter.unusedVariables false
set_option linter.unusedSimpArgs false

end Go.Proofs.TrydX.X
end

section
-- Written by wip/tools/pr.py (a program of this repo over the kit's print.py).
namespace Go.Proofs.TrydX.X
open Go.RowKit Go.Proofs.YtidnopmjhhmedaaDoorW.PrintWords Go.Proofs.YtidnopmjhhmedaaDoorW.PrintLast Go.Proofs.YtidnopmjhhmedaaDoorW.PrintMore
attribute [local go_sem] max2_int min2_int max_two min_two max_three min_three max_four min_four   -- for this text's walks alone
set_option linter.unusedVariables false
set_option linter.unusedSimpArgs false

end Go.Proofs.TrydX.X
end

section
-- Written by wip/tools/pr.py (a program of this repo over the kit's print.py).
namespace Go.Proofs.TrydX.X
open Go.RowKit Go.Proofs.YtidnopmjhhmedaaDoorW.PrintWords Go.Proofs.YtidnopmjhhmedaaDoorW.PrintLast Go.Proofs.YtidnopmjhhmedaaDoorW.PrintMore
attribute [local go_sem] max2_int min2_int max_two min_two max_three min_three max_four min_four   -- for this text's walks alone
set_option linter.unusedVariables false
set_option linter.unusedSimpArgs false

end Go.Proofs.TrydX.X
end

section
-- Written by wip/tools/pr.py (a program of this repo over the kit's print.py).
namespace Go.Proofs.TrydX.X
open Go.RowKit Go.Proofs.YtidnopmjhhmedaaDoorW.PrintWords Go.Proofs.YtidnopmjhhmedaaDoorW.PrintLast Go.Proofs.YtidnopmjhhmedaaDoorW.PrintMore
attribute [local go_sem] max2_int min2_int max_two min_two max_three min_three max_four min_four   -- for this text's walks alone
set_option linter.unusedVariables false
set_option linter.unusedSimpArgs false

end Go.Proofs.TrydX.X
end

section
/- Plain: what the reference's functions of chapter 04 tell, in the hand's own words. -/
set_option linter.unusedSimpArgs false
set_option linter.unusedVariables false
namespace Go.Proofs.TrydX.X
open Go.RowKit Go.Proofs.YtidnopmjhhmedaaDoorW.PrintWords Go.Proofs.YtidnopmjhhmedaaDoorW.PrintLast
open Go.Proofs.YtidnopmjhhmedaaDoor

theorem wr {x : Int} (h : -9223372036854775808 ≤ x ∧ x ≤ 9223372036854775807) : wrap64 x = x := IntWalk.wrap64_in x h
theorem lies_f (n a b : Int) : remontoirref00_Lies.f n a b = some (lies n a b) := by
  unfold remontoirref00_Lies.f lies
  by_cases h : a ≤ n <;> simp [h]
theorem valid_f (a b l h : Int) : remontoirref00_Valid.f a b l h = some (decide (a ≤ b) && decide (l ≤ a) && decide (b ≤ h)) := by
  unfold remontoirref00_Valid.f
  by_cases h1 : a ≤ b <;> by_cases h2 : l ≤ a <;> simp [h1, h2]
theorem size_f (n : Int) (h : -9223372036854775807 ≤ n) (h2 : n ≤ 9223372036854775807) : remontoirref00_Size.f n = some (if n < 0 then -n else n) := by
  unfold remontoirref00_Size.f
  by_cases hn : n < 0
  · rw [if_pos hn, if_pos hn, wr (by omega)]
  · rw [if_neg hn, if_neg hn]
theorem has_f (a b n : Int) : remontoirref00_Has.f a b n = some (lies n a b) := by
  unfold remontoirref00_Has.f
  rw [lies_f]; rfl
theorem mn_eq (a b : Int) : mn a b = min a b := by unfold mn; omega
theorem mx_eq (a b : Int) : mx a b = max a b := by unfold mx; omega
theorem capSum_bd' {each J : Int} {t : Nat} (he : 0 ≤ each ∧ each ≤ 500) (hJ : 1 ≤ J) (ht : t ≤ 201) : 0 ≤ capSum each J t ∧ capSum each J t ≤ 200000 := by
  have h := sumL_bd (caps each J t) (caps_bd he.1 he.2 hJ)
  simp [caps] at h
  unfold capSum caps
  omega
end Go.Proofs.TrydX.X
end

section
-- Written by wip/tools/pr.py (a program of this repo over the kit's print.py).
namespace Go.Proofs.TrydX.X
open Go.RowKit Go.Proofs.YtidnopmjhhmedaaDoorW.PrintWords Go.Proofs.YtidnopmjhhmedaaDoorW.PrintLast Go.Proofs.YtidnopmjhhmedaaDoorW.PrintMore
attribute [local go_sem] max2_int min2_int max_two min_two max_three min_three max_four min_four   -- for this text's walks alone
set_option linter.unusedVariables false
set_option linter.unusedSimpArgs false

end Go.Proofs.TrydX.X
end

section
-- Written by wip/tools/pr.py (a program of this repo over the kit's print.py).
namespace Go.Proofs.TrydX.X
open Go.RowKit Go.Proofs.YtidnopmjhhmedaaDoorW.PrintWords Go.Proofs.YtidnopmjhhmedaaDoorW.PrintLast Go.Proofs.YtidnopmjhhmedaaDoorW.PrintMore
attribute [local go_sem] max2_int min2_int max_two min_two max_three min_three max_four min_four   -- for this text's walks alone
set_option linter.unusedVariables false
set_option linter.unusedSimpArgs false

end Go.Proofs.TrydX.X
end

section
-- Written by wip/tools/pr.py (a program of this repo over the kit's print.py).
namespace Go.Proofs.TrydX.X
open Go.RowKit Go.Proofs.YtidnopmjhhmedaaDoorW.PrintWords Go.Proofs.YtidnopmjhhmedaaDoorW.PrintLast Go.Proofs.YtidnopmjhhmedaaDoorW.PrintMore
attribute [local go_sem] max2_int min2_int max_two min_two max_three min_three max_four min_four   -- for this text's walks alone
set_option linter.unusedVariables false
set_option linter.unusedSimpArgs false

end Go.Proofs.TrydX.X
end

section
-- Written by wip/tools/pr.py (a program of this repo over the kit's print.py).
namespace Go.Proofs.TrydX.X
open Go.RowKit Go.Proofs.YtidnopmjhhmedaaDoorW.PrintWords Go.Proofs.YtidnopmjhhmedaaDoorW.PrintLast Go.Proofs.YtidnopmjhhmedaaDoorW.PrintMore
attribute [local go_sem] max2_int min2_int max_two min_two max_three min_three max_four min_four   -- for this text's walks alone
set_option linter.unusedVariables false
set_option linter.unusedSimpArgs false

end Go.Proofs.TrydX.X
end

section
-- Written by wip/tools/pr.py (a program of this repo over the kit's print.py).
namespace Go.Proofs.TrydX.X
open Go.RowKit Go.Proofs.YtidnopmjhhmedaaDoorW.PrintWords Go.Proofs.YtidnopmjhhmedaaDoorW.PrintLast Go.Proofs.YtidnopmjhhmedaaDoorW.PrintMore
attribute [local go_sem] max2_int min2_int max_two min_two max_three min_three max_four min_four   -- for this text's walks alone
set_option linter.unusedVariables false
set_option linter.unusedSimpArgs false

end Go.Proofs.TrydX.X
end

section
-- Written by wip/tools/pr.py (a program of this repo over the kit's print.py).
namespace Go.Proofs.TrydX.X
open Go.RowKit Go.Proofs.YtidnopmjhhmedaaDoorW.PrintWords Go.Proofs.YtidnopmjhhmedaaDoorW.PrintLast Go.Proofs.YtidnopmjhhmedaaDoorW.PrintMore
attribute [local go_sem] max2_int min2_int max_two min_two max_three min_three max_four min_four   -- for this text's walks alone
set_option linter.unusedVariables false
set_option linter.unusedSimpArgs false

end Go.Proofs.TrydX.X
end

section
/- Plain: what the reference's Check, errors, Error and Stated tell, in the hand's own words. -/
set_option linter.unusedSimpArgs false
set_option linter.unusedVariables false
namespace Go.Proofs.TrydX.X
open Go.RowKit Go.Proofs.YtidnopmjhhmedaaDoorW.PrintWords Go.Proofs.YtidnopmjhhmedaaDoorW.PrintLast
open Go.Proofs.YtidnopmjhhmedaaDoor

theorem drop_T71 (l : List S71) (i : Nat) (h : i < l.length) : l.drop i = rd_T71 l i :: l.drop (i + 1) := by
  rw [List.drop_eq_getElem_cons h]; simp [rd_T71, h]
section
variable {F S J L H T : Int} {st : List Int} {l7 : List S71}
end

theorem okF_iff (t : Nat) (f : Nat → Sp) : okF t f = true ↔ ∀ k, k ≤ t → (f k).lo ≤ (f k).hi := by
  unfold okF
  simp only [List.all_eq_true, List.mem_range, decide_eq_true_eq]
  exact ⟨fun h k hk => h k (by omega), fun h k hk => h k (by omega)⟩
section
variable {F S J L H : Int} {st : List Int} {l7 : List S71}
variable (hL : -100 ≤ L ∧ L ≤ H ∧ H ≤ 100) (hst : ∀ k, -500 ≤ stAt st k ∧ stAt st k ≤ 500)
include hL hst
end
theorem check_parts {F S J L H T : Int} {st : List Int} {lk : List Lk} (h : checkB F S J L H T st lk = true) : isRuleB F S J L H = true ∧ 1 ≤ T ∧ T ≤ 60 ∧ lk.length ≤ 10 ∧ lk.all (lookB T) = true := by
  unfold checkB at h
  simp only [Bool.and_eq_true, decide_eq_true_eq, lies_iff] at h
  exact ⟨h.1.1.1.1.1, h.1.1.1.1.2.1, h.1.1.1.1.2.2, h.1.2, h.2⟩
end Go.Proofs.TrydX.X
end

section
-- Written by wip/tools/pr.py (a program of this repo over the kit's print.py).
namespace Go.Proofs.TrydX.X
open Go.RowKit Go.Proofs.YtidnopmjhhmedaaDoorW.PrintWords Go.Proofs.YtidnopmjhhmedaaDoorW.PrintLast Go.Proofs.YtidnopmjhhmedaaDoorW.PrintMore
attribute [local go_sem] max2_int min2_int max_two min_two max_three min_three max_four min_four   -- for this text's walks alone
set_option linter.unusedVariables false
set_option linter.unusedSimpArgs false

end Go.Proofs.TrydX.X
end

section
/- Plain: draws that are steered within a rule. -/
set_option linter.unusedSimpArgs false
set_option linter.unusedVariables false
namespace Go.Proofs.TrydX.X
open Go.RowKit Go.Proofs.YtidnopmjhhmedaaDoorW.PrintWords Go.Proofs.YtidnopmjhhmedaaDoorW.PrintLast
open Go.Proofs.YtidnopmjhhmedaaDoor

theorem isRule_f (F S J L H : Int) : remontoirlaw04_isRule.f F S J L H = some (isRuleB F S J L H) := by
  unfold remontoirlaw04_isRule.f scale_Reach.f
  cases hr : isRuleB F S J L H
  · simp
  · obtain ⟨hF, hS, hJ, hL⟩ := isRuleB_spec hr
    have h0 : lies 0 0 200 = true := by decide
    simp only [if_true, h0, Option.bind_some, lies_f, valid_f, lies_iff.2 hF, lies_iff.2 hS, lies_iff.2 hJ]
    simp; omega
theorem Rest_f (x m : Int) (hm : 0 < m) (hm2 : m ≤ 4611686018427387904) : ∃ r, remontoirref00_Rest.f x m = some r ∧ 0 ≤ r ∧ r < m := by
  unfold remontoirref00_Rest.f
  rw [if_neg (by omega)]
  have h1 := Int.tmod_lt_of_pos x hm
  have h2 := Int.lt_tmod_of_pos x hm
  split
  · rename_i h
    rw [wr (by omega)]
    exact ⟨_, rfl, by omega, by omega⟩
  · exact ⟨_, rfl, by omega, h1⟩
theorem At_f (l : List Int) (i : Int) (hl : l.length ≤ 17592186044416) : ∃ v, remontoirref00_At.f l i = some v := by
  unfold remontoirref00_At.f
  split
  · exact ⟨_, rfl⟩
  · obtain ⟨r, h1, h2, h3⟩ := Rest_f i l.length (by omega) (by omega)
    rw [h1]
    simp only [Option.bind_some]
    rw [if_pos h2, if_pos h3]
    exact ⟨_, rfl⟩
theorem From_f (a b v : Int) (ha : -1000000000 ≤ a ∧ a ≤ 1000000000) (hb : -1000000000 ≤ b ∧ b ≤ 1000000000) : ∃ r, remontoirref00_From.f a b v = some r ∧ (a ≤ b → a ≤ r ∧ r ≤ b) := by
  unfold remontoirref00_From.f
  split
  · exact ⟨_, rfl, fun _ => by omega⟩
  · rw [wr (x := b - a) (by omega), wr (x := b - a + 1) (by omega), if_neg (by omega)]
    obtain ⟨r, h1, h2, h3⟩ := Rest_f v (b - a + 1) (by omega) (by omega)
    rw [h1]
    simp only [Option.bind_some]
    rw [wr (x := a + r) (by omega)]
    exact ⟨_, rfl, fun _ => by omega⟩
end Go.Proofs.TrydX.X
end

section
/- Plain: sound; and wider spans: what follows from less follows from more. -/
set_option linter.unusedSimpArgs false
set_option linter.unusedVariables false
namespace Go.Proofs.TrydX.X
open Go.RowKit Go.Proofs.YtidnopmjhhmedaaDoorW.PrintWords Go.Proofs.YtidnopmjhhmedaaDoorW.PrintLast
open Go.Proofs.YtidnopmjhhmedaaDoor

section
variable {F S J L H T : Int} {st : List Int} {l7 : List S71}
theorem sound_l1 (hl : l7.length ≤ 10) (d : Nat) : ∀ (k i : Nat), i + d = l7.length → 2 * d + 1 < k → ((l7.drop i).map toLk).all (lookB T) = true →
    remontoirlaw04_sound.l1 k true i F S J L H T st l7 = some true := by
  induction d with
  | zero =>
    intro k i hi hk _
    obtain ⟨k, rfl⟩ : ∃ m, k = m + 2 := ⟨k - 2, by omega⟩
    have : decide ((i : Int) < (l7.length : Int)) = false := decide_eq_false (by omega)
    simp only [remontoirlaw04_sound.l1, remontoirlaw04_sound.j4, if_true, this, Bool.false_eq_true, if_false]
  | succ d ih =>
    intro k i hi hk ha
    obtain ⟨k, rfl⟩ : ∃ m, k = m + 2 := ⟨k - 2, by omega⟩
    have hd : decide ((i : Int) < (l7.length : Int)) = true := decide_eq_true (by omega)
    simp only [remontoirlaw04_sound.l1, remontoirlaw04_sound.j4, if_true, hd]
    rw [drop_T71 l7 i (by omega), List.map_cons, List.all_cons, Bool.and_eq_true] at ha
    obtain ⟨h1, h2⟩ := ha
    simp only [lookB, toLk, Bool.and_eq_true, decide_eq_true_eq] at h1
    rw [if_pos (by omega), if_pos (by omega), lies_f, h1.1.1.1, wr (x := (i : Int) + 1) (by omega), show (i : Int) + 1 = ((i + 1 : Nat) : Int) by omega, valid_f]
    simp only [Option.bind_some, if_true]
    have e : (decide ((rd_T71 l7 i).f1.f0 ≤ (rd_T71 l7 i).f1.f1) && decide (-20000 ≤ (rd_T71 l7 i).f1.f0) && decide ((rd_T71 l7 i).f1.f1 ≤ 20000)) = true := by
      simp only [Bool.and_eq_true, decide_eq_true_eq]
      exact ⟨⟨of_decide_eq_true h1.1.2, of_decide_eq_true h1.1.1.2⟩, of_decide_eq_true h1.2⟩
    rw [e]
    exact ih k (i + 1) (by omega) (by omega) h2
theorem sound_l0 (hS : 0 ≤ S ∧ S ≤ 500) (hl : l7.length ≤ 10) (hs : st.length ≤ 60) (hb : ∀ x ∈ st, -S ≤ x ∧ x ≤ F) (ha : (l7.map toLk).all (lookB T) = true) (d : Nat) : ∀ (k i : Nat), i + d = st.length → d + 50 < k →
    remontoirlaw04_sound.l0 k true i F S J L H T st l7 = some true := by
  induction d with
  | zero =>
    intro k i hi hk
    obtain ⟨k, rfl⟩ : ∃ m, k = m + 2 := ⟨k - 2, by omega⟩
    simp only [remontoirlaw04_sound.l0, remontoirlaw04_sound.j2, if_true]
    rw [if_neg (by omega)]
    have := sound_l1 (F := F) (S := S) (J := J) (L := L) (H := H) (T := T) (st := st) hl l7.length k 0 (by omega) (by omega) (by simpa using ha)
    rw [show ((0 : Nat) : Int) = 0 from rfl] at this
    exact this
  | succ d ih =>
    intro k i hi hk
    obtain ⟨k, rfl⟩ : ∃ m, k = m + 1 := ⟨k - 1, by omega⟩
    have hil : i < st.length := by omega
    have hx := hb st[i] (List.getElem_mem hil)
    have hrd : rd st i = st[i] := by simp [rd, List.getD_eq_getElem?_getD, hil]
    simp only [remontoirlaw04_sound.l0, if_true]
    rw [if_pos (by omega), if_pos (by omega), hrd, wr (x := -S) (by omega), lies_f, lies_iff.2 hx, wr (x := (i : Int) + 1) (by omega), show (i : Int) + 1 = ((i + 1 : Nat) : Int) by omega]
    exact ih k (i + 1) (by omega) (by omega)
theorem sound_no (k : Nat) : remontoirlaw04_sound.j0 (k + 5) false F S J L H T st l7 = some false := by
  simp only [remontoirlaw04_sound.j0, remontoirlaw04_sound.l0, remontoirlaw04_sound.j2, remontoirlaw04_sound.l1, remontoirlaw04_sound.j4, Bool.false_eq_true, if_false]
theorem sound_f (h6 : st.length ≤ 17592186044416) (h7 : l7.length ≤ 17592186044416) (k : Nat) (hk : 200 < k) : remontoirlaw04_sound.f k F S J L H T st l7 = some (checkB F S J L H T st (l7.map toLk)) := by
  obtain ⟨k, rfl⟩ : ∃ m, k = m + 5 := ⟨k - 5, by omega⟩
  unfold remontoirlaw04_sound.f scale_Check.f
  rw [if_pos (show st.length ≤ 17592186044416 ∧ l7.length ≤ 17592186044416 from ⟨h6, h7⟩), isRule_f, lies_f]
  simp only [Option.bind_some, sound_no]
  cases hc : checkB F S J L H T st (l7.map toLk)
  · simp
  · obtain ⟨hr, hT1, hT2, hl, hlk⟩ := check_parts hc
    obtain ⟨hF, hS, hJ, _⟩ := isRuleB_spec hr
    have hc2 := hc
    unfold checkB at hc2
    simp only [Bool.and_eq_true, decide_eq_true_eq] at hc2
    have hs : (st.length : Int) ≤ T := hc2.1.1.1.2
    have hkp := hc2.1.1.2
    have hl' : l7.length ≤ 10 := by simpa using hl
    have hdl : decide ((l7.length : Int) ≤ 10) = true := decide_eq_true (by omega)
    rw [hr, lies_iff.2 ⟨hT1, hT2⟩, hdl]
    simp only [if_true, hs]
    rw [show k + 5 = (k + 4) + 1 from rfl]
    simp only [remontoirlaw04_sound.j0]
    have := sound_l0 (F := F) (S := S) (J := J) (L := L) (H := H) (T := T) (st := st) (l7 := l7) hS hl' (by omega) (of_keeps st 0 hkp).1 hlk st.length (k + 4) 0 (by omega) (by omega)
    rw [show ((0 : Nat) : Int) = 0 from rfl] at this
    exact this
end

/-! ### Wider. -/
def Sub (f g : Nat → Sp) : Prop := ∀ k, (g k).lo ≤ (f k).lo ∧ (f k).hi ≤ (g k).hi
theorem Sub.put {f g : Nat → Sp} (h : Sub f g) (k : Nat) (s t : Sp) (hs : t.lo ≤ s.lo ∧ s.hi ≤ t.hi) : Sub (putS f k s) (putS g k t) := by
  intro j
  unfold putS
  split
  · exact hs
  · exact h j
section
variable (st : List Int) {L H L' H' : Int} (hL : L' ≤ L) (hH : H ≤ H')
include hL hH
end
theorem Sub.refl (f : Nat → Sp) : Sub f f := fun k => ⟨Int.le_refl _, Int.le_refl _⟩
end Go.Proofs.TrydX.X
end

section
-- Written by wip/tools/pr.py (a program of this repo over the kit's print.py).
namespace Go.Proofs.TrydX.X
open Go.RowKit Go.Proofs.YtidnopmjhhmedaaDoorW.PrintWords Go.Proofs.YtidnopmjhhmedaaDoorW.PrintLast Go.Proofs.YtidnopmjhhmedaaDoorW.PrintMore
attribute [local go_sem] max2_int min2_int max_two min_two max_three min_three max_four min_four   -- for this text's walks alone
set_option linter.unusedVariables false
set_option linter.unusedSimpArgs false

end Go.Proofs.TrydX.X
end

section
-- Written by wip/tools/pr.py (a program of this repo over the kit's print.py).
namespace Go.Proofs.TrydX.X
open Go.RowKit Go.Proofs.YtidnopmjhhmedaaDoorW.PrintWords Go.Proofs.YtidnopmjhhmedaaDoorW.PrintLast Go.Proofs.YtidnopmjhhmedaaDoorW.PrintMore
attribute [local go_sem] max2_int min2_int max_two min_two max_three min_three max_four min_four   -- for this text's walks alone
set_option linter.unusedVariables false
set_option linter.unusedSimpArgs false

end Go.Proofs.TrydX.X
end

section
/- The plain law of ScaleWider. -/
set_option linter.unusedSimpArgs false
set_option linter.unusedVariables false
namespace Go.Proofs.YtidnopmjhhmedaaDoor
open Go.RowKit Go.Proofs.YtidnopmjhhmedaaDoorW.PrintWords Go.Proofs.YtidnopmjhhmedaaDoorW.PrintLast TrydX.X
theorem checkB_iff {F S J L H T : Int} {st : List Int} {lk : List Lk} : checkB F S J L H T st lk = true ↔ isRuleB F S J L H = true ∧ lies T 1 60 = true ∧ (st.length : Int) ≤ T ∧ keepsB F S J 0 st = true ∧ lk.length ≤ 10 ∧ lk.all (lookB T) = true := by
  unfold checkB
  simp only [Bool.and_eq_true, decide_eq_true_eq, and_assoc]
end Go.Proofs.YtidnopmjhhmedaaDoor
end

section
/- Plain: the order of looks, and how often each is told, change nothing; what Error tells. -/
set_option linter.unusedSimpArgs false
set_option linter.unusedVariables false
namespace Go.Proofs.YtidnopmjhhmedaaDoor
open Go.RowKit Go.Proofs.YtidnopmjhhmedaaDoorW.PrintWords Go.Proofs.YtidnopmjhhmedaaDoorW.PrintLast TrydX.X

/-! ### The order of looks, and how often each is told, change nothing. -/
theorem looks_lo (z : Int) (n : Nat) : ∀ (lk : List Lk) (f : Nat → Sp), ((lk.foldl lookS f) n).lo ≤ z ↔ (f n).lo ≤ z ∧ ∀ l ∈ lk, l.t.toNat = n → l.lo ≤ z
  | [], f => by simp
  | x :: lk, f => by
    rw [List.foldl_cons, looks_lo z n lk]
    simp only [List.mem_cons, forall_eq_or_imp, lookS]
    by_cases h : n = x.t.toNat
    · subst h
      rw [putS_self]
      simp only [bothS, forall_const, Int.max_le, and_assoc]
    · rw [putS_ne _ _ h]
      have : ¬ x.t.toNat = n := fun e => h e.symm
      simp only [this, false_implies, true_and]
theorem looks_hi (z : Int) (n : Nat) : ∀ (lk : List Lk) (f : Nat → Sp), z ≤ ((lk.foldl lookS f) n).hi ↔ z ≤ (f n).hi ∧ ∀ l ∈ lk, l.t.toNat = n → z ≤ l.hi
  | [], f => by simp
  | x :: lk, f => by
    rw [List.foldl_cons, looks_hi z n lk]
    simp only [List.mem_cons, forall_eq_or_imp, lookS]
    by_cases h : n = x.t.toNat
    · subst h
      rw [putS_self]
      simp only [bothS, forall_const, Int.le_min, and_assoc]
    · rw [putS_ne _ _ h]
      have : ¬ x.t.toNat = n := fun e => h e.symm
      simp only [this, false_implies, true_and]
theorem err_all {F S J L H T : Int} {st : List Int} {lk : List S71} (h6 : st.length ≤ 17592186044416) (h7 : lk.length ≤ 17592186044416) (hc : checkB F S J L H T st (lk.map toLk) = true) (t : Int) (ht : lies t 0 T = true) :
    scale_Error.f F S J L H T st lk t = some (if okF T.toNat (solF F S J L H T st (lk.map toLk)) = true then ((solF F S J L H T st (lk.map toLk) t.toNat).lo, (solF F S J L H T st (lk.map toLk) t.toNat).hi, 0) else (0, 0, 42)) := by
  unfold scale_Error.f
  rw [if_pos (show st.length ≤ 17592186044416 ∧ lk.length ≤ 17592186044416 from ⟨h6, h7⟩)]
  unfold askE
  rw [hc, ht]
  generalize solF F S J L H T st (lk.map toLk) = g
  simp only [if_true]
  cases okF T.toNat g <;> rfl
end Go.Proofs.YtidnopmjhhmedaaDoor
end

section
/- Plain: what truly was so lies within what follows; each number between the ends is so in a truth. -/
set_option linter.unusedSimpArgs false
set_option linter.unusedVariables false
namespace Go.Proofs.YtidnopmjhhmedaaDoor
open Go.RowKit Go.Proofs.YtidnopmjhhmedaaDoorW.PrintWords Go.Proofs.YtidnopmjhhmedaaDoorW.PrintLast TrydX.X

/-! ### What truly was so lies within what follows. -/
def InF (o : List Int) (T : Nat) (f : Nat → Sp) : Prop := ∀ k, k ≤ T → (f k).lo ≤ stAt o k ∧ stAt o k ≤ (f k).hi
def TrueO (st : List Int) (L H : Int) (n : Nat) (o : List Int) : Prop :=
  o.length = n + 1 ∧ (∀ k, k ≤ n → -20000 ≤ stAt o k ∧ stAt o k ≤ 20000) ∧ ∀ k, k < n → stAt o k + stAt st k + L ≤ stAt o (k + 1) ∧ stAt o (k + 1) ≤ stAt o k + stAt st k + H
theorem InF.put {o : List Int} {T : Nat} {f : Nat → Sp} (h : InF o T f) (k : Nat) (s : Sp) (hs : k ≤ T → s.lo ≤ stAt o k ∧ stAt o k ≤ s.hi) : InF o T (putS f k s) := by
  intro j hj
  by_cases e : j = k
  · subst e; rw [putS_self]; exact hs hj
  · rw [putS_ne _ _ e]; exact h j hj
section
variable {st : List Int} {L H : Int} {T : Nat} {o : List Int} (ho : TrueO st L H T o)
include ho
theorem in_fwd {f : Nat → Sp} (h : InF o T f) : ∀ j, InF o T (fwdTo st L H f j)
  | 0 => h
  | j + 1 => by
    have ih := in_fwd h j
    refine ih.put _ _ fun hj => ?_
    have h1 := ih j (by omega)
    have h2 := ih (j + 1) hj
    have h3 := ho.2.2 j (by omega)
    simp only [bothS]
    omega
theorem in_bwd {f : Nat → Sp} (h : InF o T f) : ∀ j, j ≤ T → InF o T (bwdTo st L H T f j)
  | 0, _ => h
  | j + 1, hj => by
    have ih := in_bwd h j (by omega)
    refine ih.put _ _ fun _ => ?_
    have h1 := ih (T - (j + 1)) (by omega)
    have h2 := ih (T - (j + 1) + 1) (by omega)
    have h3 := ho.2.2 (T - (j + 1)) (by omega)
    simp only [bothS]
    omega
theorem in_sol {lk : List Lk} (hl : ∀ l ∈ lk, l.lo ≤ stAt o l.t.toNat ∧ stAt o l.t.toNat ≤ l.hi) : InF o T (roundF st L H T (looksF lk)) := by
  refine in_bwd ho (in_fwd ho ?_ T) T (Nat.le_refl _)
  intro k hk
  have hb := ho.2.1 k hk
  exact ⟨(looks_lo _ k lk wideF).2 ⟨hb.1, fun l h e => e ▸ (hl l h).1⟩, (looks_hi _ k lk wideF).2 ⟨hb.2, fun l h e => e ▸ (hl l h).2⟩⟩
end
theorem worst_spec (f : Nat → Sp) (n : Nat) : ∃ a : Nat, a ≤ n ∧ worstTo f (n + 1) = ((a : Int), statedS (f a)) ∧ (∀ k, k ≤ n → statedS (f k) ≤ statedS (f a)) ∧ ∀ k, k < a → statedS (f k) < statedS (f a) := by
  induction n with
  | zero =>
    refine ⟨0, Nat.le_refl _, ?_, ?_, ?_⟩
    · rw [worstTo, if_pos (.inl rfl)]
    · intro k hk
      obtain rfl : k = 0 := by omega
      exact Int.le_refl _
    · intro k hk; omega
  | succ n ih =>
    obtain ⟨a, h1, h2, h3, h4⟩ := ih
    rw [worstTo, h2]
    by_cases h : statedS (f a) < statedS (f (n + 1))
    · refine ⟨n + 1, Nat.le_refl _, by rw [if_pos (.inr h)], ?_, ?_⟩
      · intro k hk
        rcases Nat.lt_or_ge n k with hn | hn
        · obtain rfl : k = n + 1 := by omega
          exact Int.le_refl _
        · have := h3 k hn; omega
      · intro k hk
        have := h3 k (by omega); omega
    · refine ⟨a, by omega, by rw [if_neg]; rintro (h5 | h5); omega; exact h h5, ?_, h4⟩
      intro k hk
      rcases Nat.lt_or_ge n k with hn | hn
      · obtain rfl : k = n + 1 := by omega
        omega
      · exact h3 k hn
theorem stAt_app (o : List Int) (x : Int) {k : Nat} (h : k < o.length) : stAt (o ++ [x]) k = stAt o k := by
  unfold stAt; rw [List.getElem?_append_left h]
theorem stAt_end (o : List Int) (x : Int) : stAt (o ++ [x]) o.length = x := by
  unfold stAt; rw [List.getElem?_append_right (Nat.le_refl _)]; simp
theorem TrueO.push {st : List Int} {L H : Int} {n : Nat} {o : List Int} (h : TrueO st L H n o) (x : Int) (hx : -20000 ≤ x ∧ x ≤ 20000) (hs : stAt o n + stAt st n + L ≤ x ∧ x ≤ stAt o n + stAt st n + H) : TrueO st L H (n + 1) (o ++ [x]) := by
  obtain ⟨h1, h2, h3⟩ := h
  refine ⟨by simp [h1], ?_, ?_⟩
  · intro k hk
    rcases Nat.lt_or_ge n k with hn | hn
    · obtain rfl : k = o.length := by omega
      rw [stAt_end]; exact hx
    · rw [stAt_app _ _ (by omega)]; exact h2 k hn
  · intro k hk
    rcases Nat.lt_or_ge k n with hn | hn
    · rw [stAt_app _ _ (by omega), stAt_app _ _ (by omega)]; exact h3 k hn
    · obtain rfl : k = n := by omega
      rw [stAt_app _ _ (by omega), show k + 1 = o.length by omega, stAt_end]
      exact hs
theorem rd_stAt (o : List Int) (k : Nat) : rd o (k : Int) = stAt o k := by simp [rd, stAt, List.getD_eq_getElem?_getD]

/-! ### Each number between the ends is so in a truth. -/
section
variable {st : List Int} {L H : Int} {T : Nat}
end
end Go.Proofs.YtidnopmjhhmedaaDoor
end

section
-- Written by wip/tools/pr.py (a program of this repo over the kit's print.py).
namespace Go.Proofs.TrydX.X
open Go.RowKit Go.Proofs.YtidnopmjhhmedaaDoorW.PrintWords Go.Proofs.YtidnopmjhhmedaaDoorW.PrintLast Go.Proofs.YtidnopmjhhmedaaDoorW.PrintMore
attribute [local go_sem] max2_int min2_int max_two min_two max_three min_three max_four min_four   -- for this text's walks alone
set_option linter.unusedVariables false
set_option linter.unusedSimpArgs false

end Go.Proofs.TrydX.X
end

section
-- Written by wip/tools/pr.py (a program of this repo over the kit's print.py).
namespace Go.Proofs.TrydX.X
open Go.RowKit Go.Proofs.YtidnopmjhhmedaaDoorW.PrintWords Go.Proofs.YtidnopmjhhmedaaDoorW.PrintLast Go.Proofs.YtidnopmjhhmedaaDoorW.PrintMore
attribute [local go_sem] max2_int min2_int max_two min_two max_three min_three max_four min_four   -- for this text's walks alone
set_option linter.unusedVariables false
set_option linter.unusedSimpArgs false

end Go.Proofs.TrydX.X
end

section
/- Plain: what the reference's Worst and Meets tell. -/
set_option linter.unusedSimpArgs false
set_option linter.unusedVariables false
namespace Go.Proofs.TrydX.X
open Go.RowKit Go.Proofs.YtidnopmjhhmedaaDoorW.PrintWords Go.Proofs.YtidnopmjhhmedaaDoorW.PrintLast
open Go.Proofs.YtidnopmjhhmedaaDoor

section
variable {F S J L H : Int} {st : List Int} {l7 : List S71}
end
section
variable {F S J : Int} (hF : 0 ≤ F ∧ F ≤ 500) (hS : 0 ≤ S ∧ S ≤ 500) (hJ : 1 ≤ J)
include hF hS hJ
theorem few_mono {x y : Int} (h : 0 ≤ x ∧ x ≤ y ∨ y ≤ x ∧ x ≤ 0) (hy : 0 ≤ fewest F S J y) : 0 ≤ fewest F S J x ∧ fewest F S J x ≤ fewest F S J y := by
  rcases fewest_spec F S J y with ⟨h1, _⟩ | ⟨n, h1, h2, h3, h4⟩
  · omega
  · have hc := capSum_bd' (t := n) hS hJ (by omega)
    have hc2 := capSum_bd' (t := n) hF hJ (by omega)
    have h3' := lies_iff.1 (show lies (-y) (-(capSum S J n)) (capSum F J n) = true from h3)
    have hx : enoughB F S J x n = true := lies_iff.2 (by omega)
    rcases fewest_spec F S J x with ⟨g1, g2⟩ | ⟨m, g1, g2, g3, g4⟩
    · rw [g2 n h2] at hx; cases hx
    · rcases Nat.lt_or_ge n m with hlt | hge
      · rw [g4 n hlt] at hx; cases hx
      · omega
end
end Go.Proofs.TrydX.X
end

section
/- The plain law of ScaleTrue. -/
set_option linter.unusedSimpArgs false
set_option linter.unusedVariables false
namespace Go.Proofs.YtidnopmjhhmedaaDoor
open Go.RowKit Go.Proofs.YtidnopmjhhmedaaDoorW.PrintWords Go.Proofs.YtidnopmjhhmedaaDoorW.PrintLast TrydX.X

section
variable {F S J L H : Int} {T : Nat} {st : List Int} {lk : List S71} {bits : List Int}
theorem went_l1 (hT : T ≤ 60) (hb : bits.length ≤ 17592186044416) {o : List Int} (ho : TrueO st L H T o) (hl10 : lk.length ≤ 10) (hlk : (lk.map toLk).all (lookB T) = true) (d : Nat) : ∀ (k i : Nat) (z : List S71), i + d = lk.length → z.length = i → d < k →
    (∀ l ∈ z, lookB T (toLk l) = true ∧ l.f1.f0 ≤ stAt o l.f0.toNat ∧ stAt o l.f0.toNat ≤ l.f1.f1) →
    ∃ y, remontoirlaw04_went.l1 k bits o i F S J L H T st lk F S J L H T st z = some (o, F, S, J, L, H, (T : Int), st, y, true) ∧ y.length = lk.length ∧ ∀ l ∈ y, lookB T (toLk l) = true ∧ l.f1.f0 ≤ stAt o l.f0.toNat ∧ stAt o l.f0.toNat ≤ l.f1.f1 := by
  induction d with
  | zero =>
    intro k i z hi hz hk hA
    obtain ⟨k, rfl⟩ : ∃ m, k = m + 1 := ⟨k - 1, by omega⟩
    simp only [remontoirlaw04_went.l1]
    rw [if_neg (by omega)]
    exact ⟨z, rfl, by omega, hA⟩
  | succ d ih =>
    intro k i z hi hz hk hA
    obtain ⟨k, rfl⟩ : ∃ m, k = m + 1 := ⟨k - 1, by omega⟩
    have hil : i < lk.length := by omega
    have hrd : lk[i]? = some (rd_T71 lk i) := by simp [rd_T71, List.getD_eq_getElem?_getD, hil]
    have hlook : lookB T (toLk (rd_T71 lk i)) = true := List.all_eq_true.1 hlk _ (List.mem_map.2 ⟨_, List.mem_of_getElem? hrd, rfl⟩)
    have hlook2 := hlook
    simp only [lookB, toLk, Bool.and_eq_true, decide_eq_true_eq, lies_iff] at hlook2
    simp only [remontoirlaw04_went.l1]
    generalize rd_T71 lk i = x at *
    obtain ⟨⟨⟨htk, hlo⟩, hlh⟩, hhi⟩ := hlook2
    replace hlo : -20000 ≤ x.f1.f0 := by first | exact hlo | exact of_decide_eq_true hlo
    replace hlh : x.f1.f0 ≤ x.f1.f1 := by first | exact hlh | exact of_decide_eq_true hlh
    replace hhi : x.f1.f1 ≤ 20000 := by first | exact hhi | exact of_decide_eq_true hhi
    obtain ⟨v, hv⟩ := At_f bits ((i : Int) + 3) hb
    obtain ⟨r, e1, g1, g2⟩ := Rest_f v (x.f1.f1 - x.f1.f0 + 1) (by omega) (by omega)
    have hob := ho.2.1 x.f0.toNat (by omega)
    have hol := ho.1
    rw [if_pos (by omega), if_pos (by omega), if_pos (by omega), if_pos (by omega), wr (x := (i : Int) + 3) (by omega), hv]
    simp only [Option.bind_some]
    rw [wr (x := x.f1.f1 - x.f1.f0) (by omega), wr (x := x.f1.f1 - x.f1.f0 + 1) (by omega), e1]
    simp only [Option.bind_some, remontoirref00_To.f]
    have hro : rd o x.f0 = stAt o x.f0.toNat := by
      have := rd_stAt o x.f0.toNat
      rwa [show ((x.f0.toNat : Nat) : Int) = x.f0 by omega] at this
    rw [hro, wr (x := stAt o x.f0.toNat - r) (by omega), wr (x := stAt o x.f0.toNat - r + (x.f1.f1 - x.f1.f0)) (by omega), mx_eq, mn_eq, if_pos (by omega), wr (x := (i : Int) + 1) (by omega), show (i : Int) + 1 = ((i + 1 : Nat) : Int) by omega]
    refine ih k (i + 1) _ (by omega) (by simp [hz]) (by omega) ?_
    intro l hl
    rcases List.mem_append.1 hl with hl | hl
    · exact hA l hl
    · rw [List.mem_singleton] at hl
      subst hl
      refine ⟨?_, ?_, ?_⟩
      · simp only [lookB, toLk, Bool.and_eq_true, decide_eq_true_eq, lies_iff]
        exact ⟨⟨⟨htk, by first | omega | exact decide_eq_true (by omega)⟩, by first | omega | exact decide_eq_true (by omega)⟩, by first | omega | exact decide_eq_true (by omega)⟩
      · dsimp only; omega
      · dsimp only; omega
theorem went_l0 (hT : T ≤ 60) (hb : bits.length ≤ 17592186044416) (hL : -100 ≤ L ∧ L ≤ H ∧ H ≤ 100) (hst : ∀ k, -500 ≤ stAt st k ∧ stAt st k ≤ 500) (hl10 : lk.length ≤ 10) (hlk : (lk.map toLk).all (lookB T) = true) (d : Nat) : ∀ (k i : Nat) (now : Int) (o : List Int), i + d = T → d + 20 < k → TrueO st L H i o → now = stAt o i →
    remontoirlaw04_went.l0 k bits now o i F S J L H T st lk F S J L H T st = some ([], F, S, J, L, H, (T : Int), st, lk, false) ∨
    ∃ p y, remontoirlaw04_went.l0 k bits now o i F S J L H T st lk F S J L H T st = some (p, F, S, J, L, H, (T : Int), st, y, true) ∧ TrueO st L H T p ∧ y.length = lk.length ∧ ∀ l ∈ y, lookB T (toLk l) = true ∧ l.f1.f0 ≤ stAt p l.f0.toNat ∧ stAt p l.f0.toNat ≤ l.f1.f1 := by
  induction d with
  | zero =>
    intro k i now o hi hk ho hn
    obtain ⟨k, rfl⟩ : ∃ m, k = m + 1 := ⟨k - 1, by omega⟩
    obtain rfl : i = T := by omega
    simp only [remontoirlaw04_went.l0]
    rw [if_neg (by omega)]
    obtain ⟨y, h1, h2, h3⟩ := went_l1 (F := F) (S := S) (J := J) hT hb ho hl10 hlk lk.length k 0 [] (by omega) rfl (by omega) (fun l hl => by cases hl)
    exact .inr ⟨o, y, h1, ho, h2, h3⟩
  | succ d ih =>
    intro k i now o hi hk ho hn
    obtain ⟨k, rfl⟩ : ∃ m, k = m + 1 := ⟨k - 1, by omega⟩
    obtain ⟨v, hv⟩ := At_f bits ((i : Int) + 2) hb
    obtain ⟨r, e1, g1⟩ := From_f L H v (by omega) (by omega)
    have hr := g1 hL.2.1
    have hob := ho.2.1 i (Nat.le_refl _)
    have hs := hst i
    have hol := ho.1
    simp only [remontoirlaw04_went.l0]
    rw [if_pos (by omega), wr (x := (i : Int) + 2) (by omega), hv]
    simp only [Option.bind_some, e1]
    rw [wr (x := now + r) (by omega), wr (x := (i : Int) + 1) (by omega), show (i : Int) + 1 = ((i + 1 : Nat) : Int) by omega]
    have go : ∀ x, x = now + r + stAt st i →
        ((remontoirref00_Lies.f x (-20000) 20000).bind fun t506 => (if t506 = true then (if o.length < 17592186044416 then (remontoirlaw04_went.l0 k bits x (o ++ [x]) ((i + 1 : Nat) : Int) F S J L H T st lk F S J L H T st) else (none)) else (some (([] : List Int), F, S, J, L, H, (T : Int), st, lk, false)))) = some ([], F, S, J, L, H, (T : Int), st, lk, false) ∨
        ∃ p y, ((remontoirref00_Lies.f x (-20000) 20000).bind fun t506 => (if t506 = true then (if o.length < 17592186044416 then (remontoirlaw04_went.l0 k bits x (o ++ [x]) ((i + 1 : Nat) : Int) F S J L H T st lk F S J L H T st) else (none)) else (some (([] : List Int), F, S, J, L, H, (T : Int), st, lk, false)))) = some (p, F, S, J, L, H, (T : Int), st, y, true) ∧ TrueO st L H T p ∧ y.length = lk.length ∧ ∀ l ∈ y, lookB T (toLk l) = true ∧ l.f1.f0 ≤ stAt p l.f0.toNat ∧ stAt p l.f0.toNat ≤ l.f1.f1 := by
      intro x hx
      rw [lies_f]
      simp only [Option.bind_some]
      cases hlx : lies x (-20000) 20000
      · exact .inl rfl
      · rw [if_pos rfl, if_pos (by omega)]
        have hlx2 := lies_iff.1 hlx
        refine ih k (i + 1) x (o ++ [x]) (by omega) (by omega) (ho.push x hlx2 (by omega)) ?_
        rw [show i + 1 = o.length by omega, stAt_end]
    by_cases hi2 : (i : Int) < (st.length : Int)
    · rw [if_pos hi2, if_pos (by omega), rd_stAt, wr (x := now + r + stAt st i) (by omega)]
      exact go _ rfl
    · rw [if_neg hi2]
      have e3 : stAt st i = 0 := by unfold stAt; rw [List.getElem?_eq_none (by omega)]; rfl
      exact go _ (by rw [e3]; omega)
theorem went_f (hT : T ≤ 60) (hb : bits.length ≤ 17592186044416) (hL : -100 ≤ L ∧ L ≤ H ∧ H ≤ 100) (hst : ∀ k, -500 ≤ stAt st k ∧ stAt st k ≤ 500) (hl10 : lk.length ≤ 10) (hlk : (lk.map toLk).all (lookB T) = true) (k : Nat) (hk : T + 20 < k) :
    remontoirlaw04_went.f k F S J L H T st lk bits = some ([], F, S, J, L, H, (T : Int), st, lk, false) ∨
    ∃ p y, remontoirlaw04_went.f k F S J L H T st lk bits = some (p, F, S, J, L, H, (T : Int), st, y, true) ∧ TrueO st L H T p ∧ y.length = lk.length ∧ ∀ l ∈ y, lookB T (toLk l) = true ∧ l.f1.f0 ≤ stAt p l.f0.toNat ∧ stAt p l.f0.toNat ≤ l.f1.f1 := by
  obtain ⟨v, hv⟩ := At_f bits 1 hb
  obtain ⟨r, e1, g1⟩ := From_f (-500) 500 v (by omega) (by omega)
  have hr := g1 (by omega)
  unfold remontoirlaw04_went.f
  simp only [remontoirref00_To.f, Option.bind_some, hv, e1]
  refine went_l0 hT hb hL hst hl10 hlk T k 0 r [r] (by omega) hk ⟨rfl, ?_, ?_⟩ rfl
  · intro k hk
    obtain rfl : k = 0 := by omega
    simp [stAt]; omega
  · intro k hk; omega
end
section
variable {F S J L H : Int} {T : Nat} {st : List Int} {lk y : List S71}
theorem true_j3 {sp : Sp} {v : Int} (hF : 0 ≤ F ∧ F ≤ 500) (hS : 0 ≤ S ∧ S ≤ 500) (hJ : 1 ≤ J ∧ J ≤ 500) (h : sp.lo ≤ v ∧ v ≤ sp.hi) (k : Nat) :
    remontoirlaw04_ScaleTrue.j3 (k + 1) (meetsP F S J sp).2.2 (meetsP F S J sp).1 (meetsP F S J sp).2.1 (if fewest F S J v < 0 then 0 else fewest F S J v) (if fewest F S J v < 0 then 4 else 0) = some true := by
  simp only [remontoirlaw04_ScaleTrue.j3, remontoirlaw04_works.f]
  unfold meetsP
  by_cases hb : fewest F S J sp.lo = -1 ∨ fewest F S J sp.hi = -1
  · rw [if_pos hb]; rfl
  · rw [if_neg hb]
    have hlo := fewest_spec F S J sp.lo
    have hhi := fewest_spec F S J sp.hi
    have b1 : 0 ≤ fewest F S J sp.lo := by rcases hlo with ⟨h, _⟩ | ⟨n, h, _⟩ <;> omega
    have b2 : 0 ≤ fewest F S J sp.hi := by rcases hhi with ⟨h, _⟩ | ⟨n, h, _⟩ <;> omega
    have main : 0 ≤ fewest F S J v ∧ fewest F S J v ≤ max (fewest F S J sp.lo) (fewest F S J sp.hi) ∧ (if sp.lo ≤ 0 ∧ 0 ≤ sp.hi then 0 else min (fewest F S J sp.lo) (fewest F S J sp.hi)) ≤ fewest F S J v := by
      rcases Int.le_total 0 v with g | g
      · have := few_mono hF hS hJ.1 (x := v) (y := sp.hi) (.inl ⟨g, h.2⟩) b2
        refine ⟨this.1, by omega, ?_⟩
        split
        · exact this.1
        · have := few_mono hF hS hJ.1 (x := sp.lo) (y := v) (.inl ⟨by omega, h.1⟩) this.1
          omega
      · have := few_mono hF hS hJ.1 (x := v) (y := sp.lo) (.inr ⟨h.1, g⟩) b1
        refine ⟨this.1, by omega, ?_⟩
        split
        · exact this.1
        · have := few_mono hF hS hJ.1 (x := sp.hi) (y := v) (.inr ⟨h.2, by omega⟩) this.1
          omega
    rw [if_neg (show ¬ fewest F S J v < 0 by omega), if_neg (show ¬ fewest F S J v < 0 by omega), lies_f]
    dsimp only
    rw [lies_iff.2 ⟨main.2.2, main.2.1⟩]
    rfl
theorem size_f (x : Int) (hx : -1000000 ≤ x ∧ x ≤ 1000000) : remontoirref00_Size.f x = some (max x (-x)) := by
  unfold remontoirref00_Size.f
  first
  | (rw [wr (x := -x) (by omega), mx_eq])
  | (split
     · rw [wr (x := -x) (by omega)]; congr 1; omega
     · congr 1; omega)
theorem has_f (a b x : Int) : remontoirref00_Has.f a b x = some (lies x a b) := by
  first
  | (simp only [remontoirref00_Has.f, lies_f, Option.bind_some]; done)
  | (unfold remontoirref00_Has.f; rw [lies_f])
theorem true_l0 (h6 : st.length ≤ 17592186044416) (h7 : y.length ≤ 17592186044416) (hT : T ≤ 60) (hc : checkB F S J L H T st (y.map toLk) = true) {g : Nat → Sp} (hg : solF F S J L H T st (y.map toLk) = g) (hok : okF T g = true) (hbd : Bnd 92000 g) {p : List Int} (ho : TrueO st L H T p) (hin : InF p T g)
    {a : Nat} (ha : a ≤ T) (hw1 : ∀ k, k ≤ T → statedS (g k) ≤ statedS (g a)) (hw2 : ∀ k, k < a → statedS (g k) < statedS (g a)) (d : Nat) : ∀ (k i : Nat), i + d = T + 1 → 2 * d + 1 < k →
    remontoirlaw04_ScaleTrue.l0 k p a (statedS (g a)) i F S J L H T st lk F S J L H T st y = some true := by
  obtain ⟨c1, c2, c3, c4, c5, c6⟩ := checkB_iff.1 hc
  obtain ⟨hF, hS, hJ, hL⟩ := isRuleB_spec c1
  have hol := ho.1
  induction d with
  | zero =>
    intro k i hi hk
    obtain ⟨k, rfl⟩ : ∃ m, k = m + 2 := ⟨k - 2, by omega⟩
    obtain rfl : i = T + 1 := by omega
    simp only [remontoirlaw04_ScaleTrue.l0]
    rw [if_neg (by omega)]
    have hin2 := hin T (Nat.le_refl _)
    have hob := ho.2.1 T (Nat.le_refl _)
    unfold scale_Meets.f askE
    rw [if_pos (show st.length ≤ 17592186044416 ∧ y.length ≤ 17592186044416 from ⟨h6, h7⟩), hc, hg, Int.toNat_natCast, hok]
    simp only [if_true, Option.bind_some]
    rw [if_pos (by omega), if_pos (by omega), rd_stAt]
    unfold scale_Fewest.f
    rw [if_pos c1, if_pos (lies_iff.2 hob)]
    simp only [Option.bind_some]
    exact true_j3 hF hS hJ hin2 k
  | succ d ih =>
    intro k i hi hk
    obtain ⟨k, rfl⟩ : ∃ m, k = m + 2 := ⟨k - 2, by omega⟩
    have hin2 := hin i (by omega)
    have hob := ho.2.1 i (by omega)
    have hw := hw1 i (by omega)
    have hgb := hbd i
    have htl : lies (i : Int) 0 T = true := lies_iff.2 (by omega)
    have ej : remontoirlaw04_ScaleTrue.j2 (k + 1) p a (statedS (g a)) i false F S J L H T st lk F S J L H T st y = some true := by
      simp only [remontoirlaw04_ScaleTrue.j2]
      rw [if_neg (by decide), wr (x := (i : Int) + 1) (by omega), show (i : Int) + 1 = ((i + 1 : Nat) : Int) by omega]
      exact ih k (i + 1) (by omega) (by omega)
    simp only [remontoirlaw04_ScaleTrue.l0]
    have hst : scale_Stated.f F S J L H T st y i = some (statedS (g i), 0) := by
      unfold scale_Stated.f askE
      rw [if_pos (show st.length ≤ 17592186044416 ∧ y.length ≤ 17592186044416 from ⟨h6, h7⟩), hc, htl, hg, Int.toNat_natCast, Int.toNat_natCast, hok]
      rfl
    rw [if_pos (by omega), err_all h6 h7 hc i htl, hg, Int.toNat_natCast, Int.toNat_natCast, hok, if_pos rfl, hst]
    simp only [Option.bind_some]
    rw [if_pos trivial, if_pos trivial, if_pos (by omega), if_pos (by omega), rd_stAt, has_f, lies_iff.2 hin2]
    simp only [Option.bind_some]
    rw [if_pos trivial, size_f _ (by omega)]
    simp only [Option.bind_some]
    have hs1 : ¬ max (stAt p i) (-(stAt p i)) > statedS (g i) := by unfold statedS; omega
    rw [if_neg hs1, size_f _ (by omega), size_f _ (by omega)]
    simp only [Option.bind_some]
    have hs2 : statedS (g i) = mx (max (g i).lo (-(g i).lo)) (max (g i).hi (-(g i).hi)) := by rw [mx_eq]; unfold statedS; omega
    rw [if_pos hs2, if_neg (show ¬ statedS (g i) > statedS (g a) by omega)]
    by_cases h1 : i < a
    · have h2 := hw2 i h1
      rw [if_pos (by omega), if_neg (by omega), if_neg (by omega)]
      exact ej
    · rw [if_neg (by omega)]
      by_cases h2 : i = a
      · subst h2
        rw [if_pos rfl, bne_self_eq_false]
        exact ej
      · rw [if_neg (by omega)]
        exact ej
end
theorem scaleTrue_pure (F S J L H T : Int) (st : List Int) (lk : List S71) (bits : List Int) (wf : W64 F ∧ W64 S ∧ W64 J ∧ W64 L ∧ W64 H ∧ W64 T) (w6 : ∀ z ∈ st, W64 z) (w7 : ∀ z ∈ lk, W64 z.f0 ∧ W64 z.f1.f0 ∧ W64 z.f1.f1) (h6 : st.length ≤ 17592186044416) (h7 : lk.length ≤ 5864062014805) (wb : ∀ z ∈ bits, W64 z) (hb : bits.length ≤ 17592186044416) :
    ∃ k, remontoirlaw04_ScaleTrue.f k F S J L H T st lk bits = some true := by
  obtain ⟨K, hK⟩ : ∃ K : Nat, K = 500 := ⟨_, rfl⟩
  refine ⟨K + 1, ?_⟩
  unfold remontoirlaw04_ScaleTrue.f
  rw [sound_f h6 (by omega) _ (by omega)]
  simp only [Option.bind_some]
  cases hc : checkB F S J L H T st (lk.map toLk)
  · rfl
  · obtain ⟨c1, c2, c3, c4, c5, c6⟩ := checkB_iff.1 hc
    obtain ⟨hF, hS, hJ, hL⟩ := isRuleB_spec c1
    have hT := lies_iff.1 c2
    have hl10 : lk.length ≤ 10 := by simpa using c5
    obtain ⟨t, rfl⟩ : ∃ t : Nat, T = t := ⟨T.toNat, by omega⟩
    have hst : ∀ k, -500 ≤ stAt st k ∧ stAt st k ≤ 500 := by
      intro k
      unfold stAt
      by_cases hk : k < st.length
      · have := (of_keeps st 0 c4).1 st[k] (List.getElem_mem hk)
        rw [List.getElem?_eq_getElem hk]
        simp only [Option.getD_some]
        omega
      · rw [List.getElem?_eq_none (by omega)]
        simp
    rw [if_pos rfl]
    rcases went_f (F := F) (S := S) (J := J) (T := t) (by omega) hb hL hst hl10 c6 (K + 1) (by omega) with e | ⟨p, y, e, ho, hy, hA⟩
    · rw [e]; rfl
    · rw [e]
      simp only [Option.bind_some, if_true]
      have hcy : checkB F S J L H t st (y.map toLk) = true := by
        refine checkB_iff.2 ⟨c1, c2, c3, c4, by simp; omega, ?_⟩
        rw [List.all_eq_true]
        intro x hx
        obtain ⟨l, hl, rfl⟩ := List.mem_map.1 hx
        exact (hA l hl).1
      have c6y := (checkB_iff.1 hcy).2.2.2.2.2
      have hin : InF p t (solF F S J L H t st (y.map toLk)) := by
        unfold solF
        rw [Int.toNat_natCast]
        refine in_sol ho ?_
        intro x hx
        obtain ⟨l, hl, rfl⟩ := List.mem_map.1 hx
        exact (hA l hl).2
      have hbd : Bnd 92000 (solF F S J L H t st (y.map toLk)) := by
        unfold solF
        rw [Int.toNat_natCast]
        exact (roundF_bnd hst hL (by omega) t (by omega) (looksF_bnd t _ c6y)).mono (by omega)
      have hok : okF t (solF F S J L H t st (y.map toLk)) = true := by
        rw [okF_iff]
        intro k hk
        have := hin k hk
        omega
      obtain ⟨a, ha, hw, hw1, hw2⟩ := worst_spec (solF F S J L H t st (y.map toLk)) t
      have e2 : scale_Worst.f F S J L H t st y = some ((a : Int), statedS (solF F S J L H t st (y.map toLk) a), 0) := by
        unfold scale_Worst.f askE
        rw [if_pos (show st.length ≤ 17592186044416 ∧ y.length ≤ 17592186044416 from ⟨h6, by omega⟩), hcy, Int.toNat_natCast, hok, hw]
        rfl
      rw [e2]
      have fin := true_l0 (lk := lk) h6 (y := y) (by omega) (by omega) hcy rfl hok hbd ho hin ha hw1 hw2 (t + 1) K 0 (by omega) (by omega)
      generalize solF F S J L H t st (y.map toLk) = g at *
      simp only [Option.bind_some, if_true, lies_f]
      rw [lies_iff.2 (show (0 : Int) ≤ a ∧ (a : Int) ≤ t by omega)]
      simp only [remontoirlaw04_ScaleTrue.j0, Bool.not_true, Bool.false_eq_true, if_false]
      exact fin
end Go.Proofs.YtidnopmjhhmedaaDoor
end

section
/- The row and the card of ScaleTrue. Written by wip/tools/mkRow.py. -/
set_option linter.unusedVariables false
set_option linter.unusedSimpArgs false
namespace Go.Proofs.YtidnopmjhhmedaaDoor
open Go.ChangeShapes Go.WideShapes Go.ChangeAt Go.RowKit TrydX.X

set_option maxRecDepth 100000 in
theorem scaleTrue_lifted (os : Os) (started : os.Started) (H : Type) (enc : TypeId × Value → H) :
    ReturnsInHanded {} Tryd.checked os 11 .any (fun w args => (Rows.scaleTrueSpec.pre enc Tryd.prog Tryd.f11 [] false w args ∧ laidMetH Tryd.prog laid1 w) ∧ sizedMet enc Tryd.prog Tryd.f11 (OpenSpec.ofChange Rows.scaleTrueSpec) false w args)
      (Rows.scaleTrueSpec.post enc Tryd.prog Tryd.f11 false true false false) := by
  refine returnsInHanded_of_change_and (C := Tryd.checked) (X := fun w _ => laidMetH Tryd.prog laid1 w) (fun _ _ _ hh h => h.of_heap hh) own started (by kernel_rfl) Tryd.func11
    (ChangeSpec.witness_shaped (enc := enc) (C := Tryd.checked) (os := os) (X := fun w _ => laidMetH Tryd.prog laid1 w) false (World.doorLaid Tryd.prog 400 os) #[.agg #[.int .i64 0, .int .i64 0, .int .i64 0, .int .i64 0, .int .i64 0, .int .i64 0, .slice none 0 0, .slice none 0 0], .slice none 0 0] 8 rfl (World.shaped_of_RefB (by kernel_rfl) (by kernel_rfl)) (by kernel_rfl) (by kernel_rfl) (by kernel_rfl) (door_met os _)) ?_
  intro W base args ds gs before hval0 hW hcnd hsz0 hL _
  have hsz : (DataW.weightsEach Tryd.prog (Tryd.f11.params.toList ++ Rows.scaleTrueSpec.plain.varTypes Tryd.prog) (ds ++ gs)).all (· ≤ reachBytes) = true := hsz0
  have hval : ∀ (j : Nat) t v, Tryd.f11.params[j]? = some t → args[j]? = some v → Value.okWide Tryd.prog W .any base t v := hval0
  have hW' := hW
  obtain ⟨p, q, hA0, hV, rfl, hfz, hnd⟩ := hW
  have hA : DataW.TrodAll enc Tryd.prog W 0 (fun _ => true) true Tryd.f11.params.toList args.toList ds p := hA0
  rw [Tryd.params11] at hA hval hsz
  obtain ⟨v0, vs0, d0, ds0, p0, q0, hargs, rfl, rfl, h0, r0⟩ := trodAll_cons hA
  obtain ⟨v1, vs1, d1, ds1, p1, q1, rfl, rfl, rfl, h1, r1⟩ := trodAll_cons r0
  obtain ⟨rfl, rfl, rfl⟩ := trodAll_nil r1
  obtain rfl : args = #[v0, v1] := by cases args; simp_all
  obtain ⟨rfl, rfl⟩ := trodVars_none hV
  have lt0 : ∀ x ∈ p0, x.block < W.heap.size := by obtain ⟨m, hm⟩ := h0; exact DataW.trod_lt m _ _ _ hm
  have k0 := h0
  obtain ⟨cs0, rfl, hcs0⟩ := agg_of Tryd.underlying44 (hval 0 44 v0 rfl rfl)
  obtain ⟨m0, hm0⟩ := h0
  rw [hcs0] at hm0
  obtain ⟨a_0, b_0, c_0, d_0, e_0, t_0, A6_0, c6_0, l6_0, A7_0, c7_0, l7_0, hB0, hs0⟩ := op44 hm0
  obtain ⟨z6_0, z7_0⟩ := hs0 (weights_at hsz (j := 0) (t := 44) (d := d0) rfl rfl)
  obtain rfl := hB0.cs
  have lt1 : ∀ x ∈ p1, x.block < W.heap.size := by obtain ⟨m, hm⟩ := h1; exact DataW.trod_lt m _ _ _ hm
  have k1 := h1
  obtain ⟨A_1, len1, cap1, rfl⟩ := okWide_slice Tryd.underlying26 (hval 1 26 v1 rfl rfl)
  obtain ⟨m1, hm1⟩ := h1
  obtain ⟨B_1, c_1, l_1, e1, rd1, hc1, wf1, hs1⟩ := op26 hm1
  have z1 := hs1 (weights_at hsz (j := 1) (t := 26) (d := d1) rfl rfl)
  simp [Value.cells] at e1
  obtain ⟨rfl, rfl, rfl⟩ := e1
  obtain ⟨k, hk⟩ := scaleTrue_pure a_0 b_0 c_0 d_0 e_0 t_0 l6_0 l7_0 l_1 hB0.wf hB0.w6 hB0.w7 z6_0 z7_0 wf1 z1
  clear hA0 hval0 hsz0 hsz
  refine (remontoirlaw04_ScaleTrue.calls k a_0 b_0 c_0 d_0 e_0 t_0 A6_0 c6_0 l6_0 A7_0 c7_0 l7_0 A_1 cap1 l_1 true W hB0.r6 hB0.h6 hB0.r7 hB0.h7 rd1 hc1 (ways_of_laid hL) hk).mono fun e W' ⟨he, bel⟩ => ?_
  subst he
  exact ⟨_, rfl, _, _, _, [], _, [], hW', trodAll_mk1 (shut_bool Tryd.underlying4 _), (trodAll_cons_mk (Below.trod laidOut (by kernel_rfl) (of_decide_eq_true (by kernel_rfl)) k0 bel lt0) (trodAll_cons_mk (Below.trod laidOut (by kernel_rfl) (of_decide_eq_true (by kernel_rfl)) k1 bel lt1) trodAll_mk0)), rfl, bel.frame _, fun h => by cases h⟩

theorem scaleTrue_row : Rows.ScaleTrueSaid :=
  OpenClaim.holds_of_wide 11 Tryd.f11 rfl rfl rfl rfl rfl rfl rfl ⟨rfl, rfl, rfl, rfl, rfl⟩ rfl rfl rfl rfl rfl (by kernel_rfl) Tryd.func11 (by kernel_rfl)
    (of_decide_eq_true (by kernel_rfl)) (by unfold Func.isWrapper; first | (rw [if_pos (by decide +kernel)]; kernel_rfl) | (rw [if_neg (by decide +kernel)]; exact ⟨rfl, rfl⟩))
    (fun os started H enc _ => scaleTrue_lifted os started H enc)

/-- THE CARD. -/
theorem scaleTrue_holds : Rows.ScaleTrueCardSaid :=
  Claim7.holds_tied_plain_at .later [] [.funcs] true (true, "42c157d2a2e9e6c40d73358f232322a0bd5e742c3af8e9a8c48de9150ba4d318") false
    scaleTrue_row (fun _ h => by cases h) (by kernel_rfl) (fun _ h => by cases h) scaleTrue_row_tie rfl ⟨rfl, rfl⟩ (by kernel_rfl) rfl
    (fun f fn hf hfn => by
      obtain rfl : f = 11 := Option.some.inj ((show Tryd.prog.funcNamed "remontoir/remontoirlaw04.ScaleTrue" = some 11 by kernel_rfl).symm.trans hf) |>.symm
      obtain rfl : fn = Tryd.f11 := (Option.some.inj (Tryd.func11.symm.trans hfn)).symm
      exact ⟨by kernel_rfl, fun j t ht => by
        rw [Tryd.params11] at ht
        have h3 : t ∈ [(44 : TypeId), (26 : TypeId)] := by
          obtain ⟨hj, e⟩ := Array.getElem?_eq_some_iff.1 ht
          rw [← e]
          exact Array.getElem_mem_toList hj
        simp only [List.mem_cons, List.not_mem_nil, or_false] at h3
        rcases h3 with rfl | rfl
        · exact (show Tryd.prog.wantsStandIn 44 = false by kernel_rfl)
        · exact (show Tryd.prog.wantsStandIn 26 = false by kernel_rfl)⟩)
    (by kernel_rfl)
#print axioms scaleTrue_holds
end Go.Proofs.YtidnopmjhhmedaaDoor
end
