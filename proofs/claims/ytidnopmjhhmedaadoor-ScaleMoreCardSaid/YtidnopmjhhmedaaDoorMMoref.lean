/- PROVED: ScaleMoreCardSaid, for every input, where the listed variable reads as the program's text lays it. Part 6 of 6: of this session; merged by wip/tools/mkClaim.py. -/
import Derived.Test.YtidnopmjhhmedaaDoorMMoreb
import Derived.Test.YtidnopmjhhmedaaDoorMMorec
import Derived.Test.YtidnopmjhhmedaaDoorMMored
import Derived.Test.YtidnopmjhhmedaaDoorMMoree
import Derived.Test.YtidnopmjhhmedaaDoorCards
import Derived.Test.YtidnopmjhhmedaaDoorTie
import Derived.WalkKit
import Derived.Below
import Derived.Carry
import Derived.SevenTiedAt
section
/- Plain: a plan that is filled up to a level is a plan. -/
set_option linter.unusedSimpArgs false
set_option linter.unusedVariables false
namespace Go.Proofs.YtidnopmjhhmedaaDoor
open Go.RowKit

/-- Neighbours differ by at most so much; the first one from d. -/
def Steps (J : Int) : Int → List Int → Prop
  | _, [] => True
  | d, x :: l => -J ≤ x - d ∧ x - d ≤ J ∧ Steps J x l
theorem of_keeps {F S J : Int} (l : List Int) : ∀ d, keepsB F S J d l = true → (∀ x ∈ l, -S ≤ x ∧ x ≤ F) ∧ Steps J d l := by
  induction l with
  | nil => intro d _; exact ⟨fun x hx => (List.not_mem_nil hx).elim, trivial⟩
  | cons x l ih =>
    intro d h
    simp only [keepsB, Bool.and_eq_true, lies_iff] at h
    obtain ⟨h1, h2⟩ := ih x h.2
    refine ⟨fun y hy => ?_, h.1.2.1, h.1.2.2, h2⟩
    rcases List.mem_cons.1 hy with e | hy
    · subst e; exact h.1.1
    · exact h1 y hy
end Go.Proofs.YtidnopmjhhmedaaDoor
end

section
-- Written by wip/tools/pr.py (a program of this repo over the kit's print.py).
namespace Go.Proofs.TrydX.X
open Go.RowKit Go.Proofs.YtidnopmjhhmedaaDoorW.PrintWords Go.Proofs.YtidnopmjhhmedaaDoorW.PrintLast Go.Proofs.YtidnopmjhhmedaaDoorW.PrintMore
attribute [local go_sem] max2_int min2_int max_two min_two max_three min_three max_four min_four   -- for this text's walks alone
set_option linter.unusedVariables false
set_option linter.unusedSimpArgs false

end Go.Proofs.TrydX.X
end

section
-- Written by wip/tools/pr.py (a program of this repo over the kit's print.py).
namespace Go.Proofs.TrydX.X
open Go.RowKit Go.Proofs.YtidnopmjhhmedaaDoorW.PrintWords Go.Proofs.YtidnopmjhhmedaaDoorW.PrintLast Go.Proofs.YtidnopmjhhmedaaDoorW.PrintMore
attribute [local go_sem] max2_int min2_int max_two min_two max_three min_three max_four min_four   -- for this text's walks alone
set_option linter.unusedVariables false
set_option linter.unusedSimpArgs false

end Go.Proofs.TrydX.X
end

section
-- Written by wip/tools/pr.py (a program of this repo over the kit's print.py).
namespace Go.Proofs.TrydX.X
open Go.RowKit Go.Proofs.YtidnopmjhhmedaaDoorW.PrintWords Go.Proofs.YtidnopmjhhmedaaDoorW.PrintLast Go.Proofs.YtidnopmjhhmedaaDoorW.PrintMore
attribute [local go_sem] max2_int min2_int max_two min_two max_three min_three max_four min_four   -- for this text's walks alone
set_option linter.unusedVariables false
set_option linter.unusedSimpArgs false

end Go.Proofs.TrydX.X
end

section
-- Written by wip/tools/pr.py (a program of this repo over the kit's print.py).
namespace Go.Proofs.TrydX.X
open Go.RowKit Go.Proofs.YtidnopmjhhmedaaDoorW.PrintWords Go.Proofs.YtidnopmjhhmedaaDoorW.PrintLast Go.Proofs.YtidnopmjhhmedaaDoorW.PrintMore
attribute [local go_sem] max2_int min2_int max_two min_two max_three min_three max_four min_four   -- for this text's walks alone
set_option linter.unusedVariables false
set_option linter.unusedSimpArgs false

end Go.Proofs.TrydX.X
end

section
-- Written by wip/tools/pr.py (a program of this repo over the kit's print.py).
namespace Go.Proofs.TrydX.X
open Go.RowKit Go.Proofs.YtidnopmjhhmedaaDoorW.PrintWords Go.Proofs.YtidnopmjhhmedaaDoorW.PrintLast Go.Proofs.YtidnopmjhhmedaaDoorW.PrintMore
attribute [local go_sem] max2_int min2_int max_two min_two max_three min_three max_four min_four   -- for this text's walks alone
set_option linter.unusedVariables false
set_option linter.unusedSimpArgs false

end Go.Proofs.TrydX.X
end

section
-- Written by wip/tools/pr.py (a program of this repo over the kit's print.py).
namespace Go.Proofs.TrydX.X
open Go.RowKit Go.Proofs.YtidnopmjhhmedaaDoorW.PrintWords Go.Proofs.YtidnopmjhhmedaaDoorW.PrintLast Go.Proofs.YtidnopmjhhmedaaDoorW.PrintMore
attribute [local go_sem] max2_int min2_int max_two min_two max_three min_three max_four min_four   -- for this text's walks alone
set_option linter.unusedVariables false
set_option linter.unusedSimpArgs false

end Go.Proofs.TrydX.X
end

section
-- Written by wip/tools/pr.py (a program of this repo over the kit's print.py).
namespace Go.Proofs.TrydX.X
open Go.RowKit Go.Proofs.YtidnopmjhhmedaaDoorW.PrintWords Go.Proofs.YtidnopmjhhmedaaDoorW.PrintLast Go.Proofs.YtidnopmjhhmedaaDoorW.PrintMore
attribute [local go_sem] max2_int min2_int max_two min_two max_three min_three max_four min_four   -- for this text's walks alone
set_option linter.unusedVariables false
set_option linter.unusedSimpArgs false

end Go.Proofs.TrydX.X
end

section
-- Written by wip/tools/pr.py (a program of this repo over the kit's print.py).
namespace Go.Proofs.TrydX.X
open Go.RowKit Go.Proofs.YtidnopmjhhmedaaDoorW.PrintWords Go.Proofs.YtidnopmjhhmedaaDoorW.PrintLast Go.Proofs.YtidnopmjhhmedaaDoorW.PrintMore
attribute [local go_sem] max2_int min2_int max_two min_two max_three min_three max_four min_four   -- for this text's walks alone
set_option linter.unusedVariables false
set_option linter.unusedSimpArgs false

end Go.Proofs.TrydX.X
end

section
-- Written by wip/tools/pr.py (a program of this repo over the kit's print.py).
namespace Go.Proofs.TrydX.X
open Go.RowKit Go.Proofs.YtidnopmjhhmedaaDoorW.PrintWords Go.Proofs.YtidnopmjhhmedaaDoorW.PrintLast Go.Proofs.YtidnopmjhhmedaaDoorW.PrintMore
attribute [local go_sem] max2_int min2_int max_two min_two max_three min_three max_four min_four   -- for this text's walks alone
set_option linter.unusedVariables false
set_option linter.unusedSimpArgs false

end Go.Proofs.TrydX.X
end

section
-- Written by wip/tools/pr.py (a program of this repo over the kit's print.py).
namespace Go.Proofs.TrydX.X
open Go.RowKit Go.Proofs.YtidnopmjhhmedaaDoorW.PrintWords Go.Proofs.YtidnopmjhhmedaaDoorW.PrintLast Go.Proofs.YtidnopmjhhmedaaDoorW.PrintMore
attribute [local go_sem] max2_int min2_int max_two min_two max_three min_three max_four min_four   -- for this text's walks alone
set_option linter.unusedVariables false
set_option linter.unusedSimpArgs false

end Go.Proofs.TrydX.X
end

section
-- Written by wip/tools/pr.py (a program of this repo over the kit's print.py).
namespace Go.Proofs.TrydX.X
open Go.RowKit Go.Proofs.YtidnopmjhhmedaaDoorW.PrintWords Go.Proofs.YtidnopmjhhmedaaDoorW.PrintLast Go.Proofs.YtidnopmjhhmedaaDoorW.PrintMore
attribute [local go_sem] max2_int min2_int max_two min_two max_three min_three max_four min_four   -- for this text's walks alone
set_option linter.unusedVariables false
set_option linter.unusedSimpArgs false

end Go.Proofs.TrydX.X
end

section
-- Written by wip/tools/pr.py (a program of this repo over the kit's print.py).
namespace Go.Proofs.TrydX.X
open Go.RowKit Go.Proofs.YtidnopmjhhmedaaDoorW.PrintWords Go.Proofs.YtidnopmjhhmedaaDoorW.PrintLast Go.Proofs.YtidnopmjhhmedaaDoorW.PrintMore
attribute [local go_sem] max2_int min2_int max_two min_two max_three min_three max_four min_four   -- for this text's walks alone
set_option linter.unusedVariables false
set_option linter.unusedSimpArgs false

end Go.Proofs.TrydX.X
end

section
-- Written by wip/tools/pr.py (a program of this repo over the kit's print.py).
namespace Go.Proofs.TrydX.X
open Go.RowKit Go.Proofs.YtidnopmjhhmedaaDoorW.PrintWords Go.Proofs.YtidnopmjhhmedaaDoorW.PrintLast Go.Proofs.YtidnopmjhhmedaaDoorW.PrintMore
attribute [local go_sem] max2_int min2_int max_two min_two max_three min_three max_four min_four   -- for this text's walks alone
set_option linter.unusedVariables false
set_option linter.unusedSimpArgs false

end Go.Proofs.TrydX.X
end

section
/- Plain: what the reference's functions of chapter 04 tell, in the hand's own words. -/
set_option linter.unusedSimpArgs false
set_option linter.unusedVariables false
namespace Go.Proofs.TrydX.X
open Go.RowKit Go.Proofs.YtidnopmjhhmedaaDoorW.PrintWords Go.Proofs.YtidnopmjhhmedaaDoorW.PrintLast
open Go.Proofs.YtidnopmjhhmedaaDoor

theorem wr {x : Int} (h : -9223372036854775808 ≤ x ∧ x ≤ 9223372036854775807) : wrap64 x = x := IntWalk.wrap64_in x h
theorem lies_f (n a b : Int) : remontoirref00_Lies.f n a b = some (lies n a b) := by
  unfold remontoirref00_Lies.f lies
  by_cases h : a ≤ n <;> simp [h]
theorem valid_f (a b l h : Int) : remontoirref00_Valid.f a b l h = some (decide (a ≤ b) && decide (l ≤ a) && decide (b ≤ h)) := by
  unfold remontoirref00_Valid.f
  by_cases h1 : a ≤ b <;> by_cases h2 : l ≤ a <;> simp [h1, h2]
end Go.Proofs.TrydX.X
end

section
-- Written by wip/tools/pr.py (a program of this repo over the kit's print.py).
namespace Go.Proofs.TrydX.X
open Go.RowKit Go.Proofs.YtidnopmjhhmedaaDoorW.PrintWords Go.Proofs.YtidnopmjhhmedaaDoorW.PrintLast Go.Proofs.YtidnopmjhhmedaaDoorW.PrintMore
attribute [local go_sem] max2_int min2_int max_two min_two max_three min_three max_four min_four   -- for this text's walks alone
set_option linter.unusedVariables false
set_option linter.unusedSimpArgs false

end Go.Proofs.TrydX.X
end

section
-- Written by wip/tools/pr.py (a program of this repo over the kit's print.py).
namespace Go.Proofs.TrydX.X
open Go.RowKit Go.Proofs.YtidnopmjhhmedaaDoorW.PrintWords Go.Proofs.YtidnopmjhhmedaaDoorW.PrintLast Go.Proofs.YtidnopmjhhmedaaDoorW.PrintMore
attribute [local go_sem] max2_int min2_int max_two min_two max_three min_three max_four min_four   -- for this text's walks alone
set_option linter.unusedVariables false
set_option linter.unusedSimpArgs false

end Go.Proofs.TrydX.X
end

section
-- Written by wip/tools/pr.py (a program of this repo over the kit's print.py).
namespace Go.Proofs.TrydX.X
open Go.RowKit Go.Proofs.YtidnopmjhhmedaaDoorW.PrintWords Go.Proofs.YtidnopmjhhmedaaDoorW.PrintLast Go.Proofs.YtidnopmjhhmedaaDoorW.PrintMore
attribute [local go_sem] max2_int min2_int max_two min_two max_three min_three max_four min_four   -- for this text's walks alone
set_option linter.unusedVariables false
set_option linter.unusedSimpArgs false

end Go.Proofs.TrydX.X
end

section
-- Written by wip/tools/pr.py (a program of this repo over the kit's print.py).
namespace Go.Proofs.TrydX.X
open Go.RowKit Go.Proofs.YtidnopmjhhmedaaDoorW.PrintWords Go.Proofs.YtidnopmjhhmedaaDoorW.PrintLast Go.Proofs.YtidnopmjhhmedaaDoorW.PrintMore
attribute [local go_sem] max2_int min2_int max_two min_two max_three min_three max_four min_four   -- for this text's walks alone
set_option linter.unusedVariables false
set_option linter.unusedSimpArgs false

end Go.Proofs.TrydX.X
end

section
-- Written by wip/tools/pr.py (a program of this repo over the kit's print.py).
namespace Go.Proofs.TrydX.X
open Go.RowKit Go.Proofs.YtidnopmjhhmedaaDoorW.PrintWords Go.Proofs.YtidnopmjhhmedaaDoorW.PrintLast Go.Proofs.YtidnopmjhhmedaaDoorW.PrintMore
attribute [local go_sem] max2_int min2_int max_two min_two max_three min_three max_four min_four   -- for this text's walks alone
set_option linter.unusedVariables false
set_option linter.unusedSimpArgs false

end Go.Proofs.TrydX.X
end

section
-- Written by wip/tools/pr.py (a program of this repo over the kit's print.py).
namespace Go.Proofs.TrydX.X
open Go.RowKit Go.Proofs.YtidnopmjhhmedaaDoorW.PrintWords Go.Proofs.YtidnopmjhhmedaaDoorW.PrintLast Go.Proofs.YtidnopmjhhmedaaDoorW.PrintMore
attribute [local go_sem] max2_int min2_int max_two min_two max_three min_three max_four min_four   -- for this text's walks alone
set_option linter.unusedVariables false
set_option linter.unusedSimpArgs false

end Go.Proofs.TrydX.X
end

section
/- Plain: what the reference's Check, errors, Error and Stated tell, in the hand's own words. -/
set_option linter.unusedSimpArgs false
set_option linter.unusedVariables false
namespace Go.Proofs.TrydX.X
open Go.RowKit Go.Proofs.YtidnopmjhhmedaaDoorW.PrintWords Go.Proofs.YtidnopmjhhmedaaDoorW.PrintLast
open Go.Proofs.YtidnopmjhhmedaaDoor

theorem drop_T71 (l : List S71) (i : Nat) (h : i < l.length) : l.drop i = rd_T71 l i :: l.drop (i + 1) := by
  rw [List.drop_eq_getElem_cons h]; simp [rd_T71, h]
section
variable {F S J L H T : Int} {st : List Int} {l7 : List S71}
end

theorem okF_iff (t : Nat) (f : Nat → Sp) : okF t f = true ↔ ∀ k, k ≤ t → (f k).lo ≤ (f k).hi := by
  unfold okF
  simp only [List.all_eq_true, List.mem_range, decide_eq_true_eq]
  exact ⟨fun h k hk => h k (by omega), fun h k hk => h k (by omega)⟩
section
variable {F S J L H : Int} {st : List Int} {l7 : List S71}
variable (hL : -100 ≤ L ∧ L ≤ H ∧ H ≤ 100) (hst : ∀ k, -500 ≤ stAt st k ∧ stAt st k ≤ 500)
include hL hst
end
theorem check_parts {F S J L H T : Int} {st : List Int} {lk : List Lk} (h : checkB F S J L H T st lk = true) : isRuleB F S J L H = true ∧ 1 ≤ T ∧ T ≤ 60 ∧ lk.length ≤ 10 ∧ lk.all (lookB T) = true := by
  unfold checkB at h
  simp only [Bool.and_eq_true, decide_eq_true_eq, lies_iff] at h
  exact ⟨h.1.1.1.1.1, h.1.1.1.1.2.1, h.1.1.1.1.2.2, h.1.2, h.2⟩
end Go.Proofs.TrydX.X
end

section
-- Written by wip/tools/pr.py (a program of this repo over the kit's print.py).
namespace Go.Proofs.TrydX.X
open Go.RowKit Go.Proofs.YtidnopmjhhmedaaDoorW.PrintWords Go.Proofs.YtidnopmjhhmedaaDoorW.PrintLast Go.Proofs.YtidnopmjhhmedaaDoorW.PrintMore
attribute [local go_sem] max2_int min2_int max_two min_two max_three min_three max_four min_four   -- for this text's walks alone
set_option linter.unusedVariables false
set_option linter.unusedSimpArgs false

end Go.Proofs.TrydX.X
end

section
-- Written by wip/tools/pr.py (a program of this repo over the kit's print.py).
namespace Go.Proofs.TrydX.X
open Go.RowKit Go.Proofs.YtidnopmjhhmedaaDoorW.PrintWords Go.Proofs.YtidnopmjhhmedaaDoorW.PrintLast Go.Proofs.YtidnopmjhhmedaaDoorW.PrintMore
attribute [local go_sem] max2_int min2_int max_two min_two max_three min_three max_four min_four   -- for this text's walks alone
set_option linter.unusedVariables false
set_option linter.unusedSimpArgs false

end Go.Proofs.TrydX.X
end

section
-- Written by wip/tools/pr.py (a program of this repo over the kit's print.py).
namespace Go.Proofs.TrydX.X
open Go.RowKit Go.Proofs.YtidnopmjhhmedaaDoorW.PrintWords Go.Proofs.YtidnopmjhhmedaaDoorW.PrintLast Go.Proofs.YtidnopmjhhmedaaDoorW.PrintMore
attribute [local go_sem] max2_int min2_int max_two min_two max_three min_three max_four min_four   -- for this text's walks alone
set_option linter.unusedVariables false
set_option linter.unusedSimpArgs false

end Go.Proofs.TrydX.X
end

section
/- Plain: draws that are steered within a rule. -/
set_option linter.unusedSimpArgs false
set_option linter.unusedVariables false
namespace Go.Proofs.TrydX.X
open Go.RowKit Go.Proofs.YtidnopmjhhmedaaDoorW.PrintWords Go.Proofs.YtidnopmjhhmedaaDoorW.PrintLast
open Go.Proofs.YtidnopmjhhmedaaDoor

theorem isRule_f (F S J L H : Int) : remontoirlaw04_isRule.f F S J L H = some (isRuleB F S J L H) := by
  unfold remontoirlaw04_isRule.f scale_Reach.f
  cases hr : isRuleB F S J L H
  · simp
  · obtain ⟨hF, hS, hJ, hL⟩ := isRuleB_spec hr
    have h0 : lies 0 0 200 = true := by decide
    simp only [if_true, h0, Option.bind_some, lies_f, valid_f, lies_iff.2 hF, lies_iff.2 hS, lies_iff.2 hJ]
    simp; omega
theorem Rest_f (x m : Int) (hm : 0 < m) (hm2 : m ≤ 4611686018427387904) : ∃ r, remontoirref00_Rest.f x m = some r ∧ 0 ≤ r ∧ r < m := by
  unfold remontoirref00_Rest.f
  rw [if_neg (by omega)]
  have h1 := Int.tmod_lt_of_pos x hm
  have h2 := Int.lt_tmod_of_pos x hm
  split
  · rename_i h
    rw [wr (by omega)]
    exact ⟨_, rfl, by omega, by omega⟩
  · exact ⟨_, rfl, by omega, h1⟩
end Go.Proofs.TrydX.X
end

section
/- Plain: sound; and wider spans: what follows from less follows from more. -/
set_option linter.unusedSimpArgs false
set_option linter.unusedVariables false
namespace Go.Proofs.TrydX.X
open Go.RowKit Go.Proofs.YtidnopmjhhmedaaDoorW.PrintWords Go.Proofs.YtidnopmjhhmedaaDoorW.PrintLast
open Go.Proofs.YtidnopmjhhmedaaDoor

section
variable {F S J L H T : Int} {st : List Int} {l7 : List S71}
theorem sound_l1 (hl : l7.length ≤ 10) (d : Nat) : ∀ (k i : Nat), i + d = l7.length → 2 * d + 1 < k → ((l7.drop i).map toLk).all (lookB T) = true →
    remontoirlaw04_sound.l1 k true i F S J L H T st l7 = some true := by
  induction d with
  | zero =>
    intro k i hi hk _
    obtain ⟨k, rfl⟩ : ∃ m, k = m + 2 := ⟨k - 2, by omega⟩
    have : decide ((i : Int) < (l7.length : Int)) = false := decide_eq_false (by omega)
    simp only [remontoirlaw04_sound.l1, remontoirlaw04_sound.j4, if_true, this, Bool.false_eq_true, if_false]
  | succ d ih =>
    intro k i hi hk ha
    obtain ⟨k, rfl⟩ : ∃ m, k = m + 2 := ⟨k - 2, by omega⟩
    have hd : decide ((i : Int) < (l7.length : Int)) = true := decide_eq_true (by omega)
    simp only [remontoirlaw04_sound.l1, remontoirlaw04_sound.j4, if_true, hd]
    rw [drop_T71 l7 i (by omega), List.map_cons, List.all_cons, Bool.and_eq_true] at ha
    obtain ⟨h1, h2⟩ := ha
    simp only [lookB, toLk, Bool.and_eq_true, decide_eq_true_eq] at h1
    rw [if_pos (by omega), if_pos (by omega), lies_f, h1.1.1.1, wr (x := (i : Int) + 1) (by omega), show (i : Int) + 1 = ((i + 1 : Nat) : Int) by omega, valid_f]
    simp only [Option.bind_some, if_true]
    have e : (decide ((rd_T71 l7 i).f1.f0 ≤ (rd_T71 l7 i).f1.f1) && decide (-20000 ≤ (rd_T71 l7 i).f1.f0) && decide ((rd_T71 l7 i).f1.f1 ≤ 20000)) = true := by
      simp only [Bool.and_eq_true, decide_eq_true_eq]
      exact ⟨⟨of_decide_eq_true h1.1.2, of_decide_eq_true h1.1.1.2⟩, of_decide_eq_true h1.2⟩
    rw [e]
    exact ih k (i + 1) (by omega) (by omega) h2
theorem sound_l0 (hS : 0 ≤ S ∧ S ≤ 500) (hl : l7.length ≤ 10) (hs : st.length ≤ 60) (hb : ∀ x ∈ st, -S ≤ x ∧ x ≤ F) (ha : (l7.map toLk).all (lookB T) = true) (d : Nat) : ∀ (k i : Nat), i + d = st.length → d + 50 < k →
    remontoirlaw04_sound.l0 k true i F S J L H T st l7 = some true := by
  induction d with
  | zero =>
    intro k i hi hk
    obtain ⟨k, rfl⟩ : ∃ m, k = m + 2 := ⟨k - 2, by omega⟩
    simp only [remontoirlaw04_sound.l0, remontoirlaw04_sound.j2, if_true]
    rw [if_neg (by omega)]
    have := sound_l1 (F := F) (S := S) (J := J) (L := L) (H := H) (T := T) (st := st) hl l7.length k 0 (by omega) (by omega) (by simpa using ha)
    rw [show ((0 : Nat) : Int) = 0 from rfl] at this
    exact this
  | succ d ih =>
    intro k i hi hk
    obtain ⟨k, rfl⟩ : ∃ m, k = m + 1 := ⟨k - 1, by omega⟩
    have hil : i < st.length := by omega
    have hx := hb st[i] (List.getElem_mem hil)
    have hrd : rd st i = st[i] := by simp [rd, List.getD_eq_getElem?_getD, hil]
    simp only [remontoirlaw04_sound.l0, if_true]
    rw [if_pos (by omega), if_pos (by omega), hrd, wr (x := -S) (by omega), lies_f, lies_iff.2 hx, wr (x := (i : Int) + 1) (by omega), show (i : Int) + 1 = ((i + 1 : Nat) : Int) by omega]
    exact ih k (i + 1) (by omega) (by omega)
theorem sound_no (k : Nat) : remontoirlaw04_sound.j0 (k + 5) false F S J L H T st l7 = some false := by
  simp only [remontoirlaw04_sound.j0, remontoirlaw04_sound.l0, remontoirlaw04_sound.j2, remontoirlaw04_sound.l1, remontoirlaw04_sound.j4, Bool.false_eq_true, if_false]
theorem sound_f (h6 : st.length ≤ 17592186044416) (h7 : l7.length ≤ 17592186044416) (k : Nat) (hk : 200 < k) : remontoirlaw04_sound.f k F S J L H T st l7 = some (checkB F S J L H T st (l7.map toLk)) := by
  obtain ⟨k, rfl⟩ : ∃ m, k = m + 5 := ⟨k - 5, by omega⟩
  unfold remontoirlaw04_sound.f scale_Check.f
  rw [if_pos (show st.length ≤ 17592186044416 ∧ l7.length ≤ 17592186044416 from ⟨h6, h7⟩), isRule_f, lies_f]
  simp only [Option.bind_some, sound_no]
  cases hc : checkB F S J L H T st (l7.map toLk)
  · simp
  · obtain ⟨hr, hT1, hT2, hl, hlk⟩ := check_parts hc
    obtain ⟨hF, hS, hJ, _⟩ := isRuleB_spec hr
    have hc2 := hc
    unfold checkB at hc2
    simp only [Bool.and_eq_true, decide_eq_true_eq] at hc2
    have hs : (st.length : Int) ≤ T := hc2.1.1.1.2
    have hkp := hc2.1.1.2
    have hl' : l7.length ≤ 10 := by simpa using hl
    have hdl : decide ((l7.length : Int) ≤ 10) = true := decide_eq_true (by omega)
    rw [hr, lies_iff.2 ⟨hT1, hT2⟩, hdl]
    simp only [if_true, hs]
    rw [show k + 5 = (k + 4) + 1 from rfl]
    simp only [remontoirlaw04_sound.j0]
    have := sound_l0 (F := F) (S := S) (J := J) (L := L) (H := H) (T := T) (st := st) (l7 := l7) hS hl' (by omega) (of_keeps st 0 hkp).1 hlk st.length (k + 4) 0 (by omega) (by omega)
    rw [show ((0 : Nat) : Int) = 0 from rfl] at this
    exact this
end

/-! ### Wider. -/
def Sub (f g : Nat → Sp) : Prop := ∀ k, (g k).lo ≤ (f k).lo ∧ (f k).hi ≤ (g k).hi
theorem Sub.put {f g : Nat → Sp} (h : Sub f g) (k : Nat) (s t : Sp) (hs : t.lo ≤ s.lo ∧ s.hi ≤ t.hi) : Sub (putS f k s) (putS g k t) := by
  intro j
  unfold putS
  split
  · exact hs
  · exact h j
section
variable (st : List Int) {L H L' H' : Int} (hL : L' ≤ L) (hH : H ≤ H')
include hL hH
theorem fwdTo_sub {f g : Nat → Sp} (h : Sub f g) : ∀ j, Sub (fwdTo st L H f j) (fwdTo st L' H' g j)
  | 0 => h
  | j + 1 => by
    have ih := fwdTo_sub h j
    rw [fwdTo, fwdTo, fwdS, fwdS]
    refine ih.put _ _ _ ?_
    have h1 := ih j
    have h2 := ih (j + 1)
    simp only [bothS]
    omega
theorem bwdTo_sub {f g : Nat → Sp} (t : Nat) (h : Sub f g) : ∀ j, Sub (bwdTo st L H t f j) (bwdTo st L' H' t g j)
  | 0 => h
  | j + 1 => by
    have ih := bwdTo_sub t h j
    rw [bwdTo, bwdTo, bwdS, bwdS]
    refine ih.put _ _ _ ?_
    have h1 := ih (t - (j + 1))
    have h2 := ih (t - (j + 1) + 1)
    simp only [bothS]
    omega
theorem roundF_sub {f g : Nat → Sp} (t : Nat) (h : Sub f g) : Sub (roundF st L H t f) (roundF st L' H' t g) :=
  bwdTo_sub st hL hH t (fwdTo_sub st hL hH h t) t
end
theorem Sub.refl (f : Nat → Sp) : Sub f f := fun k => ⟨Int.le_refl _, Int.le_refl _⟩
end Go.Proofs.TrydX.X
end

section
-- Written by wip/tools/pr.py (a program of this repo over the kit's print.py).
namespace Go.Proofs.TrydX.X
open Go.RowKit Go.Proofs.YtidnopmjhhmedaaDoorW.PrintWords Go.Proofs.YtidnopmjhhmedaaDoorW.PrintLast Go.Proofs.YtidnopmjhhmedaaDoorW.PrintMore
attribute [local go_sem] max2_int min2_int max_two min_two max_three min_three max_four min_four   -- for this text's walks alone
set_option linter.unusedVariables false
set_option linter.unusedSimpArgs false

end Go.Proofs.TrydX.X
end

section
/- The plain law of ScaleWider. -/
set_option linter.unusedSimpArgs false
set_option linter.unusedVariables false
namespace Go.Proofs.YtidnopmjhhmedaaDoor
open Go.RowKit Go.Proofs.YtidnopmjhhmedaaDoorW.PrintWords Go.Proofs.YtidnopmjhhmedaaDoorW.PrintLast TrydX.X
theorem checkB_iff {F S J L H T : Int} {st : List Int} {lk : List Lk} : checkB F S J L H T st lk = true ↔ isRuleB F S J L H = true ∧ lies T 1 60 = true ∧ (st.length : Int) ≤ T ∧ keepsB F S J 0 st = true ∧ lk.length ≤ 10 ∧ lk.all (lookB T) = true := by
  unfold checkB
  simp only [Bool.and_eq_true, decide_eq_true_eq, and_assoc]
end Go.Proofs.YtidnopmjhhmedaaDoor
end

section
/- Plain: the order of looks, and how often each is told, change nothing; what Error tells. -/
set_option linter.unusedSimpArgs false
set_option linter.unusedVariables false
namespace Go.Proofs.YtidnopmjhhmedaaDoor
open Go.RowKit Go.Proofs.YtidnopmjhhmedaaDoorW.PrintWords Go.Proofs.YtidnopmjhhmedaaDoorW.PrintLast TrydX.X

/-! ### The order of looks, and how often each is told, change nothing. -/
theorem looks_lo (z : Int) (n : Nat) : ∀ (lk : List Lk) (f : Nat → Sp), ((lk.foldl lookS f) n).lo ≤ z ↔ (f n).lo ≤ z ∧ ∀ l ∈ lk, l.t.toNat = n → l.lo ≤ z
  | [], f => by simp
  | x :: lk, f => by
    rw [List.foldl_cons, looks_lo z n lk]
    simp only [List.mem_cons, forall_eq_or_imp, lookS]
    by_cases h : n = x.t.toNat
    · subst h
      rw [putS_self]
      simp only [bothS, forall_const, Int.max_le, and_assoc]
    · rw [putS_ne _ _ h]
      have : ¬ x.t.toNat = n := fun e => h e.symm
      simp only [this, false_implies, true_and]
theorem looks_hi (z : Int) (n : Nat) : ∀ (lk : List Lk) (f : Nat → Sp), z ≤ ((lk.foldl lookS f) n).hi ↔ z ≤ (f n).hi ∧ ∀ l ∈ lk, l.t.toNat = n → z ≤ l.hi
  | [], f => by simp
  | x :: lk, f => by
    rw [List.foldl_cons, looks_hi z n lk]
    simp only [List.mem_cons, forall_eq_or_imp, lookS]
    by_cases h : n = x.t.toNat
    · subst h
      rw [putS_self]
      simp only [bothS, forall_const, Int.le_min, and_assoc]
    · rw [putS_ne _ _ h]
      have : ¬ x.t.toNat = n := fun e => h e.symm
      simp only [this, false_implies, true_and]
theorem looksF_mem {l m : List Lk} (h : ∀ x, x ∈ l ↔ x ∈ m) : looksF l = looksF m := by
  funext n
  have h1 : ∀ z, (looksF l n).lo ≤ z ↔ (looksF m n).lo ≤ z := fun z => by
    unfold looksF
    rw [looks_lo, looks_lo]
    exact and_congr_right fun _ => ⟨fun a x hx => a x ((h x).2 hx), fun a x hx => a x ((h x).1 hx)⟩
  have h2 : ∀ z, z ≤ (looksF l n).hi ↔ z ≤ (looksF m n).hi := fun z => by
    unfold looksF
    rw [looks_hi, looks_hi]
    exact and_congr_right fun _ => ⟨fun a x hx => a x ((h x).2 hx), fun a x hx => a x ((h x).1 hx)⟩
  have a1 := (h1 _).1 (Int.le_refl _)
  have a2 := (h1 _).2 (Int.le_refl _)
  have a3 := (h2 _).1 (Int.le_refl _)
  have a4 := (h2 _).2 (Int.le_refl _)
  generalize looksF l n = s at *
  generalize looksF m n = t at *
  cases s; cases t
  simp only [Sp.mk.injEq] at *
  omega
theorem looksF_more (l : List Lk) (x : Lk) : Sub (looksF (l ++ [x])) (looksF l) := by
  intro n
  have h1 := (looks_lo _ n (l ++ [x]) wideF).1 (Int.le_refl _)
  have h2 := (looks_hi _ n (l ++ [x]) wideF).1 (Int.le_refl _)
  have g1 := (looks_lo ((looksF (l ++ [x]) n).lo) n l wideF).2 ⟨h1.1, fun y hy => h1.2 y (List.mem_append_left _ hy)⟩
  have g2 := (looks_hi ((looksF (l ++ [x]) n).hi) n l wideF).2 ⟨h2.1, fun y hy => h2.2 y (List.mem_append_left _ hy)⟩
  exact ⟨g1, g2⟩
theorem err_all {F S J L H T : Int} {st : List Int} {lk : List S71} (h6 : st.length ≤ 17592186044416) (h7 : lk.length ≤ 17592186044416) (hc : checkB F S J L H T st (lk.map toLk) = true) (t : Int) (ht : lies t 0 T = true) :
    scale_Error.f F S J L H T st lk t = some (if okF T.toNat (solF F S J L H T st (lk.map toLk)) = true then ((solF F S J L H T st (lk.map toLk) t.toNat).lo, (solF F S J L H T st (lk.map toLk) t.toNat).hi, 0) else (0, 0, 42)) := by
  unfold scale_Error.f
  rw [if_pos (show st.length ≤ 17592186044416 ∧ lk.length ≤ 17592186044416 from ⟨h6, h7⟩)]
  unfold askE
  rw [hc, ht]
  generalize solF F S J L H T st (lk.map toLk) = g
  simp only [if_true]
  cases okF T.toNat g <;> rfl
theorem err_bad {F S J L H T : Int} {st : List Int} {lk : List S71} (h6 : st.length ≤ 17592186044416) (h7 : lk.length ≤ 17592186044416) (hc : checkB F S J L H T st (lk.map toLk) = false) (t : Int) :
    scale_Error.f F S J L H T st lk t = some (0, 0, 40) := by
  unfold scale_Error.f
  rw [if_pos (show st.length ≤ 17592186044416 ∧ lk.length ≤ 17592186044416 from ⟨h6, h7⟩)]
  unfold askE
  rw [hc]
  rfl
end Go.Proofs.YtidnopmjhhmedaaDoor
end

section
/- The plain law of ScaleMore. -/
set_option linter.unusedSimpArgs false
set_option linter.unusedVariables false
namespace Go.Proofs.YtidnopmjhhmedaaDoor
open Go.RowKit Go.Proofs.YtidnopmjhhmedaaDoorW.PrintWords Go.Proofs.YtidnopmjhhmedaaDoorW.PrintLast TrydX.X

section
variable {F S J L H T : Int} {st : List Int} {lk : List S71}
theorem more_j5 (h6 : st.length ≤ 17592186044416) (h7 : lk.length ≤ 17592186044416) (hc : checkB F S J L H T st (lk.map toLk) = true) (ho : okF T.toNat (solF F S J L H T st (lk.map toLk)) = true) (t : Nat) (ht : (t : Int) < T) (k : Nat) :
    remontoirlaw04_ScaleMore.j5 (k + 2) t (stAt st t) F S J L H T st lk (solF F S J L H T st (lk.map toLk) t).lo (solF F S J L H T st (lk.map toLk) t).hi = some true := by
  obtain ⟨c1, c2, c3, c4, c5, c6⟩ := checkB_iff.1 hc
  obtain ⟨hF, hS, hJ, hL⟩ := isRuleB_spec c1
  have hT := lies_iff.1 c2
  have hst : ∀ k, -500 ≤ stAt st k ∧ stAt st k ≤ 500 := by
    intro k
    unfold stAt
    by_cases hk : k < st.length
    · have := (of_keeps st 0 c4).1 st[k] (List.getElem_mem hk)
      rw [List.getElem?_eq_getElem hk]
      simp only [Option.getD_some]
      omega
    · rw [List.getElem?_eq_none (by omega)]
      simp
  have hb := roundF_bnd hst hL (by omega) T.toNat (by omega) (looksF_bnd T _ c6)
  have hfw := roundF_fwd st hL.2.1 T.toNat (looksF (lk.map toLk)) t (by omega)
  have b1 := hb t
  have b2 := hst t
  simp only [remontoirlaw04_ScaleMore.j5, remontoirlaw04_ScaleMore.j6]
  rw [wr (x := (t : Int) + 1) (by omega), err_all h6 h7 hc ((t : Int) + 1) (lies_iff.2 (by omega)), ho, if_pos rfl, show ((t : Int) + 1).toNat = t + 1 by omega]
  unfold solF
  generalize roundF st L H T.toNat (looksF (lk.map toLk)) = g at *
  simp only [Option.bind_some, remontoirref00_To.f]
  rw [wr (x := (g t).lo + L) (by omega), wr (x := (g t).hi + H) (by omega), wr (x := (g t).lo + L + stAt st t) (by omega), wr (x := (g t).hi + H + stAt st t) (by omega)]
  simp only [if_true, remontoirref00_Within.f, remontoirlaw04_works.f, Option.bind_some]
  have a1 : (g t).lo + L + stAt st t ≤ (g (t + 1)).lo := by omega
  have a2 : (g (t + 1)).hi ≤ (g t).hi + H + stAt st t := by omega
  simp [a1, a2]
theorem more_j2 {y z : List S71} (h6 : st.length ≤ 17592186044416) (h7 : lk.length ≤ 10) (hy7 : y.length ≤ 11) (hz7 : z.length ≤ 11) (hc : checkB F S J L H T st (lk.map toLk) = true)
    (hcz : checkB F S J L H T st (z.map toLk) = true) (hz : looksF (z.map toLk) = looksF (lk.map toLk))
    (hy : Sub (looksF (y.map toLk)) (looksF (lk.map toLk))) (t : Nat) (ht : (t : Int) < T) (k : Nat) :
    remontoirlaw04_ScaleMore.j2 (k + 5) t F S J L H T st lk F S J L H T st y F S J L H T st z = some true := by
  have hT := lies_iff.1 (checkB_iff.1 hc).2.1
  obtain ⟨hF, hS, hJ, hL⟩ := isRuleB_spec (checkB_iff.1 hc).1
  have htl : lies (t : Int) 0 T = true := lies_iff.2 (by omega)
  have hsz : solF F S J L H T st (z.map toLk) = solF F S J L H T st (lk.map toLk) := by unfold solF; rw [hz]
  have hsy : Sub (solF F S J L H T st (y.map toLk)) (solF F S J L H T st (lk.map toLk)) := by
    unfold solF
    exact roundF_sub st (Int.le_refl _) (Int.le_refl _) _ hy
  have j5 := more_j5 (F := F) (S := S) (J := J) (L := L) (H := H) (T := T) h6 (by omega) hc
  simp only [remontoirlaw04_ScaleMore.j2]
  rw [err_all h6 (by omega) hc t htl, err_all h6 (by omega) hcz t htl, hsz]
  simp only [Option.bind_some, Int.toNat_natCast]
  have hjv : ∀ (u v : Int), okF T.toNat (solF F S J L H T st (lk.map toLk)) = true → (solF F S J L H T st (lk.map toLk) t).lo ≤ u → v ≤ (solF F S J L H T st (lk.map toLk) t).hi →
      remontoirlaw04_ScaleMore.j3 (k + 4) t 0 0 false F S J L H T st lk (solF F S J L H T st (lk.map toLk) t).lo (solF F S J L H T st (lk.map toLk) t).hi u v = some true := by
    intro u v ho h1 h2
    simp only [remontoirlaw04_ScaleMore.j3, remontoirref00_Within.f, remontoirlaw04_ScaleMore.j4]
    rw [if_neg (by decide), if_pos trivial, if_pos trivial]
    have e : (!(decide ((solF F S J L H T st (lk.map toLk) t).lo ≤ u) && decide (v ≤ (solF F S J L H T st (lk.map toLk) t).hi))) = false := by simp [h1, h2]
    have := j5 ho t ht k
    generalize solF F S J L H T st (lk.map toLk) = g at *
    have e2 : (if (g t).lo ≤ u then some (decide (v ≤ (g t).hi)) else some false) = some true := by rw [if_pos h1, decide_eq_true h2]
    first | rw [e2] | skip
    simp only [h1, h2, decide_true, Option.bind_some, Bool.and_self, Bool.not_true, if_true, Bool.false_eq_true, if_false]
    by_cases hs : (t : Int) < (st.length : Int)
    · rw [if_pos hs, if_pos (by omega)]
      have e3 : rd st (t : Int) = stAt st t := by simp [rd, stAt, List.getD_eq_getElem?_getD]
      rw [e3]
      exact this
    · rw [if_neg hs]
      have e3 : stAt st t = 0 := by unfold stAt; rw [List.getElem?_eq_none (by omega)]; rfl
      rw [e3] at this
      exact this
  have hjb : ∀ (e : Int) (f : Int) (u v : Int), f = 40 ∨ f = 42 → remontoirlaw04_ScaleMore.j3 (k + 4) t e f false F S J L H T st lk u v 0 0 = some true := by
    intro e f u v hf
    simp only [remontoirlaw04_ScaleMore.j3, remontoirlaw04_works.f]
    rcases hf with rfl | rfl <;> rfl
  have hk : k + 4 + 1 = k + 5 := rfl
  have key : ∀ (c d f : Int), scale_Error.f F S J L H T st y t = some (c, d, f) →
      remontoirlaw04_ScaleMore.j3 (k + 4) t (if okF T.toNat (solF F S J L H T st (lk.map toLk)) = true then ((solF F S J L H T st (lk.map toLk) t).lo, (solF F S J L H T st (lk.map toLk) t).hi, (0 : Int)) else (0, 0, 42)).2.2 f false F S J L H T st lk
        (if okF T.toNat (solF F S J L H T st (lk.map toLk)) = true then ((solF F S J L H T st (lk.map toLk) t).lo, (solF F S J L H T st (lk.map toLk) t).hi, (0 : Int)) else (0, 0, 42)).1
        (if okF T.toNat (solF F S J L H T st (lk.map toLk)) = true then ((solF F S J L H T st (lk.map toLk) t).lo, (solF F S J L H T st (lk.map toLk) t).hi, (0 : Int)) else (0, 0, 42)).2.1 c d = some true := by
    intro c d f he
    cases hcy : checkB F S J L H T st (y.map toLk)
    · rw [err_bad h6 (by omega) hcy] at he
      cases he
      exact hjb _ _ _ _ (.inl rfl)
    · rw [err_all h6 (by omega) hcy t htl] at he
      simp only [Int.toNat_natCast] at he
      cases hoy : okF T.toNat (solF F S J L H T st (y.map toLk))
      · rw [hoy] at he
        cases he
        exact hjb _ _ _ _ (.inr rfl)
      · have ho : okF T.toNat (solF F S J L H T st (lk.map toLk)) = true := by
          rw [okF_iff] at hoy ⊢
          intro k hk
          have h1 := hoy k hk
          have h2 := hsy k
          omega
        rw [hoy, if_pos rfl] at he
        have h2 := hsy t
        cases he
        rw [ho, if_pos rfl]
        exact hjv _ _ ho h2.1 h2.2
  obtain ⟨c, d, f, he⟩ : ∃ c d f, scale_Error.f F S J L H T st y t = some (c, d, f) := by
    cases hcy : checkB F S J L H T st (y.map toLk)
    · exact ⟨_, _, _, err_bad h6 (by omega) hcy t⟩
    · exact ⟨_, _, _, err_all h6 (by omega) hcy t htl⟩
  rw [he]
  simp only [Option.bind_some]
  have := key c d f he
  simp only [beq_self_eq_true, Bool.not_true, Bool.or_self, Bool.false_eq_true, if_false, bne_self_eq_false]
  exact this
theorem more_l0 {y : List S71} (h6 : st.length ≤ 17592186044416) (h7 : lk.length ≤ 9) (hy7 : y.length ≤ 11) (hc : checkB F S J L H T st (lk.map toLk) = true)
    (hy : Sub (looksF (y.map toLk)) (looksF (lk.map toLk))) (t : Nat) (ht : (t : Int) < T) (k : Nat) : ∀ (d : Nat), d ≤ lk.length →
    remontoirlaw04_ScaleMore.l0 (k + 6 + d) t ((d : Int) - 1) F S J L H T st lk F S J L H T st y F S J L H T st (lk.drop d).reverse = some true := by
  obtain ⟨c1, c2, c3, c4, c5, c6⟩ := checkB_iff.1 hc
  have fin : ∀ z : List S71, z.length ≤ 10 → (∀ x, x ∈ z ↔ x ∈ lk) → remontoirlaw04_ScaleMore.j2 (k + 5) t F S J L H T st lk F S J L H T st y F S J L H T st z = some true := by
    intro z hz hm
    have hm2 : ∀ x, x ∈ z.map toLk ↔ x ∈ lk.map toLk := fun x => by simp only [List.mem_map, hm]
    refine more_j2 h6 (by omega) hy7 (by omega) hc (checkB_iff.2 ⟨c1, c2, c3, c4, by simpa using hz, ?_⟩) (looksF_mem hm2) hy t ht k
    rw [List.all_eq_true] at c6 ⊢
    exact fun x hx => c6 x ((hm2 x).1 hx)
  intro d
  induction d with
  | zero =>
    intro _
    simp only [Nat.add_zero, remontoirlaw04_ScaleMore.l0, List.drop_zero, Option.bind_some]
    rw [if_neg (by omega)]
    by_cases h0 : (lk.length : Int) > 0
    · have hl : (lk.reverse).length + [(⟨(rd_T71 lk 0).f0, ⟨(rd_T71 lk 0).f1.f0, (rd_T71 lk 0).f1.f1⟩⟩ : S71)].length < 5864062014805 := by simp; omega
      rw [if_pos h0, if_pos (by omega), if_pos hl]
      refine fin _ (by simp; omega) (fun x => ?_)
      have e : rd_T71 lk 0 ∈ lk := by
        have : lk[0]? = some (rd_T71 lk 0) := by simp [rd_T71, List.getD_eq_getElem?_getD, show 0 < lk.length by omega]
        exact List.mem_of_getElem? this
      simp only [List.mem_append, List.mem_reverse, List.mem_singleton]
      exact ⟨fun h => h.elim id (fun h => h ▸ e), .inl⟩
    · rw [if_neg h0]
      exact fin _ (by simp; omega) (fun x => List.mem_reverse)
  | succ d ih =>
    intro hd
    have hm : d < lk.length := by omega
    have hrd : lk[d]? = some (rd_T71 lk d) := by simp [rd_T71, List.getD_eq_getElem?_getD, hm]
    have hl : ((lk.drop (d + 1)).reverse).length + [(⟨(rd_T71 lk d).f0, ⟨(rd_T71 lk d).f1.f0, (rd_T71 lk d).f1.f1⟩⟩ : S71)].length < 5864062014805 := by simp; omega
    rw [show k + 6 + (d + 1) = (k + 6 + d) + 1 from rfl]
    simp only [remontoirlaw04_ScaleMore.l0, Option.bind_some]
    rw [show ((d + 1 : Nat) : Int) - 1 = (d : Int) by omega, if_pos (by omega), if_pos (by omega), if_pos (by omega), if_pos hl, wr (x := (d : Int) - 1) (by omega)]
    have e : (lk.drop d).reverse = (lk.drop (d + 1)).reverse ++ [(⟨(rd_T71 lk d).f0, ⟨(rd_T71 lk d).f1.f0, (rd_T71 lk d).f1.f1⟩⟩ : S71)] := by
      rw [drop_T71 lk d hm, List.reverse_cons]
    rw [← e]
    exact ih (by omega)
end
theorem scaleMore_pure (F S J L H T : Int) (st : List Int) (lk : List S71) (m0 m1 m2 n : Int) (wf : W64 F ∧ W64 S ∧ W64 J ∧ W64 L ∧ W64 H ∧ W64 T) (w6 : ∀ z ∈ st, W64 z) (w7 : ∀ z ∈ lk, W64 z.f0 ∧ W64 z.f1.f0 ∧ W64 z.f1.f1) (h6 : st.length ≤ 17592186044416) (h7 : lk.length ≤ 5864062014805) (wm : W64 m0 ∧ W64 m1 ∧ W64 m2) (wn : W64 n) :
    ∃ k, remontoirlaw04_ScaleMore.f k F S J L H T st lk m0 m1 m2 n = some true := by
  obtain ⟨K, hK⟩ : ∃ K : Nat, K = 500 := ⟨_, rfl⟩
  refine ⟨K + 7 + lk.length, ?_⟩
  unfold remontoirlaw04_ScaleMore.f
  rw [sound_f h6 (by omega) _ (by omega)]
  simp only [Option.bind_some]
  rw [show K + 7 + lk.length = (K + 6 + lk.length) + 1 by omega]
  cases hc : checkB F S J L H T st (lk.map toLk)
  · simp [remontoirlaw04_ScaleMore.j0, remontoirlaw04_works.f]
  · obtain ⟨c1, c2, c3, c4, c5, c6⟩ := checkB_iff.1 hc
    have hT := lies_iff.1 c2
    have hl10 : lk.length ≤ 10 := by simpa using c5
    obtain ⟨t0, e1, g1, g2⟩ := Rest_f n T (by omega) (by omega)
    obtain ⟨t, rfl⟩ : ∃ t : Nat, t0 = t := ⟨t0.toNat, by omega⟩
    simp only [if_true]
    simp only [remontoirlaw04_ScaleMore.j0]
    by_cases h10 : lk.length = 10
    · simp [h10, remontoirlaw04_works.f]
    · have hb : ((lk.length : Int) == 10) = false := beq_eq_false_iff_ne.2 (by omega)
      have ha1 : ([] : List S71).length + lk.length < 5864062014805 := by simp; omega
      have ha2 : (([] : List S71) ++ lk).length + ([(⟨m0, ⟨m1, m2⟩⟩ : S71)]).length < 5864062014805 := by simp; omega
      rw [hb, if_neg (by decide), e1]
      simp only [Option.bind_some]
      rw [if_pos ha1]
      rw [if_pos ha2, wr (x := (lk.length : Int) - 1) (by omega)]
      have hy : Sub (looksF ((([] : List S71) ++ lk ++ [(⟨m0, ⟨m1, m2⟩⟩ : S71)]).map toLk)) (looksF (lk.map toLk)) := by
        rw [List.nil_append, List.map_append]
        exact looksF_more _ _
      have := more_l0 (F := F) (S := S) (J := J) (L := L) (H := H) (T := T) h6 (show lk.length ≤ 9 by omega) (y := ([] : List S71) ++ lk ++ [(⟨m0, ⟨m1, m2⟩⟩ : S71)]) (by simp; omega) hc hy t (by omega) K lk.length (Nat.le_refl _)
      rw [List.drop_length] at this
      exact this
end Go.Proofs.YtidnopmjhhmedaaDoor
end

section
/- The row and the card of ScaleMore. Written by wip/tools/mkRow.py. -/
set_option linter.unusedVariables false
set_option linter.unusedSimpArgs false
namespace Go.Proofs.YtidnopmjhhmedaaDoor
open Go.ChangeShapes Go.WideShapes Go.ChangeAt Go.RowKit TrydX.X

set_option maxRecDepth 100000 in
theorem scaleMore_lifted (os : Os) (started : os.Started) (H : Type) (enc : TypeId × Value → H) :
    ReturnsInHanded {} Tryd.checked os 13 .any (fun w args => (Rows.scaleMoreSpec.pre enc Tryd.prog Tryd.f13 [] false w args ∧ laidMetH Tryd.prog laid1 w) ∧ sizedMet enc Tryd.prog Tryd.f13 (OpenSpec.ofChange Rows.scaleMoreSpec) false w args)
      (Rows.scaleMoreSpec.post enc Tryd.prog Tryd.f13 false true false false) := by
  refine returnsInHanded_of_change_and (C := Tryd.checked) (X := fun w _ => laidMetH Tryd.prog laid1 w) (fun _ _ _ hh h => h.of_heap hh) own started (by kernel_rfl) Tryd.func13
    (ChangeSpec.witness_shaped (enc := enc) (C := Tryd.checked) (os := os) (X := fun w _ => laidMetH Tryd.prog laid1 w) false (World.doorLaid Tryd.prog 400 os) #[.agg #[.int .i64 0, .int .i64 0, .int .i64 0, .int .i64 0, .int .i64 0, .int .i64 0, .slice none 0 0, .slice none 0 0], .agg #[.int .i64 0, .int .i64 0, .int .i64 0], .int .i64 0] 8 rfl (World.shaped_of_RefB (by kernel_rfl) (by kernel_rfl)) (by kernel_rfl) (by kernel_rfl) (by kernel_rfl) (door_met os _)) ?_
  intro W base args ds gs before hval0 hW hcnd hsz0 hL _
  have hsz : (DataW.weightsEach Tryd.prog (Tryd.f13.params.toList ++ Rows.scaleMoreSpec.plain.varTypes Tryd.prog) (ds ++ gs)).all (· ≤ reachBytes) = true := hsz0
  have hval : ∀ (j : Nat) t v, Tryd.f13.params[j]? = some t → args[j]? = some v → Value.okWide Tryd.prog W .any base t v := hval0
  have hW' := hW
  obtain ⟨p, q, hA0, hV, rfl, hfz, hnd⟩ := hW
  have hA : DataW.TrodAll enc Tryd.prog W 0 (fun _ => true) true Tryd.f13.params.toList args.toList ds p := hA0
  rw [Tryd.params13] at hA hval hsz
  obtain ⟨v0, vs0, d0, ds0, p0, q0, hargs, rfl, rfl, h0, r0⟩ := trodAll_cons hA
  obtain ⟨v1, vs1, d1, ds1, p1, q1, rfl, rfl, rfl, h1, r1⟩ := trodAll_cons r0
  obtain ⟨v2, vs2, d2, ds2, p2, q2, rfl, rfl, rfl, h2, r2⟩ := trodAll_cons r1
  obtain ⟨rfl, rfl, rfl⟩ := trodAll_nil r2
  obtain rfl : args = #[v0, v1, v2] := by cases args; simp_all
  obtain ⟨rfl, rfl⟩ := trodVars_none hV
  have lt0 : ∀ x ∈ p0, x.block < W.heap.size := by obtain ⟨m, hm⟩ := h0; exact DataW.trod_lt m _ _ _ hm
  have k0 := h0
  obtain ⟨cs0, rfl, hcs0⟩ := agg_of Tryd.underlying44 (hval 0 44 v0 rfl rfl)
  obtain ⟨m0, hm0⟩ := h0
  rw [hcs0] at hm0
  obtain ⟨a_0, b_0, c_0, d_0, e_0, t_0, A6_0, c6_0, l6_0, A7_0, c7_0, l7_0, hB0, hs0⟩ := op44 hm0
  obtain ⟨z6_0, z7_0⟩ := hs0 (weights_at hsz (j := 0) (t := 44) (d := d0) rfl rfl)
  obtain rfl := hB0.cs
  have lt1 : ∀ x ∈ p1, x.block < W.heap.size := by obtain ⟨m, hm⟩ := h1; exact DataW.trod_lt m _ _ _ hm
  have k1 := h1
  obtain ⟨cs1, rfl, hcs1⟩ := agg_of Tryd.underlying71 (hval 1 71 v1 rfl rfl)
  obtain ⟨m1, hm1⟩ := h1
  rw [hcs1] at hm1
  obtain ⟨a_1, b_1, c_1, rfl, wf1⟩ := op71 hm1
  have lt2 : ∀ x ∈ p2, x.block < W.heap.size := by obtain ⟨m, hm⟩ := h2; exact DataW.trod_lt m _ _ _ hm
  have k2 := h2
  obtain ⟨n_2, rfl, rfl, rfl, wf2⟩ := open_int Tryd.underlying3 (hval 2 3 v2 rfl rfl) h2
  obtain ⟨k, hk⟩ := scaleMore_pure a_0 b_0 c_0 d_0 e_0 t_0 l6_0 l7_0 a_1 b_1 c_1 n_2 hB0.wf hB0.w6 hB0.w7 z6_0 z7_0 wf1 wf2
  clear hA0 hval0 hsz0 hsz
  refine (remontoirlaw04_ScaleMore.calls k a_0 b_0 c_0 d_0 e_0 t_0 A6_0 c6_0 l6_0 A7_0 c7_0 l7_0 a_1 b_1 c_1 n_2 true W hB0.r6 hB0.h6 hB0.r7 hB0.h7 (ways_of_laid hL) hk).mono fun e W' ⟨he, bel⟩ => ?_
  subst he
  exact ⟨_, rfl, _, _, _, [], _, [], hW', trodAll_mk1 (shut_bool Tryd.underlying4 _), (trodAll_cons_mk (Below.trod laidOut (by kernel_rfl) (of_decide_eq_true (by kernel_rfl)) k0 bel lt0) (trodAll_cons_mk (Below.trod laidOut (by kernel_rfl) (of_decide_eq_true (by kernel_rfl)) k1 bel lt1) (trodAll_cons_mk (Below.trod laidOut (by kernel_rfl) (of_decide_eq_true (by kernel_rfl)) k2 bel lt2) trodAll_mk0))), rfl, bel.frame _, fun h => by cases h⟩

theorem scaleMore_row : Rows.ScaleMoreSaid :=
  OpenClaim.holds_of_wide 13 Tryd.f13 rfl rfl rfl rfl rfl rfl rfl ⟨rfl, rfl, rfl, rfl, rfl⟩ rfl rfl rfl rfl rfl (by kernel_rfl) Tryd.func13 (by kernel_rfl)
    (of_decide_eq_true (by kernel_rfl)) (by unfold Func.isWrapper; first | (rw [if_pos (by decide +kernel)]; kernel_rfl) | (rw [if_neg (by decide +kernel)]; exact ⟨rfl, rfl⟩))
    (fun os started H enc _ => scaleMore_lifted os started H enc)

/-- THE CARD. -/
theorem scaleMore_holds : Rows.ScaleMoreCardSaid :=
  Claim7.holds_tied_plain_at .later [] [.funcs] true (true, "42c157d2a2e9e6c40d73358f232322a0bd5e742c3af8e9a8c48de9150ba4d318") false
    scaleMore_row (fun _ h => by cases h) (by kernel_rfl) (fun _ h => by cases h) scaleMore_row_tie rfl ⟨rfl, rfl⟩ (by kernel_rfl) rfl
    (fun f fn hf hfn => by
      obtain rfl : f = 13 := Option.some.inj ((show Tryd.prog.funcNamed "remontoir/remontoirlaw04.ScaleMore" = some 13 by kernel_rfl).symm.trans hf) |>.symm
      obtain rfl : fn = Tryd.f13 := (Option.some.inj (Tryd.func13.symm.trans hfn)).symm
      exact ⟨by kernel_rfl, fun j t ht => by
        rw [Tryd.params13] at ht
        have h3 : t ∈ [(44 : TypeId), (71 : TypeId), (3 : TypeId)] := by
          obtain ⟨hj, e⟩ := Array.getElem?_eq_some_iff.1 ht
          rw [← e]
          exact Array.getElem_mem_toList hj
        simp only [List.mem_cons, List.not_mem_nil, or_false] at h3
        rcases h3 with rfl | rfl | rfl
        · exact (show Tryd.prog.wantsStandIn 44 = false by kernel_rfl)
        · exact (show Tryd.prog.wantsStandIn 71 = false by kernel_rfl)
        · exact (show Tryd.prog.wantsStandIn 3 = false by kernel_rfl)⟩)
    (by kernel_rfl)
#print axioms scaleMore_holds
end Go.Proofs.YtidnopmjhhmedaaDoor
end
