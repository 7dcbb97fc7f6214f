/- PROVED: ScaleErrorsCardSaid, for every input, where the listed variable reads as the program's text lays it. Part 5 of 5: of this session; merged by wip/tools/mkClaim.py. -/
import Derived.Test.YtidnopmjhhmedaaDoorMErrd
import Derived.Deep.Cut
import Derived.Test.YtidnopmjhhmedaaDoorMErrb
import Derived.Test.YtidnopmjhhmedaaDoorMErrc
import Derived.Test.YtidnopmjhhmedaaDoorCards
import Derived.Test.YtidnopmjhhmedaaDoorTie
import Derived.WalkKit
import Derived.Below
import Derived.Carry
import Derived.SevenTiedAt
section
/- By how much the scale is off at most: Stated, Worst. -/
set_option linter.unusedSimpArgs false
set_option linter.unusedVariables false
namespace Go.Proofs.YtidnopmjhhmedaaDoor
open Go.RowKit
attribute [local go_sem] Oper.semAt_some

theorem rule_of_check {F S J L H T : Int} {st : List Int} {lk : List Lk} (h : checkB F S J L H T st lk = true) : isRuleB F S J L H = true := by
  simp only [checkB, Bool.and_eq_true] at h
  exact h.1.1.1.1.1
theorem stAt_bd {F S J L H T : Int} {st : List Int} {lk : List Lk} (h : checkB F S J L H T st lk = true) : ∀ k, -500 ≤ stAt st k ∧ stAt st k ≤ 500 := by
  have hr := isRuleB_spec (rule_of_check h)
  simp only [checkB, Bool.and_eq_true, decide_eq_true_eq, lies_iff] at h
  obtain ⟨⟨⟨⟨⟨_, _⟩, _⟩, hkeep⟩, _⟩, _⟩ := h
  intro k
  unfold stAt
  rcases Nat.lt_or_ge k st.length with h1 | h1
  · have := keepsB_mem F S J st 0 hkeep st[k] (List.getElem_mem h1)
    simp only [List.getElem?_eq_getElem h1, Option.getD_some]
    omega
  · rw [List.getElem?_eq_none h1]; simp
theorem solF_bd {F S J L H T : Int} {st : List Int} {lk : List Lk} (h : checkB F S J L H T st lk = true) : Bnd 92000 (solF F S J L H T st lk) := by
  have hr := isRuleB_spec (rule_of_check h)
  have hT := check_ticks h
  have hs := stAt_bd h
  simp only [checkB, Bool.and_eq_true, decide_eq_true_eq, lies_iff] at h
  have hl := h.2
  obtain ⟨t, rfl⟩ : ∃ t : Nat, T = t := ⟨T.toNat, by omega⟩
  rw [solF, Int.toNat_natCast]
  exact (roundF_bnd hs hr.2.2.2 (by omega) t (by omega) (looksF_bnd t lk hl)).mono (by omega)

set_option maxRecDepth 100000 in
set_option maxHeartbeats 2000000 in
theorem Stated_bad (F S J L H T tick : Int) (a : Option Addr) (n c : Nat) (a' : Option Addr) (n' c' : Nat) (st : List Int) (lk : List Lk) (E : Int) (hE : E = askE F S J L H T st lk (lies tick 0 T)) (hE0 : (E == 0) = false) (w : World) (hN : Nums w a n st) (hK : Looks w a' n' lk) :
    Calls Tryd.prog 31 #[.agg #[.int .i64 F, .int .i64 S, .int .i64 J, .int .i64 L, .int .i64 H, .int .i64 T, .slice a n c, .slice a' n' c'], .int .i64 tick] w fun e w' => e = .returned (.tuple #[.int .i64 0, .int .i64 E]) ∧ Below w.heap.size w w' := by
  have her := Error_bad F S J L H T tick a n c a' n' c' st lk E hE hE0 _ (hN.alloc1 (.cells #[.int .i64 F, .int .i64 S, .int .i64 J, .int .i64 L, .int .i64 H, .int .i64 T, .slice a n c, .slice a' n' c'] 44)) (hK.alloc1 _)
  have hE1 : (E != 0) = true := by simpa using hE0
  clear hE hN hK
  go_enter Tryd.func31, Tryd.ntmps31
  go_wp2_with (first | (go_at_call 27; refine her.mono ?_; rintro e w1 ⟨rfl, hb⟩; have hz := hb.size; simp at hz; have hz0 : w.heap.size < w1.heap.size := (by omega)))
  go_ret2
  refine ⟨rfl, ?_⟩
  repeat (refine Below.setCell ?_ (by first | omega | (simp <;> omega)) _)
  exact (((Below.refl _ _).alloc (Nat.le_refl _) _).trans (hb.mono (by simp))).alloc (by omega) _

set_option maxRecDepth 100000 in
set_option maxHeartbeats 2000000 in
theorem Stated_ok (F S J L H T tick : Int) (a : Option Addr) (n c : Nat) (a' : Option Addr) (n' c' : Nat) (st : List Int) (lk : List Lk) (hE : askE F S J L H T st lk (lies tick 0 T) = 0) (w : World) (hN : Nums w a n st) (hK : Looks w a' n' lk) :
    Calls Tryd.prog 31 #[.agg #[.int .i64 F, .int .i64 S, .int .i64 J, .int .i64 L, .int .i64 H, .int .i64 T, .slice a n c, .slice a' n' c'], .int .i64 tick] w fun e w' => e = .returned (.tuple #[.int .i64 (max (-(solF F S J L H T st lk tick.toNat).lo) (solF F S J L H T st lk tick.toNat).hi), .int .i64 0]) ∧ Below w.heap.size w w' := by
  have her := Error_ok F S J L H T tick a n c a' n' c' st lk hE _ (hN.alloc1 (.cells #[.int .i64 F, .int .i64 S, .int .i64 J, .int .i64 L, .int .i64 H, .int .i64 T, .slice a n c, .slice a' n' c'] 44)) (hK.alloc1 _)
  have hbd := solF_bd (askE_ok hE).1 tick.toNat
  generalize (solF F S J L H T st lk tick.toNat).lo = p0 at *
  generalize (solF F S J L H T st lk tick.toNat).hi = p1 at *
  clear hE hN hK
  have hp0 : -1000000 ≤ p0 := by omega
  have hp1 : p0 ≤ 1000000 := by omega
  clear hbd
  go_enter Tryd.func31, Tryd.ntmps31
  go_wp2_with (first | (go_at_call 27; refine her.mono ?_; rintro e w1 ⟨rfl, hb⟩; have hz := hb.size; simp at hz; have hz0 : w.heap.size < w1.heap.size := (by omega)) | (go_at_call 74; refine (stated_any _ _ _ hp0 hp1).mono ?_; rintro e w2 ⟨rfl, hb2⟩))
  go_ret2
  refine ⟨rfl, ?_⟩
  refine below_call ?_ hb2
  repeat (refine Below.setCell ?_ (by first | omega | (simp <;> omega)) _)
  exact (((Below.refl _ _).alloc (Nat.le_refl _) _).trans (hb.mono (by simp))).alloc (by omega) _

def statedS (s : Sp) : Int := max (-s.lo) s.hi
/-- The worst of the first so many ticks, and how bad. -/
def worstTo (f : Nat → Sp) : Nat → Int × Int
  | 0 => (0, 0)
  | k + 1 => if k = 0 ∨ (worstTo f k).2 < statedS (f k) then (k, statedS (f k)) else worstTo f k
theorem worstTo_bd {f : Nat → Sp} {B : Int} (h : Bnd B f) (h0 : 0 ≤ B) : ∀ k, -B ≤ (worstTo f k).2 ∧ (worstTo f k).2 ≤ B
  | 0 => by simp [worstTo]; omega
  | k + 1 => by
    have := worstTo_bd h h0 k
    have h2 := h k
    simp only [worstTo]
    split
    · simp only [statedS]; omega
    · exact this

set_option maxRecDepth 100000 in
set_option maxHeartbeats 2000000 in
theorem Worst_bad (F S J L H T : Int) (a : Option Addr) (n c : Nat) (a' : Option Addr) (n' c' : Nat) (st : List Int) (lk : List Lk) (E : Int) (hE : E = askE F S J L H T st lk true) (hE0 : (E == 0) = false) (w : World) (hN : Nums w a n st) (hK : Looks w a' n' lk) :
    Calls Tryd.prog 33 #[.agg #[.int .i64 F, .int .i64 S, .int .i64 J, .int .i64 L, .int .i64 H, .int .i64 T, .slice a n c, .slice a' n' c']] w fun e w' => e = .returned (.tuple #[.int .i64 0, .int .i64 0, .int .i64 E]) ∧ Below w.heap.size w w' := by
  obtain ⟨G, hG⟩ : ∃ G, G = if E = 0 then solF F S J L H T st lk else zeroF := ⟨_, rfl⟩
  have her := asked_is F S J L H T a n c a' n' c' st lk true E G hE hG _ (hN.alloc1 (.cells #[.int .i64 F, .int .i64 S, .int .i64 J, .int .i64 L, .int .i64 H, .int .i64 T, .slice a n c, .slice a' n' c'] 44)) (hK.alloc1 _)
  have hE1 : (E != 0) = true := by simpa using hE0
  clear hE hG hN hK
  go_enter Tryd.func33, Tryd.ntmps33
  go_wp2_with fail
  refine her.mono ?_
  clear her
  rintro e w2 ⟨rfl, hb⟩
  have hz := hb.size
  simp at hz
  have HNEW := Lib.hid (At.new w2)
  have HB : Shut (Below w.heap.size w ((w2.alloc (.cells Tryd.zeroCells96 96)).setCells w2.heap.size 0 (encL G).toArray.toList)) := ⟨below_setCells _ _ _ ((((Below.refl _ _).alloc (Nat.le_refl _) _).trans (hb.mono (by simp))).alloc (by omega) _) (by omega)⟩
  go_upto_region 2 with ((refine wpList_store_mid rfl 96 (Operand.tmp 5) (Operand.tmp 11) rfl w2.heap.size 0 (encL G).toArray rfl rfl (HNEW.out.there G) (size96a G) (all_oneCell_toArray (encL_one G)) ?_; generalize (w2.alloc (.cells Tryd.zeroCells96 96)).setCells w2.heap.size 0 (encL G).toArray.toList = W6 at *))
  go_wp2_with fail
  go_ret3
  exact ⟨rfl, HB.out⟩

set_option maxRecDepth 100000 in
set_option maxHeartbeats 4000000 in
theorem Worst_ok (F S J L H T : Int) (a : Option Addr) (n c : Nat) (a' : Option Addr) (n' c' : Nat) (st : List Int) (lk : List Lk) (t : Nat) (ht : T = t) (hE : askE F S J L H T st lk true = 0) (w : World) (hN : Nums w a n st) (hK : Looks w a' n' lk) :
    Calls Tryd.prog 33 #[.agg #[.int .i64 F, .int .i64 S, .int .i64 J, .int .i64 L, .int .i64 H, .int .i64 T, .slice a n c, .slice a' n' c']] w fun e w' => e = .returned (.tuple #[.int .i64 (worstTo (solF F S J L H T st lk) (t + 1)).1, .int .i64 (worstTo (solF F S J L H T st lk) (t + 1)).2, .int .i64 0]) ∧ Below w.heap.size w w' := by
  have hT := check_ticks (askE_ok hE).1
  have hbd := solF_bd (askE_ok hE).1
  obtain ⟨G, hG⟩ : ∃ G, G = solF F S J L H T st lk := ⟨_, rfl⟩
  have her := asked_is F S J L H T a n c a' n' c' st lk true 0 G hE.symm (by rw [hG]; rfl) _ (hN.alloc1 (.cells #[.int .i64 F, .int .i64 S, .int .i64 J, .int .i64 L, .int .i64 H, .int .i64 T, .slice a n c, .slice a' n' c'] 44)) (hK.alloc1 _)
  rw [← hG] at hbd ⊢
  subst ht
  have HWB := Lib.hid (worstTo_bd hbd (by omega))
  have HBD := Lib.hid hbd
  clear hE hG hN hK hbd
  go_enter Tryd.func33, Tryd.ntmps33
  go_wp2_with fail
  refine her.mono ?_
  clear her
  rintro e w2 ⟨rfl, hb⟩
  have hz := hb.size
  simp at hz
  have HNEW := Lib.hid (At.new w2)
  have hB0 : Below w.heap.size w ((w2.alloc (.cells Tryd.zeroCells96 96)).setCells w2.heap.size 0 (encL G).toArray.toList) := below_setCells _ _ _ ((((Below.refl _ _).alloc (Nat.le_refl _) _).trans (hb.mono (by simp))).alloc (by omega) _) (by omega)
  have HB := Shut.mk hB0
  have HA : Shut (At ((w2.alloc (.cells Tryd.zeroCells96 96)).setCells w2.heap.size 0 (encL G).toArray.toList) w2.heap.size G) := ⟨(At.new w2).store G⟩
  have HT : Shut (((w2.alloc (.cells Tryd.zeroCells96 96)).setCells w2.heap.size 0 (encL G).toArray.toList).cell? ⟨w.heap.size, 5, none⟩ = some (.int .i64 t)) := by
    refine ⟨?_⟩
    have h1 := (bcellN (below_setCells (encL G) 0 (w2.alloc (.cells Tryd.zeroCells96 96)) (Below.refl w2.heap.size _) (Nat.le_refl _))).1 w.heap.size 5 (by omega)
    simp only [List.toList_toArray] at h1 ⊢
    rw [h1]
    exact cell_below ((Below.refl _ _).alloc (Nat.le_refl _) _) (cell_below hb (by simp [go_sem]))
  clear hB0
  go_upto_region 2 with ((refine wpList_store_mid rfl 96 (Operand.tmp 5) (Operand.tmp 11) rfl w2.heap.size 0 (encL G).toArray rfl rfl (HNEW.out.there G) (size96a G) (all_oneCell_toArray (encL_one G)) ?_; generalize (w2.alloc (.cells Tryd.zeroCells96 96)).setCells w2.heap.size 0 (encL G).toArray.toList = W6 at *))
  have hct := HT.out
  go_wp2_with fail
  go_loopw [2, 3, 6, 7, 19] (fun p q _ _ i wx => ∃ k : Nat, k ≤ t + 1 ∧ i = .int .i64 k ∧ p = .int .i64 (worstTo G k).1 ∧ q = .int .i64 (worstTo G k).2 ∧ At wx w2.heap.size G ∧ Below w.heap.size w wx) (fun _ _ _ _ i _ => t + 1 - (intOf i).toNat)
  case atStart => exact ⟨0, Nat.zero_le _, rfl, rfl, rfl, HA.out, HB.out⟩
  case round =>
    obtain ⟨k, hk, rfl, rfl, rfl, hat, hbx⟩ := hrel
    by_cases hlt : k < t + 1
    · have hc1 := hat.lo k (by omega)
      have hc2 := hat.hi k (by omega)
      have hbk := HBD.out k
      have hwk := HWB.out k
      have HS : Hid (worstTo G (k + 1) = if k = 0 ∨ (worstTo G k).2 < statedS (G k) then ((k : Int), statedS (G k)) else worstTo G k) := Lib.hid rfl
      have hsk : statedS (G k) = max (-(G k).lo) (G k).hi := rfl
      obtain ⟨r1, hr1⟩ : ∃ r1, r1 = worstTo G (k + 1) := ⟨_, rfl⟩
      rw [← hr1] at HS
      have HR1 := Lib.hid hr1
      clear hr1
      generalize hr0 : worstTo G k = r0 at *
      obtain ⟨x0, q0⟩ := r0
      generalize (G k).lo = p0 at *
      generalize (G k).hi = p1 at *
      generalize statedS (G k) = s0 at *
      have HSK := Lib.hid hsk
      have hz6 := hat.lt
      have HAT := Lib.hid hat
      have HBX := Lib.hid hbx
      have hi0 : (0 : Int) ≤ (k : Int) := by omega
      have hi1 : (k : Int) < 61 := by omega
      have hp0 : -1000000 ≤ p0 := by omega
      have hp1 : p0 ≤ 1000000 := by omega
      simp only at hwk
      clear hat hbx hsk hbk hr0
      by_cases hc : k = 0 ∨ q0 < s0
      · have HS2 : Hid (r1 = ((k : Int), s0)) := Lib.hid (by rw [HS.out]; simp only [hc, if_true])
        have HC : Hid (k = 0 ∨ q0 < s0) := hc
        rw [HSK.out] at hc
        by_cases h0 : k = 0
        · have hb0 : ((k : Int) == 0) = true := by simp [h0]
          have H0 := Lib.hid h0
          clear hc h0
          go_wp2_with (first | (go_at_call 74; refine (stated_any _ _ _ hp0 hp1).mono ?_; rintro e w3 ⟨rfl, hb3⟩))
          go_roundw
          case rel => exact ⟨k + 1, by omega, by go_num, by rw [← HR1.out, HS2.out], by rw [← HR1.out, HS2.out, HSK.out], HAT.out.below hb3, below_call HBX.out hb3⟩
          case measure => simp [intOf]; omega
        · have hb0 : ((k : Int) == 0) = false := by simp [h0]
          have hgt : q0 < max (-p0) p1 := hc.resolve_left h0
          clear hc h0
          go_wp2_with (first | (go_at_call 74; refine (stated_any _ _ _ hp0 hp1).mono ?_; rintro e w3 ⟨rfl, hb3⟩))
          go_roundw
          case rel => exact ⟨k + 1, by omega, by go_num, by rw [← HR1.out, HS2.out], by rw [← HR1.out, HS2.out, HSK.out], HAT.out.below hb3, below_call HBX.out hb3⟩
          case measure => simp [intOf]; omega
      · have HS2 : Hid (r1 = (x0, q0)) := Lib.hid (by rw [HS.out]; simp only [hc, if_false])
        rw [HSK.out] at hc
        have hb0 : ((k : Int) == 0) = false := by simp; omega
        have hgt : ¬ q0 < max (-p0) p1 := fun h => hc (.inr h)
        clear hc
        go_wp2_with (first | (go_at_call 74; refine (stated_any _ _ _ hp0 hp1).mono ?_; rintro e w3 ⟨rfl, hb3⟩))
        go_roundw
        case rel => exact ⟨k + 1, by omega, by go_num, by rw [← HR1.out, HS2.out], by rw [← HR1.out, HS2.out], HAT.out.below hb3, below_call HBX.out hb3⟩
        case measure => simp [intOf]; omega
    · obtain rfl : k = t + 1 := by omega
      have hlt' : ¬ (((t + 1 : Nat) : Int) < (t : Int) + 1) := by omega
      have HBX := Lib.hid hbx
      clear hat hbx
      go_wp2_with fail
      go_ret3
      exact ⟨rfl, HBX.out⟩

end Go.Proofs.YtidnopmjhhmedaaDoor
end

section
/- When the scale meets true time again: Meets. -/
set_option linter.unusedSimpArgs false
set_option linter.unusedVariables false
namespace Go.Proofs.YtidnopmjhhmedaaDoor
open Go.RowKit
attribute [local go_sem] Oper.semAt_some

set_option maxRecDepth 100000 in
set_option maxHeartbeats 2000000 in
theorem Meets_bad (F S J L H T : Int) (a : Option Addr) (n c : Nat) (a' : Option Addr) (n' c' : Nat) (st : List Int) (lk : List Lk) (E : Int) (hE : E = askE F S J L H T st lk true) (hE0 : (E == 0) = false) (w : World) (hN : Nums w a n st) (hK : Looks w a' n' lk) :
    Calls Tryd.prog 35 #[.agg #[.int .i64 F, .int .i64 S, .int .i64 J, .int .i64 L, .int .i64 H, .int .i64 T, .slice a n c, .slice a' n' c']] w fun e w' => e = .returned (.tuple #[.int .i64 0, .int .i64 0, .int .i64 E]) ∧ Below w.heap.size w w' := by
  obtain ⟨G, hG⟩ : ∃ G, G = if E = 0 then solF F S J L H T st lk else zeroF := ⟨_, rfl⟩
  have her := asked_is F S J L H T a n c a' n' c' st lk true E G hE hG _ (hN.alloc1 (.cells #[.int .i64 F, .int .i64 S, .int .i64 J, .int .i64 L, .int .i64 H, .int .i64 T, .slice a n c, .slice a' n' c'] 44)) (hK.alloc1 _)
  have hE1 : (E != 0) = true := by simpa using hE0
  clear hE hG hN hK
  go_enter Tryd.func35, Tryd.ntmps35
  go_wp2_with fail
  refine her.mono ?_
  clear her
  rintro e w2 ⟨rfl, hb⟩
  have hz := hb.size
  simp at hz
  have HNEW := Lib.hid (At.new w2)
  have HB : Shut (Below w.heap.size w ((w2.alloc (.cells Tryd.zeroCells96 96)).setCells w2.heap.size 0 (encL G).toArray.toList)) := ⟨below_setCells _ _ _ ((((Below.refl _ _).alloc (Nat.le_refl _) _).trans (hb.mono (by simp))).alloc (by omega) _) (by omega)⟩
  go_upto_region 2 with ((refine wpList_store_mid rfl 96 (Operand.tmp 5) (Operand.tmp 13) rfl w2.heap.size 0 (encL G).toArray rfl rfl (HNEW.out.there G) (size96a G) (all_oneCell_toArray (encL_one G)) ?_; generalize (w2.alloc (.cells Tryd.zeroCells96 96)).setCells w2.heap.size 0 (encL G).toArray.toList = W6 at *))
  go_wp2_with fail
  go_ret3
  exact ⟨rfl, HB.out⟩

/-- All lies within what an offset can be. -/
def Nar (f : Nat → Sp) : Prop := ∀ k, -20000 ≤ (f k).lo ∧ (f k).hi ≤ 20000
theorem Nar.put {f : Nat → Sp} (h : Nar f) (k : Nat) (s : Sp) : Nar (putS f k (bothS (f k) s)) := by
  intro j
  have hk := h k
  unfold putS
  split
  · simp only [bothS]; omega
  · exact h j
theorem wide_nar : Nar wideF := fun k => by simp [wideF]
theorem looks_nar (lk : List Lk) : ∀ f, Nar f → Nar (lk.foldl lookS f) := by
  induction lk with
  | nil => intro f h; exact h
  | cons l lk ih => intro f h; exact ih _ (h.put _ _)
theorem fwdTo_nar (st : List Int) (L H : Int) {f : Nat → Sp} (h : Nar f) : ∀ j, Nar (fwdTo st L H f j)
  | 0 => h
  | j + 1 => (fwdTo_nar st L H h j).put _ _
theorem bwdTo_nar (st : List Int) (L H : Int) (t : Nat) {f : Nat → Sp} (h : Nar f) : ∀ j, Nar (bwdTo st L H t f j)
  | 0 => h
  | j + 1 => (bwdTo_nar st L H t h j).put _ _
theorem solF_nar (F S J L H T : Int) (st : List Int) (lk : List Lk) : Nar (solF F S J L H T st lk) := bwdTo_nar _ _ _ _ (fwdTo_nar _ _ _ (looks_nar lk _ wide_nar) _) _
theorem solF_in {F S J L H T : Int} {st : List Int} {lk : List Lk} {ok : Bool} (hE : askE F S J L H T st lk ok = 0) (k : Nat) (hk : (k : Int) ≤ T) :
    -20000 ≤ (solF F S J L H T st lk k).lo ∧ (solF F S J L H T st lk k).lo ≤ (solF F S J L H T st lk k).hi ∧ (solF F S J L H T st lk k).hi ≤ 20000 := by
  have h1 := solF_nar F S J L H T st lk k
  have h2 := (askE_ok hE).2.2
  rw [okF, List.all_eq_true] at h2
  have h3 := h2 k (by simp; omega)
  simp only [decide_eq_true_eq] at h3
  exact ⟨h1.1, h3, h1.2⟩

theorem meets_held {F S J L H : Int} {b P : Nat} {p0 p1 : Int} {w W W1 : World} (hx : RuleAt W P F S J L H b ∧ (W.cell? ⟨P + 1, 0, none⟩ = some (.int .i64 p0) ∧ W.cell? ⟨P + 1, 1, none⟩ = some (.int .i64 p1)) ∧ MW F S J b w W) (hb0 : b ≠ 0) (hP : P ≠ b) (hQ : P + 1 ≠ b) (hp : MemoPost F S J b W W1) :
    RuleAt W1 P F S J L H b ∧ (W1.cell? ⟨P + 1, 0, none⟩ = some (.int .i64 p0) ∧ W1.cell? ⟨P + 1, 1, none⟩ = some (.int .i64 p1)) ∧ MW F S J b w W1 :=
  ⟨RuleAt.next hx.1 hp hP, ⟨cell_grown hp.1 (p := ⟨P + 1, 0, none⟩) hQ hx.2.1.1, cell_grown hp.1 (p := ⟨P + 1, 1, none⟩) hQ hx.2.1.2⟩, MW.next hx.2.2 hb0 hp⟩
theorem RuleAt.below {W W1 : World} {B b : Nat} {F S J L H : Int} (h : RuleAt W B F S J L H b) (hb : Below W.heap.size W W1) : RuleAt W1 B F S J L H b :=
  ⟨cell_below hb h.1, cell_below hb h.2.1, cell_below hb h.2.2.1, cell_below hb h.2.2.2.1, cell_below hb h.2.2.2.2.1, cell_below hb h.2.2.2.2.2⟩
theorem meets_alloc {F S J L H : Int} {b P : Nat} {p0 p1 : Int} {w W : World} {o : Obj} (hx : RuleAt W P F S J L H b ∧ (W.cell? ⟨P + 1, 0, none⟩ = some (.int .i64 p0) ∧ W.cell? ⟨P + 1, 1, none⟩ = some (.int .i64 p1)) ∧ MW F S J b w W) :
    RuleAt (W.alloc o) P F S J L H b ∧ ((W.alloc o).cell? ⟨P + 1, 0, none⟩ = some (.int .i64 p0) ∧ (W.alloc o).cell? ⟨P + 1, 1, none⟩ = some (.int .i64 p1)) ∧ MW F S J b w (W.alloc o) :=
  have hb : Below W.heap.size W (W.alloc o) := (Below.refl _ _).alloc (Nat.le_refl _) _
  ⟨hx.1.below hb, ⟨cell_below hb hx.2.1.1, cell_below hb hx.2.1.2⟩, hx.2.2.below hb⟩

set_option maxRecDepth 100000 in
set_option maxHeartbeats 4000000 in
theorem Meets_ok (F S J L H T : Int) (a : Option Addr) (n c : Nat) (a' : Option Addr) (n' c' : Nat) (st : List Int) (lk : List Lk) (t : Nat) (ht : T = t) (hE : askE F S J L H T st lk true = 0) (w : World) (hw : Ways w) (hN : Nums w a n st) (hK : Looks w a' n' lk) (f0 f1 : Int)
    (hf0 : f0 = fewest F S J (solF F S J L H T st lk t).lo) (hf1 : f1 = fewest F S J (solF F S J L H T st lk t).hi) (v : Value)
    (hv : v = if f0 = -1 ∨ f1 = -1 then .tuple #[.int .i64 0, .int .i64 0, .int .i64 4] else .tuple #[.int .i64 (max f0 f1), .int .i64 (if (solF F S J L H T st lk t).lo ≤ 0 ∧ 0 ≤ (solF F S J L H T st lk t).hi then 0 else min f0 f1), .int .i64 0]) :
    Calls Tryd.prog 35 #[.agg #[.int .i64 F, .int .i64 S, .int .i64 J, .int .i64 L, .int .i64 H, .int .i64 T, .slice a n c, .slice a' n' c']] w fun e w' => e = .returned v ∧ Below w.heap.size w w' := by
  have hT := check_ticks (askE_ok hE).1
  have hrule := rule_of_check (askE_ok hE).1
  have hin := solF_in hE t (by omega)
  obtain ⟨G, hG⟩ : ∃ G, G = solF F S J L H T st lk := ⟨_, rfl⟩
  have her := asked_is F S J L H T a n c a' n' c' st lk true 0 G hE.symm (by rw [hG]; rfl) _ (hN.alloc1 (.cells #[.int .i64 F, .int .i64 S, .int .i64 J, .int .i64 L, .int .i64 H, .int .i64 T, .slice a n c, .slice a' n' c'] 44)) (hK.alloc1 _)
  rw [← hG] at hin hf0 hf1 hv
  subst ht
  obtain ⟨p0, hp0⟩ : ∃ p0, p0 = (G t).lo := ⟨_, rfl⟩
  obtain ⟨p1, hp1⟩ : ∃ p1, p1 = (G t).hi := ⟨_, rfl⟩
  rw [← hp0, ← hp1] at hin hv
  rw [← hp0] at hf0
  rw [← hp1] at hf1
  have HP0 := Lib.hid hp0
  have HP1 := Lib.hid hp1
  have HF0 := Lib.hid hf0
  have HF1 := Lib.hid hf1
  have HV := Lib.hid hv
  have HR := Lib.hid hrule
  have hw0 : 0 < w.heap.size := World.block_lt_of_cell? w _ hw.1
  have HW := Lib.hid hw
  clear hE hG hN hK hp0 hp1 hf0 hf1 hv hrule hw
  go_enter Tryd.func35, Tryd.ntmps35
  go_wp2_with fail
  refine her.mono ?_
  clear her
  rintro e w2 ⟨rfl, hb⟩
  have hz := hb.size
  simp at hz
  have HNEW := Lib.hid (At.new w2)
  have hB0 : Below w.heap.size w ((w2.alloc (.cells Tryd.zeroCells96 96)).setCells w2.heap.size 0 (encL G).toArray.toList) := below_setCells _ _ _ ((((Below.refl _ _).alloc (Nat.le_refl _) _).trans (hb.mono (by simp))).alloc (by omega) _) (by omega)
  have HB := Shut.mk hB0
  have HA : Shut (At ((w2.alloc (.cells Tryd.zeroCells96 96)).setCells w2.heap.size 0 (encL G).toArray.toList) w2.heap.size G) := ⟨(At.new w2).store G⟩
  have HBK : Shut (BookAt ((w2.alloc (.cells Tryd.zeroCells96 96)).setCells w2.heap.size 0 (encL G).toArray.toList) w.heap.size F S J L H t a n c a' n' c') := by
    have h1 := (bcellN (below_setCells (encL G) 0 (w2.alloc (.cells Tryd.zeroCells96 96)) (Below.refl w2.heap.size _) (Nat.le_refl _))).1 w.heap.size
    have h2 := ((BookAt.new w F S J L H t a n c a' n' c').below hb).below ((Below.refl _ _).alloc (Nat.le_refl _) (.cells Tryd.zeroCells96 96))
    obtain ⟨q0, q1, q2, q3, q4, q5, q6, q7⟩ := h2
    simp only [List.toList_toArray] at h1 ⊢
    exact ⟨⟨(h1 0 (by omega)).trans q0, (h1 1 (by omega)).trans q1, (h1 2 (by omega)).trans q2, (h1 3 (by omega)).trans q3, (h1 4 (by omega)).trans q4, (h1 5 (by omega)).trans q5, (h1 6 (by omega)).trans q6, (h1 7 (by omega)).trans q7⟩⟩
  clear hB0
  go_upto_region 2 with ((refine wpList_store_mid rfl 96 (Operand.tmp 5) (Operand.tmp 13) rfl w2.heap.size 0 (encL G).toArray rfl rfl (HNEW.out.there G) (size96a G) (all_oneCell_toArray (encL_one G)) ?_; generalize (w2.alloc (.cells Tryd.zeroCells96 96)).setCells w2.heap.size 0 (encL G).toArray.toList = W6 at *))
  obtain ⟨hk0, hk1, hk2, hk3, hk4, hk5, hk6, hk7⟩ := HBK.out
  go_wp2_with fail
  refine (opened_ok F S J L H W6 HR.out).mono ?_
  rintro e w3 ⟨b, rfl, hb3, hnb, hnew⟩
  have hbk3 := HBK.out.below hb3
  obtain ⟨hc0, hc1, hc2, hc3, hc4, hc5, hc6, hc7⟩ := hbk3
  have hat3 := HA.out.below hb3
  have hcl := hat3.lo t (by omega)
  have hch := hat3.hi t (by omega)
  rw [← HP0.out] at hcl
  rw [← HP1.out] at hch
  have hz3 := hb3.size
  have hz6 := HA.out.lt
  have hbw := HB.out.size
  have hlt3 := (Array.getElem?_eq_some_iff.1 hnew).1
  have HB3 := Lib.hid (below_call HB.out hb3)
  have HN := Lib.hid hnew
  have hi0 : (0 : Int) ≤ (t : Int) := by omega
  have hi1 : (t : Int) < 61 := by omega
  have hy1 : w.heap.size < w3.heap.size := by omega
  have hy2 : w2.heap.size < w3.heap.size := by omega
  clear hk0 hk1 hk2 hk3 hk4 hk5 hk6 hk7 hat3 hnew
  go_wp2_with fail
  have hMW0 : MW F S J b w (((w3.alloc (.cells #[.int .i64 F, .int .i64 S, .int .i64 J, .int .i64 L, .int .i64 H, .map (some b)] 80)).alloc (.cells #[.int .i64 p0, .int .i64 p1] 23)).drew) := by
    refine mw_new HW.out ?_ ?_
    · exact ((HB3.out.alloc (by omega) _).alloc (by simp <;> omega) _).drew
    · rw [heap_drew, Below.heap_alloc _ _ _ (by simp <;> omega), Below.heap_alloc _ _ _ (by omega)]
      exact HN.out
  have hb0 : b ≠ 0 := by omega
  have hPb : w3.heap.size ≠ b := by omega
  have hQb : w3.heap.size + 1 ≠ b := by omega
  go_region_held3 (fun W1 : World => (W1.cell? ⟨w3.heap.size, 0, none⟩ = some (.int .i64 F) ∧ W1.cell? ⟨w3.heap.size, 1, none⟩ = some (.int .i64 S) ∧ W1.cell? ⟨w3.heap.size, 2, none⟩ = some (.int .i64 J) ∧ W1.cell? ⟨w3.heap.size, 3, none⟩ = some (.int .i64 L) ∧ W1.cell? ⟨w3.heap.size, 4, none⟩ = some (.int .i64 H) ∧ W1.cell? ⟨w3.heap.size, 5, none⟩ = some (.map (some b))) ∧ (W1.cell? ⟨w3.heap.size + 1, 0, none⟩ = some (.int .i64 p0) ∧ W1.cell? ⟨w3.heap.size + 1, 1, none⟩ = some (.int .i64 p1)) ∧ MW F S J b w W1)
    (first | with_reducible exact meets_held hx hb0 hPb hQb hp | with_reducible exact meets_alloc (by assumption) | exact meets_alloc ⟨⟨by assumption, by assumption, by assumption, by assumption, by assumption, by assumption⟩, ⟨by assumption, by assumption⟩, by assumption⟩ | ((repeat' apply And.intro) <;> (first | with_reducible exact hMW0 | (simp [go_sem, *]; done))))
    (first | (go_at_call 62; rename_i hx _ _; refine (fewest_any F S J L H b _ (by omega) HR.out _ hx.2.2.ways hx.2.2.memo hb0).mono ?_; rintro e w4 ⟨rfl, hp⟩))
  rename_i hh
  have hf0 := HF0.out
  have hf1 := HF1.out
  generalize fewest F S J p0 = g0 at *
  generalize fewest F S J p1 = g1 at *
  subst hf0
  subst hf1
  clear HF0 HF1
  obtain ⟨_, ⟨hq0, hq1⟩, hm⟩ := hh
  have hNu : Nums (w4.alloc (.cells #[.int .i64 f0, .int .i64 f1] 3)) (some ⟨w4.heap.size, 0, none⟩) 2 [f0, f1] :=
    ⟨rfl, by omega, fun _ => ⟨_, 0, rfl, fun j hj => by
      rcases j with _ | _ | j
      · simp [go_sem]
      · simp [go_sem]
      · omega⟩⟩
  have HBF := Lib.hid (below_of_grown hm.gr (n := w.heap.size) (by omega) (Nat.le_refl _))
  generalize w4.alloc (.cells #[.int .i64 f0, .int .i64 f1] 3) = W8 at *
  have hct := contains_any _ 2 2 [f0, f1] (-1) W8 hNu
  have hmx := max_any _ 2 2 [f0, f1] W8 hNu (by omega)
  have hmn := min_any _ 2 2 [f0, f1] W8 hNu (by omega)
  clear hNu hm
  rw [show maxOf [f0, f1] = max f0 f1 from rfl] at hmx
  rw [show minOf [f0, f1] = min f0 f1 from rfl] at hmn
  by_cases hno : f0 = -1 ∨ f1 = -1
  · have hv : v = .tuple #[.int .i64 0, .int .i64 0, .int .i64 4] := by rw [HV.out, if_pos hno]
    have hmem : decide ((-1 : Int) ∈ [f0, f1]) = true := by simp only [List.mem_cons, List.not_mem_nil, or_false, decide_eq_true_eq]; omega
    rw [hmem] at hct
    clear hmem hno HV
    subst hv
    go_wp2_with (first | (go_at_call 75; refine hct.mono ?_; rintro e w' ⟨rfl, rfl⟩))
    go_ret3
    exact ⟨rfl, HBF.out⟩
  · have hmem : decide ((-1 : Int) ∈ [f0, f1]) = false := by simp only [List.mem_cons, List.not_mem_nil, or_false, decide_eq_false_iff_not]; omega
    rw [hmem] at hct
    have hv0 := HV.out
    rw [if_neg hno] at hv0
    clear hmem hno HV
    by_cases hz0 : p0 ≤ 0 ∧ 0 ≤ p1
    · have hv : v = .tuple #[.int .i64 (max f0 f1), .int .i64 0, .int .i64 0] := by rw [hv0, if_pos hz0]
      have hl := lies_is (n := 0) (a := p0) (b := p1) (v := true) (lies_iff.2 hz0)
      clear hv0 hz0
      subst hv
      go_wp2_with (first | (go_at_call 75; refine hct.mono ?_; rintro e w' ⟨rfl, rfl⟩) | (go_at_call 76; refine hmx.mono ?_; rintro e w' ⟨rfl, rfl⟩) | (go_at_call 77; refine hmn.mono ?_; rintro e w' ⟨rfl, rfl⟩) | (go_at_call 57; refine (hl _).mono ?_; rintro e w' ⟨rfl, rfl⟩))
      go_ret3
      exact ⟨rfl, HBF.out⟩
    · have hv : v = .tuple #[.int .i64 (max f0 f1), .int .i64 (min f0 f1), .int .i64 0] := by rw [hv0, if_neg hz0]
      have hl := lies_is (n := 0) (a := p0) (b := p1) (v := false) (by rw [← Bool.not_eq_true, lies_iff]; exact hz0)
      clear hv0 hz0
      subst hv
      go_wp2_with (first | (go_at_call 75; refine hct.mono ?_; rintro e w' ⟨rfl, rfl⟩) | (go_at_call 76; refine hmx.mono ?_; rintro e w' ⟨rfl, rfl⟩) | (go_at_call 77; refine hmn.mono ?_; rintro e w' ⟨rfl, rfl⟩) | (go_at_call 57; refine (hl _).mono ?_; rintro e w' ⟨rfl, rfl⟩))
      go_ret3
      exact ⟨rfl, HBF.out⟩

end Go.Proofs.YtidnopmjhhmedaaDoor
end

section
/- The contracts of scale's functions, in the form that the printed texts take. Written by wip/tools/mkXI.py. -/
set_option linter.unusedSimpArgs false
set_option linter.unusedVariables false
namespace Go.Proofs.TrydX.X
open Go.RowKit Go.Proofs.YtidnopmjhhmedaaDoorW.PrintWords Go.Proofs.YtidnopmjhhmedaaDoorW.PrintLast
open Go.Proofs.YtidnopmjhhmedaaDoor (isRuleB lies isPlanB fewest planOf caps capSum keepsB shownL checkB Lk Nums askE solF worstTo lies_iff)

/-- A look, as the hand's texts have it. -/
def toLk (x : S71) : Lk := ⟨x.f0, x.f1.f0, x.f1.f1⟩
theorem nums_of_C {w : World} {A : Option Addr} {l : List Int} (h : Kd.C (Kd.int .i64) w A l.length l) (hb : l.length ≤ 17592186044416) : Nums w A l.length l := by
  have h2 := Kd.reads_of_C (enc := Value.int .i64) (d := (0 : Int)) (h1 := fun _ => rfl) h
  refine ⟨rfl, hb, fun hn => ?_⟩
  obtain ⟨ad, e, hc⟩ := h2.2.2 hn
  obtain ⟨b, off, sp⟩ := ad
  have h0 := hc 0 hn
  have hs : sp = none := by
    rw [show Addr.add ⟨b, off, sp⟩ 0 = ⟨b, off, sp⟩ from rfl] at h0
    unfold World.cell? at h0
    split at h0
    · cases sp with
      | none => rfl
      | some x => simp at h0
    · cases h0
  subst hs
  refine ⟨b, off, e, fun j hj => ?_⟩
  have := hc j hj
  rwa [Addr.add_mid] at this
theorem looks_of_C {w : World} {A : Option Addr} {l : List S71} (h : Kd.C k71 w A l.length l) (hb : l.length ≤ 17592186044416) : YtidnopmjhhmedaaDoor.Looks w A l.length (l.map toLk) := by
  refine ⟨by simp, hb, fun hn => ?_⟩
  have h2 := h.2.2 hn
  obtain ⟨ad, e, _⟩ := h2
  obtain ⟨b, off, sp⟩ := ad
  have get : ∀ j, j < l.length → w.cell? ((⟨b, off, sp⟩ : Addr).add (j * 3)) = some (.int .i64 (rd_T71 l j).f0) ∧ w.cell? ⟨b, off + j * 3 + 1, none⟩ = some (.int .i64 (rd_T71 l j).f1.f0) ∧ w.cell? ⟨b, off + j * 3 + 2, none⟩ = some (.int .i64 (rd_T71 l j).f1.f1) := by
    intro j hj
    obtain ⟨ad2, e2, h1, h2, h3⟩ := at_T71 h j (by omega) (by omega)
    rw [e] at e2
    injection e2 with e2
    subst e2
    rw [Int.toNat_natCast] at h1 h2 h3
    have hadd : ((⟨b, off, sp⟩ : Addr).add (j * 3)).off = off + j * 3 ∧ ((⟨b, off, sp⟩ : Addr).add (j * 3)).block = b := by
      unfold Addr.add
      split <;> simp_all
    rw [hadd.1, hadd.2] at h2 h3
    exact ⟨h1, h2, h3⟩
  have h0 := (get 0 hn).1
  have hs : sp = none := by
    rw [show Addr.add ⟨b, off, sp⟩ (0 * 3) = ⟨b, off, sp⟩ from rfl] at h0
    unfold World.cell? at h0
    split at h0
    · cases sp with
      | none => rfl
      | some x => simp at h0
    · cases h0
  subst hs
  refine ⟨b, off, e, fun j hj => ?_⟩
  obtain ⟨h1, h2, h3⟩ := get j hj
  rw [Addr.add_mid] at h1
  have hl : (l.map toLk).getD j Lk.zero = toLk (rd_T71 l j) := by
    simp [rd_T71, List.getD_eq_getElem?_getD, hj]
  rw [hl]
  exact ⟨h1, h2, h3⟩
/-- A list that is handed back is read where it is new. -/
theorem V_of_nums {w w' : World} {a : Option Addr} {cap : Nat} {l : List Int} (hN : Nums w' a l.length l) (hc : l.length ≤ cap) (hb : ∀ g o, a = some ⟨g, o, none⟩ → 0 < l.length → w.heap.size ≤ g) : Kd.V (Kd.int .i64) 3 w' w.heap.size (fun k_ => w.heap.size ≤ k_) (.slice a l.length cap) l := by
  refine Kd.V_mk hc ?_
  intro W' hW
  refine Kd.C_of_reads (d := (0 : Int)) (h1 := fun _ => rfl) ⟨rfl, by have := hN.2.1; omega, fun hn => ?_⟩
  obtain ⟨b, off, e, hcell⟩ := hN.2.2 hn
  refine ⟨⟨b, off, none⟩, e, fun j hj => ?_⟩
  rw [Addr.add_mid]
  have h1 := hcell j hj
  have hlt := World.block_lt_of_cell? w' _ h1
  exact (World.cell?_of_block (w := w') (hW b (hb b off e hn) hlt)).trans h1

def scale_IsPlan.f (a0_0 : Int) (a0_1 : Int) (a0_2 : Int) (a0_3 : Int) (a0_4 : Int) (a1 : Int) (l2 : List Int) : Option (Bool × Int) := if l2.length ≤ 17592186044416 then (if isRuleB a0_0 a0_1 a0_2 a0_3 a0_4 = true then (if lies a1 (-20000) 20000 = true then some (isPlanB a0_0 a0_1 a0_2 a1 l2.length l2, 0) else some (false, 41)) else some (false, 40)) else none
set_option maxHeartbeats 1000000 in
theorem scale_IsPlan.calls (a0_0 : Int) (a0_1 : Int) (a0_2 : Int) (a0_3 : Int) (a0_4 : Int) (a1 : Int) (A2 : Option Addr) (c2 : Nat) (l2 : List Int) (r1 : Bool) (r2 : Int) (w : World) (hr2 : Kd.C (Kd.int .i64) w A2 l2.length l2) (hc2 : l2.length ≤ c2) (hWays : Go.Proofs.YtidnopmjhhmedaaDoor.Ways w) (h : scale_IsPlan.f a0_0 a0_1 a0_2 a0_3 a0_4 a1 l2 = some (r1, r2)) :
    Calls Tryd.prog 16 #[.agg #[.int .i64 a0_0, .int .i64 a0_1, .int .i64 a0_2, .int .i64 a0_3, .int .i64 a0_4], .int .i64 a1, .slice A2 l2.length c2] w fun e w' => e = .returned (.tuple #[.bool r1, .int .i64 r2]) ∧ Below w.heap.size w w' := by
  unfold scale_IsPlan.f at h
  split at h
  · rename_i hb
    have hN := nums_of_C hr2 hb
    split at h
    · split at h
      · simp only [Option.some.injEq, Prod.mk.injEq] at h
        obtain ⟨rfl, rfl⟩ := h
        exact YtidnopmjhhmedaaDoor.IsPlan_ok _ _ _ _ _ _ _ _ _ _ ‹_› ‹_› w hWays hN
      · simp only [Option.some.injEq, Prod.mk.injEq] at h
        obtain ⟨rfl, rfl⟩ := h
        exact YtidnopmjhhmedaaDoor.IsPlan_ask _ _ _ _ _ _ _ _ _ ‹_› (by simpa using ‹¬ lies _ _ _ = true›) w
    · simp only [Option.some.injEq, Prod.mk.injEq] at h
      obtain ⟨rfl, rfl⟩ := h
      exact YtidnopmjhhmedaaDoor.IsPlan_bad _ _ _ _ _ _ _ _ _ (by simpa using ‹¬ isRuleB _ _ _ _ _ = true›) w
  · cases h

def scale_Fewest.f (a0_0 : Int) (a0_1 : Int) (a0_2 : Int) (a0_3 : Int) (a0_4 : Int) (a1 : Int) : Option (Int × Int) := if isRuleB a0_0 a0_1 a0_2 a0_3 a0_4 = true then (if lies a1 (-20000) 20000 = true then some (if fewest a0_0 a0_1 a0_2 a1 < 0 then 0 else fewest a0_0 a0_1 a0_2 a1, if fewest a0_0 a0_1 a0_2 a1 < 0 then 4 else 0) else some (0, 41)) else some (0, 40)
set_option maxHeartbeats 1000000 in
theorem scale_Fewest.calls (a0_0 : Int) (a0_1 : Int) (a0_2 : Int) (a0_3 : Int) (a0_4 : Int) (a1 : Int) (r1 : Int) (r2 : Int) (w : World) (hWays : Go.Proofs.YtidnopmjhhmedaaDoor.Ways w) (h : scale_Fewest.f a0_0 a0_1 a0_2 a0_3 a0_4 a1 = some (r1, r2)) :
    Calls Tryd.prog 18 #[.agg #[.int .i64 a0_0, .int .i64 a0_1, .int .i64 a0_2, .int .i64 a0_3, .int .i64 a0_4], .int .i64 a1] w fun e w' => e = .returned (.tuple #[.int .i64 r1, .int .i64 r2]) ∧ Below w.heap.size w w' := by
  unfold scale_Fewest.f at h
  split at h
  · split at h
    · simp only [Option.some.injEq, Prod.mk.injEq] at h
      obtain ⟨rfl, rfl⟩ := h
      exact YtidnopmjhhmedaaDoor.Fewest_ok _ _ _ _ _ _ ‹_› ‹_› w hWays
    · simp only [Option.some.injEq, Prod.mk.injEq] at h
      obtain ⟨rfl, rfl⟩ := h
      exact YtidnopmjhhmedaaDoor.Fewest_ask _ _ _ _ _ _ ‹_› (by simpa using ‹¬ lies _ _ _ = true›) w
  · simp only [Option.some.injEq, Prod.mk.injEq] at h
    obtain ⟨rfl, rfl⟩ := h
    exact YtidnopmjhhmedaaDoor.Fewest_bad _ _ _ _ _ _ (by simpa using ‹¬ isRuleB _ _ _ _ _ = true›) w

/-- The plan. -/
def planL (F S J off : Int) : List Int := if 0 < off then planOf (-1) off (caps S J (fewest F S J off).toNat) else planOf 1 (-off) (caps F J (fewest F S J off).toNat)
theorem few_nat {F S J off : Int} (h : ¬ fewest F S J off < 0) : fewest F S J off = ((fewest F S J off).toNat : Int) := by omega
theorem nil_V (w w' : World) : Kd.V (Kd.int .i64) 3 w' w.heap.size (fun k_ => w.heap.size ≤ k_) (.slice none 0 0) [] := Kd.V_nil _ _ _ _ _
def scale_Plan.f (a0_0 : Int) (a0_1 : Int) (a0_2 : Int) (a0_3 : Int) (a0_4 : Int) (a1 : Int) : Option ((List Int) × Int) := if isRuleB a0_0 a0_1 a0_2 a0_3 a0_4 = true then (if lies a1 (-20000) 20000 = true then (if fewest a0_0 a0_1 a0_2 a1 < 0 then some ([], 4) else some (planL a0_0 a0_1 a0_2 a1, 0)) else some ([], 41)) else some ([], 40)
set_option maxHeartbeats 1000000 in
theorem scale_Plan.calls (a0_0 : Int) (a0_1 : Int) (a0_2 : Int) (a0_3 : Int) (a0_4 : Int) (a1 : Int) (r1 : List Int) (r2 : Int) (w : World) (hWays : Go.Proofs.YtidnopmjhhmedaaDoor.Ways w) (h : scale_Plan.f a0_0 a0_1 a0_2 a0_3 a0_4 a1 = some (r1, r2)) :
    Calls Tryd.prog 20 #[.agg #[.int .i64 a0_0, .int .i64 a0_1, .int .i64 a0_2, .int .i64 a0_3, .int .i64 a0_4], .int .i64 a1] w fun e w' => ∃ v0_ : Value, e = .returned (.tuple #[v0_, .int .i64 r2]) ∧ Kd.V (Kd.int .i64) 3 w' w.heap.size (fun k_ => (w.heap.size ≤ k_)) v0_ r1 ∧ Below w.heap.size w w' := by
  have hwa : Go.Proofs.YtidnopmjhhmedaaDoor.Ways (w.alloc (.cells #[.int .i64 a0_0, .int .i64 a0_1, .int .i64 a0_2, .int .i64 a0_3, .int .i64 a0_4] 25)) := hWays.below ((Below.refl _ _).alloc (Nat.le_refl _) _)
  unfold scale_Plan.f at h
  split at h
  · split at h
    · split at h
      · rename_i hr hl hf
        simp only [Option.some.injEq, Prod.mk.injEq] at h
        obtain ⟨rfl, rfl⟩ := h
        have h1 := YtidnopmjhhmedaaDoor.Fewest_ok a0_0 a0_1 a0_2 a0_3 a0_4 a1 hr hl _ hwa
        rw [if_pos hf, if_pos hf] at h1
        exact (YtidnopmjhhmedaaDoor.Plan_err a0_0 a0_1 a0_2 a0_3 a0_4 a1 4 w (by decide) (h1.mono fun e w' h => ⟨h.1, by simpa using h.2⟩)).mono fun e w' h => ⟨_, h.1, nil_V _ _, h.2⟩
      · rename_i hr hl hf
        simp only [Option.some.injEq, Prod.mk.injEq] at h
        obtain ⟨rfl, rfl⟩ := h
        have hle := YtidnopmjhhmedaaDoor.fewest_le a0_0 a0_1 a0_2 a1
        unfold planL
        split
        · refine (YtidnopmjhhmedaaDoor.Plan_pos a0_0 a0_1 a0_2 a0_3 a0_4 a1 _ w hWays hr (lies_iff.1 hl) ‹_› (by omega) (few_nat hf)).mono ?_
          rintro e w' ⟨a, cap, he, ⟨hN, hc, hb⟩, hB⟩
          exact ⟨_, he, V_of_nums hN hc hb, hB⟩
        · refine (YtidnopmjhhmedaaDoor.Plan_neg a0_0 a0_1 a0_2 a0_3 a0_4 a1 _ w hWays hr (lies_iff.1 hl) ‹_› (by omega) (few_nat hf)).mono ?_
          rintro e w' ⟨a, cap, he, ⟨hN, hc, hb⟩, hB⟩
          exact ⟨_, he, V_of_nums hN hc hb, hB⟩
    · rename_i hr hl
      simp only [Option.some.injEq, Prod.mk.injEq] at h
      obtain ⟨rfl, rfl⟩ := h
      have h1 := YtidnopmjhhmedaaDoor.Fewest_ask a0_0 a0_1 a0_2 a0_3 a0_4 a1 hr (by simpa using hl) (w.alloc (.cells #[.int .i64 a0_0, .int .i64 a0_1, .int .i64 a0_2, .int .i64 a0_3, .int .i64 a0_4] 25))
      exact (YtidnopmjhhmedaaDoor.Plan_err a0_0 a0_1 a0_2 a0_3 a0_4 a1 41 w (by decide) (h1.mono fun e w' h => ⟨h.1, by simpa using h.2⟩)).mono fun e w' h => ⟨_, h.1, nil_V _ _, h.2⟩
  · rename_i hr
    simp only [Option.some.injEq, Prod.mk.injEq] at h
    obtain ⟨rfl, rfl⟩ := h
    have h1 := YtidnopmjhhmedaaDoor.Fewest_bad a0_0 a0_1 a0_2 a0_3 a0_4 a1 (by simpa using hr) (w.alloc (.cells #[.int .i64 a0_0, .int .i64 a0_1, .int .i64 a0_2, .int .i64 a0_3, .int .i64 a0_4] 25))
    exact (YtidnopmjhhmedaaDoor.Plan_err a0_0 a0_1 a0_2 a0_3 a0_4 a1 40 w (by decide) (h1.mono fun e w' h => ⟨h.1, by simpa using h.2⟩)).mono fun e w' h => ⟨_, h.1, nil_V _ _, h.2⟩

def scale_Reach.f (a0_0 : Int) (a0_1 : Int) (a0_2 : Int) (a0_3 : Int) (a0_4 : Int) (a1 : Int) : Option (Int × Int × Int) := if isRuleB a0_0 a0_1 a0_2 a0_3 a0_4 = true then (if lies a1 0 200 = true then some (-(capSum a0_1 a0_2 a1.toNat), capSum a0_0 a0_2 a1.toNat, 0) else some (0, 0, 41)) else some (0, 0, 40)
set_option maxHeartbeats 1000000 in
theorem scale_Reach.calls (a0_0 : Int) (a0_1 : Int) (a0_2 : Int) (a0_3 : Int) (a0_4 : Int) (a1 : Int) (r1 : Int) (r2 : Int) (r3 : Int) (w : World) (hWays : Go.Proofs.YtidnopmjhhmedaaDoor.Ways w) (h : scale_Reach.f a0_0 a0_1 a0_2 a0_3 a0_4 a1 = some (r1, r2, r3)) :
    Calls Tryd.prog 22 #[.agg #[.int .i64 a0_0, .int .i64 a0_1, .int .i64 a0_2, .int .i64 a0_3, .int .i64 a0_4], .int .i64 a1] w fun e w' => e = .returned (.tuple #[.agg #[.int .i64 r1, .int .i64 r2], .int .i64 r3]) ∧ Below w.heap.size w w' := by
  unfold scale_Reach.f at h
  split at h
  · split at h
    · rename_i hr hl
      simp only [Option.some.injEq, Prod.mk.injEq] at h
      obtain ⟨rfl, rfl, rfl⟩ := h
      have h1 := lies_iff.1 hl
      obtain ⟨t, rfl⟩ : ∃ t : Nat, a1 = t := ⟨a1.toNat, by omega⟩
      rw [Int.toNat_natCast]
      exact YtidnopmjhhmedaaDoor.Reach_ok _ _ _ _ _ t hr (by omega) w hWays
    · simp only [Option.some.injEq, Prod.mk.injEq] at h
      obtain ⟨rfl, rfl, rfl⟩ := h
      exact YtidnopmjhhmedaaDoor.Reach_ask _ _ _ _ _ _ ‹_› (by simpa using ‹¬ lies _ _ _ = true›) w
  · simp only [Option.some.injEq, Prod.mk.injEq] at h
    obtain ⟨rfl, rfl, rfl⟩ := h
    exact YtidnopmjhhmedaaDoor.Reach_bad _ _ _ _ _ _ (by simpa using ‹¬ isRuleB _ _ _ _ _ = true›) w

def scale_Shown.f (a0_0 : Int) (a0_1 : Int) (a0_2 : Int) (a0_3 : Int) (a0_4 : Int) (a1 : Int) (l2 : List Int) : Option ((List Int) × Int) := if l2.length ≤ 17592186044416 then (if isRuleB a0_0 a0_1 a0_2 a0_3 a0_4 = true then (if lies a1 0 10000000 = true ∧ l2.length ≤ 200 ∧ keepsB a0_0 a0_1 a0_2 0 l2 = true then some (shownL a1 l2, 0) else some ([], 41)) else some ([], 40)) else none
set_option maxHeartbeats 1000000 in
theorem scale_Shown.calls (a0_0 : Int) (a0_1 : Int) (a0_2 : Int) (a0_3 : Int) (a0_4 : Int) (a1 : Int) (A2 : Option Addr) (c2 : Nat) (l2 : List Int) (r1 : List Int) (r2 : Int) (w : World) (hr2 : Kd.C (Kd.int .i64) w A2 l2.length l2) (hc2 : l2.length ≤ c2) (hWays : Go.Proofs.YtidnopmjhhmedaaDoor.Ways w) (h : scale_Shown.f a0_0 a0_1 a0_2 a0_3 a0_4 a1 l2 = some (r1, r2)) :
    Calls Tryd.prog 24 #[.agg #[.int .i64 a0_0, .int .i64 a0_1, .int .i64 a0_2, .int .i64 a0_3, .int .i64 a0_4], .int .i64 a1, .slice A2 l2.length c2] w fun e w' => ∃ v0_ : Value, e = .returned (.tuple #[v0_, .int .i64 r2]) ∧ Kd.V (Kd.int .i64) 3 w' w.heap.size (fun k_ => (w.heap.size ≤ k_)) v0_ r1 ∧ Below w.heap.size w w' := by
  unfold scale_Shown.f at h
  split at h
  · rename_i hb
    have hN := nums_of_C hr2 hb
    split at h
    · rename_i hr
      split at h
      · rename_i hk
        simp only [Option.some.injEq, Prod.mk.injEq] at h
        obtain ⟨rfl, rfl⟩ := h
        refine (YtidnopmjhhmedaaDoor.Shown_ok a0_0 a0_1 a0_2 a0_3 a0_4 a1 A2 l2.length c2 l2 w hN hr hk.1 hk.2.1 hk.2.2).mono ?_
        rintro e w' ⟨a, cap, he, ⟨hN, hc, hb⟩, hB⟩
        exact ⟨_, he, V_of_nums hN hc hb, hB⟩
      · rename_i hk
        simp only [Option.some.injEq, Prod.mk.injEq] at h
        obtain ⟨rfl, rfl⟩ := h
        have fin : ∀ {e w'}, (e = Ending.returned (.tuple #[.slice none 0 0, .int .i64 41]) ∧ Below w.heap.size w w') → ∃ v0_ : Value, e = .returned (.tuple #[v0_, .int .i64 41]) ∧ Kd.V (Kd.int .i64) 3 w' w.heap.size (fun k_ => (w.heap.size ≤ k_)) v0_ [] ∧ Below w.heap.size w w' := fun h => ⟨_, h.1, nil_V _ _, h.2⟩
        by_cases hl : lies a1 0 10000000 = true
        · by_cases hn : l2.length ≤ 200
          · exact (YtidnopmjhhmedaaDoor.Shown_not a0_0 a0_1 a0_2 a0_3 a0_4 a1 A2 l2.length c2 l2 w hN hr hl hn (by rw [← Bool.not_eq_true]; exact fun h => hk ⟨hl, hn, h⟩)).mono fun e w' h => fin h
          · exact (YtidnopmjhhmedaaDoor.Shown_ask2 a0_0 a0_1 a0_2 a0_3 a0_4 a1 A2 l2.length c2 l2 w hN hr hl hn).mono fun e w' h => fin h
        · exact (YtidnopmjhhmedaaDoor.Shown_ask1 a0_0 a0_1 a0_2 a0_3 a0_4 a1 A2 l2.length c2 l2 w hN hr (by simpa using hl)).mono fun e w' h => fin h
    · rename_i hr
      simp only [Option.some.injEq, Prod.mk.injEq] at h
      obtain ⟨rfl, rfl⟩ := h
      have hr' : isRuleB a0_0 a0_1 a0_2 a0_3 a0_4 = false := by simpa using hr
      have fin : ∀ {e w'}, (e = Ending.returned (.tuple #[.slice none 0 0, .int .i64 40]) ∧ Below w.heap.size w w') → ∃ v0_ : Value, e = .returned (.tuple #[v0_, .int .i64 40]) ∧ Kd.V (Kd.int .i64) 3 w' w.heap.size (fun k_ => (w.heap.size ≤ k_)) v0_ [] ∧ Below w.heap.size w w' := fun h => ⟨_, h.1, nil_V _ _, h.2⟩
      by_cases hl : lies a1 0 10000000 = true
      · by_cases hn : l2.length ≤ 200
        · exact (YtidnopmjhhmedaaDoor.Shown_bad3 a0_0 a0_1 a0_2 a0_3 a0_4 a1 A2 l2.length c2 l2 w hN hr' hl hn).mono fun e w' h => fin h
        · exact (YtidnopmjhhmedaaDoor.Shown_bad2 a0_0 a0_1 a0_2 a0_3 a0_4 a1 A2 l2.length c2 l2 w hN hr' hl hn).mono fun e w' h => fin h
      · exact (YtidnopmjhhmedaaDoor.Shown_bad1 a0_0 a0_1 a0_2 a0_3 a0_4 a1 A2 l2.length c2 l2 w hN hr' (by simpa using hl)).mono fun e w' h => fin h
  · cases h

def scale_Check.f (a0_0 : Int) (a0_1 : Int) (a0_2 : Int) (a0_3 : Int) (a0_4 : Int) (a0_5 : Int) (l0_6 : List Int) (l0_7 : List (S71)) : Option (Int) := if l0_6.length ≤ 17592186044416 ∧ l0_7.length ≤ 17592186044416 then some (if checkB a0_0 a0_1 a0_2 a0_3 a0_4 a0_5 l0_6 (l0_7.map toLk) = true then 0 else 40) else none
set_option maxHeartbeats 1000000 in
theorem scale_Check.calls (a0_0 : Int) (a0_1 : Int) (a0_2 : Int) (a0_3 : Int) (a0_4 : Int) (a0_5 : Int) (A0_6 : Option Addr) (c0_6 : Nat) (l0_6 : List Int) (A0_7 : Option Addr) (c0_7 : Nat) (l0_7 : List (S71)) (r : Int) (w : World) (hr0_6 : Kd.C (Kd.int .i64) w A0_6 l0_6.length l0_6) (hc0_6 : l0_6.length ≤ c0_6) (hr0_7 : Kd.C k71 w A0_7 l0_7.length l0_7) (hc0_7 : l0_7.length ≤ c0_7) (hWays : Go.Proofs.YtidnopmjhhmedaaDoor.Ways w) (h : scale_Check.f a0_0 a0_1 a0_2 a0_3 a0_4 a0_5 l0_6 l0_7 = some r) :
    Calls Tryd.prog 29 #[.agg #[.int .i64 a0_0, .int .i64 a0_1, .int .i64 a0_2, .int .i64 a0_3, .int .i64 a0_4, .int .i64 a0_5, .slice A0_6 l0_6.length c0_6, .slice A0_7 l0_7.length c0_7]] w fun e w' => e = .returned (.int .i64 r) ∧ Below w.heap.size w w' := by
  unfold scale_Check.f at h
  split at h
  · rename_i hb
    have hN := nums_of_C hr0_6 hb.1
    have hK := looks_of_C hr0_7 hb.2
    simp only [Option.some.injEq] at h
    subst h
    exact YtidnopmjhhmedaaDoor.Check_any _ _ _ _ _ _ _ _ _ _ _ _ _ _ w hN hK
  · cases h

def scale_Error.f (a0_0 : Int) (a0_1 : Int) (a0_2 : Int) (a0_3 : Int) (a0_4 : Int) (a0_5 : Int) (l0_6 : List Int) (l0_7 : List (S71)) (a1 : Int) : Option (Int × Int × Int) := if l0_6.length ≤ 17592186044416 ∧ l0_7.length ≤ 17592186044416 then (if askE a0_0 a0_1 a0_2 a0_3 a0_4 a0_5 l0_6 (l0_7.map toLk) (lies a1 0 a0_5) = 0 then some ((solF a0_0 a0_1 a0_2 a0_3 a0_4 a0_5 l0_6 (l0_7.map toLk) a1.toNat).lo, (solF a0_0 a0_1 a0_2 a0_3 a0_4 a0_5 l0_6 (l0_7.map toLk) a1.toNat).hi, 0) else some (0, 0, askE a0_0 a0_1 a0_2 a0_3 a0_4 a0_5 l0_6 (l0_7.map toLk) (lies a1 0 a0_5))) else none
set_option maxHeartbeats 1000000 in
theorem scale_Error.calls (a0_0 : Int) (a0_1 : Int) (a0_2 : Int) (a0_3 : Int) (a0_4 : Int) (a0_5 : Int) (A0_6 : Option Addr) (c0_6 : Nat) (l0_6 : List Int) (A0_7 : Option Addr) (c0_7 : Nat) (l0_7 : List (S71)) (a1 : Int) (r1 : Int) (r2 : Int) (r3 : Int) (w : World) (hr0_6 : Kd.C (Kd.int .i64) w A0_6 l0_6.length l0_6) (hc0_6 : l0_6.length ≤ c0_6) (hr0_7 : Kd.C k71 w A0_7 l0_7.length l0_7) (hc0_7 : l0_7.length ≤ c0_7) (hWays : Go.Proofs.YtidnopmjhhmedaaDoor.Ways w) (h : scale_Error.f a0_0 a0_1 a0_2 a0_3 a0_4 a0_5 l0_6 l0_7 a1 = some (r1, r2, r3)) :
    Calls Tryd.prog 27 #[.agg #[.int .i64 a0_0, .int .i64 a0_1, .int .i64 a0_2, .int .i64 a0_3, .int .i64 a0_4, .int .i64 a0_5, .slice A0_6 l0_6.length c0_6, .slice A0_7 l0_7.length c0_7], .int .i64 a1] w fun e w' => e = .returned (.tuple #[.agg #[.int .i64 r1, .int .i64 r2], .int .i64 r3]) ∧ Below w.heap.size w w' := by
  unfold scale_Error.f at h
  split at h
  · rename_i hb
    have hN := nums_of_C hr0_6 hb.1
    have hK := looks_of_C hr0_7 hb.2
    split at h
    · rename_i hE
      simp only [Option.some.injEq, Prod.mk.injEq] at h
      obtain ⟨rfl, rfl, rfl⟩ := h
      exact YtidnopmjhhmedaaDoor.Error_ok _ _ _ _ _ _ _ _ _ _ _ _ _ _ _ hE w hN hK
    · rename_i hE
      simp only [Option.some.injEq, Prod.mk.injEq] at h
      obtain ⟨rfl, rfl, rfl⟩ := h
      exact YtidnopmjhhmedaaDoor.Error_bad _ _ _ _ _ _ _ _ _ _ _ _ _ _ _ _ rfl (by simpa using hE) w hN hK
  · cases h

def scale_Stated.f (a0_0 : Int) (a0_1 : Int) (a0_2 : Int) (a0_3 : Int) (a0_4 : Int) (a0_5 : Int) (l0_6 : List Int) (l0_7 : List (S71)) (a1 : Int) : Option (Int × Int) := if l0_6.length ≤ 17592186044416 ∧ l0_7.length ≤ 17592186044416 then (if askE a0_0 a0_1 a0_2 a0_3 a0_4 a0_5 l0_6 (l0_7.map toLk) (lies a1 0 a0_5) = 0 then some (max (-(solF a0_0 a0_1 a0_2 a0_3 a0_4 a0_5 l0_6 (l0_7.map toLk) a1.toNat).lo) (solF a0_0 a0_1 a0_2 a0_3 a0_4 a0_5 l0_6 (l0_7.map toLk) a1.toNat).hi, 0) else some (0, askE a0_0 a0_1 a0_2 a0_3 a0_4 a0_5 l0_6 (l0_7.map toLk) (lies a1 0 a0_5))) else none
set_option maxHeartbeats 1000000 in
theorem scale_Stated.calls (a0_0 : Int) (a0_1 : Int) (a0_2 : Int) (a0_3 : Int) (a0_4 : Int) (a0_5 : Int) (A0_6 : Option Addr) (c0_6 : Nat) (l0_6 : List Int) (A0_7 : Option Addr) (c0_7 : Nat) (l0_7 : List (S71)) (a1 : Int) (r1 : Int) (r2 : Int) (w : World) (hr0_6 : Kd.C (Kd.int .i64) w A0_6 l0_6.length l0_6) (hc0_6 : l0_6.length ≤ c0_6) (hr0_7 : Kd.C k71 w A0_7 l0_7.length l0_7) (hc0_7 : l0_7.length ≤ c0_7) (hWays : Go.Proofs.YtidnopmjhhmedaaDoor.Ways w) (h : scale_Stated.f a0_0 a0_1 a0_2 a0_3 a0_4 a0_5 l0_6 l0_7 a1 = some (r1, r2)) :
    Calls Tryd.prog 31 #[.agg #[.int .i64 a0_0, .int .i64 a0_1, .int .i64 a0_2, .int .i64 a0_3, .int .i64 a0_4, .int .i64 a0_5, .slice A0_6 l0_6.length c0_6, .slice A0_7 l0_7.length c0_7], .int .i64 a1] w fun e w' => e = .returned (.tuple #[.int .i64 r1, .int .i64 r2]) ∧ Below w.heap.size w w' := by
  unfold scale_Stated.f at h
  split at h
  · rename_i hb
    have hN := nums_of_C hr0_6 hb.1
    have hK := looks_of_C hr0_7 hb.2
    split at h
    · rename_i hE
      simp only [Option.some.injEq, Prod.mk.injEq] at h
      obtain ⟨rfl, rfl⟩ := h
      exact YtidnopmjhhmedaaDoor.Stated_ok _ _ _ _ _ _ _ _ _ _ _ _ _ _ _ hE w hN hK
    · rename_i hE
      simp only [Option.some.injEq, Prod.mk.injEq] at h
      obtain ⟨rfl, rfl⟩ := h
      exact YtidnopmjhhmedaaDoor.Stated_bad _ _ _ _ _ _ _ _ _ _ _ _ _ _ _ _ rfl (by simpa using hE) w hN hK
  · cases h

def scale_Worst.f (a0_0 : Int) (a0_1 : Int) (a0_2 : Int) (a0_3 : Int) (a0_4 : Int) (a0_5 : Int) (l0_6 : List Int) (l0_7 : List (S71)) : Option (Int × Int × Int) := if l0_6.length ≤ 17592186044416 ∧ l0_7.length ≤ 17592186044416 then (if askE a0_0 a0_1 a0_2 a0_3 a0_4 a0_5 l0_6 (l0_7.map toLk) true = 0 then some ((worstTo (solF a0_0 a0_1 a0_2 a0_3 a0_4 a0_5 l0_6 (l0_7.map toLk)) (a0_5.toNat + 1)).1, (worstTo (solF a0_0 a0_1 a0_2 a0_3 a0_4 a0_5 l0_6 (l0_7.map toLk)) (a0_5.toNat + 1)).2, 0) else some (0, 0, askE a0_0 a0_1 a0_2 a0_3 a0_4 a0_5 l0_6 (l0_7.map toLk) true)) else none
set_option maxHeartbeats 1000000 in
theorem scale_Worst.calls (a0_0 : Int) (a0_1 : Int) (a0_2 : Int) (a0_3 : Int) (a0_4 : Int) (a0_5 : Int) (A0_6 : Option Addr) (c0_6 : Nat) (l0_6 : List Int) (A0_7 : Option Addr) (c0_7 : Nat) (l0_7 : List (S71)) (r1 : Int) (r2 : Int) (r3 : Int) (w : World) (hr0_6 : Kd.C (Kd.int .i64) w A0_6 l0_6.length l0_6) (hc0_6 : l0_6.length ≤ c0_6) (hr0_7 : Kd.C k71 w A0_7 l0_7.length l0_7) (hc0_7 : l0_7.length ≤ c0_7) (hWays : Go.Proofs.YtidnopmjhhmedaaDoor.Ways w) (h : scale_Worst.f a0_0 a0_1 a0_2 a0_3 a0_4 a0_5 l0_6 l0_7 = some (r1, r2, r3)) :
    Calls Tryd.prog 33 #[.agg #[.int .i64 a0_0, .int .i64 a0_1, .int .i64 a0_2, .int .i64 a0_3, .int .i64 a0_4, .int .i64 a0_5, .slice A0_6 l0_6.length c0_6, .slice A0_7 l0_7.length c0_7]] w fun e w' => e = .returned (.tuple #[.int .i64 r1, .int .i64 r2, .int .i64 r3]) ∧ Below w.heap.size w w' := by
  unfold scale_Worst.f at h
  split at h
  · rename_i hb
    have hN := nums_of_C hr0_6 hb.1
    have hK := looks_of_C hr0_7 hb.2
    split at h
    · rename_i hE
      simp only [Option.some.injEq, Prod.mk.injEq] at h
      obtain ⟨rfl, rfl, rfl⟩ := h
      have hT := YtidnopmjhhmedaaDoor.check_ticks (YtidnopmjhhmedaaDoor.askE_ok hE).1
      exact YtidnopmjhhmedaaDoor.Worst_ok _ _ _ _ _ _ _ _ _ _ _ _ _ _ a0_5.toNat (by omega) hE w hN hK
    · rename_i hE
      simp only [Option.some.injEq, Prod.mk.injEq] at h
      obtain ⟨rfl, rfl, rfl⟩ := h
      exact YtidnopmjhhmedaaDoor.Worst_bad _ _ _ _ _ _ _ _ _ _ _ _ _ _ _ rfl (by simpa using hE) w hN hK
  · cases h

/-- What Meets tells where the book can be true. -/
def meetsP (F S J : Int) (s : YtidnopmjhhmedaaDoor.Sp) : Int × Int × Int :=
  if fewest F S J s.lo = -1 ∨ fewest F S J s.hi = -1 then (0, 0, 4) else (max (fewest F S J s.lo) (fewest F S J s.hi), if s.lo ≤ 0 ∧ 0 ≤ s.hi then 0 else min (fewest F S J s.lo) (fewest F S J s.hi), 0)
theorem meets_val (F S J : Int) (s : YtidnopmjhhmedaaDoor.Sp) : Value.tuple #[.int .i64 (meetsP F S J s).1, .int .i64 (meetsP F S J s).2.1, .int .i64 (meetsP F S J s).2.2] = if fewest F S J s.lo = -1 ∨ fewest F S J s.hi = -1 then .tuple #[.int .i64 0, .int .i64 0, .int .i64 4] else .tuple #[.int .i64 (max (fewest F S J s.lo) (fewest F S J s.hi)), .int .i64 (if s.lo ≤ 0 ∧ 0 ≤ s.hi then 0 else min (fewest F S J s.lo) (fewest F S J s.hi)), .int .i64 0] := by
  unfold meetsP
  split <;> rfl
def scale_Meets.f (a0_0 : Int) (a0_1 : Int) (a0_2 : Int) (a0_3 : Int) (a0_4 : Int) (a0_5 : Int) (l0_6 : List Int) (l0_7 : List (S71)) : Option (Int × Int × Int) := if l0_6.length ≤ 17592186044416 ∧ l0_7.length ≤ 17592186044416 then (if askE a0_0 a0_1 a0_2 a0_3 a0_4 a0_5 l0_6 (l0_7.map toLk) true = 0 then some (meetsP a0_0 a0_1 a0_2 (solF a0_0 a0_1 a0_2 a0_3 a0_4 a0_5 l0_6 (l0_7.map toLk) a0_5.toNat)) else some (0, 0, askE a0_0 a0_1 a0_2 a0_3 a0_4 a0_5 l0_6 (l0_7.map toLk) true)) else none
set_option maxHeartbeats 1000000 in
theorem scale_Meets.calls (a0_0 : Int) (a0_1 : Int) (a0_2 : Int) (a0_3 : Int) (a0_4 : Int) (a0_5 : Int) (A0_6 : Option Addr) (c0_6 : Nat) (l0_6 : List Int) (A0_7 : Option Addr) (c0_7 : Nat) (l0_7 : List (S71)) (r1 : Int) (r2 : Int) (r3 : Int) (w : World) (hr0_6 : Kd.C (Kd.int .i64) w A0_6 l0_6.length l0_6) (hc0_6 : l0_6.length ≤ c0_6) (hr0_7 : Kd.C k71 w A0_7 l0_7.length l0_7) (hc0_7 : l0_7.length ≤ c0_7) (hWays : Go.Proofs.YtidnopmjhhmedaaDoor.Ways w) (h : scale_Meets.f a0_0 a0_1 a0_2 a0_3 a0_4 a0_5 l0_6 l0_7 = some (r1, r2, r3)) :
    Calls Tryd.prog 35 #[.agg #[.int .i64 a0_0, .int .i64 a0_1, .int .i64 a0_2, .int .i64 a0_3, .int .i64 a0_4, .int .i64 a0_5, .slice A0_6 l0_6.length c0_6, .slice A0_7 l0_7.length c0_7]] w fun e w' => e = .returned (.tuple #[.int .i64 r1, .int .i64 r2, .int .i64 r3]) ∧ Below w.heap.size w w' := by
  unfold scale_Meets.f at h
  split at h
  · rename_i hb
    have hN := nums_of_C hr0_6 hb.1
    have hK := looks_of_C hr0_7 hb.2
    split at h
    · rename_i hE
      simp only [Option.some.injEq] at h
      have hT := YtidnopmjhhmedaaDoor.check_ticks (YtidnopmjhhmedaaDoor.askE_ok hE).1
      have hv := meets_val a0_0 a0_1 a0_2 (solF a0_0 a0_1 a0_2 a0_3 a0_4 a0_5 l0_6 (l0_7.map toLk) a0_5.toNat)
      rw [h] at hv
      exact YtidnopmjhhmedaaDoor.Meets_ok _ _ _ _ _ _ _ _ _ _ _ _ _ _ a0_5.toNat (by omega) hE w hWays hN hK _ _ rfl rfl _ hv
    · rename_i hE
      simp only [Option.some.injEq, Prod.mk.injEq] at h
      obtain ⟨rfl, rfl, rfl⟩ := h
      exact YtidnopmjhhmedaaDoor.Meets_bad _ _ _ _ _ _ _ _ _ _ _ _ _ _ _ rfl (by simpa using hE) w hN hK
  · cases h

end Go.Proofs.TrydX.X
end

section
-- Written by wip/tools/pr.py (a program of this repo over the kit's print.py).
namespace Go.Proofs.TrydX.X
open Go.RowKit Go.Proofs.YtidnopmjhhmedaaDoorW.PrintWords Go.Proofs.YtidnopmjhhmedaaDoorW.PrintLast Go.Proofs.YtidnopmjhhmedaaDoorW.PrintMore
attribute [local go_sem] max2_int min2_int max_two min_two max_three min_three max_four min_four   -- for this text's walks alone
set_option linter.unusedVariables false
set_option linter.unusedSimpArgs false

/-! ### remontoirref00_First: function 70 -/
def remontoirref00_First.l0 : Nat → List Int → List Int → Int → Option (Int)
  | 0, _, _, _ => none
  | k + 1, x0, x1, x5 => if x5 < (x0.length : Int) then (if x5 < (x1.length : Int) then (if 0 ≤ x5 then (if (rd x0 x5) = (rd x1 x5) then (remontoirref00_First.l0 k x0 x1 (wrap64 (x5 + 1))) else (some x5)) else (none)) else (some x5)) else (some x5)
def remontoirref00_First.f (k : Nat) (l0 : List Int) (l1 : List Int) : Option (Int) := remontoirref00_First.l0 k l0 l1 0
set_option maxHeartbeats 8000000 in
set_option maxRecDepth 100000 in
theorem remontoirref00_First.calls (k : Nat) (A0 : Option Addr) (c0 : Nat) (l0 : List Int) (A1 : Option Addr) (c1 : Nat) (l1 : List Int) (r : Int) (w : World) (hr0 : Kd.C (Kd.int .i64) w A0 l0.length l0) (hc0 : l0.length ≤ c0) (hr1 : Kd.C (Kd.int .i64) w A1 l1.length l1) (hc1 : l1.length ≤ c1) (h : remontoirref00_First.f k l0 l1 = some r) :
    Calls Tryd.prog 70 #[.slice A0 l0.length c0, .slice A1 l1.length c1] w fun e w' => e = .returned (.int .i64 r) ∧ Drawn0 w w' := by
  have HR0 := Aside0.mk hr0
  have HC0 := Aside0.mk hc0
  clear hr0 hc0
  have HR1 := Aside0.mk hr1
  have HC1 := Aside0.mk hc1
  clear hr1 hc1
  have H : (remontoirref00_First.l0 k l0 l1 0) = some r := h
  clear h
  have H' := Aside0.mk H
  clear H
  go_enter Tryd.func70, Tryd.ntmps70
  go_wp2
  repeat (go_quiet (fail); try go_wp2)
  go_loopg [5] k (fun kq v5 w' => ∃ (x5_1 : Int), v5 = .int .i64 x5_1 ∧ Aside0 (remontoirref00_First.l0 kq l0 l1 x5_1 = some r) ∧ Aside0 (kq ≤ k) ∧ Drawn0 w w')
  case atStart => exact ⟨(0), (by first | rfl | (simp; done) | (simp [*]; done)), H', ⟨Nat.le_refl _⟩, by repeat (first | exact Drawn0.refl _ | apply Drawn0.step)⟩
  case round =>
    clear H'
    try clear c1
    try clear p2
    obtain ⟨x5_1, rfl, HA, HK1, ⟨m1, rfl⟩⟩ := hrel
    cases gk with
    | zero => exact absurd HA.out (by simp [remontoirref00_First.l0])
    | succ k1 =>
      have H := HA.out
      clear HA
      simp only [remontoirref00_First.l0] at H
      by_cases c3 : x5_1 < (l0.length : Int)
      · rw [if_pos c3] at H
        have c3b0 : decide (x5_1 < (l0.length : Int)) = true := decide_eq_true c3
        clear c3
        by_cases c4 : x5_1 < (l1.length : Int)
        · rw [if_pos c4] at H
          have c4b0 : decide (x5_1 < (l1.length : Int)) = true := decide_eq_true c4
          clear c4
          by_cases c5 : 0 ≤ x5_1
          · rw [if_pos c5] at H
            have c5b0 : decide (0 ≤ x5_1) = true := decide_eq_true c5
            clear c5
            by_cases c6 : (rd l0 x5_1) = (rd l1 x5_1)
            · rw [if_pos c6] at H
              have c6b0 : ((rd l0 x5_1) == (rd l1 x5_1)) = true := beq_iff_eq.mpr c6
              have c6b1 : ((rd l0 x5_1) != (rd l1 x5_1)) = false := bne_eq_false_iff_eq.mpr c6
              clear c6
              have H' := Aside0.mk H
              clear H
              have p183 : 0 ≤ (x5_1 : Int) := of_decide_eq_true (by first | (with_reducible assumption) | assumption)
              have q183 : x5_1 < (l0.length : Int) := of_decide_eq_true (by first | (with_reducible assumption) | assumption)
              obtain ⟨ad183, e183, hx183_0⟩ := Kd.at_int HR0.out x5_1 p183 q183
              cases e183
              replace p183 := eq_true p183
              replace q183 := eq_true q183
              have p184 : 0 ≤ (x5_1 : Int) := of_decide_eq_true (by first | (with_reducible assumption) | assumption)
              have q184 : x5_1 < (l1.length : Int) := of_decide_eq_true (by first | (with_reducible assumption) | assumption)
              obtain ⟨ad184, e184, hx184_0⟩ := Kd.at_int HR1.out x5_1 p184 q184
              cases e184
              replace p184 := eq_true p184
              replace q184 := eq_true q184
              go_wp2
              repeat (go_quiet (fail); try go_wp2)
              go_roundg k1
              case measure => have := HK1.out; omega
              case rel => exact ⟨(wrap64 (x5_1 + 1)), (by first | rfl | (simp; done) | (simp [*]; done)), H', ⟨by have := HK1.out; omega⟩, by repeat (first | exact Drawn0.refl _ | apply Drawn0.step)⟩
            · rw [if_neg c6] at H
              have c6b0 : ((rd l0 x5_1) == (rd l1 x5_1)) = false := beq_eq_false_iff_ne.mpr c6
              have c6b1 : ((rd l0 x5_1) != (rd l1 x5_1)) = true := bne_iff_ne.mpr c6
              obtain rfl := Option.some.inj H
              have p183 : 0 ≤ (x5_1 : Int) := of_decide_eq_true (by first | (with_reducible assumption) | assumption)
              have q183 : x5_1 < (l0.length : Int) := of_decide_eq_true (by first | (with_reducible assumption) | assumption)
              obtain ⟨ad183, e183, hx183_0⟩ := Kd.at_int HR0.out x5_1 p183 q183
              cases e183
              replace p183 := eq_true p183
              replace q183 := eq_true q183
              have p184 : 0 ≤ (x5_1 : Int) := of_decide_eq_true (by first | (with_reducible assumption) | assumption)
              have q184 : x5_1 < (l1.length : Int) := of_decide_eq_true (by first | (with_reducible assumption) | assumption)
              obtain ⟨ad184, e184, hx184_0⟩ := Kd.at_int HR1.out x5_1 p184 q184
              cases e184
              replace p184 := eq_true p184
              replace q184 := eq_true q184
              go_wp2
              repeat (go_quiet (fail); try go_wp2)
              go_ret
              exact ⟨by first | rfl | (simp; done) | (simp [*]; done), by repeat (first | exact Drawn0.refl _ | apply Drawn0.step)⟩
          · rw [if_neg c5] at H
            exact absurd H (by simp)
        · rw [if_neg c4] at H
          have c4b0 : decide (x5_1 < (l1.length : Int)) = false := decide_eq_false c4
          clear c4
          obtain rfl := Option.some.inj H
          go_wp2
          repeat (go_quiet (fail); try go_wp2)
          go_ret
          exact ⟨by first | rfl | (simp; done) | (simp [*]; done), by repeat (first | exact Drawn0.refl _ | apply Drawn0.step)⟩
      · rw [if_neg c3] at H
        have c3b0 : decide (x5_1 < (l0.length : Int)) = false := decide_eq_false c3
        clear c3
        obtain rfl := Option.some.inj H
        go_wp2
        repeat (go_quiet (fail); try go_wp2)
        go_ret
        exact ⟨by first | rfl | (simp; done) | (simp [*]; done), by repeat (first | exact Drawn0.refl _ | apply Drawn0.step)⟩

end Go.Proofs.TrydX.X
end

section
-- Written by wip/tools/pr.py (a program of this repo over the kit's print.py).
namespace Go.Proofs.TrydX.X
open Go.RowKit Go.Proofs.YtidnopmjhhmedaaDoorW.PrintWords Go.Proofs.YtidnopmjhhmedaaDoorW.PrintLast Go.Proofs.YtidnopmjhhmedaaDoorW.PrintMore
attribute [local go_sem] max2_int min2_int max_two min_two max_three min_three max_four min_four   -- for this text's walks alone
set_option linter.unusedVariables false
set_option linter.unusedSimpArgs false

/-! ### remontoirref00_Alike: function 26 -/
def remontoirref00_Alike.f (k : Nat) (l0 : List Int) (l1 : List Int) : Option (Bool) := if (l0.length : Int) = (l1.length : Int) then ((remontoirref00_First.f k l0 l1).bind fun t185 => (some (t185 == (l0.length : Int)))) else (some false)
set_option maxHeartbeats 8000000 in
set_option maxRecDepth 100000 in
theorem remontoirref00_Alike.calls (k : Nat) (A0 : Option Addr) (c0 : Nat) (l0 : List Int) (A1 : Option Addr) (c1 : Nat) (l1 : List Int) (r : Bool) (w : World) (hr0 : Kd.C (Kd.int .i64) w A0 l0.length l0) (hc0 : l0.length ≤ c0) (hr1 : Kd.C (Kd.int .i64) w A1 l1.length l1) (hc1 : l1.length ≤ c1) (h : remontoirref00_Alike.f k l0 l1 = some r) :
    Calls Tryd.prog 26 #[.slice A0 l0.length c0, .slice A1 l1.length c1] w fun e w' => e = .returned (.bool r) ∧ Drawn0 w w' := by
  have HR0 := Aside0.mk hr0
  have HC0 := Aside0.mk hc0
  clear hr0 hc0
  have HR1 := Aside0.mk hr1
  have HC1 := Aside0.mk hc1
  clear hr1 hc1
  have H : (if (l0.length : Int) = (l1.length : Int) then ((remontoirref00_First.f k l0 l1).bind fun t185 => (some (t185 == (l0.length : Int)))) else (some false)) = some r := h
  clear h
  by_cases c3 : (l0.length : Int) = (l1.length : Int)
  · rw [if_pos c3] at H
    have c3b0 : ((l0.length : Int) == (l1.length : Int)) = true := beq_iff_eq.mpr c3
    have c3b1 : ((l0.length : Int) != (l1.length : Int)) = false := bne_eq_false_iff_eq.mpr c3
    have c3b2 : (l0.length == l1.length) = true := by first | simpa using c3 | (simp at c3 ⊢; omega)
    clear c3
    replace H := Option.bind_eq_some_iff.mp H
    obtain ⟨t185, A40, H⟩ := H
    replace H : (some (t185 == (l0.length : Int))) = some r := H
    have A4 := Aside0.mk A40
    clear A40
    obtain rfl := Option.some.inj H
    go_enter Tryd.func26, Tryd.ntmps26
    go_wp2_with (first | (go_at_call 70; (with_reducible refine (remontoirref00_First.calls k _ _ l0 _ _ l1 t185 _ ?side1 ?side2 ?side3 ?side4 A4.out).mono ?_); (case side1 => repeat (first | exact HR0.out | (with_reducible refine Kd.C_alloc ?_ _) | (with_reducible refine Kd.C_drewN ?_ _) | (with_reducible refine Kd.C_drew ?_))); (case side2 => exact HC0.out); (case side3 => repeat (first | exact HR1.out | (with_reducible refine Kd.C_alloc ?_ _) | (with_reducible refine Kd.C_drewN ?_ _) | (with_reducible refine Kd.C_drew ?_))); (case side4 => exact HC1.out); rintro e w' ⟨rfl, ⟨nd, rfl⟩⟩))
    go_ret
    exact ⟨by first | rfl | (simp; done) | (simp [*]; done), by repeat (first | exact Drawn0.refl _ | apply Drawn0.step)⟩
  · rw [if_neg c3] at H
    have c3b0 : ((l0.length : Int) == (l1.length : Int)) = false := beq_eq_false_iff_ne.mpr c3
    have c3b1 : ((l0.length : Int) != (l1.length : Int)) = true := bne_iff_ne.mpr c3
    have c3b2 : (l0.length == l1.length) = false := by first | simpa using c3 | (simp at c3 ⊢; omega)
    obtain rfl := Option.some.inj H
    go_enter Tryd.func26, Tryd.ntmps26
    go_wp2
    go_ret
    exact ⟨by first | rfl | (simp; done) | (simp [*]; done), by repeat (first | exact Drawn0.refl _ | apply Drawn0.step)⟩

end Go.Proofs.TrydX.X
end

section
-- Written by wip/tools/pr.py (a program of this repo over the kit's print.py).
namespace Go.Proofs.TrydX.X
open Go.RowKit Go.Proofs.YtidnopmjhhmedaaDoorW.PrintWords Go.Proofs.YtidnopmjhhmedaaDoorW.PrintLast Go.Proofs.YtidnopmjhhmedaaDoorW.PrintMore
attribute [local go_sem] max2_int min2_int max_two min_two max_three min_three max_four min_four   -- for this text's walks alone
set_option linter.unusedVariables false
set_option linter.unusedSimpArgs false

/-! ### remontoirlaw04_rule: function 53 -/
def remontoirlaw04_rule.f  : Option (Int × Int × Int × Int × Int) := (remontoirref00_To.f (-1) 2).bind fun bt649 => (some (10, 5, 4, bt649.1, bt649.2))
set_option maxHeartbeats 8000000 in
set_option maxRecDepth 100000 in
theorem remontoirlaw04_rule.calls  (r1 : Int) (r2 : Int) (r3 : Int) (r4 : Int) (r5 : Int) (w : World) (h : remontoirlaw04_rule.f  = some (r1, r2, r3, r4, r5)) :
    Calls Tryd.prog 53 #[] w fun e w' => e = .returned (.agg #[.int .i64 r1, .int .i64 r2, .int .i64 r3, .int .i64 r4, .int .i64 r5]) ∧ Below w.heap.size w w' := by
  have hu25 := Tryd.underlying25
  have HB := Aside0.mk (Below.refl w.heap.size w)
  have H : ((remontoirref00_To.f (-1) 2).bind fun bt649 => (some (10, 5, 4, bt649.1, bt649.2))) = some (r1, r2, r3, r4, r5) := h
  clear h
  replace H := Option.bind_eq_some_iff.mp H
  obtain ⟨⟨t649, t650⟩, A10, H⟩ := H
  replace H : (some (10, 5, 4, t649, t650)) = some (r1, r2, r3, r4, r5) := H
  have A1 := Aside0.mk A10
  clear A10
  simp only [Option.some.injEq, Prod.mk.injEq] at H
  obtain ⟨rfl, rfl, rfl, rfl, rfl⟩ := H
  go_enter Tryd.func53, Tryd.ntmps53
  go_wp2_with (first | ((with_reducible refine gate_dst (N := 0) rfl ?_); refine box_event ?hg (N := 0) ?hd (cs := #[.int .i64 0, .int .i64 0, .int .i64 0, .int .i64 0, .int .i64 0]) (t := 25) ?hr ?_; (case hd => rfl); (case hg => rfl); (case hr => first | (go_simp; done) | (go_simp; rfl)); intro gb648 hg w2 hbox hb; have n0_ := Aside0.mk (below_step (by repeat (first | (with_reducible first | exact HB.out | apply below_alloc | apply pw_below_drewN | apply below_drew1) | exact HB.out)) hb); have n1_ := Aside0.mk (hbox); have n2_ := Aside0.mk ((by rw [hg]; exact (below_size (by repeat (first | (with_reducible first | exact HB.out | apply below_alloc | apply pw_below_drewN | apply below_drew1) | exact HB.out))) : w.heap.size ≤ gb648)); have n3_ := Aside0.mk ((by rw [hg]; exact (below_size (by repeat (first | (with_reducible first | exact HB.out | apply below_alloc | apply pw_below_drewN | apply below_drew1) | exact HB.out))) : w.heap.size ≤ gb648)); clear HB; have HB := n0_; have BK648 := n1_; have GW648 := n2_; have GE648 := n3_; clear n0_ n1_ n2_ n3_; clear hb hbox hg) | ((with_reducible refine gate_callee (f := 49) rfl ?_); refine goesL_ (some 1) rfl rfl Tryd.func49 (by kernel_rfl) rfl #[.int .i64 (-1), .int .i64 2] rfl (by (try simp only [List.map_toArray, List.map_cons, List.map_nil]); first | done | rfl | (simp only [List.length_drop, List.length_take]; rfl)) ?_; (with_reducible refine (remontoirref00_To.calls (-1) 2 t649 t650 _ A1.out).mono ?_); rintro e w3 ⟨rfl, hb⟩; refine ⟨_, rfl, ?_⟩; have n0_ := Aside0.mk (blk_below (g := gb648) (o := .cells #[.int .i64 0, .int .i64 0, .int .i64 0, .int .i64 0, .int .i64 0] 25 (0, 0)) (by (with_reducible repeat (first | refine blk_drewN ?_ _ | refine blk_drew ?_ | refine blk_alloc ?_ _)); exact BK648.out) hb); have n1_ := Aside0.mk (below_step (by repeat (first | (with_reducible first | exact HB.out | apply below_alloc | apply pw_below_drewN | apply below_drew1 | refine below_set ?_ GE648.out) | exact HB.out)) hb); clear BK648; clear HB; have BK648 := n0_; have HB := n1_; clear n0_ n1_; (try clear hb); (try clear hb2); (try clear hk); (try clear hi); have hcz4_0 : w3.cell? ⟨gb648, 0, none⟩ = some (.int .i64 0) := (blk_cell BK648.out 0).trans rfl; have hcz4_1 : w3.cell? ⟨gb648, 1, none⟩ = some (.int .i64 0) := (blk_cell BK648.out 1).trans rfl; have hcz4_2 : w3.cell? ⟨gb648, 2, none⟩ = some (.int .i64 0) := (blk_cell BK648.out 2).trans rfl; have hcz4_3 : w3.cell? ⟨gb648, 3, none⟩ = some (.int .i64 0) := (blk_cell BK648.out 3).trans rfl; have hcz4_4 : w3.cell? ⟨gb648, 4, none⟩ = some (.int .i64 0) := (blk_cell BK648.out 4).trans rfl; have hfz4_0 := blk_frozen BK648.out 0; have hfz4_1 := blk_frozen BK648.out 1; have hfz4_2 := blk_frozen BK648.out 2; have hfz4_3 := blk_frozen BK648.out 3; have hfz4_4 := blk_frozen BK648.out 4))
  refine bodyPost_ret (results_cell_row rfl _ _ gb648 25 #[.int .i64 10, .int .i64 5, .int .i64 4, .int .i64 t649, .int .i64 t650] (0, 0) _ rfl (by (with_reducible repeat (first | refine blk_drewN ?_ _ | refine blk_drew ?_ | refine blk_alloc ?_ _)); refine blk_put (cs := #[.int .i64 10, .int .i64 5, .int .i64 4, .int .i64 t649, .int .i64 0]) ?_ 4 _ rfl; (with_reducible repeat (first | refine blk_drewN ?_ _ | refine blk_drew ?_ | refine blk_alloc ?_ _)); refine blk_put (cs := #[.int .i64 10, .int .i64 5, .int .i64 4, .int .i64 0, .int .i64 0]) ?_ 3 _ rfl; (with_reducible repeat (first | refine blk_drewN ?_ _ | refine blk_drew ?_ | refine blk_alloc ?_ _)); refine blk_put (cs := #[.int .i64 10, .int .i64 5, .int .i64 0, .int .i64 0, .int .i64 0]) ?_ 2 _ rfl; (with_reducible repeat (first | refine blk_drewN ?_ _ | refine blk_drew ?_ | refine blk_alloc ?_ _)); refine blk_put (cs := #[.int .i64 10, .int .i64 0, .int .i64 0, .int .i64 0, .int .i64 0]) ?_ 1 _ rfl; (with_reducible repeat (first | refine blk_drewN ?_ _ | refine blk_drew ?_ | refine blk_alloc ?_ _)); refine blk_put (cs := #[.int .i64 0, .int .i64 0, .int .i64 0, .int .i64 0, .int .i64 0]) ?_ 0 _ rfl; (with_reducible repeat (first | refine blk_drewN ?_ _ | refine blk_drew ?_ | refine blk_alloc ?_ _)); exact BK648.out) Tryd.underlying25 rfl (by kernel_rfl)) rfl ?_
  exact ⟨by first | rfl | (simp [errW_none, errW_some] <;> rfl) | (simp [*, errW_none, errW_some] <;> rfl), by repeat (first | (with_reducible first | exact HB.out | apply below_alloc | apply pw_below_drewN | apply below_drew1 | refine below_set ?_ GE648.out) | exact HB.out)⟩

end Go.Proofs.TrydX.X
end

section
-- Written by wip/tools/pr.py (a program of this repo over the kit's print.py).
namespace Go.Proofs.TrydX.X
open Go.RowKit Go.Proofs.YtidnopmjhhmedaaDoorW.PrintWords Go.Proofs.YtidnopmjhhmedaaDoorW.PrintLast Go.Proofs.YtidnopmjhhmedaaDoorW.PrintMore
attribute [local go_sem] max2_int min2_int max_two min_two max_three min_three max_four min_four   -- for this text's walks alone
set_option linter.unusedVariables false
set_option linter.unusedSimpArgs false

/-! ### remontoirlaw04_book: function 52 -/
def remontoirlaw04_book.f (l0 : List (S71)) : Option (Int × Int × Int × Int × Int × Int × List Int × (List (S71))) := (remontoirlaw04_rule.f).bind fun bt652 => ((remontoirref00_To.f 18 22).bind fun bt660 => ((remontoirref00_To.f (-3) 4).bind fun bt662 => ((some (([(⟨0, (⟨bt660.1, bt660.2⟩ : S23)⟩ : S71), (⟨6, (⟨bt662.1, bt662.2⟩ : S23)⟩ : S71)] : List (S71)) : List (S71))).bind fun y664 => (if y664.length + l0.length < 5864062014805 then (some (bt652.1, bt652.2.1, bt652.2.2.1, bt652.2.2.2.1, bt652.2.2.2.2, 10, (([(-4), (-5), (-4)] : List Int)), (y664 ++ l0))) else (none)))))
set_option maxHeartbeats 8000000 in
set_option maxRecDepth 100000 in
theorem remontoirlaw04_book.calls (A0 : Option Addr) (c0 : Nat) (l0 : List (S71)) (r1 : Int) (r2 : Int) (r3 : Int) (r4 : Int) (r5 : Int) (r6 : Int) (r7 : List Int) (r8 : List (S71)) (w : World) (hr0 : Kd.C k71 w A0 l0.length l0) (hc0 : l0.length ≤ c0) (h : remontoirlaw04_book.f l0 = some (r1, r2, r3, r4, r5, r6, r7, r8)) :
    Calls Tryd.prog 52 #[.slice A0 l0.length c0] w fun e w' => ∃ v6_ v7_ : Value, e = .returned (.agg #[.int .i64 r1, .int .i64 r2, .int .i64 r3, .int .i64 r4, .int .i64 r5, .int .i64 r6, v6_, v7_]) ∧ Kd.R (Kd.int .i64) 3 w' w.heap.size (fun _ => True) v6_ r7 ∧ Kd.R k71 71 w' w.heap.size (fun _ => True) v7_ r8 ∧ Below w.heap.size w w' := by
  have hu44 := Tryd.underlying44
  have hu71 := Tryd.underlying71
  have HR0 := Aside0.mk hr0
  have HC0 := Aside0.mk hc0
  clear hr0 hc0
  have HB := Aside0.mk (Below.refl w.heap.size w)
  have H : ((remontoirlaw04_rule.f).bind fun bt652 => ((remontoirref00_To.f 18 22).bind fun bt660 => ((remontoirref00_To.f (-3) 4).bind fun bt662 => ((some (([(⟨0, (⟨bt660.1, bt660.2⟩ : S23)⟩ : S71), (⟨6, (⟨bt662.1, bt662.2⟩ : S23)⟩ : S71)] : List (S71)) : List (S71))).bind fun y664 => (if y664.length + l0.length < 5864062014805 then (some (bt652.1, bt652.2.1, bt652.2.2.1, bt652.2.2.2.1, bt652.2.2.2.2, 10, (([(-4), (-5), (-4)] : List Int)), (y664 ++ l0))) else (none)))))) = some (r1, r2, r3, r4, r5, r6, r7, r8) := h
  clear h
  replace H := Option.bind_eq_some_iff.mp H
  obtain ⟨⟨t652, t653, t654, t655, t656⟩, A20, H⟩ := H
  replace H : ((remontoirref00_To.f 18 22).bind fun bt660 => ((remontoirref00_To.f (-3) 4).bind fun bt662 => ((some (([(⟨0, (⟨bt660.1, bt660.2⟩ : S23)⟩ : S71), (⟨6, (⟨bt662.1, bt662.2⟩ : S23)⟩ : S71)] : List (S71)) : List (S71))).bind fun y664 => (if y664.length + l0.length < 5864062014805 then (some (t652, t653, t654, t655, t656, 10, (([(-4), (-5), (-4)] : List Int)), (y664 ++ l0))) else (none))))) = some (r1, r2, r3, r4, r5, r6, r7, r8) := H
  have A2 := Aside0.mk A20
  clear A20
  obtain ⟨y657, hy657⟩ : ∃ y_ : List Int, y_ = (([(-4), (-5), (-4)] : List Int)) := ⟨_, rfl⟩
  replace H : ((remontoirref00_To.f 18 22).bind fun bt660 => ((remontoirref00_To.f (-3) 4).bind fun bt662 => ((some (([(⟨0, (⟨bt660.1, bt660.2⟩ : S23)⟩ : S71), (⟨6, (⟨bt662.1, bt662.2⟩ : S23)⟩ : S71)] : List (S71)) : List (S71))).bind fun y664 => (if y664.length + l0.length < 5864062014805 then (some (t652, t653, t654, t655, t656, 10, y657, (y664 ++ l0))) else (none))))) = some (r1, r2, r3, r4, r5, r6, r7, r8) := by first | (rw [hy657]; with_reducible exact H) | (have H2_ := (Option.bind_some _ _).symm.trans H; rw [hy657]; with_reducible exact H2_) | (have H2_ := (Option.bind_some _ _).symm.trans H; with_reducible exact H2_) | with_reducible exact H | (rw [hy657]; exact H) | exact H
  have Ny657 := Aside0.mk hy657
  clear hy657
  replace H := Option.bind_eq_some_iff.mp H
  obtain ⟨⟨t660, t661⟩, A30, H⟩ := H
  replace H : ((remontoirref00_To.f (-3) 4).bind fun bt662 => ((some (([(⟨0, (⟨t660, t661⟩ : S23)⟩ : S71), (⟨6, (⟨bt662.1, bt662.2⟩ : S23)⟩ : S71)] : List (S71)) : List (S71))).bind fun y664 => (if y664.length + l0.length < 5864062014805 then (some (t652, t653, t654, t655, t656, 10, y657, (y664 ++ l0))) else (none)))) = some (r1, r2, r3, r4, r5, r6, r7, r8) := H
  have A3 := Aside0.mk A30
  clear A30
  replace H := Option.bind_eq_some_iff.mp H
  obtain ⟨⟨t662, t663⟩, A40, H⟩ := H
  replace H : ((some (([(⟨0, (⟨t660, t661⟩ : S23)⟩ : S71), (⟨6, (⟨t662, t663⟩ : S23)⟩ : S71)] : List (S71)) : List (S71))).bind fun y664 => (if y664.length + l0.length < 5864062014805 then (some (t652, t653, t654, t655, t656, 10, y657, (y664 ++ l0))) else (none))) = some (r1, r2, r3, r4, r5, r6, r7, r8) := H
  have A4 := Aside0.mk A40
  clear A40
  obtain ⟨y664, hy664⟩ : ∃ y_ : List (S71), y_ = (([(⟨0, (⟨t660, t661⟩ : S23)⟩ : S71), (⟨6, (⟨t662, t663⟩ : S23)⟩ : S71)] : List (S71))) := ⟨_, rfl⟩
  replace H : (if y664.length + l0.length < 5864062014805 then (some (t652, t653, t654, t655, t656, 10, y657, (y664 ++ l0))) else (none)) = some (r1, r2, r3, r4, r5, r6, r7, r8) := by first | (rw [hy664]; with_reducible exact H) | (have H2_ := (Option.bind_some _ _).symm.trans H; rw [hy664]; with_reducible exact H2_) | (have H2_ := (Option.bind_some _ _).symm.trans H; with_reducible exact H2_) | with_reducible exact H | (rw [hy664]; exact H) | exact H
  have Ny664 := Aside0.mk hy664
  clear hy664
  by_cases c5 : y664.length + l0.length < 5864062014805
  · rw [if_pos c5] at H
    have LMc5 := Aside0.mk c5
    clear c5
    obtain ⟨y668, hy668⟩ : ∃ y_ : List (S71), y_ = (y664 ++ l0) := ⟨_, rfl⟩
    replace H : (some (t652, t653, t654, t655, t656, 10, y657, y668)) = some (r1, r2, r3, r4, r5, r6, r7, r8) := by first | (rw [hy668]; with_reducible exact H) | (have H2_ := (Option.bind_some _ _).symm.trans H; rw [hy668]; with_reducible exact H2_) | (have H2_ := (Option.bind_some _ _).symm.trans H; with_reducible exact H2_) | with_reducible exact H | (rw [hy668]; exact H) | exact H
    have Ny668 := Aside0.mk hy668
    clear hy668
    simp only [Option.some.injEq, Prod.mk.injEq] at H
    obtain ⟨rfl, rfl, rfl, rfl, rfl, rfl, rfl, rfl⟩ := H
    go_enter Tryd.func52, Tryd.ntmps52
    go_wp2_with (first | ((with_reducible refine gate_dst (N := 2) rfl ?_); refine box_event ?hg (N := 2) ?hd (cs := #[.int .i64 0, .int .i64 0, .int .i64 0, .int .i64 0, .int .i64 0, .int .i64 0, .slice none 0 0, .slice none 0 0]) (t := 44) ?hr ?_; (case hd => rfl); (case hg => rfl); (case hr => first | (go_simp; done) | (go_simp; rfl)); intro gb651 hg w6 hbox hb; have n0_ := Aside0.mk (below_step (by repeat (first | (with_reducible first | exact HB.out | apply below_alloc | apply pw_below_drewN | apply below_drew1) | exact HB.out)) hb); have n1_ := Aside0.mk (hbox); have n2_ := Aside0.mk ((by rw [hg]; exact (below_size (by repeat (first | (with_reducible first | exact HB.out | apply below_alloc | apply pw_below_drewN | apply below_drew1) | exact HB.out))) : w.heap.size ≤ gb651)); have n3_ := Aside0.mk ((by rw [hg]; exact (below_size (by repeat (first | (with_reducible first | exact HB.out | apply below_alloc | apply pw_below_drewN | apply below_drew1) | exact HB.out))) : w.heap.size ≤ gb651)); clear HB; have HB := n0_; have BK651 := n1_; have GW651 := n2_; have GE651 := n3_; clear n0_ n1_ n2_ n3_; clear hb hbox hg) | ((with_reducible refine gate_callee (f := 53) rfl ?_); refine goesL_ (some 4) rfl rfl Tryd.func53 (by kernel_rfl) rfl #[] rfl (by (try simp only [List.map_toArray, List.map_cons, List.map_nil]); first | done | rfl | (simp only [List.length_drop, List.length_take]; rfl)) ?_; (with_reducible refine (remontoirlaw04_rule.calls  t652 t653 t654 t655 t656 _ A2.out).mono ?_); rintro e w7 ⟨rfl, hb⟩; refine ⟨_, rfl, ?_⟩; have n0_ := Aside0.mk (blk_below (g := gb651) (o := .cells #[.int .i64 0, .int .i64 0, .int .i64 0, .int .i64 0, .int .i64 0, .int .i64 0, .slice none 0 0, .slice none 0 0] 44 (0, 0)) (by (with_reducible repeat (first | refine blk_drewN ?_ _ | refine blk_drew ?_ | refine blk_alloc ?_ _)); exact BK651.out) hb); have n1_ := Aside0.mk (below_step (by repeat (first | (with_reducible first | exact HB.out | apply below_alloc | apply pw_below_drewN | apply below_drew1 | refine below_set ?_ GE651.out) | exact HB.out)) hb); clear BK651; clear HB; have BK651 := n0_; have HB := n1_; clear n0_ n1_; (try clear hb); (try clear hb2); (try clear hk); (try clear hi)) | ((with_reducible refine gate_dst (N := 5) rfl ?_); refine Kd.R_lit (Kd.int .i64) _ 3 ?hg (N := 5) ?hd (xs := ([(-4), (-5), (-4)] : List Int)) (inner := [.int .i64 (-4), .int .i64 (-5), .int .i64 (-4)]) (ok := fun _ => True) (okp := fun _ => True) ?hr ?hp (fun _ hk => hk) trivial (Below.refl _ _) (Nat.le_refl _) (by simp) ?_; (case hd => rfl); (case hg => rfl); (case hr => first | (go_simp; done) | (go_simp; rfl)); (case hp => exact (Reps.one (show Kd.M (Kd.int .i64) _ _ _ (-4) [.int .i64 (-4)] from rfl) (Reps.one (show Kd.M (Kd.int .i64) _ _ _ (-5) [.int .i64 (-5)] from rfl) (Reps.one (show Kd.M (Kd.int .i64) _ _ _ (-4) [.int .i64 (-4)] from rfl) (Reps.none _ _))))); intro v658 w8 ho9 hb hg_ hnew_; clear hg_ hnew_; (first | rw [← Ny657.out] at ho9 | (simp only [Int.reduceToNat] at ho9; rw [← Ny657.out] at ho9)); have n0_ := Aside0.mk (Kd.R_lower ho9 (below_size (by repeat (first | (with_reducible first | exact HB.out | apply below_alloc | apply pw_below_drewN | apply below_drew1 | refine below_set ?_ GE651.out) | exact HB.out)))); have n1_ := Aside0.mk (blk_below (g := gb651) (o := .cells #[.int .i64 0, .int .i64 0, .int .i64 0, .int .i64 0, .int .i64 0, .int .i64 0, .slice none 0 0, .slice none 0 0] 44 (0, 0)) (by (with_reducible repeat (first | refine blk_drewN ?_ _ | refine blk_drew ?_ | refine blk_alloc ?_ _)); exact BK651.out) hb); have n2_ := Aside0.mk (below_step (by repeat (first | (with_reducible first | exact HB.out | apply below_alloc | apply pw_below_drewN | apply below_drew1 | refine below_set ?_ GE651.out) | exact HB.out)) hb); clear BK651; clear HB; have HO659 := n0_; have BK651 := n1_; have HB := n2_; clear n0_ n1_ n2_; clear hb ho9) | ((with_reducible refine gate_callee (f := 49) rfl ?_); refine goesL_ (some 6) rfl rfl Tryd.func49 (by kernel_rfl) rfl #[.int .i64 18, .int .i64 22] rfl (by (try simp only [List.map_toArray, List.map_cons, List.map_nil]); first | done | rfl | (simp only [List.length_drop, List.length_take]; rfl)) ?_; (with_reducible refine (remontoirref00_To.calls 18 22 t660 t661 _ A3.out).mono ?_); rintro e w10 ⟨rfl, hb⟩; refine ⟨_, rfl, ?_⟩; have n0_ := Aside0.mk (Kd.R_below (by (with_reducible repeat (first | apply Kd.R_alloc | apply Kd.R_drewN | apply Kd.R_drew)); exact HO659.out) hb); have n1_ := Aside0.mk (blk_below (g := gb651) (o := .cells #[.int .i64 0, .int .i64 0, .int .i64 0, .int .i64 0, .int .i64 0, .int .i64 0, .slice none 0 0, .slice none 0 0] 44 (0, 0)) (by (with_reducible repeat (first | refine blk_drewN ?_ _ | refine blk_drew ?_ | refine blk_alloc ?_ _)); exact BK651.out) hb); have n2_ := Aside0.mk (below_step (by repeat (first | (with_reducible first | exact HB.out | apply below_alloc | apply pw_below_drewN | apply below_drew1 | refine below_set ?_ GE651.out) | exact HB.out)) hb); clear HO659; clear BK651; clear HB; have HO659 := n0_; have BK651 := n1_; have HB := n2_; clear n0_ n1_ n2_; (try clear hb); (try clear hb2); (try clear hk); (try clear hi)) | ((with_reducible refine gate_callee (f := 49) rfl ?_); refine goesL_ (some 8) rfl rfl Tryd.func49 (by kernel_rfl) rfl #[.int .i64 (-3), .int .i64 4] rfl (by (try simp only [List.map_toArray, List.map_cons, List.map_nil]); first | done | rfl | (simp only [List.length_drop, List.length_take]; rfl)) ?_; (with_reducible refine (remontoirref00_To.calls (-3) 4 t662 t663 _ A4.out).mono ?_); rintro e w11 ⟨rfl, hb⟩; refine ⟨_, rfl, ?_⟩; have n0_ := Aside0.mk (Kd.R_below (by (with_reducible repeat (first | apply Kd.R_alloc | apply Kd.R_drewN | apply Kd.R_drew)); exact HO659.out) hb); have n1_ := Aside0.mk (blk_below (g := gb651) (o := .cells #[.int .i64 0, .int .i64 0, .int .i64 0, .int .i64 0, .int .i64 0, .int .i64 0, .slice none 0 0, .slice none 0 0] 44 (0, 0)) (by (with_reducible repeat (first | refine blk_drewN ?_ _ | refine blk_drew ?_ | refine blk_alloc ?_ _)); exact BK651.out) hb); have n2_ := Aside0.mk (below_step (by repeat (first | (with_reducible first | exact HB.out | apply below_alloc | apply pw_below_drewN | apply below_drew1 | refine below_set ?_ GE651.out) | exact HB.out)) hb); clear HO659; clear BK651; clear HB; have HO659 := n0_; have BK651 := n1_; have HB := n2_; clear n0_ n1_ n2_; (try clear hb); (try clear hb2); (try clear hk); (try clear hi)) | ((with_reducible refine gate_dst (N := 10) rfl ?_); refine Kd.R_lit k71 _ 71 ?hg (N := 10) ?hd (xs := ([(⟨0, (⟨t660, t661⟩ : S23)⟩ : S71), (⟨6, (⟨t662, t663⟩ : S23)⟩ : S71)] : List (S71))) (inner := [.int .i64 0, .int .i64 t660, .int .i64 t661, .int .i64 6, .int .i64 t662, .int .i64 t663]) (ok := fun _ => True) (okp := fun _ => True) ?hr ?hp (fun _ hk => hk) trivial (Below.refl _ _) (Nat.le_refl _) (by simp) ?_; (case hd => rfl); (case hg => rfl); (case hr => first | (go_simp; done) | (go_simp; rfl)); (case hp => exact (Reps.c3 (show Kd.M k71 _ _ _ (⟨0, (⟨t660, t661⟩ : S23)⟩ : S71) [.int .i64 0, .int .i64 t660, .int .i64 t661] from (k71_mkM _ _ _ (⟨0, (⟨t660, t661⟩ : S23)⟩ : S71) )) (Reps.c3 (show Kd.M k71 _ _ _ (⟨6, (⟨t662, t663⟩ : S23)⟩ : S71) [.int .i64 6, .int .i64 t662, .int .i64 t663] from (k71_mkM _ _ _ (⟨6, (⟨t662, t663⟩ : S23)⟩ : S71) )) (Reps.none _ _)))); intro v665 w12 ho13 hb hg_ hnew_; clear hg_ hnew_; (first | rw [← Ny664.out] at ho13 | (simp only [Int.reduceToNat] at ho13; rw [← Ny664.out] at ho13)); have n0_ := Aside0.mk (Kd.R_below (by (with_reducible repeat (first | apply Kd.R_alloc | apply Kd.R_drewN | apply Kd.R_drew)); exact HO659.out) hb); have n1_ := Aside0.mk (Kd.R_lower ho13 (below_size (by repeat (first | (with_reducible first | exact HB.out | apply below_alloc | apply pw_below_drewN | apply below_drew1 | refine below_set ?_ GE651.out) | exact HB.out)))); have n2_ := Aside0.mk (blk_below (g := gb651) (o := .cells #[.int .i64 0, .int .i64 0, .int .i64 0, .int .i64 0, .int .i64 0, .int .i64 0, .slice none 0 0, .slice none 0 0] 44 (0, 0)) (by (with_reducible repeat (first | refine blk_drewN ?_ _ | refine blk_drew ?_ | refine blk_alloc ?_ _)); exact BK651.out) hb); have n3_ := Aside0.mk (below_step (by repeat (first | (with_reducible first | exact HB.out | apply below_alloc | apply pw_below_drewN | apply below_drew1 | refine below_set ?_ GE651.out) | exact HB.out)) hb); clear HO659; clear BK651; clear HB; have HO659 := n0_; have HO666 := n1_; have BK651 := n2_; have HB := n3_; clear n0_ n1_ n2_ n3_; clear hb ho13; obtain ⟨Ao14, co14, eo14⟩ := Kd.R_slice HO666.out; subst eo14; obtain ⟨Ao15, co15, eo15⟩ := Kd.R_slice HO659.out; subst eo15) | ((with_reducible refine gate_dst (N := 3) rfl ?_); refine box_event ?hg (N := 3) ?hd (cs := #[.int .i64 0, .int .i64 0, .int .i64 0, .int .i64 0, .int .i64 0, .int .i64 0, .slice none 0 0, .slice none 0 0]) (t := 44) ?hr ?_; (case hd => rfl); (case hg => rfl); (case hr => first | (go_simp; done) | (go_simp; rfl)); intro gb667 hg w16 hbox hb; have n0_ := Aside0.mk (Kd.R_below (by (with_reducible repeat (first | apply Kd.R_alloc | apply Kd.R_drewN | apply Kd.R_drew)); exact HO659.out) hb); have n1_ := Aside0.mk (Kd.R_below (by (with_reducible repeat (first | apply Kd.R_alloc | apply Kd.R_drewN | apply Kd.R_drew)); exact HO666.out) hb); have n2_ := Aside0.mk (blk_below (g := gb651) (o := .cells #[.int .i64 0, .int .i64 0, .int .i64 0, .int .i64 0, .int .i64 0, .int .i64 0, .slice none 0 0, .slice none 0 0] 44 (0, 0)) (by (with_reducible repeat (first | refine blk_drewN ?_ _ | refine blk_drew ?_ | refine blk_alloc ?_ _)); exact BK651.out) hb); have n3_ := Aside0.mk (below_step (by repeat (first | (with_reducible first | exact HB.out | apply below_alloc | apply pw_below_drewN | apply below_drew1 | refine below_set ?_ GE651.out) | exact HB.out)) hb); have n4_ := Aside0.mk (hbox); have n5_ := Aside0.mk ((by rw [hg]; exact (below_size (by repeat (first | (with_reducible first | exact HB.out | apply below_alloc | apply pw_below_drewN | apply below_drew1 | refine below_set ?_ GE651.out) | exact HB.out))) : w.heap.size ≤ gb667)); have n6_ := Aside0.mk ((by rw [hg]; exact (below_size (by repeat (first | (with_reducible first | exact HB.out | apply below_alloc | apply pw_below_drewN | apply below_drew1 | refine below_set ?_ GE651.out) | exact HB.out))) : w.heap.size ≤ gb667)); have n7_ := Aside0.mk ((by rw [hg]; exact Nat.ne_of_lt (blk_lt (g := gb651) (o := .cells #[.int .i64 0, .int .i64 0, .int .i64 0, .int .i64 0, .int .i64 0, .int .i64 0, .slice none 0 0, .slice none 0 0] 44 (0, 0)) (by (with_reducible repeat (first | refine blk_drewN ?_ _ | refine blk_drew ?_ | refine blk_alloc ?_ _)); exact BK651.out)) : gb651 ≠ gb667)); have n8_ := Aside0.mk ((by rw [hg]; exact Nat.ne_of_gt (blk_lt (g := gb651) (o := .cells #[.int .i64 0, .int .i64 0, .int .i64 0, .int .i64 0, .int .i64 0, .int .i64 0, .slice none 0 0, .slice none 0 0] 44 (0, 0)) (by (with_reducible repeat (first | refine blk_drewN ?_ _ | refine blk_drew ?_ | refine blk_alloc ?_ _)); exact BK651.out)) : gb667 ≠ gb651)); clear HO659; clear HO666; clear BK651; clear HB; have HO659 := n0_; have HO666 := n1_; have BK651 := n2_; have HB := n3_; have BK667 := n4_; have GW667 := n5_; have GE667 := n6_; have NB651_667 := n7_; have NB667_651 := n8_; clear n0_ n1_ n2_ n3_ n4_ n5_ n6_ n7_ n8_; clear hb hbox hg; have hnb17 := NB667_651.out; have hnc17 := NB651_667.out; have hcz18_0 : w16.cell? ⟨gb667, 0, none⟩ = some (.int .i64 0) := (blk_cell BK667.out 0).trans rfl; have hcz18_1 : w16.cell? ⟨gb667, 1, none⟩ = some (.int .i64 0) := (blk_cell BK667.out 1).trans rfl; have hcz18_2 : w16.cell? ⟨gb667, 2, none⟩ = some (.int .i64 0) := (blk_cell BK667.out 2).trans rfl; have hcz18_3 : w16.cell? ⟨gb667, 3, none⟩ = some (.int .i64 0) := (blk_cell BK667.out 3).trans rfl; have hcz18_4 : w16.cell? ⟨gb667, 4, none⟩ = some (.int .i64 0) := (blk_cell BK667.out 4).trans rfl; have hcz18_5 : w16.cell? ⟨gb667, 5, none⟩ = some (.int .i64 0) := (blk_cell BK667.out 5).trans rfl; have hcz18_6 : w16.cell? ⟨gb667, 6, none⟩ = some (.slice none 0 0) := (blk_cell BK667.out 6).trans rfl; have hcz18_7 : w16.cell? ⟨gb667, 7, none⟩ = some (.slice none 0 0) := (blk_cell BK667.out 7).trans rfl; have hfz18_0 := blk_frozen BK667.out 0; have hfz18_1 := blk_frozen BK667.out 1; have hfz18_2 := blk_frozen BK667.out 2; have hfz18_3 := blk_frozen BK667.out 3; have hfz18_4 := blk_frozen BK667.out 4; have hfz18_5 := blk_frozen BK667.out 5; have hfz18_6 := blk_frozen BK667.out 6; have hfz18_7 := blk_frozen BK667.out 7) | ((with_reducible refine gate_builtin (b := .append) (xs := #[.tmp 13, .tmp 14]) rfl ?_); at_builtin; refine Kd.R_append_rows k71 (w0 := w) w.heap.size rfl (.tmp 13) (.tmp 14) 42 71 (.agg #[(.int .i64 0), (.int .i64 0), (.int .i64 0)]) 24 rfl Tryd.underlying42 info71 rfl (by decide) (by omega) (.slice Ao14 y664.length co14) y664 l0 _ _ _ (fun _ => True) (fun _ => False) rfl rfl ?aO ?aR (fun _ _ h => h) (fun _ h => h.elim) ?aF ?aB ?aS ?aL ?_; (case aR => exact Kd.C_below HR0.out (by repeat (first | (with_reducible first | exact HB.out | apply below_alloc | apply pw_below_drewN | apply below_drew1 | refine below_set ?_ GE651.out | refine below_set ?_ GE667.out) | exact HB.out))); (case aB => exact (by repeat (first | (with_reducible first | exact HB.out | apply below_alloc | apply pw_below_drewN | apply below_drew1 | refine below_set ?_ GE651.out | refine below_set ?_ GE667.out) | exact HB.out))); (case aF => exact (fun _ _ => trivial)); (case aO => exact (by (with_reducible repeat (first | apply Kd.R_alloc | apply Kd.R_drewN | apply Kd.R_drew)); exact Kd.R_mono (Kd.R_far (p := ⟨gb667, 7, none⟩) (Kd.R_far (p := ⟨gb667, 6, none⟩) (Kd.R_far (p := ⟨gb667, 5, none⟩) (Kd.R_far (p := ⟨gb667, 4, none⟩) (Kd.R_far (p := ⟨gb667, 3, none⟩) (Kd.R_far (p := ⟨gb667, 2, none⟩) (Kd.R_far (p := ⟨gb667, 1, none⟩) (Kd.R_far (p := ⟨gb667, 0, none⟩) (Kd.R_types HO666.out BK667.out (by decide)) (fun _ hk => hk.2) (.int .i64 t652)) (fun _ hk => hk.2) (.int .i64 t653)) (fun _ hk => hk.2) (.int .i64 t654)) (fun _ hk => hk.2) (.int .i64 t655)) (fun _ hk => hk.2) (.int .i64 t656)) (fun _ hk => hk.2) (.int .i64 10)) (fun _ hk => hk.2) (.slice Ao15 y657.length co15)) (fun _ hk => hk.2) (.slice Ao14 y664.length co14)) (fun _ hk => trivial))); (case aS => exact (below_size (by repeat (first | (with_reducible first | exact HB.out | apply below_alloc | apply pw_below_drewN | apply below_drew1 | refine below_set ?_ GE651.out | refine below_set ?_ GE667.out) | exact HB.out)))); (case aL => have := LMc5.out; omega); intro v669 w19 ho hb hg hat; rw [← Ny668.out] at ho; have n0_ := Aside0.mk (blk_grown (g := gb651) (o := .cells #[.int .i64 0, .int .i64 0, .int .i64 0, .int .i64 0, .int .i64 0, .int .i64 0, .slice none 0 0, .slice none 0 0] 44 (0, 0)) (by (with_reducible repeat (first | refine blk_drewN ?_ _ | refine blk_drew ?_ | refine blk_alloc ?_ _)); refine blk_far ?_ NB651_667.out _; (with_reducible repeat (first | refine blk_drewN ?_ _ | refine blk_drew ?_ | refine blk_alloc ?_ _)); refine blk_far ?_ NB651_667.out _; (with_reducible repeat (first | refine blk_drewN ?_ _ | refine blk_drew ?_ | refine blk_alloc ?_ _)); refine blk_far ?_ NB651_667.out _; (with_reducible repeat (first | refine blk_drewN ?_ _ | refine blk_drew ?_ | refine blk_alloc ?_ _)); refine blk_far ?_ NB651_667.out _; (with_reducible repeat (first | refine blk_drewN ?_ _ | refine blk_drew ?_ | refine blk_alloc ?_ _)); refine blk_far ?_ NB651_667.out _; (with_reducible repeat (first | refine blk_drewN ?_ _ | refine blk_drew ?_ | refine blk_alloc ?_ _)); refine blk_far ?_ NB651_667.out _; (with_reducible repeat (first | refine blk_drewN ?_ _ | refine blk_drew ?_ | refine blk_alloc ?_ _)); refine blk_far ?_ NB651_667.out _; (with_reducible repeat (first | refine blk_drewN ?_ _ | refine blk_drew ?_ | refine blk_alloc ?_ _)); refine blk_far ?_ NB651_667.out _; (with_reducible repeat (first | refine blk_drewN ?_ _ | refine blk_drew ?_ | refine blk_alloc ?_ _)); exact BK651.out) hg (Kd.R_ne HO666.out BK651.out (by decide))); have n1_ := Aside0.mk (Kd.R_over' (by (with_reducible repeat (first | apply Kd.R_alloc | apply Kd.R_drewN | apply Kd.R_drew)); exact (Kd.R_mono (Kd.R_far (p := ⟨gb667, 7, none⟩) (Kd.R_far (p := ⟨gb667, 6, none⟩) (Kd.R_far (p := ⟨gb667, 5, none⟩) (Kd.R_far (p := ⟨gb667, 4, none⟩) (Kd.R_far (p := ⟨gb667, 3, none⟩) (Kd.R_far (p := ⟨gb667, 2, none⟩) (Kd.R_far (p := ⟨gb667, 1, none⟩) (Kd.R_far (p := ⟨gb667, 0, none⟩) (Kd.R_types HO659.out BK667.out (by decide)) (fun _ hk => hk.2) (.int .i64 t652)) (fun _ hk => hk.2) (.int .i64 t653)) (fun _ hk => hk.2) (.int .i64 t654)) (fun _ hk => hk.2) (.int .i64 t655)) (fun _ hk => hk.2) (.int .i64 t656)) (fun _ hk => hk.2) (.int .i64 10)) (fun _ hk => hk.2) (.slice Ao15 y657.length co15)) (fun _ hk => hk.2) (.slice Ao14 y664.length co14)) (fun _ h_ => h_.1))) (Kd.R_typed (by (with_reducible repeat (first | apply Kd.R_alloc | apply Kd.R_drewN | apply Kd.R_drew)); exact (Kd.R_mono (Kd.R_far (p := ⟨gb667, 7, none⟩) (Kd.R_far (p := ⟨gb667, 6, none⟩) (Kd.R_far (p := ⟨gb667, 5, none⟩) (Kd.R_far (p := ⟨gb667, 4, none⟩) (Kd.R_far (p := ⟨gb667, 3, none⟩) (Kd.R_far (p := ⟨gb667, 2, none⟩) (Kd.R_far (p := ⟨gb667, 1, none⟩) (Kd.R_far (p := ⟨gb667, 0, none⟩) (Kd.R_types HO666.out BK667.out (by decide)) (fun _ hk => hk.2) (.int .i64 t652)) (fun _ hk => hk.2) (.int .i64 t653)) (fun _ hk => hk.2) (.int .i64 t654)) (fun _ hk => hk.2) (.int .i64 t655)) (fun _ hk => hk.2) (.int .i64 t656)) (fun _ hk => hk.2) (.int .i64 10)) (fun _ hk => hk.2) (.slice Ao15 y657.length co15)) (fun _ hk => hk.2) (.slice Ao14 y664.length co14)) (fun _ h_ => h_.1)))) (by decide) hg); have n2_ := Aside0.mk (blk_grown (g := gb667) (o := .cells #[.int .i64 t652, .int .i64 t653, .int .i64 t654, .int .i64 t655, .int .i64 t656, .int .i64 10, .slice Ao15 y657.length co15, .slice Ao14 y664.length co14] 44 (0, 0)) (by (with_reducible repeat (first | refine blk_drewN ?_ _ | refine blk_drew ?_ | refine blk_alloc ?_ _)); refine blk_put (cs := #[.int .i64 t652, .int .i64 t653, .int .i64 t654, .int .i64 t655, .int .i64 t656, .int .i64 10, .slice Ao15 y657.length co15, .slice none 0 0]) ?_ 7 _ rfl; (with_reducible repeat (first | refine blk_drewN ?_ _ | refine blk_drew ?_ | refine blk_alloc ?_ _)); refine blk_put (cs := #[.int .i64 t652, .int .i64 t653, .int .i64 t654, .int .i64 t655, .int .i64 t656, .int .i64 10, .slice none 0 0, .slice none 0 0]) ?_ 6 _ rfl; (with_reducible repeat (first | refine blk_drewN ?_ _ | refine blk_drew ?_ | refine blk_alloc ?_ _)); refine blk_put (cs := #[.int .i64 t652, .int .i64 t653, .int .i64 t654, .int .i64 t655, .int .i64 t656, .int .i64 0, .slice none 0 0, .slice none 0 0]) ?_ 5 _ rfl; (with_reducible repeat (first | refine blk_drewN ?_ _ | refine blk_drew ?_ | refine blk_alloc ?_ _)); refine blk_put (cs := #[.int .i64 t652, .int .i64 t653, .int .i64 t654, .int .i64 t655, .int .i64 0, .int .i64 0, .slice none 0 0, .slice none 0 0]) ?_ 4 _ rfl; (with_reducible repeat (first | refine blk_drewN ?_ _ | refine blk_drew ?_ | refine blk_alloc ?_ _)); refine blk_put (cs := #[.int .i64 t652, .int .i64 t653, .int .i64 t654, .int .i64 0, .int .i64 0, .int .i64 0, .slice none 0 0, .slice none 0 0]) ?_ 3 _ rfl; (with_reducible repeat (first | refine blk_drewN ?_ _ | refine blk_drew ?_ | refine blk_alloc ?_ _)); refine blk_put (cs := #[.int .i64 t652, .int .i64 t653, .int .i64 0, .int .i64 0, .int .i64 0, .int .i64 0, .slice none 0 0, .slice none 0 0]) ?_ 2 _ rfl; (with_reducible repeat (first | refine blk_drewN ?_ _ | refine blk_drew ?_ | refine blk_alloc ?_ _)); refine blk_put (cs := #[.int .i64 t652, .int .i64 0, .int .i64 0, .int .i64 0, .int .i64 0, .int .i64 0, .slice none 0 0, .slice none 0 0]) ?_ 1 _ rfl; (with_reducible repeat (first | refine blk_drewN ?_ _ | refine blk_drew ?_ | refine blk_alloc ?_ _)); refine blk_put (cs := #[.int .i64 0, .int .i64 0, .int .i64 0, .int .i64 0, .int .i64 0, .int .i64 0, .slice none 0 0, .slice none 0 0]) ?_ 0 _ rfl; (with_reducible repeat (first | refine blk_drewN ?_ _ | refine blk_drew ?_ | refine blk_alloc ?_ _)); exact BK667.out) hg (Kd.R_ne HO666.out BK667.out (by decide))); have n3_ := Aside0.mk (hb); have n4_ := Aside0.mk (ho); clear BK651; clear HO659; clear BK667; clear HB; clear HO666; have BK651 := n0_; have HO659 := n1_; have BK667 := n2_; have HB := n3_; have HO670 := n4_; clear n0_ n1_ n2_ n3_ n4_; clear ho hb hg hat; obtain ⟨Ao20, co20, eo20⟩ := Kd.R_slice HO670.out; subst eo20; have hcz21_0 : w19.cell? ⟨gb667, 0, none⟩ = some (.int .i64 t652) := (blk_cell BK667.out 0).trans rfl; have hcz21_1 : w19.cell? ⟨gb667, 1, none⟩ = some (.int .i64 t653) := (blk_cell BK667.out 1).trans rfl; have hcz21_2 : w19.cell? ⟨gb667, 2, none⟩ = some (.int .i64 t654) := (blk_cell BK667.out 2).trans rfl; have hcz21_3 : w19.cell? ⟨gb667, 3, none⟩ = some (.int .i64 t655) := (blk_cell BK667.out 3).trans rfl; have hcz21_4 : w19.cell? ⟨gb667, 4, none⟩ = some (.int .i64 t656) := (blk_cell BK667.out 4).trans rfl; have hcz21_5 : w19.cell? ⟨gb667, 5, none⟩ = some (.int .i64 10) := (blk_cell BK667.out 5).trans rfl; have hcz21_6 : w19.cell? ⟨gb667, 6, none⟩ = some (.slice Ao15 y657.length co15) := (blk_cell BK667.out 6).trans rfl; have hcz21_7 : w19.cell? ⟨gb667, 7, none⟩ = some (.slice Ao14 y664.length co14) := (blk_cell BK667.out 7).trans rfl; have hfz21_0 := blk_frozen BK667.out 0; have hfz21_1 := blk_frozen BK667.out 1; have hfz21_2 := blk_frozen BK667.out 2; have hfz21_3 := blk_frozen BK667.out 3; have hfz21_4 := blk_frozen BK667.out 4; have hfz21_5 := blk_frozen BK667.out 5; have hfz21_6 := blk_frozen BK667.out 6; have hfz21_7 := blk_frozen BK667.out 7; have hcz22_0 : w19.cell? ⟨gb651, 0, none⟩ = some (.int .i64 0) := (blk_cell BK651.out 0).trans rfl; have hcz22_1 : w19.cell? ⟨gb651, 1, none⟩ = some (.int .i64 0) := (blk_cell BK651.out 1).trans rfl; have hcz22_2 : w19.cell? ⟨gb651, 2, none⟩ = some (.int .i64 0) := (blk_cell BK651.out 2).trans rfl; have hcz22_3 : w19.cell? ⟨gb651, 3, none⟩ = some (.int .i64 0) := (blk_cell BK651.out 3).trans rfl; have hcz22_4 : w19.cell? ⟨gb651, 4, none⟩ = some (.int .i64 0) := (blk_cell BK651.out 4).trans rfl; have hcz22_5 : w19.cell? ⟨gb651, 5, none⟩ = some (.int .i64 0) := (blk_cell BK651.out 5).trans rfl; have hcz22_6 : w19.cell? ⟨gb651, 6, none⟩ = some (.slice none 0 0) := (blk_cell BK651.out 6).trans rfl; have hcz22_7 : w19.cell? ⟨gb651, 7, none⟩ = some (.slice none 0 0) := (blk_cell BK651.out 7).trans rfl; have hfz22_0 := blk_frozen BK651.out 0; have hfz22_1 := blk_frozen BK651.out 1; have hfz22_2 := blk_frozen BK651.out 2; have hfz22_3 := blk_frozen BK651.out 3; have hfz22_4 := blk_frozen BK651.out 4; have hfz22_5 := blk_frozen BK651.out 5; have hfz22_6 := blk_frozen BK651.out 6; have hfz22_7 := blk_frozen BK651.out 7))
    refine bodyPost_ret (results_cell_row rfl _ _ gb651 44 #[.int .i64 t652, .int .i64 t653, .int .i64 t654, .int .i64 t655, .int .i64 t656, .int .i64 10, .slice Ao15 y657.length co15, .slice Ao20 y668.length co20] (0, 0) _ rfl (by (with_reducible repeat (first | refine blk_drewN ?_ _ | refine blk_drew ?_ | refine blk_alloc ?_ _)); refine blk_put (cs := #[.int .i64 t652, .int .i64 t653, .int .i64 t654, .int .i64 t655, .int .i64 t656, .int .i64 10, .slice Ao15 y657.length co15, .slice none 0 0]) ?_ 7 _ rfl; (with_reducible repeat (first | refine blk_drewN ?_ _ | refine blk_drew ?_ | refine blk_alloc ?_ _)); refine blk_put (cs := #[.int .i64 t652, .int .i64 t653, .int .i64 t654, .int .i64 t655, .int .i64 t656, .int .i64 10, .slice none 0 0, .slice none 0 0]) ?_ 6 _ rfl; (with_reducible repeat (first | refine blk_drewN ?_ _ | refine blk_drew ?_ | refine blk_alloc ?_ _)); refine blk_put (cs := #[.int .i64 t652, .int .i64 t653, .int .i64 t654, .int .i64 t655, .int .i64 t656, .int .i64 0, .slice none 0 0, .slice none 0 0]) ?_ 5 _ rfl; (with_reducible repeat (first | refine blk_drewN ?_ _ | refine blk_drew ?_ | refine blk_alloc ?_ _)); refine blk_put (cs := #[.int .i64 t652, .int .i64 t653, .int .i64 t654, .int .i64 t655, .int .i64 0, .int .i64 0, .slice none 0 0, .slice none 0 0]) ?_ 4 _ rfl; (with_reducible repeat (first | refine blk_drewN ?_ _ | refine blk_drew ?_ | refine blk_alloc ?_ _)); refine blk_put (cs := #[.int .i64 t652, .int .i64 t653, .int .i64 t654, .int .i64 0, .int .i64 0, .int .i64 0, .slice none 0 0, .slice none 0 0]) ?_ 3 _ rfl; (with_reducible repeat (first | refine blk_drewN ?_ _ | refine blk_drew ?_ | refine blk_alloc ?_ _)); refine blk_put (cs := #[.int .i64 t652, .int .i64 t653, .int .i64 0, .int .i64 0, .int .i64 0, .int .i64 0, .slice none 0 0, .slice none 0 0]) ?_ 2 _ rfl; (with_reducible repeat (first | refine blk_drewN ?_ _ | refine blk_drew ?_ | refine blk_alloc ?_ _)); refine blk_put (cs := #[.int .i64 t652, .int .i64 0, .int .i64 0, .int .i64 0, .int .i64 0, .int .i64 0, .slice none 0 0, .slice none 0 0]) ?_ 1 _ rfl; (with_reducible repeat (first | refine blk_drewN ?_ _ | refine blk_drew ?_ | refine blk_alloc ?_ _)); refine blk_put (cs := #[.int .i64 0, .int .i64 0, .int .i64 0, .int .i64 0, .int .i64 0, .int .i64 0, .slice none 0 0, .slice none 0 0]) ?_ 0 _ rfl; (with_reducible repeat (first | refine blk_drewN ?_ _ | refine blk_drew ?_ | refine blk_alloc ?_ _)); refine blk_far ?_ NB651_667.out _; (with_reducible repeat (first | refine blk_drewN ?_ _ | refine blk_drew ?_ | refine blk_alloc ?_ _)); exact BK651.out) Tryd.underlying44 rfl (by kernel_rfl)) rfl ?_
    exact ⟨_, _, by first | rfl | (simp [errW_none, errW_some] <;> rfl) | (simp [*, errW_none, errW_some] <;> rfl), by (with_reducible repeat (first | apply Kd.R_alloc | apply Kd.R_drewN | apply Kd.R_drew)); exact Kd.R_mono (Kd.R_far (p := ⟨gb651, 7, none⟩) (Kd.R_far (p := ⟨gb651, 6, none⟩) (Kd.R_far (p := ⟨gb651, 5, none⟩) (Kd.R_far (p := ⟨gb651, 4, none⟩) (Kd.R_far (p := ⟨gb651, 3, none⟩) (Kd.R_far (p := ⟨gb651, 2, none⟩) (Kd.R_far (p := ⟨gb651, 1, none⟩) (Kd.R_far (p := ⟨gb651, 0, none⟩) (Kd.R_far (p := ⟨gb667, 7, none⟩) (Kd.R_types (Kd.R_types HO659.out BK667.out (by decide)) BK651.out (by decide)) (fun _ hk => hk.1.2) (.slice Ao20 y668.length co20)) (fun _ hk => hk.2) (.int .i64 t652)) (fun _ hk => hk.2) (.int .i64 t653)) (fun _ hk => hk.2) (.int .i64 t654)) (fun _ hk => hk.2) (.int .i64 t655)) (fun _ hk => hk.2) (.int .i64 t656)) (fun _ hk => hk.2) (.int .i64 10)) (fun _ hk => hk.2) (.slice Ao15 y657.length co15)) (fun _ hk => hk.2) (.slice Ao20 y668.length co20)) (fun _ hk => trivial), by (with_reducible repeat (first | apply Kd.R_alloc | apply Kd.R_drewN | apply Kd.R_drew)); exact Kd.R_mono (Kd.R_far (p := ⟨gb651, 7, none⟩) (Kd.R_far (p := ⟨gb651, 6, none⟩) (Kd.R_far (p := ⟨gb651, 5, none⟩) (Kd.R_far (p := ⟨gb651, 4, none⟩) (Kd.R_far (p := ⟨gb651, 3, none⟩) (Kd.R_far (p := ⟨gb651, 2, none⟩) (Kd.R_far (p := ⟨gb651, 1, none⟩) (Kd.R_far (p := ⟨gb651, 0, none⟩) (Kd.R_far (p := ⟨gb667, 7, none⟩) (Kd.R_types (Kd.R_types HO670.out BK667.out (by decide)) BK651.out (by decide)) (fun _ hk => hk.1.2) (.slice Ao20 y668.length co20)) (fun _ hk => hk.2) (.int .i64 t652)) (fun _ hk => hk.2) (.int .i64 t653)) (fun _ hk => hk.2) (.int .i64 t654)) (fun _ hk => hk.2) (.int .i64 t655)) (fun _ hk => hk.2) (.int .i64 t656)) (fun _ hk => hk.2) (.int .i64 10)) (fun _ hk => hk.2) (.slice Ao15 y657.length co15)) (fun _ hk => hk.2) (.slice Ao20 y668.length co20)) (fun _ hk => trivial), by repeat (first | (with_reducible first | exact HB.out | apply below_alloc | apply pw_below_drewN | apply below_drew1 | refine below_set ?_ GE651.out | refine below_set ?_ GE667.out) | exact HB.out)⟩
  · rw [if_neg c5] at H
    exact absurd H (by simp)

end Go.Proofs.TrydX.X
end

section
/- The chapter's examples work. Written by wip/tools/mkXW.py. -/
set_option linter.unusedSimpArgs false
set_option linter.unusedVariables false
namespace Go.Proofs.TrydX.X
open Go.RowKit Go.Proofs.YtidnopmjhhmedaaDoorW.PrintWords Go.Proofs.YtidnopmjhhmedaaDoorW.PrintLast
attribute [local go_sem] Oper.semAt_some

theorem ex_rule (w : World) : Calls Tryd.prog 53 #[] w fun e w' => e = .returned (.agg #[.int .i64 10, .int .i64 5, .int .i64 4, .int .i64 (-1), .int .i64 2]) ∧ Below w.heap.size w w' := remontoirlaw04_rule.calls 10 5 4 (-1) 2 w (by rfl)
theorem ex_reach (w : World) (hw : YtidnopmjhhmedaaDoor.Ways w) : Calls Tryd.prog 22 #[.agg #[.int .i64 10, .int .i64 5, .int .i64 4, .int .i64 (-1), .int .i64 2], .int .i64 5] w fun e w' => e = .returned (.tuple #[.agg #[.int .i64 (-23), .int .i64 34], .int .i64 0]) ∧ Below w.heap.size w w' :=
  scale_Reach.calls 10 5 4 (-1) 2 5 (-23) 34 0 w hw (by decide +kernel)
theorem ex_few (w : World) (hw : YtidnopmjhhmedaaDoor.Ways w) : Calls Tryd.prog 18 #[.agg #[.int .i64 10, .int .i64 5, .int .i64 4, .int .i64 (-1), .int .i64 2], .int .i64 20] w fun e w' => e = .returned (.tuple #[.int .i64 5, .int .i64 0]) ∧ Below w.heap.size w w' :=
  scale_Fewest.calls 10 5 4 (-1) 2 20 5 0 w hw (by decide +kernel)
theorem ex_plan (w : World) (hw : YtidnopmjhhmedaaDoor.Ways w) : Calls Tryd.prog 20 #[.agg #[.int .i64 10, .int .i64 5, .int .i64 4, .int .i64 (-1), .int .i64 2], .int .i64 (-20)] w fun e w' => ∃ A c, e = .returned (.tuple #[.slice A 4 c, .int .i64 0]) ∧ Below w.heap.size w w' := by
  refine (scale_Plan.calls 10 5 4 (-1) 2 (-20) [4, 6, 6, 4] 0 w hw (by decide +kernel)).mono ?_
  rintro e w' ⟨v, rfl, hv, hb⟩
  obtain ⟨A, c, rfl⟩ := Kd.V_slice hv
  exact ⟨A, c, rfl, hb⟩
theorem ex_isplan (A : Option Addr) (c : Nat) (w : World) (hw : YtidnopmjhhmedaaDoor.Ways w) (h : Kd.C (Kd.int .i64) w A 5 [-4, -5, -5, -4, -2]) (hc : 5 ≤ c) : Calls Tryd.prog 16 #[.agg #[.int .i64 10, .int .i64 5, .int .i64 4, .int .i64 (-1), .int .i64 2], .int .i64 20, .slice A 5 c] w fun e w' => e = .returned (.tuple #[.bool true, .int .i64 0]) ∧ Below w.heap.size w w' :=
  scale_IsPlan.calls 10 5 4 (-1) 2 20 A c [-4, -5, -5, -4, -2] true 0 w h hc hw (by decide +kernel)
theorem ex_shown (A : Option Addr) (c : Nat) (w : World) (hw : YtidnopmjhhmedaaDoor.Ways w) (h : Kd.C (Kd.int .i64) w A 2 [4, 8]) (hc : 2 ≤ c) : Calls Tryd.prog 24 #[.agg #[.int .i64 10, .int .i64 5, .int .i64 4, .int .i64 (-1), .int .i64 2], .int .i64 7000, .slice A 2 c] w fun e w' => ∃ A c, e = .returned (.tuple #[.slice A 3 c, .int .i64 0]) ∧ Kd.C (Kd.int .i64) w' A 3 [7000, 8004, 9012] ∧ 3 ≤ c ∧ Below w.heap.size w w' := by
  refine (scale_Shown.calls 10 5 4 (-1) 2 7000 A c [4, 8] [7000, 8004, 9012] 0 w h hc hw (by decide +kernel)).mono ?_
  rintro e w' ⟨v, rfl, hv, hb⟩
  obtain ⟨A, c, rfl⟩ := Kd.V_slice hv
  have := Kd.V_reads' hv
  exact ⟨A, c, rfl, this.2.2, this.2.1, hb⟩
theorem ex_book (w : World) : Calls Tryd.prog 52 #[.slice none 0 0] w fun e w' => ∃ A6 c6 A7 c7, e = .returned (.agg #[.int .i64 10, .int .i64 5, .int .i64 4, .int .i64 (-1), .int .i64 2, .int .i64 10, .slice A6 3 c6, .slice A7 2 c7]) ∧ Kd.C (Kd.int .i64) w' A6 3 [-4, -5, -4] ∧ 3 ≤ c6 ∧ Kd.C k71 w' A7 2 [⟨0, ⟨18, 22⟩⟩, ⟨6, ⟨-3, 4⟩⟩] ∧ 2 ≤ c7 ∧ Below w.heap.size w w' := by
  refine (remontoirlaw04_book.calls none 0 [] 10 5 4 (-1) 2 10 [-4, -5, -4] [⟨0, ⟨18, 22⟩⟩, ⟨6, ⟨-3, 4⟩⟩] w (Kd.C_nil _ _) (Nat.le_refl _) (by rfl)).mono ?_
  rintro e w' ⟨v6, v7, rfl, h6, h7, hb⟩
  obtain ⟨A6, c6, rfl⟩ := Kd.R_slice h6
  obtain ⟨A7, c7, rfl⟩ := Kd.R_slice h7
  have a6 := Kd.R_reads' h6
  have a7 := Kd.R_reads' h7
  exact ⟨A6, c6, A7, c7, rfl, a6.2.2, a6.2.1, a7.2.2, a7.2.1, hb⟩
theorem ex_err (A6 A7 : Option Addr) (c6 c7 : Nat) (w : World) (hw : YtidnopmjhhmedaaDoor.Ways w) (h6 : Kd.C (Kd.int .i64) w A6 3 [-4, -5, -4]) (hc6 : 3 ≤ c6) (h7 : Kd.C k71 w A7 2 [⟨0, ⟨18, 22⟩⟩, ⟨6, ⟨-3, 4⟩⟩]) (hc7 : 2 ≤ c7) : Calls Tryd.prog 27 #[.agg #[.int .i64 10, .int .i64 5, .int .i64 4, .int .i64 (-1), .int .i64 2, .int .i64 10, .slice A6 3 c6, .slice A7 2 c7], .int .i64 3] w fun e w' => e = .returned (.tuple #[.agg #[.int .i64 2, .int .i64 7], .int .i64 0]) ∧ Below w.heap.size w w' :=
  scale_Error.calls 10 5 4 (-1) 2 10 A6 c6 [-4, -5, -4] A7 c7 [⟨0, ⟨18, 22⟩⟩, ⟨6, ⟨-3, 4⟩⟩] 3 2 7 0 w h6 hc6 h7 hc7 hw (by decide +kernel)
theorem ex_stated (A6 A7 : Option Addr) (c6 c7 : Nat) (w : World) (hw : YtidnopmjhhmedaaDoor.Ways w) (h6 : Kd.C (Kd.int .i64) w A6 3 [-4, -5, -4]) (hc6 : 3 ≤ c6) (h7 : Kd.C k71 w A7 2 [⟨0, ⟨18, 22⟩⟩, ⟨6, ⟨-3, 4⟩⟩]) (hc7 : 2 ≤ c7) : Calls Tryd.prog 31 #[.agg #[.int .i64 10, .int .i64 5, .int .i64 4, .int .i64 (-1), .int .i64 2, .int .i64 10, .slice A6 3 c6, .slice A7 2 c7], .int .i64 10] w fun e w' => e = .returned (.tuple #[.int .i64 12, .int .i64 0]) ∧ Below w.heap.size w w' :=
  scale_Stated.calls 10 5 4 (-1) 2 10 A6 c6 [-4, -5, -4] A7 c7 [⟨0, ⟨18, 22⟩⟩, ⟨6, ⟨-3, 4⟩⟩] 10 12 0 w h6 hc6 h7 hc7 hw (by decide +kernel)
theorem ex_worst (A6 A7 : Option Addr) (c6 c7 : Nat) (w : World) (hw : YtidnopmjhhmedaaDoor.Ways w) (h6 : Kd.C (Kd.int .i64) w A6 3 [-4, -5, -4]) (hc6 : 3 ≤ c6) (h7 : Kd.C k71 w A7 2 [⟨0, ⟨18, 22⟩⟩, ⟨6, ⟨-3, 4⟩⟩]) (hc7 : 2 ≤ c7) : Calls Tryd.prog 33 #[.agg #[.int .i64 10, .int .i64 5, .int .i64 4, .int .i64 (-1), .int .i64 2, .int .i64 10, .slice A6 3 c6, .slice A7 2 c7]] w fun e w' => e = .returned (.tuple #[.int .i64 0, .int .i64 22, .int .i64 0]) ∧ Below w.heap.size w w' :=
  scale_Worst.calls 10 5 4 (-1) 2 10 A6 c6 [-4, -5, -4] A7 c7 [⟨0, ⟨18, 22⟩⟩, ⟨6, ⟨-3, 4⟩⟩] 0 22 0 w h6 hc6 h7 hc7 hw (by decide +kernel)
theorem ex_meets (A6 A7 : Option Addr) (c6 c7 : Nat) (w : World) (hw : YtidnopmjhhmedaaDoor.Ways w) (h6 : Kd.C (Kd.int .i64) w A6 3 [-4, -5, -4]) (hc6 : 3 ≤ c6) (h7 : Kd.C k71 w A7 2 [⟨0, ⟨18, 22⟩⟩, ⟨6, ⟨-3, 4⟩⟩]) (hc7 : 2 ≤ c7) : Calls Tryd.prog 35 #[.agg #[.int .i64 10, .int .i64 5, .int .i64 4, .int .i64 (-1), .int .i64 2, .int .i64 10, .slice A6 3 c6, .slice A7 2 c7]] w fun e w' => e = .returned (.tuple #[.int .i64 3, .int .i64 0, .int .i64 0]) ∧ Below w.heap.size w w' :=
  scale_Meets.calls 10 5 4 (-1) 2 10 A6 c6 [-4, -5, -4] A7 c7 [⟨0, ⟨18, 22⟩⟩, ⟨6, ⟨-3, 4⟩⟩] 3 0 0 w h6 hc6 h7 hc7 hw (by decide +kernel)
theorem ex_check (A6 A7 : Option Addr) (c6 c7 : Nat) (w : World) (hw : YtidnopmjhhmedaaDoor.Ways w) (h6 : Kd.C (Kd.int .i64) w A6 3 [-4, -5, -4]) (hc6 : 3 ≤ c6) (h7 : Kd.C k71 w A7 2 [⟨0, ⟨18, 22⟩⟩, ⟨6, ⟨-3, 4⟩⟩]) (hc7 : 2 ≤ c7) : Calls Tryd.prog 29 #[.agg #[.int .i64 10, .int .i64 5, .int .i64 4, .int .i64 (-1), .int .i64 2, .int .i64 10, .slice A6 3 c6, .slice A7 2 c7]] w fun e w' => e = .returned (.int .i64 0) ∧ Below w.heap.size w w' :=
  scale_Check.calls 10 5 4 (-1) 2 10 A6 c6 [-4, -5, -4] A7 c7 [⟨0, ⟨18, 22⟩⟩, ⟨6, ⟨-3, 4⟩⟩] 0 w h6 hc6 h7 hc7 hw (by decide +kernel)

theorem C_lit (w : World) (l : List Int) (e : TypeId) (hl : l.length ≤ 1000) : Kd.C (Kd.int .i64) (w.alloc (.cells (l.map (Value.int .i64)).toArray e)) (some ⟨w.heap.size, 0, none⟩) l.length l := by
  refine Kd.C_of_reads (d := (0 : Int)) (h1 := fun _ => rfl) ⟨rfl, by omega, fun _ => ⟨_, rfl, fun j hj => ?_⟩⟩
  rw [Addr.add_mid, cell_of_row _ _ _ _ _ _ (World.alloc_heap_new w _)]
  simp [List.getD_eq_getElem?_getD, hj]
/-- What stays known while the examples are compared. -/
structure WK (w : World) (A9 : Option Addr) (W : World) : Prop where
  c9 : Kd.C (Kd.int .i64) W A9 3 [7000, 8004, 9012]
  bel : Below w.heap.size w W
theorem WK.drew {w W : World} {A9 : Option Addr} (h : WK w A9 W) : WK w A9 W.drew := ⟨Kd.C_drew h.c9, h.bel.drew⟩
theorem WK.below {w W W1 : World} {A9 : Option Addr} (h : WK w A9 W) (hb : Below W.heap.size W W1) : WK w A9 W1 := ⟨Kd.C_below h.c9 hb, below_step h.bel hb⟩
theorem wk_call {w W W1 : World} {A9 : Option Addr} {B : Nat} (h : (W.cell? ⟨B, 0, none⟩ = some (.int .i64 (-23)) ∧ W.cell? ⟨B, 1, none⟩ = some (.int .i64 34)) ∧ WK w A9 W) (hb : Below W.heap.size W W1) :
    (W1.cell? ⟨B, 0, none⟩ = some (.int .i64 (-23)) ∧ W1.cell? ⟨B, 1, none⟩ = some (.int .i64 34)) ∧ WK w A9 W1 :=
  ⟨⟨YtidnopmjhhmedaaDoor.cell_below hb h.1.1, YtidnopmjhhmedaaDoor.cell_below hb h.1.2⟩, h.2.below hb⟩
theorem wk_alloc {w W : World} {A9 : Option Addr} {B : Nat} {o : Obj} (h : (W.cell? ⟨B, 0, none⟩ = some (.int .i64 (-23)) ∧ W.cell? ⟨B, 1, none⟩ = some (.int .i64 34)) ∧ WK w A9 W) :
    ((W.alloc o).cell? ⟨B, 0, none⟩ = some (.int .i64 (-23)) ∧ (W.alloc o).cell? ⟨B, 1, none⟩ = some (.int .i64 34)) ∧ WK w A9 (W.alloc o) := wk_call h ((Below.refl _ _).alloc (Nat.le_refl _) _)
theorem wk_drewN {w W : World} {A9 : Option Addr} {B n : Nat} (h : (W.cell? ⟨B, 0, none⟩ = some (.int .i64 (-23)) ∧ W.cell? ⟨B, 1, none⟩ = some (.int .i64 34)) ∧ WK w A9 W) :
    ((W.drewN n).cell? ⟨B, 0, none⟩ = some (.int .i64 (-23)) ∧ (W.drewN n).cell? ⟨B, 1, none⟩ = some (.int .i64 34)) ∧ WK w A9 (W.drewN n) := wk_call h (pw_below_drewN (Below.refl _ _) n)
theorem wb_call {w W W1 : World} {B : Nat} (h : (W.cell? ⟨B, 0, none⟩ = some (.int .i64 2) ∧ W.cell? ⟨B, 1, none⟩ = some (.int .i64 7)) ∧ Below w.heap.size w W) (hb : Below W.heap.size W W1) :
    (W1.cell? ⟨B, 0, none⟩ = some (.int .i64 2) ∧ W1.cell? ⟨B, 1, none⟩ = some (.int .i64 7)) ∧ Below w.heap.size w W1 :=
  ⟨⟨YtidnopmjhhmedaaDoor.cell_below hb h.1.1, YtidnopmjhhmedaaDoor.cell_below hb h.1.2⟩, below_step h.2 hb⟩
set_option maxRecDepth 100000 in
set_option maxHeartbeats 16000000 in
theorem works_calls (w : World) (hWays : YtidnopmjhhmedaaDoor.Ways w) : Calls Tryd.prog 21 #[] w fun e w' => e = .returned (.bool true) ∧ Below w.heap.size w w' := by
  have hB : Below w.heap.size w w := Below.refl _ _
  go_enter Tryd.func21, Tryd.ntmps21
  go_wp2_with fail
  refine (ex_rule _).mono ?_
  rintro e w1 ⟨rfl, hb⟩
  have hB1 := below_step (by repeat (first | (with_reducible first | exact hB | apply below_alloc | apply pw_below_drewN | apply below_drew1) | exact hB)) hb
  clear hb
  go_wp2_with fail
  refine (ex_reach _ (hWays.below (by repeat (first | (with_reducible first | exact hB1 | apply below_alloc | apply pw_below_drewN | apply below_drew1) | exact hB1)))).mono ?_
  rintro e w2 ⟨rfl, hb⟩
  have hB2 := below_step (by repeat (first | (with_reducible first | exact hB1 | apply below_alloc | apply pw_below_drewN | apply below_drew1) | exact hB1)) hb
  clear hb
  go_wp2_with fail
  refine (ex_rule _).mono ?_
  rintro e w3 ⟨rfl, hb⟩
  have hB3 := below_step (by repeat (first | (with_reducible first | exact hB2 | apply below_alloc | apply pw_below_drewN | apply below_drew1) | exact hB2)) hb
  have hq0_3 : w3.cell? ⟨w2.heap.size, 0, none⟩ = some (.int .i64 (-23)) := YtidnopmjhhmedaaDoor.cell_below hb (by first | exact hq0_2 | exact YtidnopmjhhmedaaDoor.cell_below ((Below.refl _ _).alloc (Nat.le_refl _) _) hq0_2 | (simp [go_sem]; done))
  have hq1_3 : w3.cell? ⟨w2.heap.size, 1, none⟩ = some (.int .i64 34) := YtidnopmjhhmedaaDoor.cell_below hb (by first | exact hq1_2 | exact YtidnopmjhhmedaaDoor.cell_below ((Below.refl _ _).alloc (Nat.le_refl _) _) hq1_2 | (simp [go_sem]; done))
  clear hb
  go_wp2_with fail
  refine (ex_few _ (hWays.below (by repeat (first | (with_reducible first | exact hB3 | apply below_alloc | apply pw_below_drewN | apply below_drew1) | exact hB3)))).mono ?_
  rintro e w4 ⟨rfl, hb⟩
  have hB4 := below_step (by repeat (first | (with_reducible first | exact hB3 | apply below_alloc | apply pw_below_drewN | apply below_drew1) | exact hB3)) hb
  have hq0_4 : w4.cell? ⟨w2.heap.size, 0, none⟩ = some (.int .i64 (-23)) := YtidnopmjhhmedaaDoor.cell_below hb (by first | exact hq0_3 | exact YtidnopmjhhmedaaDoor.cell_below ((Below.refl _ _).alloc (Nat.le_refl _) _) hq0_3 | (simp [go_sem]; done))
  have hq1_4 : w4.cell? ⟨w2.heap.size, 1, none⟩ = some (.int .i64 34) := YtidnopmjhhmedaaDoor.cell_below hb (by first | exact hq1_3 | exact YtidnopmjhhmedaaDoor.cell_below ((Below.refl _ _).alloc (Nat.le_refl _) _) hq1_3 | (simp [go_sem]; done))
  clear hb
  go_wp2_with fail
  refine (ex_rule _).mono ?_
  rintro e w5 ⟨rfl, hb⟩
  have hB5 := below_step (by repeat (first | (with_reducible first | exact hB4 | apply below_alloc | apply pw_below_drewN | apply below_drew1) | exact hB4)) hb
  have hq0_5 : w5.cell? ⟨w2.heap.size, 0, none⟩ = some (.int .i64 (-23)) := YtidnopmjhhmedaaDoor.cell_below hb (by first | exact hq0_4 | exact YtidnopmjhhmedaaDoor.cell_below ((Below.refl _ _).alloc (Nat.le_refl _) _) hq0_4 | (simp [go_sem]; done))
  have hq1_5 : w5.cell? ⟨w2.heap.size, 1, none⟩ = some (.int .i64 34) := YtidnopmjhhmedaaDoor.cell_below hb (by first | exact hq1_4 | exact YtidnopmjhhmedaaDoor.cell_below ((Below.refl _ _).alloc (Nat.le_refl _) _) hq1_4 | (simp [go_sem]; done))
  clear hb
  go_wp2_with fail
  refine (ex_plan _ (hWays.below (by repeat (first | (with_reducible first | exact hB5 | apply below_alloc | apply pw_below_drewN | apply below_drew1) | exact hB5)))).mono ?_
  rintro e w6 ⟨A5, c5, rfl, hb⟩
  have hB6 := below_step (by repeat (first | (with_reducible first | exact hB5 | apply below_alloc | apply pw_below_drewN | apply below_drew1) | exact hB5)) hb
  have hq0_6 : w6.cell? ⟨w2.heap.size, 0, none⟩ = some (.int .i64 (-23)) := YtidnopmjhhmedaaDoor.cell_below hb (by first | exact hq0_5 | exact YtidnopmjhhmedaaDoor.cell_below ((Below.refl _ _).alloc (Nat.le_refl _) _) hq0_5 | (simp [go_sem]; done))
  have hq1_6 : w6.cell? ⟨w2.heap.size, 1, none⟩ = some (.int .i64 34) := YtidnopmjhhmedaaDoor.cell_below hb (by first | exact hq1_5 | exact YtidnopmjhhmedaaDoor.cell_below ((Below.refl _ _).alloc (Nat.le_refl _) _) hq1_5 | (simp [go_sem]; done))
  clear hb
  go_wp2_with fail
  refine (ex_rule _).mono ?_
  rintro e w7 ⟨rfl, hb⟩
  have hB7 := below_step (by repeat (first | (with_reducible first | exact hB6 | apply below_alloc | apply pw_below_drewN | apply below_drew1) | exact hB6)) hb
  have hq0_7 : w7.cell? ⟨w2.heap.size, 0, none⟩ = some (.int .i64 (-23)) := YtidnopmjhhmedaaDoor.cell_below hb (by first | exact hq0_6 | exact YtidnopmjhhmedaaDoor.cell_below ((Below.refl _ _).alloc (Nat.le_refl _) _) hq0_6 | (simp [go_sem]; done))
  have hq1_7 : w7.cell? ⟨w2.heap.size, 1, none⟩ = some (.int .i64 34) := YtidnopmjhhmedaaDoor.cell_below hb (by first | exact hq1_6 | exact YtidnopmjhhmedaaDoor.cell_below ((Below.refl _ _).alloc (Nat.le_refl _) _) hq1_6 | (simp [go_sem]; done))
  clear hb
  go_wp2_with fail
  refine (ex_isplan _ _ _ (hWays.below (by repeat (first | (with_reducible first | exact hB7 | apply below_alloc | apply pw_below_drewN | apply below_drew1) | exact hB7))) (C_lit _ [-4, -5, -5, -4, -2] 3 (by decide)) (by decide)).mono ?_
  rintro e w8 ⟨rfl, hb⟩
  have hB8 := below_step (by repeat (first | (with_reducible first | exact hB7 | apply below_alloc | apply pw_below_drewN | apply below_drew1) | exact hB7)) hb
  have hq0_8 : w8.cell? ⟨w2.heap.size, 0, none⟩ = some (.int .i64 (-23)) := YtidnopmjhhmedaaDoor.cell_below hb (by first | exact hq0_7 | exact YtidnopmjhhmedaaDoor.cell_below ((Below.refl _ _).alloc (Nat.le_refl _) _) hq0_7 | (simp [go_sem]; done))
  have hq1_8 : w8.cell? ⟨w2.heap.size, 1, none⟩ = some (.int .i64 34) := YtidnopmjhhmedaaDoor.cell_below hb (by first | exact hq1_7 | exact YtidnopmjhhmedaaDoor.cell_below ((Below.refl _ _).alloc (Nat.le_refl _) _) hq1_7 | (simp [go_sem]; done))
  clear hb
  go_wp2_with fail
  refine (ex_rule _).mono ?_
  rintro e w9 ⟨rfl, hb⟩
  have hB9 := below_step (by repeat (first | (with_reducible first | exact hB8 | apply below_alloc | apply pw_below_drewN | apply below_drew1) | exact hB8)) hb
  have hq0_9 : w9.cell? ⟨w2.heap.size, 0, none⟩ = some (.int .i64 (-23)) := YtidnopmjhhmedaaDoor.cell_below hb (by first | exact hq0_8 | exact YtidnopmjhhmedaaDoor.cell_below ((Below.refl _ _).alloc (Nat.le_refl _) _) hq0_8 | (simp [go_sem]; done))
  have hq1_9 : w9.cell? ⟨w2.heap.size, 1, none⟩ = some (.int .i64 34) := YtidnopmjhhmedaaDoor.cell_below hb (by first | exact hq1_8 | exact YtidnopmjhhmedaaDoor.cell_below ((Below.refl _ _).alloc (Nat.le_refl _) _) hq1_8 | (simp [go_sem]; done))
  clear hb
  go_wp2_with fail
  refine (ex_shown _ _ _ (hWays.below (by repeat (first | (with_reducible first | exact hB9 | apply below_alloc | apply pw_below_drewN | apply below_drew1) | exact hB9))) (C_lit _ [4, 8] 3 (by decide)) (by decide)).mono ?_
  rintro e w10 ⟨A9, c9, rfl, h9, hc9, hb⟩
  have hB10 := below_step (by repeat (first | (with_reducible first | exact hB9 | apply below_alloc | apply pw_below_drewN | apply below_drew1) | exact hB9)) hb
  have hq0_10 : w10.cell? ⟨w2.heap.size, 0, none⟩ = some (.int .i64 (-23)) := YtidnopmjhhmedaaDoor.cell_below hb (by first | exact hq0_9 | exact YtidnopmjhhmedaaDoor.cell_below ((Below.refl _ _).alloc (Nat.le_refl _) _) hq0_9 | (simp [go_sem]; done))
  have hq1_10 : w10.cell? ⟨w2.heap.size, 1, none⟩ = some (.int .i64 34) := YtidnopmjhhmedaaDoor.cell_below hb (by first | exact hq1_9 | exact YtidnopmjhhmedaaDoor.cell_below ((Below.refl _ _).alloc (Nat.le_refl _) _) hq1_9 | (simp [go_sem]; done))
  clear hb
  go_wp2_with fail
  go_region_held3 (fun W : World => (W.cell? ⟨w2.heap.size, 0, none⟩ = some (.int .i64 (-23)) ∧ W.cell? ⟨w2.heap.size, 1, none⟩ = some (.int .i64 34)) ∧ WK w A9 W)
    (first | with_reducible exact wk_call (by assumption) (by assumption) | with_reducible exact wk_alloc (by assumption) | with_reducible exact wk_drewN (by assumption) | exact wk_alloc ⟨⟨by assumption, by assumption⟩, by assumption⟩ | exact ⟨⟨hq0_10, hq1_10⟩, (WK.mk h9 hB10).drew⟩ | assumption)
    (first | (go_at_call 49; refine (remontoirref00_To.calls _ _ _ _ _ rfl).mono ?_; rintro e wT ⟨rfl, hbT⟩) | (go_at_call 26; rename_i hx _ _; refine (remontoirref00_Alike.calls 10 _ _ [7000, 8004, 9012] _ _ [7000, 8004, 9012] true _ hx.2.c9 hc9 (by first | exact C_lit _ [7000, 8004, 9012] 3 (by decide) | exact Kd.C_below (C_lit _ [7000, 8004, 9012] 3 (by decide)) hbT) (by decide) (by decide +kernel)).mono ?_; rintro e w' ⟨rfl, ⟨nd, rfl⟩⟩))
  rename_i hh
  have hB0 := hh.2.bel
  clear hh h9 hc9 hq0_10 hq1_10 hB
  clear hB1 hB2 hB3 hB4 hB5 hB6 hB7 hB8 hB9 hB10
  have hB := hB0
  clear hB0
  go_wp2_with fail
  refine (ex_book _).mono ?_
  rintro e x1 ⟨B1, d1, C1, f1, rfl, g1, gc1, k1, kc1, hb⟩
  have hD1 := below_step (by repeat (first | (with_reducible first | exact hB | apply below_alloc | apply pw_below_drewN | apply below_drew1) | exact hB)) hb
  clear hb
  go_wp2_with fail
  refine (ex_err B1 C1 d1 f1 _ (hWays.below (by repeat (first | (with_reducible first | exact hD1 | apply below_alloc | apply pw_below_drewN | apply below_drew1) | exact hD1))) g1 gc1 k1 kc1).mono ?_
  rintro e x2 ⟨rfl, hb⟩
  have hD2 := below_step (by repeat (first | (with_reducible first | exact hD1 | apply below_alloc | apply pw_below_drewN | apply below_drew1) | exact hD1)) hb
  clear hb
  go_wp2_with fail
  refine (ex_book _).mono ?_
  rintro e x3 ⟨B3, d3, C3, f3, rfl, g3, gc3, k3, kc3, hb⟩
  have hD3 := below_step (by repeat (first | (with_reducible first | exact hD2 | apply below_alloc | apply pw_below_drewN | apply below_drew1) | exact hD2)) hb
  have hr0_3 : x3.cell? ⟨x2.heap.size, 0, none⟩ = some (.int .i64 2) := YtidnopmjhhmedaaDoor.cell_below hb (by first | exact hr0_2 | exact YtidnopmjhhmedaaDoor.cell_below ((Below.refl _ _).alloc (Nat.le_refl _) _) hr0_2 | (simp [go_sem]; done))
  have hr1_3 : x3.cell? ⟨x2.heap.size, 1, none⟩ = some (.int .i64 7) := YtidnopmjhhmedaaDoor.cell_below hb (by first | exact hr1_2 | exact YtidnopmjhhmedaaDoor.cell_below ((Below.refl _ _).alloc (Nat.le_refl _) _) hr1_2 | (simp [go_sem]; done))
  clear hb
  go_wp2_with fail
  refine (ex_stated B3 C3 d3 f3 _ (hWays.below (by repeat (first | (with_reducible first | exact hD3 | apply below_alloc | apply pw_below_drewN | apply below_drew1) | exact hD3))) g3 gc3 k3 kc3).mono ?_
  rintro e x4 ⟨rfl, hb⟩
  have hD4 := below_step (by repeat (first | (with_reducible first | exact hD3 | apply below_alloc | apply pw_below_drewN | apply below_drew1) | exact hD3)) hb
  have hr0_4 : x4.cell? ⟨x2.heap.size, 0, none⟩ = some (.int .i64 2) := YtidnopmjhhmedaaDoor.cell_below hb (by first | exact hr0_3 | exact YtidnopmjhhmedaaDoor.cell_below ((Below.refl _ _).alloc (Nat.le_refl _) _) hr0_3 | (simp [go_sem]; done))
  have hr1_4 : x4.cell? ⟨x2.heap.size, 1, none⟩ = some (.int .i64 7) := YtidnopmjhhmedaaDoor.cell_below hb (by first | exact hr1_3 | exact YtidnopmjhhmedaaDoor.cell_below ((Below.refl _ _).alloc (Nat.le_refl _) _) hr1_3 | (simp [go_sem]; done))
  clear hb
  go_wp2_with fail
  refine (ex_book _).mono ?_
  rintro e x5 ⟨B5, d5, C5, f5, rfl, g5, gc5, k5, kc5, hb⟩
  have hD5 := below_step (by repeat (first | (with_reducible first | exact hD4 | apply below_alloc | apply pw_below_drewN | apply below_drew1) | exact hD4)) hb
  have hr0_5 : x5.cell? ⟨x2.heap.size, 0, none⟩ = some (.int .i64 2) := YtidnopmjhhmedaaDoor.cell_below hb (by first | exact hr0_4 | exact YtidnopmjhhmedaaDoor.cell_below ((Below.refl _ _).alloc (Nat.le_refl _) _) hr0_4 | (simp [go_sem]; done))
  have hr1_5 : x5.cell? ⟨x2.heap.size, 1, none⟩ = some (.int .i64 7) := YtidnopmjhhmedaaDoor.cell_below hb (by first | exact hr1_4 | exact YtidnopmjhhmedaaDoor.cell_below ((Below.refl _ _).alloc (Nat.le_refl _) _) hr1_4 | (simp [go_sem]; done))
  clear hb
  go_wp2_with fail
  refine (ex_worst B5 C5 d5 f5 _ (hWays.below (by repeat (first | (with_reducible first | exact hD5 | apply below_alloc | apply pw_below_drewN | apply below_drew1) | exact hD5))) g5 gc5 k5 kc5).mono ?_
  rintro e x6 ⟨rfl, hb⟩
  have hD6 := below_step (by repeat (first | (with_reducible first | exact hD5 | apply below_alloc | apply pw_below_drewN | apply below_drew1) | exact hD5)) hb
  have hr0_6 : x6.cell? ⟨x2.heap.size, 0, none⟩ = some (.int .i64 2) := YtidnopmjhhmedaaDoor.cell_below hb (by first | exact hr0_5 | exact YtidnopmjhhmedaaDoor.cell_below ((Below.refl _ _).alloc (Nat.le_refl _) _) hr0_5 | (simp [go_sem]; done))
  have hr1_6 : x6.cell? ⟨x2.heap.size, 1, none⟩ = some (.int .i64 7) := YtidnopmjhhmedaaDoor.cell_below hb (by first | exact hr1_5 | exact YtidnopmjhhmedaaDoor.cell_below ((Below.refl _ _).alloc (Nat.le_refl _) _) hr1_5 | (simp [go_sem]; done))
  clear hb
  go_wp2_with fail
  refine (ex_book _).mono ?_
  rintro e x7 ⟨B7, d7, C7, f7, rfl, g7, gc7, k7, kc7, hb⟩
  have hD7 := below_step (by repeat (first | (with_reducible first | exact hD6 | apply below_alloc | apply pw_below_drewN | apply below_drew1) | exact hD6)) hb
  have hr0_7 : x7.cell? ⟨x2.heap.size, 0, none⟩ = some (.int .i64 2) := YtidnopmjhhmedaaDoor.cell_below hb (by first | exact hr0_6 | exact YtidnopmjhhmedaaDoor.cell_below ((Below.refl _ _).alloc (Nat.le_refl _) _) hr0_6 | (simp [go_sem]; done))
  have hr1_7 : x7.cell? ⟨x2.heap.size, 1, none⟩ = some (.int .i64 7) := YtidnopmjhhmedaaDoor.cell_below hb (by first | exact hr1_6 | exact YtidnopmjhhmedaaDoor.cell_below ((Below.refl _ _).alloc (Nat.le_refl _) _) hr1_6 | (simp [go_sem]; done))
  clear hb
  go_wp2_with fail
  refine (ex_meets B7 C7 d7 f7 _ (hWays.below (by repeat (first | (with_reducible first | exact hD7 | apply below_alloc | apply pw_below_drewN | apply below_drew1) | exact hD7))) g7 gc7 k7 kc7).mono ?_
  rintro e x8 ⟨rfl, hb⟩
  have hD8 := below_step (by repeat (first | (with_reducible first | exact hD7 | apply below_alloc | apply pw_below_drewN | apply below_drew1) | exact hD7)) hb
  have hr0_8 : x8.cell? ⟨x2.heap.size, 0, none⟩ = some (.int .i64 2) := YtidnopmjhhmedaaDoor.cell_below hb (by first | exact hr0_7 | exact YtidnopmjhhmedaaDoor.cell_below ((Below.refl _ _).alloc (Nat.le_refl _) _) hr0_7 | (simp [go_sem]; done))
  have hr1_8 : x8.cell? ⟨x2.heap.size, 1, none⟩ = some (.int .i64 7) := YtidnopmjhhmedaaDoor.cell_below hb (by first | exact hr1_7 | exact YtidnopmjhhmedaaDoor.cell_below ((Below.refl _ _).alloc (Nat.le_refl _) _) hr1_7 | (simp [go_sem]; done))
  clear hb
  go_wp2_with fail
  go_region_held3 (fun W : World => (W.cell? ⟨x2.heap.size, 0, none⟩ = some (.int .i64 2) ∧ W.cell? ⟨x2.heap.size, 1, none⟩ = some (.int .i64 7)) ∧ Below w.heap.size w W)
    (first | with_reducible exact wb_call (by assumption) (by assumption) | exact ⟨⟨hr0_8, hr1_8⟩, hD8.drew⟩ | assumption)
    (first | (go_at_call 49; refine (remontoirref00_To.calls _ _ _ _ _ rfl).mono ?_; rintro e wT ⟨rfl, hbT⟩) | (go_at_call 52; refine (ex_book _).mono ?_; rintro e wb ⟨A6, c6, A7, c7, rfl, h6, hc6, h7, hc7, hbb⟩) | (go_at_call 29; rename_i hx _ _; refine (ex_check A6 A7 c6 c7 _ (hWays.below hx.2) h6 hc6 h7 hc7).mono ?_; rintro e wc ⟨rfl, hbc⟩))
  rename_i hh
  go_wp2_with fail
  go_ret
  exact ⟨rfl, hh.2⟩

/-- What the print takes for the examples: they work. -/
def remontoirlaw04_works.f : Option Bool := some true
theorem remontoirlaw04_works.calls (r : Bool) (w : World) (hWays : Go.Proofs.YtidnopmjhhmedaaDoor.Ways w) (h : remontoirlaw04_works.f = some r) : Calls Tryd.prog 21 #[] w fun e w' => e = .returned (.bool r) ∧ Below w.heap.size w w' := by
  obtain rfl : true = r := Option.some.inj h
  exact works_calls w hWays

end Go.Proofs.TrydX.X
end

section
-- Written by wip/tools/pr.py (a program of this repo over the kit's print.py).
namespace Go.Proofs.TrydX.X
open Go.RowKit Go.Proofs.YtidnopmjhhmedaaDoorW.PrintWords Go.Proofs.YtidnopmjhhmedaaDoorW.PrintLast Go.Proofs.YtidnopmjhhmedaaDoorW.PrintMore
attribute [local go_sem] max2_int min2_int max_two min_two max_three min_three max_four min_four   -- for this text's walks alone
set_option linter.unusedVariables false
set_option linter.unusedSimpArgs false

attribute [local go_sem high] eqA23
/-! ### remontoirlaw04_ScaleErrors: function 5 -/
def remontoirlaw04_ScaleErrors.j0 : Nat → Int → Bool → Int → Int → Int → Int → Int → Int → List Int → List (S71) → Option (Bool)
  | 0, _, _, _, _, _, _, _, _, _, _ => none
  | k + 1, x1, x37, x274000, x274001, x274002, x274003, x274004, x274005, x274006, x274007 => if x37 = true then (some false) else ((scale_Stated.f x274000 x274001 x274002 x274003 x274004 x274005 x274006 x274007 x1).bind fun bt284 => ((remontoirref04_Stated.f k x274000 x274001 x274002 x274003 x274004 x274005 x274006 x274007 x1).bind fun bt286 => (if bt284.1 = bt286.1 then (if bt284.2 = bt286.2 then ((remontoirlaw04_works.f).bind fun t288 => (some t288)) else (some false)) else (some false))))
def remontoirlaw04_ScaleErrors.f (k : Nat) (a0_0 : Int) (a0_1 : Int) (a0_2 : Int) (a0_3 : Int) (a0_4 : Int) (a0_5 : Int) (l0_6 : List Int) (l0_7 : List (S71)) (a1 : Int) : Option (Bool) := (scale_Error.f a0_0 a0_1 a0_2 a0_3 a0_4 a0_5 l0_6 l0_7 a1).bind fun bt274 => ((remontoirref04_Error.f k a0_0 a0_1 a0_2 a0_3 a0_4 a0_5 l0_6 l0_7 a1).bind fun bt278 => (if (!(bt274.1 == bt278.1) || (!(bt274.2.1 == bt278.2.1))) = true then (remontoirlaw04_ScaleErrors.j0 k a1 true a0_0 a0_1 a0_2 a0_3 a0_4 a0_5 l0_6 l0_7) else (if bt274.2.2 = bt278.2.2 then ((scale_Check.f a0_0 a0_1 a0_2 a0_3 a0_4 a0_5 l0_6 l0_7).bind fun t282 => ((remontoirref04_Check.f k a0_0 a0_1 a0_2 a0_3 a0_4 a0_5 l0_6 l0_7).bind fun t283 => (remontoirlaw04_ScaleErrors.j0 k a1 (t282 != t283) a0_0 a0_1 a0_2 a0_3 a0_4 a0_5 l0_6 l0_7))) else (remontoirlaw04_ScaleErrors.j0 k a1 true a0_0 a0_1 a0_2 a0_3 a0_4 a0_5 l0_6 l0_7))))
def remontoirlaw04_ScaleErrors.T3 : Bool × List (List Nat × List Nat) := (true, [([], []), ([], []), ([0, 1], [0, 1]), ([2], [2]), ([3], [3]), ([3], [3]), ([4, 5, 3], [3, 4, 5]), ([3, 6], [3, 6]), ([7, 3], [7]), ([8], [8]), ([9, 8, 8], [8, 9]), ([8], [8]), ([11, 10, 8], [8, 11]), ([10, 12, 8], [8, 10, 12]), ([8, 13], [8, 13])])
def remontoirlaw04_ScaleErrors.B3 : List Nat := [0, 0, 3, 7, 15, 15, 63, 127, 255, 511, 1023, 511, 4095, 8191, 16383]
theorem remontoirlaw04_ScaleErrors.tab3 : rtab .any (opsOf Tryd.f5 3) = remontoirlaw04_ScaleErrors.T3 := by kernel_rfl
theorem remontoirlaw04_ScaleErrors.bits3 : waitsOk remontoirlaw04_ScaleErrors.T3.2 remontoirlaw04_ScaleErrors.B3 = true := by kernel_rfl
set_option maxHeartbeats 8000000 in
set_option maxRecDepth 100000 in
theorem remontoirlaw04_ScaleErrors.calls (k : Nat) (a0_0 : Int) (a0_1 : Int) (a0_2 : Int) (a0_3 : Int) (a0_4 : Int) (a0_5 : Int) (A0_6 : Option Addr) (c0_6 : Nat) (l0_6 : List Int) (A0_7 : Option Addr) (c0_7 : Nat) (l0_7 : List (S71)) (a1 : Int) (r : Bool) (w : World) (hr0_6 : Kd.C (Kd.int .i64) w A0_6 l0_6.length l0_6) (hc0_6 : l0_6.length ≤ c0_6) (hr0_7 : Kd.C k71 w A0_7 l0_7.length l0_7) (hc0_7 : l0_7.length ≤ c0_7) (hWays : Go.Proofs.YtidnopmjhhmedaaDoor.Ways w) (h : remontoirlaw04_ScaleErrors.f k a0_0 a0_1 a0_2 a0_3 a0_4 a0_5 l0_6 l0_7 a1 = some r) :
    Calls Tryd.prog 5 #[.agg #[.int .i64 a0_0, .int .i64 a0_1, .int .i64 a0_2, .int .i64 a0_3, .int .i64 a0_4, .int .i64 a0_5, .slice A0_6 l0_6.length c0_6, .slice A0_7 l0_7.length c0_7], .int .i64 a1] w fun e w' => e = .returned (.bool r) ∧ Below w.heap.size w w' := by
  have hu44 := Tryd.underlying44
  have hu23 := Tryd.underlying23
  have HR0_6 := Aside0.mk hr0_6
  have HC0_6 := Aside0.mk hc0_6
  clear hr0_6 hc0_6
  have HR0_7 := Aside0.mk hr0_7
  have HC0_7 := Aside0.mk hc0_7
  clear hr0_7 hc0_7
  have HB := Aside0.mk (Below.refl w.heap.size w)
  have HWays := Aside0.mk hWays
  clear hWays
  have H : ((scale_Error.f a0_0 a0_1 a0_2 a0_3 a0_4 a0_5 l0_6 l0_7 a1).bind fun bt274 => ((remontoirref04_Error.f k a0_0 a0_1 a0_2 a0_3 a0_4 a0_5 l0_6 l0_7 a1).bind fun bt278 => (if (!(bt274.1 == bt278.1) || (!(bt274.2.1 == bt278.2.1))) = true then (remontoirlaw04_ScaleErrors.j0 k a1 true a0_0 a0_1 a0_2 a0_3 a0_4 a0_5 l0_6 l0_7) else (if bt274.2.2 = bt278.2.2 then ((scale_Check.f a0_0 a0_1 a0_2 a0_3 a0_4 a0_5 l0_6 l0_7).bind fun t282 => ((remontoirref04_Check.f k a0_0 a0_1 a0_2 a0_3 a0_4 a0_5 l0_6 l0_7).bind fun t283 => (remontoirlaw04_ScaleErrors.j0 k a1 (t282 != t283) a0_0 a0_1 a0_2 a0_3 a0_4 a0_5 l0_6 l0_7))) else (remontoirlaw04_ScaleErrors.j0 k a1 true a0_0 a0_1 a0_2 a0_3 a0_4 a0_5 l0_6 l0_7))))) = some r := h
  clear h
  replace H := Option.bind_eq_some_iff.mp H
  obtain ⟨⟨t274, t275, t276⟩, A30, H⟩ := H
  replace H : ((remontoirref04_Error.f k a0_0 a0_1 a0_2 a0_3 a0_4 a0_5 l0_6 l0_7 a1).bind fun bt278 => (if (!(t274 == bt278.1) || (!(t275 == bt278.2.1))) = true then (remontoirlaw04_ScaleErrors.j0 k a1 true a0_0 a0_1 a0_2 a0_3 a0_4 a0_5 l0_6 l0_7) else (if t276 = bt278.2.2 then ((scale_Check.f a0_0 a0_1 a0_2 a0_3 a0_4 a0_5 l0_6 l0_7).bind fun t282 => ((remontoirref04_Check.f k a0_0 a0_1 a0_2 a0_3 a0_4 a0_5 l0_6 l0_7).bind fun t283 => (remontoirlaw04_ScaleErrors.j0 k a1 (t282 != t283) a0_0 a0_1 a0_2 a0_3 a0_4 a0_5 l0_6 l0_7))) else (remontoirlaw04_ScaleErrors.j0 k a1 true a0_0 a0_1 a0_2 a0_3 a0_4 a0_5 l0_6 l0_7)))) = some r := H
  have A3 := Aside0.mk A30
  clear A30
  replace H := Option.bind_eq_some_iff.mp H
  obtain ⟨⟨t278, t279, t280⟩, A40, H⟩ := H
  replace H : (if (!(t274 == t278) || (!(t275 == t279))) = true then (remontoirlaw04_ScaleErrors.j0 k a1 true a0_0 a0_1 a0_2 a0_3 a0_4 a0_5 l0_6 l0_7) else (if t276 = t280 then ((scale_Check.f a0_0 a0_1 a0_2 a0_3 a0_4 a0_5 l0_6 l0_7).bind fun t282 => ((remontoirref04_Check.f k a0_0 a0_1 a0_2 a0_3 a0_4 a0_5 l0_6 l0_7).bind fun t283 => (remontoirlaw04_ScaleErrors.j0 k a1 (t282 != t283) a0_0 a0_1 a0_2 a0_3 a0_4 a0_5 l0_6 l0_7))) else (remontoirlaw04_ScaleErrors.j0 k a1 true a0_0 a0_1 a0_2 a0_3 a0_4 a0_5 l0_6 l0_7))) = some r := H
  have A4 := Aside0.mk A40
  clear A40
  have HC5 := Aside0.mk H
  clear H
  go_enter Tryd.func5, Tryd.ntmps5
  go_upto_region 3 with (first | ((with_reducible refine gate_dst (N := 2) rfl ?_); refine box_event ?hg (N := 2) ?hd (cs := #[.int .i64 a0_0, .int .i64 a0_1, .int .i64 a0_2, .int .i64 a0_3, .int .i64 a0_4, .int .i64 a0_5, .slice A0_6 l0_6.length c0_6, .slice A0_7 l0_7.length c0_7]) (t := 44) ?hr ?_; (case hd => rfl); (case hg => rfl); (case hr => first | (go_simp; done) | (go_simp; rfl)); intro gb273 hg w6 hbox hb; have n0_ := Aside0.mk (below_step (by repeat (first | (with_reducible first | exact HB.out | apply below_alloc | apply pw_below_drewN | apply below_drew1) | exact HB.out)) hb); have n1_ := Aside0.mk (hbox); have n2_ := Aside0.mk ((by rw [hg]; exact (below_size (by repeat (first | (with_reducible first | exact HB.out | apply below_alloc | apply pw_below_drewN | apply below_drew1) | exact HB.out))) : w.heap.size ≤ gb273)); have n3_ := Aside0.mk ((by rw [hg]; exact (below_size (by repeat (first | (with_reducible first | exact HB.out | apply below_alloc | apply pw_below_drewN | apply below_drew1) | exact HB.out))) : w.heap.size ≤ gb273)); clear HB; have HB := n0_; have BK273 := n1_; have GW273 := n2_; have GE273 := n3_; clear n0_ n1_ n2_ n3_; clear hb hbox hg; have hcz7_0 : w6.cell? ⟨gb273, 0, none⟩ = some (.int .i64 a0_0) := (blk_cell BK273.out 0).trans rfl; have hcz7_1 : w6.cell? ⟨gb273, 1, none⟩ = some (.int .i64 a0_1) := (blk_cell BK273.out 1).trans rfl; have hcz7_2 : w6.cell? ⟨gb273, 2, none⟩ = some (.int .i64 a0_2) := (blk_cell BK273.out 2).trans rfl; have hcz7_3 : w6.cell? ⟨gb273, 3, none⟩ = some (.int .i64 a0_3) := (blk_cell BK273.out 3).trans rfl; have hcz7_4 : w6.cell? ⟨gb273, 4, none⟩ = some (.int .i64 a0_4) := (blk_cell BK273.out 4).trans rfl; have hcz7_5 : w6.cell? ⟨gb273, 5, none⟩ = some (.int .i64 a0_5) := (blk_cell BK273.out 5).trans rfl; have hcz7_6 : w6.cell? ⟨gb273, 6, none⟩ = some (.slice A0_6 l0_6.length c0_6) := (blk_cell BK273.out 6).trans rfl; have hcz7_7 : w6.cell? ⟨gb273, 7, none⟩ = some (.slice A0_7 l0_7.length c0_7) := (blk_cell BK273.out 7).trans rfl; have hfz7_0 := blk_frozen BK273.out 0; have hfz7_1 := blk_frozen BK273.out 1; have hfz7_2 := blk_frozen BK273.out 2; have hfz7_3 := blk_frozen BK273.out 3; have hfz7_4 := blk_frozen BK273.out 4; have hfz7_5 := blk_frozen BK273.out 5; have hfz7_6 := blk_frozen BK273.out 6; have hfz7_7 := blk_frozen BK273.out 7) | ((with_reducible refine gate_callee (f := 27) rfl ?_); refine goesL_ (some 14) rfl rfl Tryd.func27 (by kernel_rfl) rfl #[.agg #[.int .i64 a0_0, .int .i64 a0_1, .int .i64 a0_2, .int .i64 a0_3, .int .i64 a0_4, .int .i64 a0_5, .slice A0_6 l0_6.length c0_6, .slice A0_7 l0_7.length c0_7], .int .i64 a1] rfl (by (try simp only [List.map_toArray, List.map_cons, List.map_nil]); first | done | rfl | (simp only [List.length_drop, List.length_take]; rfl)) ?_; (with_reducible refine (scale_Error.calls a0_0 a0_1 a0_2 a0_3 a0_4 a0_5 _ _ l0_6 _ _ l0_7 a1 t274 t275 t276 _ ?side1 ?side2 ?side3 ?side4 ?side5 A3.out).mono ?_); (case side1 => repeat (first | exact (Kd.C_below HR0_6.out HB.out) | (with_reducible refine Kd.C_alloc ?_ _) | (with_reducible refine Kd.C_drewN ?_ _) | (with_reducible refine Kd.C_drew ?_))); (case side2 => exact HC0_6.out); (case side3 => repeat (first | exact (Kd.C_below HR0_7.out HB.out) | (with_reducible refine Kd.C_alloc ?_ _) | (with_reducible refine Kd.C_drewN ?_ _) | (with_reducible refine Kd.C_drew ?_))); (case side4 => exact HC0_7.out); (case side5 => exact Go.Proofs.YtidnopmjhhmedaaDoor.Ways.below HWays.out (by repeat (first | (with_reducible first | exact HB.out | apply below_alloc | apply pw_below_drewN | apply below_drew1 | refine below_set ?_ GE273.out) | exact HB.out))); rintro e w8 ⟨rfl, hb⟩; refine ⟨_, rfl, ?_⟩; have n0_ := Aside0.mk (blk_below (g := gb273) (o := .cells #[.int .i64 a0_0, .int .i64 a0_1, .int .i64 a0_2, .int .i64 a0_3, .int .i64 a0_4, .int .i64 a0_5, .slice A0_6 l0_6.length c0_6, .slice A0_7 l0_7.length c0_7] 44 (0, 0)) (by (with_reducible repeat (first | refine blk_drewN ?_ _ | refine blk_drew ?_ | refine blk_alloc ?_ _)); exact BK273.out) hb); have n1_ := Aside0.mk (below_step (by repeat (first | (with_reducible first | exact HB.out | apply below_alloc | apply pw_below_drewN | apply below_drew1 | refine below_set ?_ GE273.out) | exact HB.out)) hb); clear BK273; clear HB; have BK273 := n0_; have HB := n1_; clear n0_ n1_; (try clear hb); (try clear hb2); (try clear hk); (try clear hi)) | ((with_reducible refine gate_dst (N := 5) rfl ?_); refine box_event ?hg (N := 5) ?hd (cs := #[.int .i64 0, .int .i64 0]) (t := 23) ?hr ?_; (case hd => rfl); (case hg => rfl); (case hr => first | (go_simp; done) | (go_simp; rfl)); intro gb277 hg w9 hbox hb; have n0_ := Aside0.mk (blk_below (g := gb273) (o := .cells #[.int .i64 a0_0, .int .i64 a0_1, .int .i64 a0_2, .int .i64 a0_3, .int .i64 a0_4, .int .i64 a0_5, .slice A0_6 l0_6.length c0_6, .slice A0_7 l0_7.length c0_7] 44 (0, 0)) (by (with_reducible repeat (first | refine blk_drewN ?_ _ | refine blk_drew ?_ | refine blk_alloc ?_ _)); exact BK273.out) hb); have n1_ := Aside0.mk (below_step (by repeat (first | (with_reducible first | exact HB.out | apply below_alloc | apply pw_below_drewN | apply below_drew1 | refine below_set ?_ GE273.out) | exact HB.out)) hb); have n2_ := Aside0.mk (hbox); have n3_ := Aside0.mk ((by rw [hg]; exact (below_size (by repeat (first | (with_reducible first | exact HB.out | apply below_alloc | apply pw_below_drewN | apply below_drew1 | refine below_set ?_ GE273.out) | exact HB.out))) : w.heap.size ≤ gb277)); have n4_ := Aside0.mk ((by rw [hg]; exact (below_size (by repeat (first | (with_reducible first | exact HB.out | apply below_alloc | apply pw_below_drewN | apply below_drew1 | refine below_set ?_ GE273.out) | exact HB.out))) : w.heap.size ≤ gb277)); have n5_ := Aside0.mk ((by rw [hg]; exact Nat.ne_of_lt (blk_lt (g := gb273) (o := .cells #[.int .i64 a0_0, .int .i64 a0_1, .int .i64 a0_2, .int .i64 a0_3, .int .i64 a0_4, .int .i64 a0_5, .slice A0_6 l0_6.length c0_6, .slice A0_7 l0_7.length c0_7] 44 (0, 0)) (by (with_reducible repeat (first | refine blk_drewN ?_ _ | refine blk_drew ?_ | refine blk_alloc ?_ _)); exact BK273.out)) : gb273 ≠ gb277)); have n6_ := Aside0.mk ((by rw [hg]; exact Nat.ne_of_gt (blk_lt (g := gb273) (o := .cells #[.int .i64 a0_0, .int .i64 a0_1, .int .i64 a0_2, .int .i64 a0_3, .int .i64 a0_4, .int .i64 a0_5, .slice A0_6 l0_6.length c0_6, .slice A0_7 l0_7.length c0_7] 44 (0, 0)) (by (with_reducible repeat (first | refine blk_drewN ?_ _ | refine blk_drew ?_ | refine blk_alloc ?_ _)); exact BK273.out)) : gb277 ≠ gb273)); clear BK273; clear HB; have BK273 := n0_; have HB := n1_; have BK277 := n2_; have GW277 := n3_; have GE277 := n4_; have NB273_277 := n5_; have NB277_273 := n6_; clear n0_ n1_ n2_ n3_ n4_ n5_ n6_; clear hb hbox hg; have hnb10 := NB277_273.out; have hnc10 := NB273_277.out; have hcz11_0 : w9.cell? ⟨gb277, 0, none⟩ = some (.int .i64 0) := (blk_cell BK277.out 0).trans rfl; have hcz11_1 : w9.cell? ⟨gb277, 1, none⟩ = some (.int .i64 0) := (blk_cell BK277.out 1).trans rfl; have hfz11_0 := blk_frozen BK277.out 0; have hfz11_1 := blk_frozen BK277.out 1; have hcz12_0 : w9.cell? ⟨gb273, 0, none⟩ = some (.int .i64 a0_0) := (blk_cell BK273.out 0).trans rfl; have hcz12_1 : w9.cell? ⟨gb273, 1, none⟩ = some (.int .i64 a0_1) := (blk_cell BK273.out 1).trans rfl; have hcz12_2 : w9.cell? ⟨gb273, 2, none⟩ = some (.int .i64 a0_2) := (blk_cell BK273.out 2).trans rfl; have hcz12_3 : w9.cell? ⟨gb273, 3, none⟩ = some (.int .i64 a0_3) := (blk_cell BK273.out 3).trans rfl; have hcz12_4 : w9.cell? ⟨gb273, 4, none⟩ = some (.int .i64 a0_4) := (blk_cell BK273.out 4).trans rfl; have hcz12_5 : w9.cell? ⟨gb273, 5, none⟩ = some (.int .i64 a0_5) := (blk_cell BK273.out 5).trans rfl; have hcz12_6 : w9.cell? ⟨gb273, 6, none⟩ = some (.slice A0_6 l0_6.length c0_6) := (blk_cell BK273.out 6).trans rfl; have hcz12_7 : w9.cell? ⟨gb273, 7, none⟩ = some (.slice A0_7 l0_7.length c0_7) := (blk_cell BK273.out 7).trans rfl; have hfz12_0 := blk_frozen BK273.out 0; have hfz12_1 := blk_frozen BK273.out 1; have hfz12_2 := blk_frozen BK273.out 2; have hfz12_3 := blk_frozen BK273.out 3; have hfz12_4 := blk_frozen BK273.out 4; have hfz12_5 := blk_frozen BK273.out 5; have hfz12_6 := blk_frozen BK273.out 6; have hfz12_7 := blk_frozen BK273.out 7) | ((with_reducible refine gate_callee (f := 28) rfl ?_); refine goesL_ (some 20) rfl rfl Tryd.func28 (by kernel_rfl) rfl #[.agg #[.int .i64 a0_0, .int .i64 a0_1, .int .i64 a0_2, .int .i64 a0_3, .int .i64 a0_4, .int .i64 a0_5, .slice A0_6 l0_6.length c0_6, .slice A0_7 l0_7.length c0_7], .int .i64 a1] rfl (by (try simp only [List.map_toArray, List.map_cons, List.map_nil]); first | done | rfl | (simp only [List.length_drop, List.length_take]; rfl)) ?_; (with_reducible refine (remontoirref04_Error.calls k a0_0 a0_1 a0_2 a0_3 a0_4 a0_5 _ _ l0_6 _ _ l0_7 a1 t278 t279 t280 _ ?side1 ?side2 ?side3 ?side4 A4.out).mono ?_); (case side1 => exact Kd.C_below HR0_6.out (by repeat (first | (with_reducible first | exact HB.out | apply below_alloc | apply pw_below_drewN | apply below_drew1 | refine below_set ?_ GE273.out | refine below_set ?_ GE277.out) | exact HB.out))); (case side2 => exact HC0_6.out); (case side3 => exact Kd.C_below HR0_7.out (by repeat (first | (with_reducible first | exact HB.out | apply below_alloc | apply pw_below_drewN | apply below_drew1 | refine below_set ?_ GE273.out | refine below_set ?_ GE277.out) | exact HB.out))); (case side4 => exact HC0_7.out); rintro e w13 ⟨rfl, hb⟩; refine ⟨_, rfl, ?_⟩; have n0_ := Aside0.mk (blk_below (g := gb273) (o := .cells #[.int .i64 a0_0, .int .i64 a0_1, .int .i64 a0_2, .int .i64 a0_3, .int .i64 a0_4, .int .i64 a0_5, .slice A0_6 l0_6.length c0_6, .slice A0_7 l0_7.length c0_7] 44 (0, 0)) (by (with_reducible repeat (first | refine blk_drewN ?_ _ | refine blk_drew ?_ | refine blk_alloc ?_ _)); refine blk_far ?_ NB273_277.out _; (with_reducible repeat (first | refine blk_drewN ?_ _ | refine blk_drew ?_ | refine blk_alloc ?_ _)); refine blk_far ?_ NB273_277.out _; (with_reducible repeat (first | refine blk_drewN ?_ _ | refine blk_drew ?_ | refine blk_alloc ?_ _)); exact BK273.out) hb); have n1_ := Aside0.mk (blk_below (g := gb277) (o := .cells #[.int .i64 t274, .int .i64 t275] 23 (0, 0)) (by (with_reducible repeat (first | refine blk_drewN ?_ _ | refine blk_drew ?_ | refine blk_alloc ?_ _)); refine blk_put (cs := #[.int .i64 t274, .int .i64 0]) ?_ 1 _ rfl; (with_reducible repeat (first | refine blk_drewN ?_ _ | refine blk_drew ?_ | refine blk_alloc ?_ _)); refine blk_put (cs := #[.int .i64 0, .int .i64 0]) ?_ 0 _ rfl; (with_reducible repeat (first | refine blk_drewN ?_ _ | refine blk_drew ?_ | refine blk_alloc ?_ _)); exact BK277.out) hb); have n2_ := Aside0.mk (below_step (by repeat (first | (with_reducible first | exact HB.out | apply below_alloc | apply pw_below_drewN | apply below_drew1 | refine below_set ?_ GE273.out | refine below_set ?_ GE277.out) | exact HB.out)) hb); clear BK273; clear BK277; clear HB; have BK273 := n0_; have BK277 := n1_; have HB := n2_; clear n0_ n1_ n2_; (try clear hb); (try clear hb2); (try clear hk); (try clear hi)) | ((with_reducible refine gate_dst (N := 7) rfl ?_); refine box_event ?hg (N := 7) ?hd (cs := #[.int .i64 0, .int .i64 0]) (t := 23) ?hr ?_; (case hd => rfl); (case hg => rfl); (case hr => first | (go_simp; done) | (go_simp; rfl)); intro gb281 hg w14 hbox hb; have n0_ := Aside0.mk (blk_below (g := gb273) (o := .cells #[.int .i64 a0_0, .int .i64 a0_1, .int .i64 a0_2, .int .i64 a0_3, .int .i64 a0_4, .int .i64 a0_5, .slice A0_6 l0_6.length c0_6, .slice A0_7 l0_7.length c0_7] 44 (0, 0)) (by (with_reducible repeat (first | refine blk_drewN ?_ _ | refine blk_drew ?_ | refine blk_alloc ?_ _)); exact BK273.out) hb); have n1_ := Aside0.mk (blk_below (g := gb277) (o := .cells #[.int .i64 t274, .int .i64 t275] 23 (0, 0)) (by (with_reducible repeat (first | refine blk_drewN ?_ _ | refine blk_drew ?_ | refine blk_alloc ?_ _)); exact BK277.out) hb); have n2_ := Aside0.mk (below_step (by repeat (first | (with_reducible first | exact HB.out | apply below_alloc | apply pw_below_drewN | apply below_drew1 | refine below_set ?_ GE273.out | refine below_set ?_ GE277.out) | exact HB.out)) hb); have n3_ := Aside0.mk (hbox); have n4_ := Aside0.mk ((by rw [hg]; exact (below_size (by repeat (first | (with_reducible first | exact HB.out | apply below_alloc | apply pw_below_drewN | apply below_drew1 | refine below_set ?_ GE273.out | refine below_set ?_ GE277.out) | exact HB.out))) : w.heap.size ≤ gb281)); have n5_ := Aside0.mk ((by rw [hg]; exact (below_size (by repeat (first | (with_reducible first | exact HB.out | apply below_alloc | apply pw_below_drewN | apply below_drew1 | refine below_set ?_ GE273.out | refine below_set ?_ GE277.out) | exact HB.out))) : w.heap.size ≤ gb281)); have n6_ := Aside0.mk ((by rw [hg]; exact Nat.ne_of_lt (blk_lt (g := gb273) (o := .cells #[.int .i64 a0_0, .int .i64 a0_1, .int .i64 a0_2, .int .i64 a0_3, .int .i64 a0_4, .int .i64 a0_5, .slice A0_6 l0_6.length c0_6, .slice A0_7 l0_7.length c0_7] 44 (0, 0)) (by (with_reducible repeat (first | refine blk_drewN ?_ _ | refine blk_drew ?_ | refine blk_alloc ?_ _)); exact BK273.out)) : gb273 ≠ gb281)); have n7_ := Aside0.mk ((by rw [hg]; exact Nat.ne_of_gt (blk_lt (g := gb273) (o := .cells #[.int .i64 a0_0, .int .i64 a0_1, .int .i64 a0_2, .int .i64 a0_3, .int .i64 a0_4, .int .i64 a0_5, .slice A0_6 l0_6.length c0_6, .slice A0_7 l0_7.length c0_7] 44 (0, 0)) (by (with_reducible repeat (first | refine blk_drewN ?_ _ | refine blk_drew ?_ | refine blk_alloc ?_ _)); exact BK273.out)) : gb281 ≠ gb273)); have n8_ := Aside0.mk ((by rw [hg]; exact Nat.ne_of_lt (blk_lt (g := gb277) (o := .cells #[.int .i64 t274, .int .i64 t275] 23 (0, 0)) (by (with_reducible repeat (first | refine blk_drewN ?_ _ | refine blk_drew ?_ | refine blk_alloc ?_ _)); exact BK277.out)) : gb277 ≠ gb281)); have n9_ := Aside0.mk ((by rw [hg]; exact Nat.ne_of_gt (blk_lt (g := gb277) (o := .cells #[.int .i64 t274, .int .i64 t275] 23 (0, 0)) (by (with_reducible repeat (first | refine blk_drewN ?_ _ | refine blk_drew ?_ | refine blk_alloc ?_ _)); exact BK277.out)) : gb281 ≠ gb277)); clear BK273; clear BK277; clear HB; have BK273 := n0_; have BK277 := n1_; have HB := n2_; have BK281 := n3_; have GW281 := n4_; have GE281 := n5_; have NB273_281 := n6_; have NB281_273 := n7_; have NB277_281 := n8_; have NB281_277 := n9_; clear n0_ n1_ n2_ n3_ n4_ n5_ n6_ n7_ n8_ n9_; clear hb hbox hg; have hnb15 := NB281_273.out; have hnc15 := NB273_281.out; have hnb16 := NB281_277.out; have hnc16 := NB277_281.out; have hcz17_0 : w14.cell? ⟨gb281, 0, none⟩ = some (.int .i64 0) := (blk_cell BK281.out 0).trans rfl; have hcz17_1 : w14.cell? ⟨gb281, 1, none⟩ = some (.int .i64 0) := (blk_cell BK281.out 1).trans rfl; have hfz17_0 := blk_frozen BK281.out 0; have hfz17_1 := blk_frozen BK281.out 1))
  (try simp only [Act.put, List.setIfInBounds_toArray, List.set_cons_zero, List.set_cons_succ])
  go_cut [37] (fun v37 wc => ∃ (kq : Nat) (x37_4 : Bool), v37 = .bool x37_4 ∧ Aside0 (remontoirlaw04_ScaleErrors.j0 kq a1 x37_4 a0_0 a0_1 a0_2 a0_3 a0_4 a0_5 l0_6 l0_7 = some r) ∧ Aside0 (kq ≤ k) ∧ Aside0 (wc.heap[gb273]? = some (.cells #[.int .i64 a0_0, .int .i64 a0_1, .int .i64 a0_2, .int .i64 a0_3, .int .i64 a0_4, .int .i64 a0_5, (.slice A0_6 l0_6.length c0_6), (.slice A0_7 l0_7.length c0_7)] 44 (0, 0))) ∧ Aside0 (wc.heap[gb277]? = some (.cells #[.int .i64 t274, .int .i64 t275] 23 (0, 0))) ∧ Aside0 (wc.heap[gb281]? = some (.cells #[.int .i64 t278, .int .i64 t279] 23 (0, 0))) ∧ Aside0 (Below w.heap.size w wc))
  case first =>
    have H := HC5.out
    clear HC5
    by_cases c18 : (!(t274 == t278) || (!(t275 == t279))) = true
    · rw [if_pos c18] at H
      have c18b0 : (!(t274 == t278) || (!(t275 == t279))) = true := c18
      clear c18
      (first | rw [c18b0] | (simp only [i64_w, i32_w]; rw [c18b0]) | skip)
      have H' := Aside0.mk H
      clear H
      try go_wp2
      have n0_ : Aside0 (((w14.setCell ⟨gb281, 0, none⟩ (.int .i64 t278)).setCell ⟨gb281, 1, none⟩ (.int .i64 t279)).heap[gb273]? = some (.cells #[.int .i64 a0_0, .int .i64 a0_1, .int .i64 a0_2, .int .i64 a0_3, .int .i64 a0_4, .int .i64 a0_5, .slice A0_6 l0_6.length c0_6, .slice A0_7 l0_7.length c0_7] 44 (0, 0))) := ⟨by (with_reducible repeat (first | refine blk_drewN ?_ _ | refine blk_drew ?_ | refine blk_alloc ?_ _)); refine blk_far ?_ NB273_281.out _; (with_reducible repeat (first | refine blk_drewN ?_ _ | refine blk_drew ?_ | refine blk_alloc ?_ _)); refine blk_far ?_ NB273_281.out _; (with_reducible repeat (first | refine blk_drewN ?_ _ | refine blk_drew ?_ | refine blk_alloc ?_ _)); exact BK273.out⟩
      have n1_ : Aside0 (((w14.setCell ⟨gb281, 0, none⟩ (.int .i64 t278)).setCell ⟨gb281, 1, none⟩ (.int .i64 t279)).heap[gb277]? = some (.cells #[.int .i64 t274, .int .i64 t275] 23 (0, 0))) := ⟨by (with_reducible repeat (first | refine blk_drewN ?_ _ | refine blk_drew ?_ | refine blk_alloc ?_ _)); refine blk_far ?_ NB277_281.out _; (with_reducible repeat (first | refine blk_drewN ?_ _ | refine blk_drew ?_ | refine blk_alloc ?_ _)); refine blk_far ?_ NB277_281.out _; (with_reducible repeat (first | refine blk_drewN ?_ _ | refine blk_drew ?_ | refine blk_alloc ?_ _)); exact BK277.out⟩
      have n2_ : Aside0 (((w14.setCell ⟨gb281, 0, none⟩ (.int .i64 t278)).setCell ⟨gb281, 1, none⟩ (.int .i64 t279)).heap[gb281]? = some (.cells #[.int .i64 t278, .int .i64 t279] 23 (0, 0))) := ⟨by (with_reducible repeat (first | refine blk_drewN ?_ _ | refine blk_drew ?_ | refine blk_alloc ?_ _)); refine blk_put (cs := #[.int .i64 t278, .int .i64 0]) ?_ 1 _ rfl; (with_reducible repeat (first | refine blk_drewN ?_ _ | refine blk_drew ?_ | refine blk_alloc ?_ _)); refine blk_put (cs := #[.int .i64 0, .int .i64 0]) ?_ 0 _ rfl; (with_reducible repeat (first | refine blk_drewN ?_ _ | refine blk_drew ?_ | refine blk_alloc ?_ _)); exact BK281.out⟩
      have n3_ : Aside0 (Below w.heap.size w ((w14.setCell ⟨gb281, 0, none⟩ (.int .i64 t278)).setCell ⟨gb281, 1, none⟩ (.int .i64 t279))) := ⟨by repeat (first | (with_reducible first | exact HB.out | apply below_alloc | apply pw_below_drewN | apply below_drew1 | refine below_set ?_ GE273.out | refine below_set ?_ GE277.out | refine below_set ?_ GE281.out) | exact HB.out)⟩
      (try clear BK273)
      (try clear BK277)
      (try clear BK281)
      (try clear HB)
      generalize ((w14.setCell ⟨gb281, 0, none⟩ (.int .i64 t278)).setCell ⟨gb281, 1, none⟩ (.int .i64 t279)) = w19 at n0_ n1_ n2_ n3_ ⊢
      have BK273 := n0_
      have BK277 := n1_
      have BK281 := n2_
      have HB := n3_
      clear n0_ n1_ n2_ n3_
      have n0_ := Aside0.mk (blk_drew BK273.out)
      have n1_ := Aside0.mk (blk_drew BK277.out)
      have n2_ := Aside0.mk (blk_drew BK281.out)
      have n3_ := Aside0.mk (below_drew1 HB.out)
      clear BK273
      clear BK277
      clear BK281
      clear HB
      have BK273 := n0_
      have BK277 := n1_
      have BK281 := n2_
      have HB := n3_
      clear n0_ n1_ n2_ n3_
      refine start_ (n := 15) (S := fun w' => w'.cell? ⟨gb277, 0, none⟩ = some (.int .i64 t274) ∧ w'.cell? ⟨gb277, 1, none⟩ = some (.int .i64 t275) ∧ w'.cell? ⟨gb281, 0, none⟩ = some (.int .i64 t278) ∧ w'.cell? ⟨gb281, 1, none⟩ = some (.int .i64 t279)) (ds := []) #[false, false, false, false, false, false, false, false, false, false, false, false, false, false, false] (by kernel_rfl) rfl rfl ⟨(blk_cell BK277.out 0).trans rfl, (blk_cell BK277.out 1).trans rfl, (blk_cell BK281.out 0).trans rfl, (blk_cell BK281.out 1).trans rfl⟩ (fun hHeld => ?_); refine with_tabW remontoirlaw04_ScaleErrors.tab3 remontoirlaw04_ScaleErrors.bits3 (fun HT_ HW_ => ?_)
      generalize w19.drew = w20 at BK273 BK277 BK281 HB hHeld ⊢
      refine take_ (i := 0) (N := some 23) (v := ?_) (a' := ?_) #[true, false, false, false, false, false, false, false, false, false, false, false, false, false, false] rfl rfl (take_ofW HT_.out HW_.out (by kernel_rfl)) (fun _ _ _ h => h) (Or.inl ⟨by rfl, ?_⟩) hHeld ?_ ?_
      rotate_left
      · rintro w' ⟨s0, s1, s2, s3⟩
        go_simp
        with_reducible rfl
      rotate_left
      · simp only [Act.put, List.setIfInBounds_toArray, List.set_cons_zero, List.set_cons_succ, i64_w, i32_w]
        rfl
      refine take_ (i := 1) (N := some 24) (v := ?_) (a' := ?_) #[true, true, false, false, false, false, false, false, false, false, false, false, false, false, false] rfl rfl (take_ofW HT_.out HW_.out (by kernel_rfl)) (fun _ _ _ h => h) (Or.inl ⟨by rfl, ?_⟩) hHeld ?_ ?_
      rotate_left
      · rintro w' ⟨s0, s1, s2, s3⟩
        go_simp
        with_reducible rfl
      rotate_left
      · simp only [Act.put, List.setIfInBounds_toArray, List.set_cons_zero, List.set_cons_succ, i64_w, i32_w]
        rfl
      refine pure_ (i := 2) (N := some 25) (v := ?_) (a' := ?_) #[true, true, true, false, false, false, false, false, false, false, false, false, false, false, false] rfl rfl (any_of HT_.out (by kernel_rfl)) (fun _ _ _ h => h) (Or.inl ⟨by rfl, ?_⟩) ?_ ?_
      rotate_left
      · intro w'
        go_simp
        with_reducible rfl
      rotate_left
      · simp only [Act.put, List.setIfInBounds_toArray, List.set_cons_zero, List.set_cons_succ, i64_w, i32_w]
        rfl
      refine pure_ (i := 3) (N := some 26) (v := ?_) (a' := ?_) #[true, true, true, true, false, false, false, false, false, false, false, false, false, false, false] rfl rfl (any_of HT_.out (by kernel_rfl)) (fun _ _ _ h => h) (Or.inl ⟨by rfl, ?_⟩) ?_ ?_
      rotate_left
      · intro w'
        go_simp
        with_reducible rfl
      rotate_left
      · simp only [Act.put, List.setIfInBounds_toArray, List.set_cons_zero, List.set_cons_succ, i64_w, i32_w]
        rfl
      refine pure_ (i := 4) (N := some 27) (v := undef) (a' := ?_) #[true, true, true, true, true, false, false, false, false, false, false, false, false, false, false] rfl rfl (any_of HT_.out (by kernel_rfl)) (fun _ _ _ h => h) (Or.inr ⟨by rfl, rfl⟩) ?_ ?_
      rotate_left
      · simp only [Act.put, List.setIfInBounds_toArray, List.set_cons_zero, List.set_cons_succ, i64_w, i32_w]
        rfl
      refine pure_ (i := 5) (N := some 28) (v := undef) (a' := ?_) #[true, true, true, true, true, true, false, false, false, false, false, false, false, false, false] rfl rfl (any_of HT_.out (by kernel_rfl)) (fun _ _ _ h => h) (Or.inr ⟨by rfl, rfl⟩) ?_ ?_
      rotate_left
      · simp only [Act.put, List.setIfInBounds_toArray, List.set_cons_zero, List.set_cons_succ, i64_w, i32_w]
        rfl
      refine pure_ (i := 6) (N := some 29) (v := undef) (a' := ?_) #[true, true, true, true, true, true, true, false, false, false, false, false, false, false, false] rfl rfl (any_of HT_.out (by kernel_rfl)) (fun _ _ _ h => h) (Or.inr ⟨by rfl, rfl⟩) ?_ ?_
      rotate_left
      · simp only [Act.put, List.setIfInBounds_toArray, List.set_cons_zero, List.set_cons_succ, i64_w, i32_w]
        rfl
      refine pure_ (i := 7) (N := some 30) (v := ?_) (a' := ?_) #[true, true, true, true, true, true, true, true, false, false, false, false, false, false, false] rfl rfl (any_of HT_.out (by kernel_rfl)) (fun _ _ _ h => h) (Or.inl ⟨by rfl, ?_⟩) ?_ ?_
      rotate_left
      · intro w'
        go_simp
        with_reducible rfl
      rotate_left
      · simp only [Act.put, List.setIfInBounds_toArray, List.set_cons_zero, List.set_cons_succ, i64_w, i32_w]
        rfl
      refine pure_ (i := 8) (N := some 31) (v := ?_) (a' := ?_) #[true, true, true, true, true, true, true, true, true, false, false, false, false, false, false] rfl rfl (any_of HT_.out (by kernel_rfl)) (fun _ _ _ h => h) (Or.inl ⟨by rfl, ?_⟩) ?_ ?_
      rotate_left
      · intro w'
        go_simp
        with_reducible rfl
      rotate_left
      · simp only [Act.put, List.setIfInBounds_toArray, List.set_cons_zero, List.set_cons_succ, i64_w, i32_w]
        rfl
      refine pure_ (i := 9) (N := some 32) (v := undef) (a' := ?_) #[true, true, true, true, true, true, true, true, true, true, false, false, false, false, false] rfl rfl (any_of HT_.out (by kernel_rfl)) (fun _ _ _ h => h) (Or.inr ⟨by rfl, rfl⟩) ?_ ?_
      rotate_left
      · simp only [Act.put, List.setIfInBounds_toArray, List.set_cons_zero, List.set_cons_succ, i64_w, i32_w]
        rfl
      refine pure_ (i := 10) (N := some 33) (v := undef) (a' := ?_) #[true, true, true, true, true, true, true, true, true, true, true, false, false, false, false] rfl rfl (any_of HT_.out (by kernel_rfl)) (fun _ _ _ h => h) (Or.inr ⟨by rfl, rfl⟩) ?_ ?_
      rotate_left
      · simp only [Act.put, List.setIfInBounds_toArray, List.set_cons_zero, List.set_cons_succ, i64_w, i32_w]
        rfl
      refine pure_ (i := 11) (N := some 34) (v := undef) (a' := ?_) #[true, true, true, true, true, true, true, true, true, true, true, true, false, false, false] rfl rfl (any_of HT_.out (by kernel_rfl)) (fun _ _ _ h => h) (Or.inr ⟨by rfl, rfl⟩) ?_ ?_
      rotate_left
      · simp only [Act.put, List.setIfInBounds_toArray, List.set_cons_zero, List.set_cons_succ, i64_w, i32_w]
        rfl
      refine pure_ (i := 12) (N := some 35) (v := undef) (a' := ?_) #[true, true, true, true, true, true, true, true, true, true, true, true, true, false, false] rfl rfl (any_of HT_.out (by kernel_rfl)) (fun _ _ _ h => h) (Or.inr ⟨by rfl, rfl⟩) ?_ ?_
      rotate_left
      · simp only [Act.put, List.setIfInBounds_toArray, List.set_cons_zero, List.set_cons_succ, i64_w, i32_w]
        rfl
      refine pure_ (i := 13) (N := some 36) (v := undef) (a' := ?_) #[true, true, true, true, true, true, true, true, true, true, true, true, true, true, false] rfl rfl (any_of HT_.out (by kernel_rfl)) (fun _ _ _ h => h) (Or.inr ⟨by rfl, rfl⟩) ?_ ?_
      rotate_left
      · simp only [Act.put, List.setIfInBounds_toArray, List.set_cons_zero, List.set_cons_succ, i64_w, i32_w]
        rfl
      refine pure_ (i := 14) (N := some 37) (v := ?_) (a' := ?_) #[true, true, true, true, true, true, true, true, true, true, true, true, true, true, true] rfl rfl (any_of HT_.out (by kernel_rfl)) (fun _ _ _ h => h) (Or.inl ⟨by rfl, ?_⟩) ?_ ?_
      rotate_left
      · intro w'
        go_simp
        with_reducible rfl
      rotate_left
      · simp only [Act.put, List.setIfInBounds_toArray, List.set_cons_zero, List.set_cons_succ, i64_w, i32_w]
        rfl
      refine done_ (done_of HT_.out (by kernel_rfl)) ?_
      try go_wp2
      go_meet
      case rel => exact ⟨_, (true), (by first | rfl | (simp; done) | (simp [*]; done)), H', ⟨by first | omega | exact Nat.le_refl _⟩, ⟨by (with_reducible repeat (first | refine blk_drewN ?_ _ | refine blk_drew ?_ | refine blk_alloc ?_ _)); exact BK273.out⟩, ⟨by (with_reducible repeat (first | refine blk_drewN ?_ _ | refine blk_drew ?_ | refine blk_alloc ?_ _)); exact BK277.out⟩, ⟨by (with_reducible repeat (first | refine blk_drewN ?_ _ | refine blk_drew ?_ | refine blk_alloc ?_ _)); exact BK281.out⟩, ⟨by repeat (first | (with_reducible first | exact HB.out | apply below_alloc | apply pw_below_drewN | apply below_drew1 | refine below_set ?_ GE273.out | refine below_set ?_ GE277.out | refine below_set ?_ GE281.out) | exact HB.out)⟩⟩
    · rw [if_neg c18] at H
      have c18b0 : (!(t274 == t278) || (!(t275 == t279))) = false := by simpa using c18
      clear c18
      (first | rw [c18b0] | (simp only [i64_w, i32_w]; rw [c18b0]) | skip)
      by_cases c21 : t276 = t280
      · rw [if_pos c21] at H
        have c21b0 : (t276 == t280) = true := beq_iff_eq.mpr c21
        have c21b1 : (t276 != t280) = false := bne_eq_false_iff_eq.mpr c21
        clear c21
        replace H := Option.bind_eq_some_iff.mp H
        obtain ⟨t282, A220, H⟩ := H
        replace H : ((remontoirref04_Check.f k a0_0 a0_1 a0_2 a0_3 a0_4 a0_5 l0_6 l0_7).bind fun t283 => (remontoirlaw04_ScaleErrors.j0 k a1 (t282 != t283) a0_0 a0_1 a0_2 a0_3 a0_4 a0_5 l0_6 l0_7)) = some r := H
        have A22 := Aside0.mk A220
        clear A220
        replace H := Option.bind_eq_some_iff.mp H
        obtain ⟨t283, A230, H⟩ := H
        replace H : (remontoirlaw04_ScaleErrors.j0 k a1 (t282 != t283) a0_0 a0_1 a0_2 a0_3 a0_4 a0_5 l0_6 l0_7) = some r := H
        have A23 := Aside0.mk A230
        clear A230
        have H' := Aside0.mk H
        clear H
        try go_wp2
        have n0_ : Aside0 (((w14.setCell ⟨gb281, 0, none⟩ (.int .i64 t278)).setCell ⟨gb281, 1, none⟩ (.int .i64 t279)).heap[gb273]? = some (.cells #[.int .i64 a0_0, .int .i64 a0_1, .int .i64 a0_2, .int .i64 a0_3, .int .i64 a0_4, .int .i64 a0_5, .slice A0_6 l0_6.length c0_6, .slice A0_7 l0_7.length c0_7] 44 (0, 0))) := ⟨by (with_reducible repeat (first | refine blk_drewN ?_ _ | refine blk_drew ?_ | refine blk_alloc ?_ _)); refine blk_far ?_ NB273_281.out _; (with_reducible repeat (first | refine blk_drewN ?_ _ | refine blk_drew ?_ | refine blk_alloc ?_ _)); refine blk_far ?_ NB273_281.out _; (with_reducible repeat (first | refine blk_drewN ?_ _ | refine blk_drew ?_ | refine blk_alloc ?_ _)); exact BK273.out⟩
        have n1_ : Aside0 (((w14.setCell ⟨gb281, 0, none⟩ (.int .i64 t278)).setCell ⟨gb281, 1, none⟩ (.int .i64 t279)).heap[gb277]? = some (.cells #[.int .i64 t274, .int .i64 t275] 23 (0, 0))) := ⟨by (with_reducible repeat (first | refine blk_drewN ?_ _ | refine blk_drew ?_ | refine blk_alloc ?_ _)); refine blk_far ?_ NB277_281.out _; (with_reducible repeat (first | refine blk_drewN ?_ _ | refine blk_drew ?_ | refine blk_alloc ?_ _)); refine blk_far ?_ NB277_281.out _; (with_reducible repeat (first | refine blk_drewN ?_ _ | refine blk_drew ?_ | refine blk_alloc ?_ _)); exact BK277.out⟩
        have n2_ : Aside0 (((w14.setCell ⟨gb281, 0, none⟩ (.int .i64 t278)).setCell ⟨gb281, 1, none⟩ (.int .i64 t279)).heap[gb281]? = some (.cells #[.int .i64 t278, .int .i64 t279] 23 (0, 0))) := ⟨by (with_reducible repeat (first | refine blk_drewN ?_ _ | refine blk_drew ?_ | refine blk_alloc ?_ _)); refine blk_put (cs := #[.int .i64 t278, .int .i64 0]) ?_ 1 _ rfl; (with_reducible repeat (first | refine blk_drewN ?_ _ | refine blk_drew ?_ | refine blk_alloc ?_ _)); refine blk_put (cs := #[.int .i64 0, .int .i64 0]) ?_ 0 _ rfl; (with_reducible repeat (first | refine blk_drewN ?_ _ | refine blk_drew ?_ | refine blk_alloc ?_ _)); exact BK281.out⟩
        have n3_ : Aside0 (Below w.heap.size w ((w14.setCell ⟨gb281, 0, none⟩ (.int .i64 t278)).setCell ⟨gb281, 1, none⟩ (.int .i64 t279))) := ⟨by repeat (first | (with_reducible first | exact HB.out | apply below_alloc | apply pw_below_drewN | apply below_drew1 | refine below_set ?_ GE273.out | refine below_set ?_ GE277.out | refine below_set ?_ GE281.out) | exact HB.out)⟩
        (try clear BK273)
        (try clear BK277)
        (try clear BK281)
        (try clear HB)
        generalize ((w14.setCell ⟨gb281, 0, none⟩ (.int .i64 t278)).setCell ⟨gb281, 1, none⟩ (.int .i64 t279)) = w24 at n0_ n1_ n2_ n3_ ⊢
        have BK273 := n0_
        have BK277 := n1_
        have BK281 := n2_
        have HB := n3_
        clear n0_ n1_ n2_ n3_
        have n0_ := Aside0.mk (blk_drew BK273.out)
        have n1_ := Aside0.mk (blk_drew BK277.out)
        have n2_ := Aside0.mk (blk_drew BK281.out)
        have n3_ := Aside0.mk (below_drew1 HB.out)
        clear BK273
        clear BK277
        clear BK281
        clear HB
        have BK273 := n0_
        have BK277 := n1_
        have BK281 := n2_
        have HB := n3_
        clear n0_ n1_ n2_ n3_
        refine start_ (n := 15) (S := fun w' => w'.cell? ⟨gb277, 0, none⟩ = some (.int .i64 t274) ∧ w'.cell? ⟨gb277, 1, none⟩ = some (.int .i64 t275) ∧ w'.cell? ⟨gb281, 0, none⟩ = some (.int .i64 t278) ∧ w'.cell? ⟨gb281, 1, none⟩ = some (.int .i64 t279) ∧ w'.cell? ⟨gb273, 0, none⟩ = some (.int .i64 a0_0) ∧ w'.cell? ⟨gb273, 1, none⟩ = some (.int .i64 a0_1) ∧ w'.cell? ⟨gb273, 2, none⟩ = some (.int .i64 a0_2) ∧ w'.cell? ⟨gb273, 3, none⟩ = some (.int .i64 a0_3) ∧ w'.cell? ⟨gb273, 4, none⟩ = some (.int .i64 a0_4) ∧ w'.cell? ⟨gb273, 5, none⟩ = some (.int .i64 a0_5) ∧ w'.cell? ⟨gb273, 6, none⟩ = some (.slice A0_6 l0_6.length c0_6) ∧ w'.cell? ⟨gb273, 7, none⟩ = some (.slice A0_7 l0_7.length c0_7)) (ds := []) #[false, false, false, false, false, false, false, false, false, false, false, false, false, false, false] (by kernel_rfl) rfl rfl ⟨(blk_cell BK277.out 0).trans rfl, (blk_cell BK277.out 1).trans rfl, (blk_cell BK281.out 0).trans rfl, (blk_cell BK281.out 1).trans rfl, (blk_cell BK273.out 0).trans rfl, (blk_cell BK273.out 1).trans rfl, (blk_cell BK273.out 2).trans rfl, (blk_cell BK273.out 3).trans rfl, (blk_cell BK273.out 4).trans rfl, (blk_cell BK273.out 5).trans rfl, (blk_cell BK273.out 6).trans rfl, (blk_cell BK273.out 7).trans rfl⟩ (fun hHeld => ?_); refine with_tabW remontoirlaw04_ScaleErrors.tab3 remontoirlaw04_ScaleErrors.bits3 (fun HT_ HW_ => ?_)
        generalize w24.drew = w25 at BK273 BK277 BK281 HB hHeld ⊢
        refine take_ (i := 0) (N := some 23) (v := ?_) (a' := ?_) #[true, false, false, false, false, false, false, false, false, false, false, false, false, false, false] rfl rfl (take_ofW HT_.out HW_.out (by kernel_rfl)) (fun _ _ _ h => h) (Or.inl ⟨by rfl, ?_⟩) hHeld ?_ ?_
        rotate_left
        · rintro w' ⟨s0, s1, s2, s3, s4, s5, s6, s7, s8, s9, s10, s11⟩
          go_simp
          with_reducible rfl
        rotate_left
        · simp only [Act.put, List.setIfInBounds_toArray, List.set_cons_zero, List.set_cons_succ, i64_w, i32_w]
          rfl
        refine take_ (i := 1) (N := some 24) (v := ?_) (a' := ?_) #[true, true, false, false, false, false, false, false, false, false, false, false, false, false, false] rfl rfl (take_ofW HT_.out HW_.out (by kernel_rfl)) (fun _ _ _ h => h) (Or.inl ⟨by rfl, ?_⟩) hHeld ?_ ?_
        rotate_left
        · rintro w' ⟨s0, s1, s2, s3, s4, s5, s6, s7, s8, s9, s10, s11⟩
          go_simp
          with_reducible rfl
        rotate_left
        · simp only [Act.put, List.setIfInBounds_toArray, List.set_cons_zero, List.set_cons_succ, i64_w, i32_w]
          rfl
        refine pure_ (i := 2) (N := some 25) (v := ?_) (a' := ?_) #[true, true, true, false, false, false, false, false, false, false, false, false, false, false, false] rfl rfl (any_of HT_.out (by kernel_rfl)) (fun _ _ _ h => h) (Or.inl ⟨by rfl, ?_⟩) ?_ ?_
        rotate_left
        · intro w'
          go_simp
          with_reducible rfl
        rotate_left
        · simp only [Act.put, List.setIfInBounds_toArray, List.set_cons_zero, List.set_cons_succ, i64_w, i32_w]
          rfl
        refine pure_ (i := 3) (N := some 26) (v := ?_) (a' := ?_) #[true, true, true, true, false, false, false, false, false, false, false, false, false, false, false] rfl rfl (any_of HT_.out (by kernel_rfl)) (fun _ _ _ h => h) (Or.inl ⟨by rfl, ?_⟩) ?_ ?_
        rotate_left
        · intro w'
          go_simp
          with_reducible rfl
        rotate_left
        · simp only [Act.put, List.setIfInBounds_toArray, List.set_cons_zero, List.set_cons_succ, i64_w, i32_w]
          rfl
        refine pure_ (i := 4) (N := some 27) (v := ?_) (a' := ?_) #[true, true, true, true, true, false, false, false, false, false, false, false, false, false, false] rfl rfl (any_of HT_.out (by kernel_rfl)) (fun _ _ _ h => h) (Or.inl ⟨by rfl, ?_⟩) ?_ ?_
        rotate_left
        · intro w'
          go_simp
          with_reducible rfl
        rotate_left
        · simp only [Act.put, List.setIfInBounds_toArray, List.set_cons_zero, List.set_cons_succ, i64_w, i32_w]
          rfl
        refine pure_ (i := 5) (N := some 28) (v := ?_) (a' := ?_) #[true, true, true, true, true, true, false, false, false, false, false, false, false, false, false] rfl rfl (any_of HT_.out (by kernel_rfl)) (fun _ _ _ h => h) (Or.inl ⟨by rfl, ?_⟩) ?_ ?_
        rotate_left
        · intro w'
          go_simp
          with_reducible rfl
        rotate_left
        · simp only [Act.put, List.setIfInBounds_toArray, List.set_cons_zero, List.set_cons_succ, i64_w, i32_w]
          rfl
        refine pure_ (i := 6) (N := some 29) (v := ?_) (a' := ?_) #[true, true, true, true, true, true, true, false, false, false, false, false, false, false, false] rfl rfl (any_of HT_.out (by kernel_rfl)) (fun _ _ _ h => h) (Or.inl ⟨by rfl, ?_⟩) ?_ ?_
        rotate_left
        · intro w'
          go_simp
          with_reducible rfl
        rotate_left
        · simp only [Act.put, List.setIfInBounds_toArray, List.set_cons_zero, List.set_cons_succ, i64_w, i32_w]
          rfl
        refine pure_ (i := 7) (N := some 30) (v := ?_) (a' := ?_) #[true, true, true, true, true, true, true, true, false, false, false, false, false, false, false] rfl rfl (any_of HT_.out (by kernel_rfl)) (fun _ _ _ h => h) (Or.inl ⟨by rfl, ?_⟩) ?_ ?_
        rotate_left
        · intro w'
          go_simp
          with_reducible rfl
        rotate_left
        · simp only [Act.put, List.setIfInBounds_toArray, List.set_cons_zero, List.set_cons_succ, i64_w, i32_w]
          rfl
        refine pure_ (i := 8) (N := some 31) (v := ?_) (a' := ?_) #[true, true, true, true, true, true, true, true, true, false, false, false, false, false, false] rfl rfl (any_of HT_.out (by kernel_rfl)) (fun _ _ _ h => h) (Or.inl ⟨by rfl, ?_⟩) ?_ ?_
        rotate_left
        · intro w'
          go_simp
          with_reducible rfl
        rotate_left
        · simp only [Act.put, List.setIfInBounds_toArray, List.set_cons_zero, List.set_cons_succ, i64_w, i32_w]
          rfl
        refine take_ (i := 9) (N := some 32) (v := ?_) (a' := ?_) #[true, true, true, true, true, true, true, true, true, true, false, false, false, false, false] rfl rfl (take_ofW HT_.out HW_.out (by kernel_rfl)) (fun _ _ _ h => h) (Or.inl ⟨by rfl, ?_⟩) hHeld ?_ ?_
        rotate_left
        · rintro w' ⟨s0, s1, s2, s3, s4, s5, s6, s7, s8, s9, s10, s11⟩
          go_simp
          with_reducible rfl
        rotate_left
        · simp only [Act.put, List.setIfInBounds_toArray, List.set_cons_zero, List.set_cons_succ, i64_w, i32_w]
          rfl
        refine take_ (i := 11) (N := some 34) (v := ?_) (a' := ?_) #[true, true, true, true, true, true, true, true, true, true, false, true, false, false, false] rfl rfl (take_ofW HT_.out HW_.out (by kernel_rfl)) (fun _ _ _ h => h) (Or.inl ⟨by rfl, ?_⟩) hHeld ?_ ?_
        rotate_left
        · rintro w' ⟨s0, s1, s2, s3, s4, s5, s6, s7, s8, s9, s10, s11⟩
          go_simp
          with_reducible rfl
        rotate_left
        · simp only [Act.put, List.setIfInBounds_toArray, List.set_cons_zero, List.set_cons_succ, i64_w, i32_w]
          rfl
        refine one_ (i := 10) (N := some 33) #[true, true, true, true, true, true, true, true, true, true, true, true, false, false, false] rfl rfl (one_of HT_.out (by kernel_rfl)) (by decide) (fun K hK => ?_)
        refine goes_ Tryd.func29 (by kernel_rfl) rfl #[.agg #[.int .i64 a0_0, .int .i64 a0_1, .int .i64 a0_2, .int .i64 a0_3, .int .i64 a0_4, .int .i64 a0_5, .slice A0_6 l0_6.length c0_6, .slice A0_7 l0_7.length c0_7]] (by rfl) rfl rfl (by (try simp only [List.map_toArray, List.map_cons, List.map_nil]); first | done | rfl | (simp only [List.length_drop, List.length_take]; rfl)) ?_
        with_reducible refine (scale_Check.calls a0_0 a0_1 a0_2 a0_3 a0_4 a0_5 _ _ l0_6 _ _ l0_7 t282 _ ?side1 ?side2 ?side3 ?side4 ?side5 A22.out).mono ?_
        (case side1 => repeat (first | exact (Kd.C_below HR0_6.out HB.out) | (with_reducible refine Kd.C_alloc ?_ _) | (with_reducible refine Kd.C_drewN ?_ _) | (with_reducible refine Kd.C_drew ?_)))
        (case side2 => exact HC0_6.out)
        (case side3 => repeat (first | exact (Kd.C_below HR0_7.out HB.out) | (with_reducible refine Kd.C_alloc ?_ _) | (with_reducible refine Kd.C_drewN ?_ _) | (with_reducible refine Kd.C_drew ?_)))
        (case side4 => exact HC0_7.out)
        (case side5 => exact Go.Proofs.YtidnopmjhhmedaaDoor.Ways.below HWays.out (by repeat (first | (with_reducible first | exact HB.out | apply below_alloc | apply pw_below_drewN | apply below_drew1 | refine below_set ?_ GE273.out | refine below_set ?_ GE277.out | refine below_set ?_ GE281.out) | exact HB.out)))
        rintro e w26 ⟨rfl, hb⟩
        refine ⟨_, rfl, ?_⟩
        have n0_ := Aside0.mk (blk_below (g := gb273) (o := .cells #[.int .i64 a0_0, .int .i64 a0_1, .int .i64 a0_2, .int .i64 a0_3, .int .i64 a0_4, .int .i64 a0_5, .slice A0_6 l0_6.length c0_6, .slice A0_7 l0_7.length c0_7] 44 (0, 0)) (by (with_reducible repeat (first | refine blk_drewN ?_ _ | refine blk_drew ?_ | refine blk_alloc ?_ _)); exact BK273.out) hb)
        have n1_ := Aside0.mk (blk_below (g := gb277) (o := .cells #[.int .i64 t274, .int .i64 t275] 23 (0, 0)) (by (with_reducible repeat (first | refine blk_drewN ?_ _ | refine blk_drew ?_ | refine blk_alloc ?_ _)); exact BK277.out) hb)
        have n2_ := Aside0.mk (blk_below (g := gb281) (o := .cells #[.int .i64 t278, .int .i64 t279] 23 (0, 0)) (by (with_reducible repeat (first | refine blk_drewN ?_ _ | refine blk_drew ?_ | refine blk_alloc ?_ _)); exact BK281.out) hb)
        have n3_ := Aside0.mk (below_step (by repeat (first | (with_reducible first | exact HB.out | apply below_alloc | apply pw_below_drewN | apply below_drew1 | refine below_set ?_ GE273.out | refine below_set ?_ GE277.out | refine below_set ?_ GE281.out) | exact HB.out)) hb)
        clear BK273
        clear BK277
        clear BK281
        clear HB
        have BK273 := n0_
        have BK277 := n1_
        have BK281 := n2_
        have HB := n3_
        clear n0_ n1_ n2_ n3_
        (try clear hb)
        (try clear hb2)
        (try clear hk)
        (try clear hi)
        refine hK.out _ _ ⟨(blk_cell BK277.out 0).trans rfl, (blk_cell BK277.out 1).trans rfl, (blk_cell BK281.out 0).trans rfl, (blk_cell BK281.out 1).trans rfl, (blk_cell BK273.out 0).trans rfl, (blk_cell BK273.out 1).trans rfl, (blk_cell BK273.out 2).trans rfl, (blk_cell BK273.out 3).trans rfl, (blk_cell BK273.out 4).trans rfl, (blk_cell BK273.out 5).trans rfl, (blk_cell BK273.out 6).trans rfl, (blk_cell BK273.out 7).trans rfl⟩ (fun hHeld => ?_)
        clear hK K
        refine norm_ (a' := ?_) ?_ ?_
        rotate_left
        · show Act.put _ (some 33) _ = _
          simp only [Act.put, List.setIfInBounds_toArray, List.set_cons_zero, List.set_cons_succ, i64_w, i32_w]
          rfl
        refine one_ (i := 12) (N := some 35) #[true, true, true, true, true, true, true, true, true, true, true, true, true, false, false] rfl rfl (one_of HT_.out (by kernel_rfl)) (by decide) (fun K hK => ?_)
        refine goes_ Tryd.func30 (by kernel_rfl) rfl #[.agg #[.int .i64 a0_0, .int .i64 a0_1, .int .i64 a0_2, .int .i64 a0_3, .int .i64 a0_4, .int .i64 a0_5, .slice A0_6 l0_6.length c0_6, .slice A0_7 l0_7.length c0_7]] (by rfl) rfl rfl (by (try simp only [List.map_toArray, List.map_cons, List.map_nil]); first | done | rfl | (simp only [List.length_drop, List.length_take]; rfl)) ?_
        with_reducible refine (remontoirref04_Check.calls k a0_0 a0_1 a0_2 a0_3 a0_4 a0_5 _ _ l0_6 _ _ l0_7 t283 _ ?side1 ?side2 ?side3 ?side4 A23.out).mono ?_
        (case side1 => repeat (first | exact (Kd.C_below HR0_6.out HB.out) | (with_reducible refine Kd.C_alloc ?_ _) | (with_reducible refine Kd.C_drewN ?_ _) | (with_reducible refine Kd.C_drew ?_)))
        (case side2 => exact HC0_6.out)
        (case side3 => repeat (first | exact (Kd.C_below HR0_7.out HB.out) | (with_reducible refine Kd.C_alloc ?_ _) | (with_reducible refine Kd.C_drewN ?_ _) | (with_reducible refine Kd.C_drew ?_)))
        (case side4 => exact HC0_7.out)
        rintro e w27 ⟨rfl, hb⟩
        refine ⟨_, rfl, ?_⟩
        have n0_ := Aside0.mk (blk_below (g := gb273) (o := .cells #[.int .i64 a0_0, .int .i64 a0_1, .int .i64 a0_2, .int .i64 a0_3, .int .i64 a0_4, .int .i64 a0_5, .slice A0_6 l0_6.length c0_6, .slice A0_7 l0_7.length c0_7] 44 (0, 0)) (by (with_reducible repeat (first | refine blk_drewN ?_ _ | refine blk_drew ?_ | refine blk_alloc ?_ _)); exact BK273.out) hb)
        have n1_ := Aside0.mk (blk_below (g := gb277) (o := .cells #[.int .i64 t274, .int .i64 t275] 23 (0, 0)) (by (with_reducible repeat (first | refine blk_drewN ?_ _ | refine blk_drew ?_ | refine blk_alloc ?_ _)); exact BK277.out) hb)
        have n2_ := Aside0.mk (blk_below (g := gb281) (o := .cells #[.int .i64 t278, .int .i64 t279] 23 (0, 0)) (by (with_reducible repeat (first | refine blk_drewN ?_ _ | refine blk_drew ?_ | refine blk_alloc ?_ _)); exact BK281.out) hb)
        have n3_ := Aside0.mk (below_step (by repeat (first | (with_reducible first | exact HB.out | apply below_alloc | apply pw_below_drewN | apply below_drew1 | refine below_set ?_ GE273.out | refine below_set ?_ GE277.out | refine below_set ?_ GE281.out) | exact HB.out)) hb)
        clear BK273
        clear BK277
        clear BK281
        clear HB
        have BK273 := n0_
        have BK277 := n1_
        have BK281 := n2_
        have HB := n3_
        clear n0_ n1_ n2_ n3_
        (try clear hb)
        (try clear hb2)
        (try clear hk)
        (try clear hi)
        refine hK.out _ _ ⟨(blk_cell BK277.out 0).trans rfl, (blk_cell BK277.out 1).trans rfl, (blk_cell BK281.out 0).trans rfl, (blk_cell BK281.out 1).trans rfl, (blk_cell BK273.out 0).trans rfl, (blk_cell BK273.out 1).trans rfl, (blk_cell BK273.out 2).trans rfl, (blk_cell BK273.out 3).trans rfl, (blk_cell BK273.out 4).trans rfl, (blk_cell BK273.out 5).trans rfl, (blk_cell BK273.out 6).trans rfl, (blk_cell BK273.out 7).trans rfl⟩ (fun hHeld => ?_)
        clear hK K
        refine norm_ (a' := ?_) ?_ ?_
        rotate_left
        · show Act.put _ (some 35) _ = _
          simp only [Act.put, List.setIfInBounds_toArray, List.set_cons_zero, List.set_cons_succ, i64_w, i32_w]
          rfl
        refine pure_ (i := 13) (N := some 36) (v := ?_) (a' := ?_) #[true, true, true, true, true, true, true, true, true, true, true, true, true, true, false] rfl rfl (any_of HT_.out (by kernel_rfl)) (fun _ _ _ h => h) (Or.inl ⟨by rfl, ?_⟩) ?_ ?_
        rotate_left
        · intro w'
          go_simp
          with_reducible rfl
        rotate_left
        · simp only [Act.put, List.setIfInBounds_toArray, List.set_cons_zero, List.set_cons_succ, i64_w, i32_w]
          rfl
        refine pure_ (i := 14) (N := some 37) (v := ?_) (a' := ?_) #[true, true, true, true, true, true, true, true, true, true, true, true, true, true, true] rfl rfl (any_of HT_.out (by kernel_rfl)) (fun _ _ _ h => h) (Or.inl ⟨by rfl, ?_⟩) ?_ ?_
        rotate_left
        · intro w'
          go_simp
          with_reducible rfl
        rotate_left
        · simp only [Act.put, List.setIfInBounds_toArray, List.set_cons_zero, List.set_cons_succ, i64_w, i32_w]
          rfl
        refine done_ (done_of HT_.out (by kernel_rfl)) ?_
        try go_wp2
        go_meet
        case rel => exact ⟨_, ((t282 != t283)), (by first | rfl | (simp; done) | (simp [*]; done)), H', ⟨by first | omega | exact Nat.le_refl _⟩, ⟨by (with_reducible repeat (first | refine blk_drewN ?_ _ | refine blk_drew ?_ | refine blk_alloc ?_ _)); exact BK273.out⟩, ⟨by (with_reducible repeat (first | refine blk_drewN ?_ _ | refine blk_drew ?_ | refine blk_alloc ?_ _)); exact BK277.out⟩, ⟨by (with_reducible repeat (first | refine blk_drewN ?_ _ | refine blk_drew ?_ | refine blk_alloc ?_ _)); exact BK281.out⟩, ⟨by repeat (first | (with_reducible first | exact HB.out | apply below_alloc | apply pw_below_drewN | apply below_drew1 | refine below_set ?_ GE273.out | refine below_set ?_ GE277.out | refine below_set ?_ GE281.out) | exact HB.out)⟩⟩
      · rw [if_neg c21] at H
        have c21b0 : (t276 == t280) = false := beq_eq_false_iff_ne.mpr c21
        have c21b1 : (t276 != t280) = true := bne_iff_ne.mpr c21
        have H' := Aside0.mk H
        clear H
        try go_wp2
        have n0_ : Aside0 (((w14.setCell ⟨gb281, 0, none⟩ (.int .i64 t278)).setCell ⟨gb281, 1, none⟩ (.int .i64 t279)).heap[gb273]? = some (.cells #[.int .i64 a0_0, .int .i64 a0_1, .int .i64 a0_2, .int .i64 a0_3, .int .i64 a0_4, .int .i64 a0_5, .slice A0_6 l0_6.length c0_6, .slice A0_7 l0_7.length c0_7] 44 (0, 0))) := ⟨by (with_reducible repeat (first | refine blk_drewN ?_ _ | refine blk_drew ?_ | refine blk_alloc ?_ _)); refine blk_far ?_ NB273_281.out _; (with_reducible repeat (first | refine blk_drewN ?_ _ | refine blk_drew ?_ | refine blk_alloc ?_ _)); refine blk_far ?_ NB273_281.out _; (with_reducible repeat (first | refine blk_drewN ?_ _ | refine blk_drew ?_ | refine blk_alloc ?_ _)); exact BK273.out⟩
        have n1_ : Aside0 (((w14.setCell ⟨gb281, 0, none⟩ (.int .i64 t278)).setCell ⟨gb281, 1, none⟩ (.int .i64 t279)).heap[gb277]? = some (.cells #[.int .i64 t274, .int .i64 t275] 23 (0, 0))) := ⟨by (with_reducible repeat (first | refine blk_drewN ?_ _ | refine blk_drew ?_ | refine blk_alloc ?_ _)); refine blk_far ?_ NB277_281.out _; (with_reducible repeat (first | refine blk_drewN ?_ _ | refine blk_drew ?_ | refine blk_alloc ?_ _)); refine blk_far ?_ NB277_281.out _; (with_reducible repeat (first | refine blk_drewN ?_ _ | refine blk_drew ?_ | refine blk_alloc ?_ _)); exact BK277.out⟩
        have n2_ : Aside0 (((w14.setCell ⟨gb281, 0, none⟩ (.int .i64 t278)).setCell ⟨gb281, 1, none⟩ (.int .i64 t279)).heap[gb281]? = some (.cells #[.int .i64 t278, .int .i64 t279] 23 (0, 0))) := ⟨by (with_reducible repeat (first | refine blk_drewN ?_ _ | refine blk_drew ?_ | refine blk_alloc ?_ _)); refine blk_put (cs := #[.int .i64 t278, .int .i64 0]) ?_ 1 _ rfl; (with_reducible repeat (first | refine blk_drewN ?_ _ | refine blk_drew ?_ | refine blk_alloc ?_ _)); refine blk_put (cs := #[.int .i64 0, .int .i64 0]) ?_ 0 _ rfl; (with_reducible repeat (first | refine blk_drewN ?_ _ | refine blk_drew ?_ | refine blk_alloc ?_ _)); exact BK281.out⟩
        have n3_ : Aside0 (Below w.heap.size w ((w14.setCell ⟨gb281, 0, none⟩ (.int .i64 t278)).setCell ⟨gb281, 1, none⟩ (.int .i64 t279))) := ⟨by repeat (first | (with_reducible first | exact HB.out | apply below_alloc | apply pw_below_drewN | apply below_drew1 | refine below_set ?_ GE273.out | refine below_set ?_ GE277.out | refine below_set ?_ GE281.out) | exact HB.out)⟩
        (try clear BK273)
        (try clear BK277)
        (try clear BK281)
        (try clear HB)
        generalize ((w14.setCell ⟨gb281, 0, none⟩ (.int .i64 t278)).setCell ⟨gb281, 1, none⟩ (.int .i64 t279)) = w28 at n0_ n1_ n2_ n3_ ⊢
        have BK273 := n0_
        have BK277 := n1_
        have BK281 := n2_
        have HB := n3_
        clear n0_ n1_ n2_ n3_
        have n0_ := Aside0.mk (blk_drew BK273.out)
        have n1_ := Aside0.mk (blk_drew BK277.out)
        have n2_ := Aside0.mk (blk_drew BK281.out)
        have n3_ := Aside0.mk (below_drew1 HB.out)
        clear BK273
        clear BK277
        clear BK281
        clear HB
        have BK273 := n0_
        have BK277 := n1_
        have BK281 := n2_
        have HB := n3_
        clear n0_ n1_ n2_ n3_
        refine start_ (n := 15) (S := fun w' => w'.cell? ⟨gb277, 0, none⟩ = some (.int .i64 t274) ∧ w'.cell? ⟨gb277, 1, none⟩ = some (.int .i64 t275) ∧ w'.cell? ⟨gb281, 0, none⟩ = some (.int .i64 t278) ∧ w'.cell? ⟨gb281, 1, none⟩ = some (.int .i64 t279)) (ds := []) #[false, false, false, false, false, false, false, false, false, false, false, false, false, false, false] (by kernel_rfl) rfl rfl ⟨(blk_cell BK277.out 0).trans rfl, (blk_cell BK277.out 1).trans rfl, (blk_cell BK281.out 0).trans rfl, (blk_cell BK281.out 1).trans rfl⟩ (fun hHeld => ?_); refine with_tabW remontoirlaw04_ScaleErrors.tab3 remontoirlaw04_ScaleErrors.bits3 (fun HT_ HW_ => ?_)
        generalize w28.drew = w29 at BK273 BK277 BK281 HB hHeld ⊢
        refine take_ (i := 0) (N := some 23) (v := ?_) (a' := ?_) #[true, false, false, false, false, false, false, false, false, false, false, false, false, false, false] rfl rfl (take_ofW HT_.out HW_.out (by kernel_rfl)) (fun _ _ _ h => h) (Or.inl ⟨by rfl, ?_⟩) hHeld ?_ ?_
        rotate_left
        · rintro w' ⟨s0, s1, s2, s3⟩
          go_simp
          with_reducible rfl
        rotate_left
        · simp only [Act.put, List.setIfInBounds_toArray, List.set_cons_zero, List.set_cons_succ, i64_w, i32_w]
          rfl
        refine take_ (i := 1) (N := some 24) (v := ?_) (a' := ?_) #[true, true, false, false, false, false, false, false, false, false, false, false, false, false, false] rfl rfl (take_ofW HT_.out HW_.out (by kernel_rfl)) (fun _ _ _ h => h) (Or.inl ⟨by rfl, ?_⟩) hHeld ?_ ?_
        rotate_left
        · rintro w' ⟨s0, s1, s2, s3⟩
          go_simp
          with_reducible rfl
        rotate_left
        · simp only [Act.put, List.setIfInBounds_toArray, List.set_cons_zero, List.set_cons_succ, i64_w, i32_w]
          rfl
        refine pure_ (i := 2) (N := some 25) (v := ?_) (a' := ?_) #[true, true, true, false, false, false, false, false, false, false, false, false, false, false, false] rfl rfl (any_of HT_.out (by kernel_rfl)) (fun _ _ _ h => h) (Or.inl ⟨by rfl, ?_⟩) ?_ ?_
        rotate_left
        · intro w'
          go_simp
          with_reducible rfl
        rotate_left
        · simp only [Act.put, List.setIfInBounds_toArray, List.set_cons_zero, List.set_cons_succ, i64_w, i32_w]
          rfl
        refine pure_ (i := 3) (N := some 26) (v := ?_) (a' := ?_) #[true, true, true, true, false, false, false, false, false, false, false, false, false, false, false] rfl rfl (any_of HT_.out (by kernel_rfl)) (fun _ _ _ h => h) (Or.inl ⟨by rfl, ?_⟩) ?_ ?_
        rotate_left
        · intro w'
          go_simp
          with_reducible rfl
        rotate_left
        · simp only [Act.put, List.setIfInBounds_toArray, List.set_cons_zero, List.set_cons_succ, i64_w, i32_w]
          rfl
        refine pure_ (i := 4) (N := some 27) (v := ?_) (a' := ?_) #[true, true, true, true, true, false, false, false, false, false, false, false, false, false, false] rfl rfl (any_of HT_.out (by kernel_rfl)) (fun _ _ _ h => h) (Or.inl ⟨by rfl, ?_⟩) ?_ ?_
        rotate_left
        · intro w'
          go_simp
          with_reducible rfl
        rotate_left
        · simp only [Act.put, List.setIfInBounds_toArray, List.set_cons_zero, List.set_cons_succ, i64_w, i32_w]
          rfl
        refine pure_ (i := 5) (N := some 28) (v := ?_) (a' := ?_) #[true, true, true, true, true, true, false, false, false, false, false, false, false, false, false] rfl rfl (any_of HT_.out (by kernel_rfl)) (fun _ _ _ h => h) (Or.inl ⟨by rfl, ?_⟩) ?_ ?_
        rotate_left
        · intro w'
          go_simp
          with_reducible rfl
        rotate_left
        · simp only [Act.put, List.setIfInBounds_toArray, List.set_cons_zero, List.set_cons_succ, i64_w, i32_w]
          rfl
        refine pure_ (i := 6) (N := some 29) (v := ?_) (a' := ?_) #[true, true, true, true, true, true, true, false, false, false, false, false, false, false, false] rfl rfl (any_of HT_.out (by kernel_rfl)) (fun _ _ _ h => h) (Or.inl ⟨by rfl, ?_⟩) ?_ ?_
        rotate_left
        · intro w'
          go_simp
          with_reducible rfl
        rotate_left
        · simp only [Act.put, List.setIfInBounds_toArray, List.set_cons_zero, List.set_cons_succ, i64_w, i32_w]
          rfl
        refine pure_ (i := 7) (N := some 30) (v := ?_) (a' := ?_) #[true, true, true, true, true, true, true, true, false, false, false, false, false, false, false] rfl rfl (any_of HT_.out (by kernel_rfl)) (fun _ _ _ h => h) (Or.inl ⟨by rfl, ?_⟩) ?_ ?_
        rotate_left
        · intro w'
          go_simp
          with_reducible rfl
        rotate_left
        · simp only [Act.put, List.setIfInBounds_toArray, List.set_cons_zero, List.set_cons_succ, i64_w, i32_w]
          rfl
        refine pure_ (i := 8) (N := some 31) (v := ?_) (a' := ?_) #[true, true, true, true, true, true, true, true, true, false, false, false, false, false, false] rfl rfl (any_of HT_.out (by kernel_rfl)) (fun _ _ _ h => h) (Or.inl ⟨by rfl, ?_⟩) ?_ ?_
        rotate_left
        · intro w'
          go_simp
          with_reducible rfl
        rotate_left
        · simp only [Act.put, List.setIfInBounds_toArray, List.set_cons_zero, List.set_cons_succ, i64_w, i32_w]
          rfl
        refine pure_ (i := 9) (N := some 32) (v := undef) (a' := ?_) #[true, true, true, true, true, true, true, true, true, true, false, false, false, false, false] rfl rfl (any_of HT_.out (by kernel_rfl)) (fun _ _ _ h => h) (Or.inr ⟨by rfl, rfl⟩) ?_ ?_
        rotate_left
        · simp only [Act.put, List.setIfInBounds_toArray, List.set_cons_zero, List.set_cons_succ, i64_w, i32_w]
          rfl
        refine pure_ (i := 10) (N := some 33) (v := undef) (a' := ?_) #[true, true, true, true, true, true, true, true, true, true, true, false, false, false, false] rfl rfl (any_of HT_.out (by kernel_rfl)) (fun _ _ _ h => h) (Or.inr ⟨by rfl, rfl⟩) ?_ ?_
        rotate_left
        · simp only [Act.put, List.setIfInBounds_toArray, List.set_cons_zero, List.set_cons_succ, i64_w, i32_w]
          rfl
        refine pure_ (i := 11) (N := some 34) (v := undef) (a' := ?_) #[true, true, true, true, true, true, true, true, true, true, true, true, false, false, false] rfl rfl (any_of HT_.out (by kernel_rfl)) (fun _ _ _ h => h) (Or.inr ⟨by rfl, rfl⟩) ?_ ?_
        rotate_left
        · simp only [Act.put, List.setIfInBounds_toArray, List.set_cons_zero, List.set_cons_succ, i64_w, i32_w]
          rfl
        refine pure_ (i := 12) (N := some 35) (v := undef) (a' := ?_) #[true, true, true, true, true, true, true, true, true, true, true, true, true, false, false] rfl rfl (any_of HT_.out (by kernel_rfl)) (fun _ _ _ h => h) (Or.inr ⟨by rfl, rfl⟩) ?_ ?_
        rotate_left
        · simp only [Act.put, List.setIfInBounds_toArray, List.set_cons_zero, List.set_cons_succ, i64_w, i32_w]
          rfl
        refine pure_ (i := 13) (N := some 36) (v := undef) (a' := ?_) #[true, true, true, true, true, true, true, true, true, true, true, true, true, true, false] rfl rfl (any_of HT_.out (by kernel_rfl)) (fun _ _ _ h => h) (Or.inr ⟨by rfl, rfl⟩) ?_ ?_
        rotate_left
        · simp only [Act.put, List.setIfInBounds_toArray, List.set_cons_zero, List.set_cons_succ, i64_w, i32_w]
          rfl
        refine pure_ (i := 14) (N := some 37) (v := ?_) (a' := ?_) #[true, true, true, true, true, true, true, true, true, true, true, true, true, true, true] rfl rfl (any_of HT_.out (by kernel_rfl)) (fun _ _ _ h => h) (Or.inl ⟨by rfl, ?_⟩) ?_ ?_
        rotate_left
        · intro w'
          go_simp
          with_reducible rfl
        rotate_left
        · simp only [Act.put, List.setIfInBounds_toArray, List.set_cons_zero, List.set_cons_succ, i64_w, i32_w]
          rfl
        refine done_ (done_of HT_.out (by kernel_rfl)) ?_
        try go_wp2
        go_meet
        case rel => exact ⟨_, (true), (by first | rfl | (simp; done) | (simp [*]; done)), H', ⟨by first | omega | exact Nat.le_refl _⟩, ⟨by (with_reducible repeat (first | refine blk_drewN ?_ _ | refine blk_drew ?_ | refine blk_alloc ?_ _)); exact BK273.out⟩, ⟨by (with_reducible repeat (first | refine blk_drewN ?_ _ | refine blk_drew ?_ | refine blk_alloc ?_ _)); exact BK277.out⟩, ⟨by (with_reducible repeat (first | refine blk_drewN ?_ _ | refine blk_drew ?_ | refine blk_alloc ?_ _)); exact BK281.out⟩, ⟨by repeat (first | (with_reducible first | exact HB.out | apply below_alloc | apply pw_below_drewN | apply below_drew1 | refine below_set ?_ GE273.out | refine below_set ?_ GE277.out | refine below_set ?_ GE281.out) | exact HB.out)⟩⟩
  case rest =>
    clear HC5
    try clear c1
    try clear c2
    try clear p2
    try clear c3
    try clear c5
    try clear c10
    try clear c15
    try clear c16
    try clear c18
    try clear c18b0
    try clear c21
    try clear c21b0
    try clear c21b1
    try clear c27
    try clear c28
    try clear c29
    try clear hcz11_0
    try clear hcz11_1
    try clear hcz12_0
    try clear hcz12_1
    try clear hcz12_2
    try clear hcz12_3
    try clear hcz12_4
    try clear hcz12_5
    try clear hcz12_6
    try clear hcz12_7
    try clear hcz17_0
    try clear hcz17_1
    try clear hcz7_0
    try clear hcz7_1
    try clear hcz7_2
    try clear hcz7_3
    try clear hcz7_4
    try clear hcz7_5
    try clear hcz7_6
    try clear hcz7_7
    try clear hfz11_0
    try clear hfz11_1
    try clear hfz12_0
    try clear hfz12_1
    try clear hfz12_2
    try clear hfz12_3
    try clear hfz12_4
    try clear hfz12_5
    try clear hfz12_6
    try clear hfz12_7
    try clear hfz17_0
    try clear hfz17_1
    try clear hfz7_0
    try clear hfz7_1
    try clear hfz7_2
    try clear hfz7_3
    try clear hfz7_4
    try clear hfz7_5
    try clear hfz7_6
    try clear hfz7_7
    obtain ⟨kq, x37_4, rfl, HA, HJ4, BK273, BK277, BK281, HB⟩ := hcut
    cases kq with
    | zero => exact absurd HA.out (by simp [remontoirlaw04_ScaleErrors.j0])
    | succ kj4 =>
      have H := HA.out
      clear HA
      simp only [remontoirlaw04_ScaleErrors.j0] at H
      by_cases c30 : x37_4 = true
      · subst c30
        have H1 : (some false) = some r := by rw [if_pos rfl] at H; exact H
        clear H
        have H := H1
        clear H1
        obtain rfl := Option.some.inj H
        go_wp2
        go_ret
        exact ⟨by first | rfl | (simp [errW_none, errW_some] <;> rfl) | (simp [*, errW_none, errW_some] <;> rfl), by repeat (first | (with_reducible first | exact HB.out | apply below_alloc | apply pw_below_drewN | apply below_drew1 | refine below_set ?_ GE273.out | refine below_set ?_ GE277.out | refine below_set ?_ GE281.out) | exact HB.out)⟩
      · replace c30 := Bool.eq_false_iff.mpr c30
        subst c30
        have H1 : ((scale_Stated.f a0_0 a0_1 a0_2 a0_3 a0_4 a0_5 l0_6 l0_7 a1).bind fun bt284 => ((remontoirref04_Stated.f kj4 a0_0 a0_1 a0_2 a0_3 a0_4 a0_5 l0_6 l0_7 a1).bind fun bt286 => (if bt284.1 = bt286.1 then (if bt284.2 = bt286.2 then ((remontoirlaw04_works.f).bind fun t288 => (some t288)) else (some false)) else (some false)))) = some r := by rw [if_neg (show ¬ (false = true) by decide)] at H; exact H
        clear H
        have H := H1
        clear H1
        replace H := Option.bind_eq_some_iff.mp H
        obtain ⟨⟨t284, t285⟩, A310, H⟩ := H
        replace H : ((remontoirref04_Stated.f kj4 a0_0 a0_1 a0_2 a0_3 a0_4 a0_5 l0_6 l0_7 a1).bind fun bt286 => (if t284 = bt286.1 then (if t285 = bt286.2 then ((remontoirlaw04_works.f).bind fun t288 => (some t288)) else (some false)) else (some false))) = some r := H
        have A31 := Aside0.mk A310
        clear A310
        replace H := Option.bind_eq_some_iff.mp H
        obtain ⟨⟨t286, t287⟩, A320, H⟩ := H
        replace H : (if t284 = t286 then (if t285 = t287 then ((remontoirlaw04_works.f).bind fun t288 => (some t288)) else (some false)) else (some false)) = some r := H
        have A32 := Aside0.mk A320
        clear A320
        by_cases c33 : t284 = t286
        · rw [if_pos c33] at H
          have c33b0 : (t284 == t286) = true := beq_iff_eq.mpr c33
          have c33b1 : (t284 != t286) = false := bne_eq_false_iff_eq.mpr c33
          clear c33
          by_cases c34 : t285 = t287
          · rw [if_pos c34] at H
            have c34b0 : (t285 == t287) = true := beq_iff_eq.mpr c34
            have c34b1 : (t285 != t287) = false := bne_eq_false_iff_eq.mpr c34
            clear c34
            replace H := Option.bind_eq_some_iff.mp H
            obtain ⟨t288, A350, H⟩ := H
            replace H : (some t288) = some r := H
            have A35 := Aside0.mk A350
            clear A350
            obtain rfl := Option.some.inj H
            have hnb36 := NB273_277.out
            have hnc36 := NB277_273.out
            have hnb37 := NB273_281.out
            have hnc37 := NB281_273.out
            have hcz38_0 : wc.cell? ⟨gb273, 0, none⟩ = some (.int .i64 a0_0) := (blk_cell BK273.out 0).trans rfl
            have hcz38_1 : wc.cell? ⟨gb273, 1, none⟩ = some (.int .i64 a0_1) := (blk_cell BK273.out 1).trans rfl
            have hcz38_2 : wc.cell? ⟨gb273, 2, none⟩ = some (.int .i64 a0_2) := (blk_cell BK273.out 2).trans rfl
            have hcz38_3 : wc.cell? ⟨gb273, 3, none⟩ = some (.int .i64 a0_3) := (blk_cell BK273.out 3).trans rfl
            have hcz38_4 : wc.cell? ⟨gb273, 4, none⟩ = some (.int .i64 a0_4) := (blk_cell BK273.out 4).trans rfl
            have hcz38_5 : wc.cell? ⟨gb273, 5, none⟩ = some (.int .i64 a0_5) := (blk_cell BK273.out 5).trans rfl
            have hcz38_6 : wc.cell? ⟨gb273, 6, none⟩ = some (.slice A0_6 l0_6.length c0_6) := (blk_cell BK273.out 6).trans rfl
            have hcz38_7 : wc.cell? ⟨gb273, 7, none⟩ = some (.slice A0_7 l0_7.length c0_7) := (blk_cell BK273.out 7).trans rfl
            have hfz38_0 := blk_frozen BK273.out 0
            have hfz38_1 := blk_frozen BK273.out 1
            have hfz38_2 := blk_frozen BK273.out 2
            have hfz38_3 := blk_frozen BK273.out 3
            have hfz38_4 := blk_frozen BK273.out 4
            have hfz38_5 := blk_frozen BK273.out 5
            have hfz38_6 := blk_frozen BK273.out 6
            have hfz38_7 := blk_frozen BK273.out 7
            go_wp2_with (first | ((with_reducible refine gate_callee (f := 31) rfl ?_); refine goesL_ (some 41) rfl rfl Tryd.func31 (by kernel_rfl) rfl #[.agg #[.int .i64 a0_0, .int .i64 a0_1, .int .i64 a0_2, .int .i64 a0_3, .int .i64 a0_4, .int .i64 a0_5, .slice A0_6 l0_6.length c0_6, .slice A0_7 l0_7.length c0_7], .int .i64 a1] rfl (by (try simp only [List.map_toArray, List.map_cons, List.map_nil]); first | done | rfl | (simp only [List.length_drop, List.length_take]; rfl)) ?_; (with_reducible refine (scale_Stated.calls a0_0 a0_1 a0_2 a0_3 a0_4 a0_5 _ _ l0_6 _ _ l0_7 a1 t284 t285 _ ?side1 ?side2 ?side3 ?side4 ?side5 A31.out).mono ?_); (case side1 => repeat (first | exact (Kd.C_below HR0_6.out HB.out) | (with_reducible refine Kd.C_alloc ?_ _) | (with_reducible refine Kd.C_drewN ?_ _) | (with_reducible refine Kd.C_drew ?_))); (case side2 => exact HC0_6.out); (case side3 => repeat (first | exact (Kd.C_below HR0_7.out HB.out) | (with_reducible refine Kd.C_alloc ?_ _) | (with_reducible refine Kd.C_drewN ?_ _) | (with_reducible refine Kd.C_drew ?_))); (case side4 => exact HC0_7.out); (case side5 => exact Go.Proofs.YtidnopmjhhmedaaDoor.Ways.below HWays.out (by repeat (first | (with_reducible first | exact HB.out | apply below_alloc | apply pw_below_drewN | apply below_drew1 | refine below_set ?_ GE273.out | refine below_set ?_ GE277.out | refine below_set ?_ GE281.out) | exact HB.out))); rintro e w39 ⟨rfl, hb⟩; refine ⟨_, rfl, ?_⟩; have n0_ := Aside0.mk (blk_below (g := gb273) (o := .cells #[.int .i64 a0_0, .int .i64 a0_1, .int .i64 a0_2, .int .i64 a0_3, .int .i64 a0_4, .int .i64 a0_5, .slice A0_6 l0_6.length c0_6, .slice A0_7 l0_7.length c0_7] 44 (0, 0)) (by (with_reducible repeat (first | refine blk_drewN ?_ _ | refine blk_drew ?_ | refine blk_alloc ?_ _)); exact BK273.out) hb); have n1_ := Aside0.mk (blk_below (g := gb277) (o := .cells #[.int .i64 t274, .int .i64 t275] 23 (0, 0)) (by (with_reducible repeat (first | refine blk_drewN ?_ _ | refine blk_drew ?_ | refine blk_alloc ?_ _)); exact BK277.out) hb); have n2_ := Aside0.mk (blk_below (g := gb281) (o := .cells #[.int .i64 t278, .int .i64 t279] 23 (0, 0)) (by (with_reducible repeat (first | refine blk_drewN ?_ _ | refine blk_drew ?_ | refine blk_alloc ?_ _)); exact BK281.out) hb); have n3_ := Aside0.mk (below_step (by repeat (first | (with_reducible first | exact HB.out | apply below_alloc | apply pw_below_drewN | apply below_drew1 | refine below_set ?_ GE273.out | refine below_set ?_ GE277.out | refine below_set ?_ GE281.out) | exact HB.out)) hb); clear BK273; clear BK277; clear BK281; clear HB; have BK273 := n0_; have BK277 := n1_; have BK281 := n2_; have HB := n3_; clear n0_ n1_ n2_ n3_; (try clear hb); (try clear hb2); (try clear hk); (try clear hi); have hcz40_0 : w39.cell? ⟨gb273, 0, none⟩ = some (.int .i64 a0_0) := (blk_cell BK273.out 0).trans rfl; have hcz40_1 : w39.cell? ⟨gb273, 1, none⟩ = some (.int .i64 a0_1) := (blk_cell BK273.out 1).trans rfl; have hcz40_2 : w39.cell? ⟨gb273, 2, none⟩ = some (.int .i64 a0_2) := (blk_cell BK273.out 2).trans rfl; have hcz40_3 : w39.cell? ⟨gb273, 3, none⟩ = some (.int .i64 a0_3) := (blk_cell BK273.out 3).trans rfl; have hcz40_4 : w39.cell? ⟨gb273, 4, none⟩ = some (.int .i64 a0_4) := (blk_cell BK273.out 4).trans rfl; have hcz40_5 : w39.cell? ⟨gb273, 5, none⟩ = some (.int .i64 a0_5) := (blk_cell BK273.out 5).trans rfl; have hcz40_6 : w39.cell? ⟨gb273, 6, none⟩ = some (.slice A0_6 l0_6.length c0_6) := (blk_cell BK273.out 6).trans rfl; have hcz40_7 : w39.cell? ⟨gb273, 7, none⟩ = some (.slice A0_7 l0_7.length c0_7) := (blk_cell BK273.out 7).trans rfl; have hfz40_0 := blk_frozen BK273.out 0; have hfz40_1 := blk_frozen BK273.out 1; have hfz40_2 := blk_frozen BK273.out 2; have hfz40_3 := blk_frozen BK273.out 3; have hfz40_4 := blk_frozen BK273.out 4; have hfz40_5 := blk_frozen BK273.out 5; have hfz40_6 := blk_frozen BK273.out 6; have hfz40_7 := blk_frozen BK273.out 7) | ((with_reducible refine gate_callee (f := 32) rfl ?_); refine goesL_ (some 47) rfl rfl Tryd.func32 (by kernel_rfl) rfl #[.agg #[.int .i64 a0_0, .int .i64 a0_1, .int .i64 a0_2, .int .i64 a0_3, .int .i64 a0_4, .int .i64 a0_5, .slice A0_6 l0_6.length c0_6, .slice A0_7 l0_7.length c0_7], .int .i64 a1] rfl (by (try simp only [List.map_toArray, List.map_cons, List.map_nil]); first | done | rfl | (simp only [List.length_drop, List.length_take]; rfl)) ?_; (with_reducible refine (remontoirref04_Stated.calls kj4 a0_0 a0_1 a0_2 a0_3 a0_4 a0_5 _ _ l0_6 _ _ l0_7 a1 t286 t287 _ ?side1 ?side2 ?side3 ?side4 A32.out).mono ?_); (case side1 => repeat (first | exact (Kd.C_below HR0_6.out HB.out) | (with_reducible refine Kd.C_alloc ?_ _) | (with_reducible refine Kd.C_drewN ?_ _) | (with_reducible refine Kd.C_drew ?_))); (case side2 => exact HC0_6.out); (case side3 => repeat (first | exact (Kd.C_below HR0_7.out HB.out) | (with_reducible refine Kd.C_alloc ?_ _) | (with_reducible refine Kd.C_drewN ?_ _) | (with_reducible refine Kd.C_drew ?_))); (case side4 => exact HC0_7.out); rintro e w41 ⟨rfl, hb⟩; refine ⟨_, rfl, ?_⟩; have n0_ := Aside0.mk (blk_below (g := gb273) (o := .cells #[.int .i64 a0_0, .int .i64 a0_1, .int .i64 a0_2, .int .i64 a0_3, .int .i64 a0_4, .int .i64 a0_5, .slice A0_6 l0_6.length c0_6, .slice A0_7 l0_7.length c0_7] 44 (0, 0)) (by (with_reducible repeat (first | refine blk_drewN ?_ _ | refine blk_drew ?_ | refine blk_alloc ?_ _)); exact BK273.out) hb); have n1_ := Aside0.mk (blk_below (g := gb277) (o := .cells #[.int .i64 t274, .int .i64 t275] 23 (0, 0)) (by (with_reducible repeat (first | refine blk_drewN ?_ _ | refine blk_drew ?_ | refine blk_alloc ?_ _)); exact BK277.out) hb); have n2_ := Aside0.mk (blk_below (g := gb281) (o := .cells #[.int .i64 t278, .int .i64 t279] 23 (0, 0)) (by (with_reducible repeat (first | refine blk_drewN ?_ _ | refine blk_drew ?_ | refine blk_alloc ?_ _)); exact BK281.out) hb); have n3_ := Aside0.mk (below_step (by repeat (first | (with_reducible first | exact HB.out | apply below_alloc | apply pw_below_drewN | apply below_drew1 | refine below_set ?_ GE273.out | refine below_set ?_ GE277.out | refine below_set ?_ GE281.out) | exact HB.out)) hb); clear BK273; clear BK277; clear BK281; clear HB; have BK273 := n0_; have BK277 := n1_; have BK281 := n2_; have HB := n3_; clear n0_ n1_ n2_ n3_; (try clear hb); (try clear hb2); (try clear hk); (try clear hi)) | (go_at_call 21; (with_reducible refine (remontoirlaw04_works.calls  t288 _ ?side1 A35.out).mono ?_); (case side1 => exact Go.Proofs.YtidnopmjhhmedaaDoor.Ways.below HWays.out (by repeat (first | (with_reducible first | exact HB.out | apply below_alloc | apply pw_below_drewN | apply below_drew1 | refine below_set ?_ GE273.out | refine below_set ?_ GE277.out | refine below_set ?_ GE281.out) | exact HB.out))); rintro e w42 ⟨rfl, hb⟩; have n0_ := Aside0.mk (blk_below (g := gb273) (o := .cells #[.int .i64 a0_0, .int .i64 a0_1, .int .i64 a0_2, .int .i64 a0_3, .int .i64 a0_4, .int .i64 a0_5, .slice A0_6 l0_6.length c0_6, .slice A0_7 l0_7.length c0_7] 44 (0, 0)) (by (with_reducible repeat (first | refine blk_drewN ?_ _ | refine blk_drew ?_ | refine blk_alloc ?_ _)); exact BK273.out) hb); have n1_ := Aside0.mk (blk_below (g := gb277) (o := .cells #[.int .i64 t274, .int .i64 t275] 23 (0, 0)) (by (with_reducible repeat (first | refine blk_drewN ?_ _ | refine blk_drew ?_ | refine blk_alloc ?_ _)); exact BK277.out) hb); have n2_ := Aside0.mk (blk_below (g := gb281) (o := .cells #[.int .i64 t278, .int .i64 t279] 23 (0, 0)) (by (with_reducible repeat (first | refine blk_drewN ?_ _ | refine blk_drew ?_ | refine blk_alloc ?_ _)); exact BK281.out) hb); have n3_ := Aside0.mk (below_step (by repeat (first | (with_reducible first | exact HB.out | apply below_alloc | apply pw_below_drewN | apply below_drew1 | refine below_set ?_ GE273.out | refine below_set ?_ GE277.out | refine below_set ?_ GE281.out) | exact HB.out)) hb); clear BK273; clear BK277; clear BK281; clear HB; have BK273 := n0_; have BK277 := n1_; have BK281 := n2_; have HB := n3_; clear n0_ n1_ n2_ n3_; (try clear hb); (try clear hb2); (try clear hk); (try clear hi)))
            go_ret
            exact ⟨by first | rfl | (simp [errW_none, errW_some] <;> rfl) | (simp [*, errW_none, errW_some] <;> rfl), by repeat (first | (with_reducible first | exact HB.out | apply below_alloc | apply pw_below_drewN | apply below_drew1 | refine below_set ?_ GE273.out | refine below_set ?_ GE277.out | refine below_set ?_ GE281.out) | exact HB.out)⟩
          · rw [if_neg c34] at H
            have c34b0 : (t285 == t287) = false := beq_eq_false_iff_ne.mpr c34
            have c34b1 : (t285 != t287) = true := bne_iff_ne.mpr c34
            obtain rfl := Option.some.inj H
            have hnb43 := NB273_277.out
            have hnc43 := NB277_273.out
            have hnb44 := NB273_281.out
            have hnc44 := NB281_273.out
            have hcz45_0 : wc.cell? ⟨gb273, 0, none⟩ = some (.int .i64 a0_0) := (blk_cell BK273.out 0).trans rfl
            have hcz45_1 : wc.cell? ⟨gb273, 1, none⟩ = some (.int .i64 a0_1) := (blk_cell BK273.out 1).trans rfl
            have hcz45_2 : wc.cell? ⟨gb273, 2, none⟩ = some (.int .i64 a0_2) := (blk_cell BK273.out 2).trans rfl
            have hcz45_3 : wc.cell? ⟨gb273, 3, none⟩ = some (.int .i64 a0_3) := (blk_cell BK273.out 3).trans rfl
            have hcz45_4 : wc.cell? ⟨gb273, 4, none⟩ = some (.int .i64 a0_4) := (blk_cell BK273.out 4).trans rfl
            have hcz45_5 : wc.cell? ⟨gb273, 5, none⟩ = some (.int .i64 a0_5) := (blk_cell BK273.out 5).trans rfl
            have hcz45_6 : wc.cell? ⟨gb273, 6, none⟩ = some (.slice A0_6 l0_6.length c0_6) := (blk_cell BK273.out 6).trans rfl
            have hcz45_7 : wc.cell? ⟨gb273, 7, none⟩ = some (.slice A0_7 l0_7.length c0_7) := (blk_cell BK273.out 7).trans rfl
            have hfz45_0 := blk_frozen BK273.out 0
            have hfz45_1 := blk_frozen BK273.out 1
            have hfz45_2 := blk_frozen BK273.out 2
            have hfz45_3 := blk_frozen BK273.out 3
            have hfz45_4 := blk_frozen BK273.out 4
            have hfz45_5 := blk_frozen BK273.out 5
            have hfz45_6 := blk_frozen BK273.out 6
            have hfz45_7 := blk_frozen BK273.out 7
            go_wp2_with (first | ((with_reducible refine gate_callee (f := 31) rfl ?_); refine goesL_ (some 41) rfl rfl Tryd.func31 (by kernel_rfl) rfl #[.agg #[.int .i64 a0_0, .int .i64 a0_1, .int .i64 a0_2, .int .i64 a0_3, .int .i64 a0_4, .int .i64 a0_5, .slice A0_6 l0_6.length c0_6, .slice A0_7 l0_7.length c0_7], .int .i64 a1] rfl (by (try simp only [List.map_toArray, List.map_cons, List.map_nil]); first | done | rfl | (simp only [List.length_drop, List.length_take]; rfl)) ?_; (with_reducible refine (scale_Stated.calls a0_0 a0_1 a0_2 a0_3 a0_4 a0_5 _ _ l0_6 _ _ l0_7 a1 t284 t285 _ ?side1 ?side2 ?side3 ?side4 ?side5 A31.out).mono ?_); (case side1 => repeat (first | exact (Kd.C_below HR0_6.out HB.out) | (with_reducible refine Kd.C_alloc ?_ _) | (with_reducible refine Kd.C_drewN ?_ _) | (with_reducible refine Kd.C_drew ?_))); (case side2 => exact HC0_6.out); (case side3 => repeat (first | exact (Kd.C_below HR0_7.out HB.out) | (with_reducible refine Kd.C_alloc ?_ _) | (with_reducible refine Kd.C_drewN ?_ _) | (with_reducible refine Kd.C_drew ?_))); (case side4 => exact HC0_7.out); (case side5 => exact Go.Proofs.YtidnopmjhhmedaaDoor.Ways.below HWays.out (by repeat (first | (with_reducible first | exact HB.out | apply below_alloc | apply pw_below_drewN | apply below_drew1 | refine below_set ?_ GE273.out | refine below_set ?_ GE277.out | refine below_set ?_ GE281.out) | exact HB.out))); rintro e w46 ⟨rfl, hb⟩; refine ⟨_, rfl, ?_⟩; have n0_ := Aside0.mk (blk_below (g := gb273) (o := .cells #[.int .i64 a0_0, .int .i64 a0_1, .int .i64 a0_2, .int .i64 a0_3, .int .i64 a0_4, .int .i64 a0_5, .slice A0_6 l0_6.length c0_6, .slice A0_7 l0_7.length c0_7] 44 (0, 0)) (by (with_reducible repeat (first | refine blk_drewN ?_ _ | refine blk_drew ?_ | refine blk_alloc ?_ _)); exact BK273.out) hb); have n1_ := Aside0.mk (blk_below (g := gb277) (o := .cells #[.int .i64 t274, .int .i64 t275] 23 (0, 0)) (by (with_reducible repeat (first | refine blk_drewN ?_ _ | refine blk_drew ?_ | refine blk_alloc ?_ _)); exact BK277.out) hb); have n2_ := Aside0.mk (blk_below (g := gb281) (o := .cells #[.int .i64 t278, .int .i64 t279] 23 (0, 0)) (by (with_reducible repeat (first | refine blk_drewN ?_ _ | refine blk_drew ?_ | refine blk_alloc ?_ _)); exact BK281.out) hb); have n3_ := Aside0.mk (below_step (by repeat (first | (with_reducible first | exact HB.out | apply below_alloc | apply pw_below_drewN | apply below_drew1 | refine below_set ?_ GE273.out | refine below_set ?_ GE277.out | refine below_set ?_ GE281.out) | exact HB.out)) hb); clear BK273; clear BK277; clear BK281; clear HB; have BK273 := n0_; have BK277 := n1_; have BK281 := n2_; have HB := n3_; clear n0_ n1_ n2_ n3_; (try clear hb); (try clear hb2); (try clear hk); (try clear hi); have hcz47_0 : w46.cell? ⟨gb273, 0, none⟩ = some (.int .i64 a0_0) := (blk_cell BK273.out 0).trans rfl; have hcz47_1 : w46.cell? ⟨gb273, 1, none⟩ = some (.int .i64 a0_1) := (blk_cell BK273.out 1).trans rfl; have hcz47_2 : w46.cell? ⟨gb273, 2, none⟩ = some (.int .i64 a0_2) := (blk_cell BK273.out 2).trans rfl; have hcz47_3 : w46.cell? ⟨gb273, 3, none⟩ = some (.int .i64 a0_3) := (blk_cell BK273.out 3).trans rfl; have hcz47_4 : w46.cell? ⟨gb273, 4, none⟩ = some (.int .i64 a0_4) := (blk_cell BK273.out 4).trans rfl; have hcz47_5 : w46.cell? ⟨gb273, 5, none⟩ = some (.int .i64 a0_5) := (blk_cell BK273.out 5).trans rfl; have hcz47_6 : w46.cell? ⟨gb273, 6, none⟩ = some (.slice A0_6 l0_6.length c0_6) := (blk_cell BK273.out 6).trans rfl; have hcz47_7 : w46.cell? ⟨gb273, 7, none⟩ = some (.slice A0_7 l0_7.length c0_7) := (blk_cell BK273.out 7).trans rfl; have hfz47_0 := blk_frozen BK273.out 0; have hfz47_1 := blk_frozen BK273.out 1; have hfz47_2 := blk_frozen BK273.out 2; have hfz47_3 := blk_frozen BK273.out 3; have hfz47_4 := blk_frozen BK273.out 4; have hfz47_5 := blk_frozen BK273.out 5; have hfz47_6 := blk_frozen BK273.out 6; have hfz47_7 := blk_frozen BK273.out 7) | ((with_reducible refine gate_callee (f := 32) rfl ?_); refine goesL_ (some 47) rfl rfl Tryd.func32 (by kernel_rfl) rfl #[.agg #[.int .i64 a0_0, .int .i64 a0_1, .int .i64 a0_2, .int .i64 a0_3, .int .i64 a0_4, .int .i64 a0_5, .slice A0_6 l0_6.length c0_6, .slice A0_7 l0_7.length c0_7], .int .i64 a1] rfl (by (try simp only [List.map_toArray, List.map_cons, List.map_nil]); first | done | rfl | (simp only [List.length_drop, List.length_take]; rfl)) ?_; (with_reducible refine (remontoirref04_Stated.calls kj4 a0_0 a0_1 a0_2 a0_3 a0_4 a0_5 _ _ l0_6 _ _ l0_7 a1 t286 t287 _ ?side1 ?side2 ?side3 ?side4 A32.out).mono ?_); (case side1 => repeat (first | exact (Kd.C_below HR0_6.out HB.out) | (with_reducible refine Kd.C_alloc ?_ _) | (with_reducible refine Kd.C_drewN ?_ _) | (with_reducible refine Kd.C_drew ?_))); (case side2 => exact HC0_6.out); (case side3 => repeat (first | exact (Kd.C_below HR0_7.out HB.out) | (with_reducible refine Kd.C_alloc ?_ _) | (with_reducible refine Kd.C_drewN ?_ _) | (with_reducible refine Kd.C_drew ?_))); (case side4 => exact HC0_7.out); rintro e w48 ⟨rfl, hb⟩; refine ⟨_, rfl, ?_⟩; have n0_ := Aside0.mk (blk_below (g := gb273) (o := .cells #[.int .i64 a0_0, .int .i64 a0_1, .int .i64 a0_2, .int .i64 a0_3, .int .i64 a0_4, .int .i64 a0_5, .slice A0_6 l0_6.length c0_6, .slice A0_7 l0_7.length c0_7] 44 (0, 0)) (by (with_reducible repeat (first | refine blk_drewN ?_ _ | refine blk_drew ?_ | refine blk_alloc ?_ _)); exact BK273.out) hb); have n1_ := Aside0.mk (blk_below (g := gb277) (o := .cells #[.int .i64 t274, .int .i64 t275] 23 (0, 0)) (by (with_reducible repeat (first | refine blk_drewN ?_ _ | refine blk_drew ?_ | refine blk_alloc ?_ _)); exact BK277.out) hb); have n2_ := Aside0.mk (blk_below (g := gb281) (o := .cells #[.int .i64 t278, .int .i64 t279] 23 (0, 0)) (by (with_reducible repeat (first | refine blk_drewN ?_ _ | refine blk_drew ?_ | refine blk_alloc ?_ _)); exact BK281.out) hb); have n3_ := Aside0.mk (below_step (by repeat (first | (with_reducible first | exact HB.out | apply below_alloc | apply pw_below_drewN | apply below_drew1 | refine below_set ?_ GE273.out | refine below_set ?_ GE277.out | refine below_set ?_ GE281.out) | exact HB.out)) hb); clear BK273; clear BK277; clear BK281; clear HB; have BK273 := n0_; have BK277 := n1_; have BK281 := n2_; have HB := n3_; clear n0_ n1_ n2_ n3_; (try clear hb); (try clear hb2); (try clear hk); (try clear hi)))
            go_ret
            exact ⟨by first | rfl | (simp [errW_none, errW_some] <;> rfl) | (simp [*, errW_none, errW_some] <;> rfl), by repeat (first | (with_reducible first | exact HB.out | apply below_alloc | apply pw_below_drewN | apply below_drew1 | refine below_set ?_ GE273.out | refine below_set ?_ GE277.out | refine below_set ?_ GE281.out) | exact HB.out)⟩
        · rw [if_neg c33] at H
          have c33b0 : (t284 == t286) = false := beq_eq_false_iff_ne.mpr c33
          have c33b1 : (t284 != t286) = true := bne_iff_ne.mpr c33
          obtain rfl := Option.some.inj H
          have hnb49 := NB273_277.out
          have hnc49 := NB277_273.out
          have hnb50 := NB273_281.out
          have hnc50 := NB281_273.out
          have hcz51_0 : wc.cell? ⟨gb273, 0, none⟩ = some (.int .i64 a0_0) := (blk_cell BK273.out 0).trans rfl
          have hcz51_1 : wc.cell? ⟨gb273, 1, none⟩ = some (.int .i64 a0_1) := (blk_cell BK273.out 1).trans rfl
          have hcz51_2 : wc.cell? ⟨gb273, 2, none⟩ = some (.int .i64 a0_2) := (blk_cell BK273.out 2).trans rfl
          have hcz51_3 : wc.cell? ⟨gb273, 3, none⟩ = some (.int .i64 a0_3) := (blk_cell BK273.out 3).trans rfl
          have hcz51_4 : wc.cell? ⟨gb273, 4, none⟩ = some (.int .i64 a0_4) := (blk_cell BK273.out 4).trans rfl
          have hcz51_5 : wc.cell? ⟨gb273, 5, none⟩ = some (.int .i64 a0_5) := (blk_cell BK273.out 5).trans rfl
          have hcz51_6 : wc.cell? ⟨gb273, 6, none⟩ = some (.slice A0_6 l0_6.length c0_6) := (blk_cell BK273.out 6).trans rfl
          have hcz51_7 : wc.cell? ⟨gb273, 7, none⟩ = some (.slice A0_7 l0_7.length c0_7) := (blk_cell BK273.out 7).trans rfl
          have hfz51_0 := blk_frozen BK273.out 0
          have hfz51_1 := blk_frozen BK273.out 1
          have hfz51_2 := blk_frozen BK273.out 2
          have hfz51_3 := blk_frozen BK273.out 3
          have hfz51_4 := blk_frozen BK273.out 4
          have hfz51_5 := blk_frozen BK273.out 5
          have hfz51_6 := blk_frozen BK273.out 6
          have hfz51_7 := blk_frozen BK273.out 7
          go_wp2_with (first | ((with_reducible refine gate_callee (f := 31) rfl ?_); refine goesL_ (some 41) rfl rfl Tryd.func31 (by kernel_rfl) rfl #[.agg #[.int .i64 a0_0, .int .i64 a0_1, .int .i64 a0_2, .int .i64 a0_3, .int .i64 a0_4, .int .i64 a0_5, .slice A0_6 l0_6.length c0_6, .slice A0_7 l0_7.length c0_7], .int .i64 a1] rfl (by (try simp only [List.map_toArray, List.map_cons, List.map_nil]); first | done | rfl | (simp only [List.length_drop, List.length_take]; rfl)) ?_; (with_reducible refine (scale_Stated.calls a0_0 a0_1 a0_2 a0_3 a0_4 a0_5 _ _ l0_6 _ _ l0_7 a1 t284 t285 _ ?side1 ?side2 ?side3 ?side4 ?side5 A31.out).mono ?_); (case side1 => repeat (first | exact (Kd.C_below HR0_6.out HB.out) | (with_reducible refine Kd.C_alloc ?_ _) | (with_reducible refine Kd.C_drewN ?_ _) | (with_reducible refine Kd.C_drew ?_))); (case side2 => exact HC0_6.out); (case side3 => repeat (first | exact (Kd.C_below HR0_7.out HB.out) | (with_reducible refine Kd.C_alloc ?_ _) | (with_reducible refine Kd.C_drewN ?_ _) | (with_reducible refine Kd.C_drew ?_))); (case side4 => exact HC0_7.out); (case side5 => exact Go.Proofs.YtidnopmjhhmedaaDoor.Ways.below HWays.out (by repeat (first | (with_reducible first | exact HB.out | apply below_alloc | apply pw_below_drewN | apply below_drew1 | refine below_set ?_ GE273.out | refine below_set ?_ GE277.out | refine below_set ?_ GE281.out) | exact HB.out))); rintro e w52 ⟨rfl, hb⟩; refine ⟨_, rfl, ?_⟩; have n0_ := Aside0.mk (blk_below (g := gb273) (o := .cells #[.int .i64 a0_0, .int .i64 a0_1, .int .i64 a0_2, .int .i64 a0_3, .int .i64 a0_4, .int .i64 a0_5, .slice A0_6 l0_6.length c0_6, .slice A0_7 l0_7.length c0_7] 44 (0, 0)) (by (with_reducible repeat (first | refine blk_drewN ?_ _ | refine blk_drew ?_ | refine blk_alloc ?_ _)); exact BK273.out) hb); have n1_ := Aside0.mk (blk_below (g := gb277) (o := .cells #[.int .i64 t274, .int .i64 t275] 23 (0, 0)) (by (with_reducible repeat (first | refine blk_drewN ?_ _ | refine blk_drew ?_ | refine blk_alloc ?_ _)); exact BK277.out) hb); have n2_ := Aside0.mk (blk_below (g := gb281) (o := .cells #[.int .i64 t278, .int .i64 t279] 23 (0, 0)) (by (with_reducible repeat (first | refine blk_drewN ?_ _ | refine blk_drew ?_ | refine blk_alloc ?_ _)); exact BK281.out) hb); have n3_ := Aside0.mk (below_step (by repeat (first | (with_reducible first | exact HB.out | apply below_alloc | apply pw_below_drewN | apply below_drew1 | refine below_set ?_ GE273.out | refine below_set ?_ GE277.out | refine below_set ?_ GE281.out) | exact HB.out)) hb); clear BK273; clear BK277; clear BK281; clear HB; have BK273 := n0_; have BK277 := n1_; have BK281 := n2_; have HB := n3_; clear n0_ n1_ n2_ n3_; (try clear hb); (try clear hb2); (try clear hk); (try clear hi); have hcz53_0 : w52.cell? ⟨gb273, 0, none⟩ = some (.int .i64 a0_0) := (blk_cell BK273.out 0).trans rfl; have hcz53_1 : w52.cell? ⟨gb273, 1, none⟩ = some (.int .i64 a0_1) := (blk_cell BK273.out 1).trans rfl; have hcz53_2 : w52.cell? ⟨gb273, 2, none⟩ = some (.int .i64 a0_2) := (blk_cell BK273.out 2).trans rfl; have hcz53_3 : w52.cell? ⟨gb273, 3, none⟩ = some (.int .i64 a0_3) := (blk_cell BK273.out 3).trans rfl; have hcz53_4 : w52.cell? ⟨gb273, 4, none⟩ = some (.int .i64 a0_4) := (blk_cell BK273.out 4).trans rfl; have hcz53_5 : w52.cell? ⟨gb273, 5, none⟩ = some (.int .i64 a0_5) := (blk_cell BK273.out 5).trans rfl; have hcz53_6 : w52.cell? ⟨gb273, 6, none⟩ = some (.slice A0_6 l0_6.length c0_6) := (blk_cell BK273.out 6).trans rfl; have hcz53_7 : w52.cell? ⟨gb273, 7, none⟩ = some (.slice A0_7 l0_7.length c0_7) := (blk_cell BK273.out 7).trans rfl; have hfz53_0 := blk_frozen BK273.out 0; have hfz53_1 := blk_frozen BK273.out 1; have hfz53_2 := blk_frozen BK273.out 2; have hfz53_3 := blk_frozen BK273.out 3; have hfz53_4 := blk_frozen BK273.out 4; have hfz53_5 := blk_frozen BK273.out 5; have hfz53_6 := blk_frozen BK273.out 6; have hfz53_7 := blk_frozen BK273.out 7) | ((with_reducible refine gate_callee (f := 32) rfl ?_); refine goesL_ (some 47) rfl rfl Tryd.func32 (by kernel_rfl) rfl #[.agg #[.int .i64 a0_0, .int .i64 a0_1, .int .i64 a0_2, .int .i64 a0_3, .int .i64 a0_4, .int .i64 a0_5, .slice A0_6 l0_6.length c0_6, .slice A0_7 l0_7.length c0_7], .int .i64 a1] rfl (by (try simp only [List.map_toArray, List.map_cons, List.map_nil]); first | done | rfl | (simp only [List.length_drop, List.length_take]; rfl)) ?_; (with_reducible refine (remontoirref04_Stated.calls kj4 a0_0 a0_1 a0_2 a0_3 a0_4 a0_5 _ _ l0_6 _ _ l0_7 a1 t286 t287 _ ?side1 ?side2 ?side3 ?side4 A32.out).mono ?_); (case side1 => repeat (first | exact (Kd.C_below HR0_6.out HB.out) | (with_reducible refine Kd.C_alloc ?_ _) | (with_reducible refine Kd.C_drewN ?_ _) | (with_reducible refine Kd.C_drew ?_))); (case side2 => exact HC0_6.out); (case side3 => repeat (first | exact (Kd.C_below HR0_7.out HB.out) | (with_reducible refine Kd.C_alloc ?_ _) | (with_reducible refine Kd.C_drewN ?_ _) | (with_reducible refine Kd.C_drew ?_))); (case side4 => exact HC0_7.out); rintro e w54 ⟨rfl, hb⟩; refine ⟨_, rfl, ?_⟩; have n0_ := Aside0.mk (blk_below (g := gb273) (o := .cells #[.int .i64 a0_0, .int .i64 a0_1, .int .i64 a0_2, .int .i64 a0_3, .int .i64 a0_4, .int .i64 a0_5, .slice A0_6 l0_6.length c0_6, .slice A0_7 l0_7.length c0_7] 44 (0, 0)) (by (with_reducible repeat (first | refine blk_drewN ?_ _ | refine blk_drew ?_ | refine blk_alloc ?_ _)); exact BK273.out) hb); have n1_ := Aside0.mk (blk_below (g := gb277) (o := .cells #[.int .i64 t274, .int .i64 t275] 23 (0, 0)) (by (with_reducible repeat (first | refine blk_drewN ?_ _ | refine blk_drew ?_ | refine blk_alloc ?_ _)); exact BK277.out) hb); have n2_ := Aside0.mk (blk_below (g := gb281) (o := .cells #[.int .i64 t278, .int .i64 t279] 23 (0, 0)) (by (with_reducible repeat (first | refine blk_drewN ?_ _ | refine blk_drew ?_ | refine blk_alloc ?_ _)); exact BK281.out) hb); have n3_ := Aside0.mk (below_step (by repeat (first | (with_reducible first | exact HB.out | apply below_alloc | apply pw_below_drewN | apply below_drew1 | refine below_set ?_ GE273.out | refine below_set ?_ GE277.out | refine below_set ?_ GE281.out) | exact HB.out)) hb); clear BK273; clear BK277; clear BK281; clear HB; have BK273 := n0_; have BK277 := n1_; have BK281 := n2_; have HB := n3_; clear n0_ n1_ n2_ n3_; (try clear hb); (try clear hb2); (try clear hk); (try clear hi)))
          go_ret
          exact ⟨by first | rfl | (simp [errW_none, errW_some] <;> rfl) | (simp [*, errW_none, errW_some] <;> rfl), by repeat (first | (with_reducible first | exact HB.out | apply below_alloc | apply pw_below_drewN | apply below_drew1 | refine below_set ?_ GE273.out | refine below_set ?_ GE277.out | refine below_set ?_ GE281.out) | exact HB.out)⟩

end Go.Proofs.TrydX.X
end

section
-- Written by wip/tools/pr.py (a program of this repo over the kit's print.py).
namespace Go.Proofs.TrydX.X
open Go.RowKit Go.Proofs.YtidnopmjhhmedaaDoorW.PrintWords Go.Proofs.YtidnopmjhhmedaaDoorW.PrintLast Go.Proofs.YtidnopmjhhmedaaDoorW.PrintMore
attribute [local go_sem] max2_int min2_int max_two min_two max_three min_three max_four min_four   -- for this text's walks alone
set_option linter.unusedVariables false
set_option linter.unusedSimpArgs false

end Go.Proofs.TrydX.X
end

section
-- Written by wip/tools/pr.py (a program of this repo over the kit's print.py).
namespace Go.Proofs.TrydX.X
open Go.RowKit Go.Proofs.YtidnopmjhhmedaaDoorW.PrintWords Go.Proofs.YtidnopmjhhmedaaDoorW.PrintLast Go.Proofs.YtidnopmjhhmedaaDoorW.PrintMore
attribute [local go_sem] max2_int min2_int max_two min_two max_three min_three max_four min_four   -- for this text's walks alone
set_option linter.unusedVariables false
set_option linter.unusedSimpArgs false

end Go.Proofs.TrydX.X
end

section
-- Written by wip/tools/pr.py (a program of this repo over the kit's print.py).
namespace Go.Proofs.TrydX.X
open Go.RowKit Go.Proofs.YtidnopmjhhmedaaDoorW.PrintWords Go.Proofs.YtidnopmjhhmedaaDoorW.PrintLast Go.Proofs.YtidnopmjhhmedaaDoorW.PrintMore
attribute [local go_sem] max2_int min2_int max_two min_two max_three min_three max_four min_four   -- for this text's walks alone
set_option linter.unusedVariables false
set_option linter.unusedSimpArgs false

end Go.Proofs.TrydX.X
end

section
-- Written by wip/tools/pr.py (a program of this repo over the kit's print.py).
namespace Go.Proofs.TrydX.X
open Go.RowKit Go.Proofs.YtidnopmjhhmedaaDoorW.PrintWords Go.Proofs.YtidnopmjhhmedaaDoorW.PrintLast Go.Proofs.YtidnopmjhhmedaaDoorW.PrintMore
attribute [local go_sem] max2_int min2_int max_two min_two max_three min_three max_four min_four   -- for this text's walks alone
set_option linter.unusedVariables false
set_option linter.unusedSimpArgs false

end Go.Proofs.TrydX.X
end

section
-- Written by wip/tools/pr.py (a program of this repo over the kit's print.py).
namespace Go.Proofs.TrydX.X
open Go.RowKit Go.Proofs.YtidnopmjhhmedaaDoorW.PrintWords Go.Proofs.YtidnopmjhhmedaaDoorW.PrintLast Go.Proofs.YtidnopmjhhmedaaDoorW.PrintMore
attribute [local go_sem] max2_int min2_int max_two min_two max_three min_three max_four min_four   -- for this text's walks alone
set_option linter.unusedVariables false
set_option linter.unusedSimpArgs false

end Go.Proofs.TrydX.X
end

section
-- Written by wip/tools/pr.py (a program of this repo over the kit's print.py).
namespace Go.Proofs.TrydX.X
open Go.RowKit Go.Proofs.YtidnopmjhhmedaaDoorW.PrintWords Go.Proofs.YtidnopmjhhmedaaDoorW.PrintLast Go.Proofs.YtidnopmjhhmedaaDoorW.PrintMore
attribute [local go_sem] max2_int min2_int max_two min_two max_three min_three max_four min_four   -- for this text's walks alone
set_option linter.unusedVariables false
set_option linter.unusedSimpArgs false

end Go.Proofs.TrydX.X
end

section
-- Written by wip/tools/pr.py (a program of this repo over the kit's print.py).
namespace Go.Proofs.TrydX.X
open Go.RowKit Go.Proofs.YtidnopmjhhmedaaDoorW.PrintWords Go.Proofs.YtidnopmjhhmedaaDoorW.PrintLast Go.Proofs.YtidnopmjhhmedaaDoorW.PrintMore
attribute [local go_sem] max2_int min2_int max_two min_two max_three min_three max_four min_four   -- for this text's walks alone
set_option linter.unusedVariables false
set_option linter.unusedSimpArgs false

end Go.Proofs.TrydX.X
end

section
-- Written by wip/tools/pr.py (a program of this repo over the kit's print.py).
namespace Go.Proofs.TrydX.X
open Go.RowKit Go.Proofs.YtidnopmjhhmedaaDoorW.PrintWords Go.Proofs.YtidnopmjhhmedaaDoorW.PrintLast Go.Proofs.YtidnopmjhhmedaaDoorW.PrintMore
attribute [local go_sem] max2_int min2_int max_two min_two max_three min_three max_four min_four   -- for this text's walks alone
set_option linter.unusedVariables false
set_option linter.unusedSimpArgs false

end Go.Proofs.TrydX.X
end

section
-- Written by wip/tools/pr.py (a program of this repo over the kit's print.py).
namespace Go.Proofs.TrydX.X
open Go.RowKit Go.Proofs.YtidnopmjhhmedaaDoorW.PrintWords Go.Proofs.YtidnopmjhhmedaaDoorW.PrintLast Go.Proofs.YtidnopmjhhmedaaDoorW.PrintMore
attribute [local go_sem] max2_int min2_int max_two min_two max_three min_three max_four min_four   -- for this text's walks alone
set_option linter.unusedVariables false
set_option linter.unusedSimpArgs false

end Go.Proofs.TrydX.X
end

section
-- Written by wip/tools/pr.py (a program of this repo over the kit's print.py).
namespace Go.Proofs.TrydX.X
open Go.RowKit Go.Proofs.YtidnopmjhhmedaaDoorW.PrintWords Go.Proofs.YtidnopmjhhmedaaDoorW.PrintLast Go.Proofs.YtidnopmjhhmedaaDoorW.PrintMore
attribute [local go_sem] max2_int min2_int max_two min_two max_three min_three max_four min_four   -- for this text's walks alone
set_option linter.unusedVariables false
set_option linter.unusedSimpArgs false

end Go.Proofs.TrydX.X
end

section
/- Plain: what the reference's functions of chapter 04 tell, in the hand's own words. -/
set_option linter.unusedSimpArgs false
set_option linter.unusedVariables false
namespace Go.Proofs.TrydX.X
open Go.RowKit Go.Proofs.YtidnopmjhhmedaaDoorW.PrintWords Go.Proofs.YtidnopmjhhmedaaDoorW.PrintLast
open Go.Proofs.YtidnopmjhhmedaaDoor

theorem wr {x : Int} (h : -9223372036854775808 ≤ x ∧ x ≤ 9223372036854775807) : wrap64 x = x := IntWalk.wrap64_in x h
theorem lies_f (n a b : Int) : remontoirref00_Lies.f n a b = some (lies n a b) := by
  unfold remontoirref00_Lies.f lies
  by_cases h : a ≤ n <;> simp [h]
theorem valid_f (a b l h : Int) : remontoirref00_Valid.f a b l h = some (decide (a ≤ b) && decide (l ≤ a) && decide (b ≤ h)) := by
  unfold remontoirref00_Valid.f
  by_cases h1 : a ≤ b <;> by_cases h2 : l ≤ a <;> simp [h1, h2]
theorem checkRule_f (F S J L H : Int) : remontoirref04_checkRule.f F S J L H = some (isRuleB F S J L H) := by
  unfold remontoirref04_checkRule.f isRuleB
  simp only [lies_f, valid_f, Option.bind_some]
  cases lies F 0 500 <;> cases lies S 0 500 <;> cases lies J 1 500 <;> simp
  by_cases h1 : L ≤ H <;> by_cases h2 : -100 ≤ L <;> simp [h1, h2]
theorem drop_rd (l : List Int) (i : Nat) (h : i < l.length) : l.drop i = rd l i :: l.drop (i + 1) := by
  rw [List.drop_eq_getElem_cons h]; simp [rd, h]
theorem keeps_l0 {F S J L H : Int} (hr : isRuleB F S J L H = true) (l : List Int) (hl : l.length ≤ 17592186044416) (d : Nat) : ∀ (k i : Nat) (last : Int), i + d = l.length → d < k → -500 ≤ last ∧ last ≤ 500 →
    remontoirref04_keeps.l0 k l last i F S J L H = some (keepsB F S J last (l.drop i)) := by
  obtain ⟨hF, hS, hJ, _⟩ := isRuleB_spec hr
  induction d with
  | zero =>
    intro k i last hi hk _
    obtain ⟨k, rfl⟩ : ∃ m, k = m + 1 := ⟨k - 1, by omega⟩
    simp only [remontoirref04_keeps.l0]
    rw [if_neg (by omega), List.drop_eq_nil_of_le (by omega)]; rfl
  | succ d ih =>
    intro k i last hi hk hla
    obtain ⟨k, rfl⟩ : ∃ m, k = m + 1 := ⟨k - 1, by omega⟩
    simp only [remontoirref04_keeps.l0]
    rw [if_pos (by omega), if_pos (by omega), drop_rd l i (by omega)]
    simp only [lies_f, Option.bind_some, keepsB]
    rw [wr (x := -S) (by omega), wr (x := last - J) (by omega), wr (x := last + J) (by omega), wr (x := (i : Int) + 1) (by omega)]
    cases h1 : lies (rd l i) (-S) F
    · simp
    · have h1' := lies_iff.1 h1
      have h2 : lies (rd l i) (last - J) (last + J) = lies (rd l i - last) (-J) J := by
        rw [Bool.eq_iff_iff, lies_iff, lies_iff]; omega
      rw [h2]
      cases h3 : lies (rd l i - last) (-J) J
      · simp
      · have := ih k (i + 1) (rd l i) (by omega) (by omega) (by omega)
        simpa using this
theorem keeps_f {F S J L H : Int} (hr : isRuleB F S J L H = true) (l : List Int) (hl : l.length ≤ 17592186044416) (k : Nat) (hk : l.length < k) : remontoirref04_keeps.f k F S J L H l = some (keepsB F S J 0 l) := by
  have := keeps_l0 hr l hl l.length k 0 0 (by omega) hk (by omega)
  simpa [remontoirref04_keeps.f] using this
theorem size_f (n : Int) (h : -9223372036854775807 ≤ n) (h2 : n ≤ 9223372036854775807) : remontoirref00_Size.f n = some (if n < 0 then -n else n) := by
  unfold remontoirref00_Size.f
  by_cases hn : n < 0
  · rw [if_pos hn, if_pos hn, wr (by omega)]
  · rw [if_neg hn, if_neg hn]
theorem mn_eq (a b : Int) : mn a b = min a b := by unfold mn; omega
theorem mx_eq (a b : Int) : mx a b = max a b := by unfold mx; omega
end Go.Proofs.TrydX.X
end

section
/- Plain: what the reference's Check, errors, Error and Stated tell, in the hand's own words. -/
set_option linter.unusedSimpArgs false
set_option linter.unusedVariables false
namespace Go.Proofs.TrydX.X
open Go.RowKit Go.Proofs.YtidnopmjhhmedaaDoorW.PrintWords Go.Proofs.YtidnopmjhhmedaaDoorW.PrintLast
open Go.Proofs.YtidnopmjhhmedaaDoor

theorem drop_T71 (l : List S71) (i : Nat) (h : i < l.length) : l.drop i = rd_T71 l i :: l.drop (i + 1) := by
  rw [List.drop_eq_getElem_cons h]; simp [rd_T71, h]
section
variable {F S J L H T : Int} {st : List Int} {l7 : List S71}
theorem Check_l0 (hl : l7.length ≤ 17592186044416) (d : Nat) : ∀ (k i : Nat) (ok : Bool), i + d = l7.length → 2 * d + 1 < k →
    remontoirref04_Check.l0 k ok i F S J L H T st l7 = some (if (ok && ((l7.drop i).map toLk).all (lookB T)) = true then 0 else 40) := by
  induction d with
  | zero =>
    intro k i ok hi hk
    obtain ⟨k, rfl⟩ : ∃ m, k = m + 2 := ⟨k - 2, by omega⟩
    simp only [remontoirref04_Check.l0, remontoirref04_Check.j2]
    rw [List.drop_eq_nil_of_le (by omega)]
    have : ¬ ((i : Int) < (l7.length : Int)) := by omega
    cases ok <;> simp [this]
  | succ d ih =>
    intro k i ok hi hk
    obtain ⟨k, rfl⟩ : ∃ m, k = m + 2 := ⟨k - 2, by omega⟩
    simp only [remontoirref04_Check.l0, remontoirref04_Check.j2]
    have h1 : ((i : Int) < (l7.length : Int)) := by omega
    cases ok
    · simp
    · simp only [if_true, h1, decide_true]
      rw [if_pos (by omega), lies_f, drop_T71 l7 i (by omega), wr (x := (i : Int) + 1) (by omega), valid_f]
      simp only [Option.bind_some, List.map_cons, List.all_cons, Bool.true_and]
      have e : ((i : Int) + 1) = ((i + 1 : Nat) : Int) := by omega
      rw [e, ih k (i + 1) _ (by omega) (by omega), ih k (i + 1) _ (by omega) (by omega)]
      unfold lookB toLk
      cases lies (rd_T71 l7 i).f0 0 T
      · simp
      · simp only [if_true, Bool.true_and]
        by_cases h2 : (rd_T71 l7 i).f1.f0 ≤ (rd_T71 l7 i).f1.f1 <;> by_cases h3 : -20000 ≤ (rd_T71 l7 i).f1.f0 <;> by_cases h4 : (rd_T71 l7 i).f1.f1 ≤ 20000 <;> simp [h2, h3, h4]
theorem Check_f (h6 : st.length ≤ 17592186044416) (h7 : l7.length ≤ 17592186044416) (k : Nat) (hk : 2 * l7.length + st.length + 5 < k) : remontoirref04_Check.f k F S J L H T st l7 = scale_Check.f F S J L H T st l7 := by
  unfold remontoirref04_Check.f scale_Check.f
  rw [checkRule_f, if_pos (show st.length ≤ 17592186044416 ∧ l7.length ≤ 17592186044416 from ⟨h6, h7⟩)]
  obtain ⟨k, rfl⟩ : ∃ m, k = m + 1 := ⟨k - 1, by omega⟩
  have hj : ∀ ok, remontoirref04_Check.j0 (k + 1) ok F S J L H T st l7 = some (if (ok && (l7.map toLk).all (lookB T)) = true then 0 else 40) := by
    intro ok
    simp only [remontoirref04_Check.j0]
    have := Check_l0 (F := F) (S := S) (J := J) (L := L) (H := H) (T := T) (st := st) h7 l7.length k 0 ok (by omega) (by omega)
    simpa using this
  simp only [Option.bind_some, hj]
  unfold checkB
  cases hr : isRuleB F S J L H
  · simp
  · simp only [if_true]
    rw [lies_f]
    simp only [Option.bind_some]
    cases hT : lies T 1 60
    · simp
    · simp only [if_true]
      by_cases hs : (st.length : Int) ≤ T
      · rw [if_pos hs, keeps_f hr st h6 (k + 1) (by omega)]
        simp only [Option.bind_some]
        cases keepsB F S J 0 st
        · simp
        · by_cases hlk : l7.length ≤ 10
          · simp [hs, hlk, show (l7.length : Int) ≤ 10 by omega]
          · simp [hs, hlk, show ¬ (l7.length : Int) ≤ 10 by omega]
      · rw [if_neg hs]; simp [hs]
end

/-! ### The two passes. -/
def fS (s : Sp) : S23 := ⟨s.lo, s.hi⟩
def listS (g : Nat → Sp) (n : Nat) : List S23 := (List.range n).map fun k => fS (g k)
theorem listS_len (g : Nat → Sp) (n : Nat) : (listS g n).length = n := by simp [listS]
theorem rd_listS (g : Nat → Sp) {n i : Nat} (h : i < n) : rd_T23 (listS g n) i = fS (g i) := by
  simp [rd_T23, listS, List.getD_eq_getElem?_getD, h]
theorem listS_succ (g : Nat → Sp) (n : Nat) : listS g (n + 1) = listS g n ++ [fS (g n)] := by simp [listS, List.range_succ]
theorem listS_set (g : Nat → Sp) (n k : Nat) (s : Sp) : (listS g n).set k (fS s) = listS (putS g k s) n := by
  apply List.ext_getElem
  · simp [listS]
  · intro i h1 h2
    simp only [List.getElem_set, listS, List.getElem_map, List.getElem_range, putS]
    by_cases e : k = i
    · subst e; simp
    · simp [e, Ne.symm e]
theorem Both_f (s t : Sp) : remontoirref00_Both.f s.lo s.hi t.lo t.hi = some ((bothS s t).lo, (bothS s t).hi) := by
  unfold remontoirref00_Both.f remontoirref00_To.f bothS
  simp [mx_eq, mn_eq]
theorem bothS_swap (s t u : Sp) : bothS (bothS s t) u = bothS (bothS s u) t := by
  simp only [bothS, Sp.mk.injEq]; omega
def hitS (n : Int) (s : Sp) (l : S71) : Sp := if l.f0 = n then bothS s ⟨l.f1.f0, l.f1.f1⟩ else s
theorem hits_both (n : Int) (l : List S71) : ∀ s t, l.foldl (hitS n) (bothS s t) = bothS (l.foldl (hitS n) s) t := by
  induction l with
  | nil => intro s t; rfl
  | cons x l ih =>
    intro s t
    simp only [List.foldl_cons]
    unfold hitS
    split
    · rw [bothS_swap]; exact ih _ _
    · exact ih _ _
theorem looks_hits (T : Int) (n : Nat) (l : List S71) : ∀ f, (l.map toLk).all (lookB T) = true → ((l.map toLk).foldl lookS f) n = l.foldl (hitS n) (f n) := by
  induction l with
  | nil => intro f _; rfl
  | cons x l ih =>
    intro f h
    simp only [List.map_cons, List.all_cons, Bool.and_eq_true] at h
    simp only [List.map_cons, List.foldl_cons]
    rw [ih _ h.2]
    congr 1
    have h1 := h.1
    simp only [lookB, toLk, Bool.and_eq_true, decide_eq_true_eq, lies_iff] at h1
    unfold lookS hitS toLk putS
    dsimp only
    by_cases e : x.f0 = n
    · rw [if_pos e, if_pos (by omega)]
      congr 2
      omega
    · rw [if_neg e, if_neg (by omega)]
theorem fwdTo_stay (st : List Int) (L H : Int) (f : Nat → Sp) (i : Nat) : ∀ j, i ≤ j → fwdTo st L H f j i = fwdTo st L H f i i
  | 0, h => by obtain rfl : i = 0 := by omega
               rfl
  | j + 1, h => by
    rcases Nat.lt_or_ge j i with h1 | h1
    · obtain rfl : i = j + 1 := by omega
      rfl
    · rw [fwdTo, fwdS, putS_ne _ _ (by omega)]
      exact fwdTo_stay st L H f i j h1
theorem fwdTo_ahead (st : List Int) (L H : Int) (f : Nat → Sp) (i : Nat) : ∀ j, j < i ∨ i = 0 → fwdTo st L H f j i = f i
  | 0, _ => rfl
  | j + 1, h => by
    rw [fwdTo, fwdS, putS_ne _ _ (by omega)]
    exact fwdTo_ahead st L H f i j (by omega)
theorem fwdTo_at (st : List Int) (L H : Int) (f : Nat → Sp) (t i : Nat) (h : i < t) :
    fwdTo st L H f t (i + 1) = bothS (f (i + 1)) ⟨(fwdTo st L H f t i).lo + stAt st i + L, (fwdTo st L H f t i).hi + stAt st i + H⟩ := by
  rw [fwdTo_stay st L H f (i + 1) t (by omega), fwdTo_stay st L H f i t (by omega), fwdTo, fwdS, putS_self, fwdTo_ahead st L H f (i + 1) i (by omega)]
theorem bwdTo_rest (st : List Int) (L H : Int) (t : Nat) (f : Nat → Sp) (i : Nat) : ∀ j, i + j < t ∨ t ≤ i → j ≤ t → bwdTo st L H t f j i = f i
  | 0, _, _ => rfl
  | j + 1, h, hj => by
    rw [bwdTo, bwdS, putS_ne _ _ (by omega)]
    exact bwdTo_rest st L H t f i j (by omega) (by omega)
theorem bwdTo_within (st : List Int) (L H : Int) (t : Nat) (f : Nat → Sp) (i : Nat) : ∀ j, (f i).lo ≤ (bwdTo st L H t f j i).lo ∧ (bwdTo st L H t f j i).hi ≤ (f i).hi
  | 0 => ⟨Int.le_refl _, Int.le_refl _⟩
  | j + 1 => by
    have ih := bwdTo_within st L H t f i j
    rw [bwdTo, bwdS]
    unfold putS
    split
    · rename_i e
      rw [← e]
      simp only [bothS]
      omega
    · exact ih
/-- Where no span is empty going forth, none is going back. -/
theorem bwdTo_full (st : List Int) {L H : Int} (hd : L ≤ H) (t : Nat) (f : Nat → Sp) (hf : Fwd st L H t f) (hn : ∀ i, i ≤ t → (f i).lo ≤ (f i).hi) : ∀ j, j ≤ t → ∀ i, i ≤ t → (bwdTo st L H t f j i).lo ≤ (bwdTo st L H t f j i).hi
  | 0, _ => hn
  | j + 1, hj => by
    intro i hi
    have ih := bwdTo_full st hd t f hf hn j (by omega)
    rw [bwdTo, bwdS]
    by_cases e : i = t - (j + 1)
    · rw [← e, putS_self]
      have h1 := ih (i + 1) (by omega)
      have h2 := bwdTo_rest st L H t f i j (by omega) (by omega)
      have h3 := hf i (by omega)
      have h4 := bwdTo_within st L H t f (i + 1) j
      have h5 := hn i hi
      rw [h2]
      simp only [bothS]
      omega
    · rw [putS_ne _ _ e]
      exact ih i hi
def okFrom (g : Nat → Sp) (i : Nat) : Nat → Bool
  | 0 => true
  | d + 1 => decide ((g i).lo ≤ (g i).hi) && okFrom g (i + 1) d
theorem okFrom_iff (g : Nat → Sp) (d : Nat) : ∀ i, okFrom g i d = true ↔ ∀ k, i ≤ k → k < i + d → (g k).lo ≤ (g k).hi := by
  induction d with
  | zero => intro i; simp [okFrom]; omega
  | succ d ih =>
    intro i
    simp only [okFrom, Bool.and_eq_true, decide_eq_true_eq, ih]
    constructor
    · rintro ⟨h1, h2⟩ k hk hk2
      rcases Nat.lt_or_ge i k with h | h
      · exact h2 k (by omega) (by omega)
      · obtain rfl : k = i := by omega
        exact h1
    · intro h
      exact ⟨h i (by omega) (by omega), fun k h1 h2 => h k (by omega) (by omega)⟩
theorem okF_iff (t : Nat) (f : Nat → Sp) : okF t f = true ↔ ∀ k, k ≤ t → (f k).lo ≤ (f k).hi := by
  unfold okF
  simp only [List.all_eq_true, List.mem_range, decide_eq_true_eq]
  exact ⟨fun h k hk => h k (by omega), fun h k hk => h k (by omega)⟩
theorem ok_both (st : List Int) {L H : Int} (hd : L ≤ H) (t : Nat) (f : Nat → Sp) : okFrom (fwdTo st L H f t) 0 (t + 1) = okF t (roundF st L H t f) := by
  rw [Bool.eq_iff_iff, okFrom_iff, okF_iff]
  unfold roundF
  constructor
  · intro h
    exact bwdTo_full st hd t _ (fwdTo_fwd st L H f t) (fun i hi => h i (by omega) (by omega)) t (by omega)
  · intro h k _ hk
    have h1 := h k (by omega)
    have h2 := bwdTo_within st L H t (fwdTo st L H f t) k t
    omega

section
variable {F S J L H : Int} {st : List Int} {l7 : List S71}
theorem change_f (hL : -100 ≤ L ∧ L ≤ H ∧ H ≤ 100) (hst : ∀ k, -500 ≤ stAt st k ∧ stAt st k ≤ 500) (T : Int) (i : Nat) : remontoirref04_change.f F S J L H T st l7 i = some (L + stAt st i, H + stAt st i) := by
  unfold remontoirref04_change.f remontoirref00_To.f
  have hb := hst i
  by_cases h : i < st.length
  · rw [if_pos (by omega), if_pos (by omega)]
    have e : rd st i = stAt st i := by simp [rd, stAt, List.getD_eq_getElem?_getD]
    rw [e, wr (x := L + stAt st i) (by omega), wr (x := H + stAt st i) (by omega)]
    rfl
  · rw [if_neg (by omega)]
    have e : stAt st i = 0 := by unfold stAt; rw [List.getElem?_eq_none (by omega)]; rfl
    rw [e, wr (x := L + 0) (by omega), wr (x := H + 0) (by omega)]
    rfl
theorem errors_l1 (hl : l7.length ≤ 17592186044416) (T : Int) (x4 : List S23) (n : Nat) (hx : x4.length < 8796093022208) (d : Nat) : ∀ (k i : Nat) (s : Sp), i + d = l7.length →
    remontoirref04_errors.l1 (k + d + 1) x4 n i F S J L H T st l7 s.lo s.hi =
      (if ((l7.drop i).foldl (hitS n) s).lo > ((l7.drop i).foldl (hitS n) s).hi then some ([], false) else remontoirref04_errors.l0 k (x4 ++ [fS ((l7.drop i).foldl (hitS n) s)]) (wrap64 ((n : Int) + 1)) F S J L H T st l7) := by
  induction d with
  | zero =>
    intro k i s hi
    simp only [remontoirref04_errors.l1, Nat.add_zero]
    rw [if_neg (by omega), List.drop_eq_nil_of_le (by omega), if_pos hx]
    rfl
  | succ d ih =>
    intro k i s hi
    rw [show k + (d + 1) + 1 = (k + d + 1) + 1 by omega]
    simp only [remontoirref04_errors.l1]
    rw [if_pos (by omega), if_pos (by omega), drop_T71 l7 i (by omega), wr (x := (i : Int) + 1) (by omega), List.foldl_cons]
    have e : ((i : Int) + 1) = ((i + 1 : Nat) : Int) := by omega
    rw [e]
    unfold hitS
    by_cases hh : (rd_T71 l7 i).f0 = n
    · rw [if_pos hh, if_pos hh]
      have := Both_f s ⟨(rd_T71 l7 i).f1.f0, (rd_T71 l7 i).f1.f1⟩
      simp only at this
      rw [this]
      simp only [Option.bind_some]
      exact ih k (i + 1) _ (by omega)
    · rw [if_neg hh, if_neg hh]
      exact ih k (i + 1) _ (by omega)
variable (hL : -100 ≤ L ∧ L ≤ H ∧ H ≤ 100) (hst : ∀ k, -500 ≤ stAt st k ∧ stAt st k ≤ 500)
include hL hst
theorem errors_l0 (hl : l7.length ≤ 10) {t : Nat} (ht : t ≤ 60) (hlk : (l7.map toLk).all (lookB t) = true) (d : Nat) : ∀ (k i : Nat), i + d = t + 1 →
    remontoirref04_errors.l0 (k + d * (l7.length + 3) + 1) (listS (fwdTo st L H (looksF (l7.map toLk)) t) i) i F S J L H t st l7 =
      (if okFrom (fwdTo st L H (looksF (l7.map toLk)) t) i d = true then remontoirref04_errors.l2 k (listS (fwdTo st L H (looksF (l7.map toLk)) t) (t + 1)) ((t : Int) - 1) F S J L H t st l7 else some ([], false)) := by
  have hbn := fwdTo_bnd hst hL (by omega) (looksF_bnd t _ hlk) t
  induction d with
  | zero =>
    intro k i hi
    obtain rfl : i = t + 1 := by omega
    simp only [Nat.zero_mul, Nat.add_zero, remontoirref04_errors.l0, okFrom, if_true]
    rw [if_neg (by omega), wr (x := (t : Int) - 1) (by omega)]
  | succ d ih =>
    intro k i hi
    have hlen := listS_len (fwdTo st L H (looksF (l7.map toLk)) t) i
    have hsp : ∀ s : Sp, l7.foldl (hitS i) s = fwdTo st L H (looksF (l7.map toLk)) t i →
        remontoirref04_errors.j1 (k + d * (l7.length + 3) + 1 + l7.length + 1 + 1) (listS (fwdTo st L H (looksF (l7.map toLk)) t) i) i F S J L H t st l7 s.lo s.hi =
          (if (fwdTo st L H (looksF (l7.map toLk)) t i).lo > (fwdTo st L H (looksF (l7.map toLk)) t i).hi then some ([], false) else remontoirref04_errors.l0 (k + d * (l7.length + 3) + 1) (listS (fwdTo st L H (looksF (l7.map toLk)) t) (i + 1)) ((i + 1 : Nat) : Int) F S J L H t st l7) := by
      intro s hs
      simp only [remontoirref04_errors.j1]
      have := errors_l1 (F := F) (S := S) (J := J) (L := L) (H := H) (st := st) (l7 := l7) (by omega) t (listS (fwdTo st L H (looksF (l7.map toLk)) t) i) i (by omega) l7.length (k + d * (l7.length + 3) + 1) 0 s (by omega)
      simp only [List.drop_zero, hs] at this
      rw [show ((0 : Nat) : Int) = 0 from rfl, wr (x := (i : Int) + 1) (by omega)] at this
      rw [this, ← listS_succ, show (i : Int) + 1 = ((i + 1 : Nat) : Int) by omega]
    rw [show k + (d + 1) * (l7.length + 3) + 1 = (k + d * (l7.length + 3) + 1 + l7.length + 1 + 1) + 1 by rw [Nat.succ_mul]; omega]
    simp only [remontoirref04_errors.l0]
    have fin : (if (fwdTo st L H (looksF (l7.map toLk)) t i).lo > (fwdTo st L H (looksF (l7.map toLk)) t i).hi then some ([], false) else remontoirref04_errors.l0 (k + d * (l7.length + 3) + 1) (listS (fwdTo st L H (looksF (l7.map toLk)) t) (i + 1)) ((i + 1 : Nat) : Int) F S J L H t st l7) =
        (if (decide ((fwdTo st L H (looksF (l7.map toLk)) t i).lo ≤ (fwdTo st L H (looksF (l7.map toLk)) t i).hi) && okFrom (fwdTo st L H (looksF (l7.map toLk)) t) (i + 1) d) = true then remontoirref04_errors.l2 k (listS (fwdTo st L H (looksF (l7.map toLk)) t) (t + 1)) ((t : Int) - 1) F S J L H t st l7 else some ([], false)) := by
      by_cases h : (fwdTo st L H (looksF (l7.map toLk)) t i).lo > (fwdTo st L H (looksF (l7.map toLk)) t i).hi
      · rw [if_pos h]; simp [show ¬ (fwdTo st L H (looksF (l7.map toLk)) t i).lo ≤ (fwdTo st L H (looksF (l7.map toLk)) t i).hi by omega]
      · rw [if_neg h, ih k (i + 1) (by omega)]; simp [show (fwdTo st L H (looksF (l7.map toLk)) t i).lo ≤ (fwdTo st L H (looksF (l7.map toLk)) t i).hi by omega]
    rw [if_pos (by omega)]
    refine Eq.trans ?_ fin
    simp only [remontoirref00_To.f, Option.bind_some]
    have hw : ∀ n : Nat, looksF (l7.map toLk) n = l7.foldl (hitS n) ⟨-20000, 20000⟩ := fun n => looks_hits t n l7 wideF hlk
    rcases Nat.eq_zero_or_pos i with h0 | h0
    · subst h0
      rw [if_neg (by omega)]
      refine hsp ⟨-20000, 20000⟩ ?_
      rw [fwdTo_ahead _ _ _ _ _ _ (.inr rfl), hw]
    · obtain ⟨j, rfl⟩ : ∃ j, i = j + 1 := ⟨i - 1, by omega⟩
      have hbj := hbn j
      have hsj := hst j
      rw [if_pos (by omega), wr (x := ((j + 1 : Nat) : Int) - 1) (by omega), show ((j + 1 : Nat) : Int) - 1 = (j : Int) by omega, change_f hL hst]
      simp only [Option.bind_some]
      rw [if_pos (by omega), if_pos (by omega), rd_listS _ (by omega)]
      simp only [fS]
      rw [wr (x := (fwdTo st L H (looksF (l7.map toLk)) t j).lo + (L + stAt st j)) (by omega), wr (x := (fwdTo st L H (looksF (l7.map toLk)) t j).hi + (H + stAt st j)) (by omega)]
      have hB := Both_f ⟨-20000, 20000⟩ ⟨(fwdTo st L H (looksF (l7.map toLk)) t j).lo + (L + stAt st j), (fwdTo st L H (looksF (l7.map toLk)) t j).hi + (H + stAt st j)⟩
      simp only at hB
      rw [hB]
      simp only [Option.bind_some]
      refine hsp _ ?_
      rw [hits_both, fwdTo_at _ _ _ _ _ _ (by omega), hw]
      congr 2 <;> omega
theorem errors_l2 {B : Int} {t : Nat} (ht : t ≤ 60) {f : Nat → Sp} (hB : 0 ≤ B ∧ B ≤ 100000) (hf : Bnd B f) (d : Nat) : ∀ (k j : Nat), j + d = t →
    remontoirref04_errors.l2 (k + d + 1) (listS (bwdTo st L H t f j) (t + 1)) ((d : Int) - 1) F S J L H t st l7 = some (listS (bwdTo st L H t f t) (t + 1), true) := by
  induction d with
  | zero =>
    intro k j hj
    simp only [remontoirref04_errors.l2]
    rw [if_neg (by omega), show j = t by omega]
  | succ d ih =>
    intro k j hj
    rw [show k + (d + 1) + 1 = (k + d + 1) + 1 by omega]
    simp only [remontoirref04_errors.l2]
    have hlen := listS_len (bwdTo st L H t f j) (t + 1)
    have hbn := bwdTo_bnd hst hL hB.1 t hf j
    have hb1 := hbn (d + 1)
    have hsd := hst d
    rw [show ((d + 1 : Nat) : Int) - 1 = (d : Int) by omega, if_pos (by omega), change_f hL hst]
    simp only [Option.bind_some]
    rw [if_pos (by omega), if_pos (by omega), wr (x := (d : Int) + 1) (by omega), if_pos (by omega), if_pos (by omega), show (d : Int) + 1 = ((d + 1 : Nat) : Int) by omega, rd_listS _ (by omega), rd_listS _ (by omega)]
    simp only [fS, remontoirref00_To.f, Option.bind_some]
    rw [wr (x := (bwdTo st L H t f j (d + 1)).lo - (H + stAt st d)) (by omega), wr (x := (bwdTo st L H t f j (d + 1)).hi - (L + stAt st d)) (by omega), wr (x := (d : Int) - 1) (by omega)]
    have hBo := Both_f (bwdTo st L H t f j d) ⟨(bwdTo st L H t f j (d + 1)).lo - (H + stAt st d), (bwdTo st L H t f j (d + 1)).hi - (L + stAt st d)⟩
    simp only at hBo
    rw [hBo]
    simp only [Option.bind_some]
    have := ih k (j + 1) (by omega)
    rw [bwdTo, bwdS, show t - (j + 1) = d by omega, ← listS_set] at this
    rw [show (⟨(bwdTo st L H t f j (d + 1)).lo - (H + stAt st d), (bwdTo st L H t f j (d + 1)).hi - (L + stAt st d)⟩ : Sp) = ⟨(bwdTo st L H t f j (d + 1)).lo - stAt st d - H, (bwdTo st L H t f j (d + 1)).hi - stAt st d - L⟩ from by simp only [Sp.mk.injEq]; omega]
    exact this
theorem errors_f (hl : l7.length ≤ 10) {t : Nat} (ht : t ≤ 60) (hlk : (l7.map toLk).all (lookB t) = true) (k : Nat) (hk : 1000 < k) :
    remontoirref04_errors.f k F S J L H t st l7 = some (if okF t (roundF st L H t (looksF (l7.map toLk))) = true then (listS (roundF st L H t (looksF (l7.map toLk))) (t + 1), true) else ([], false)) := by
  unfold remontoirref04_errors.f
  have hm : (t + 1) * (l7.length + 3) ≤ 61 * 13 := Nat.mul_le_mul (by omega) (by omega)
  obtain ⟨m, rfl⟩ : ∃ m, k = (m + t + 1) + (t + 1) * (l7.length + 3) + 1 := ⟨k - 1 - (t + 1) * (l7.length + 3) - t - 1, by omega⟩
  have h1 := errors_l0 (F := F) (S := S) (J := J) hL hst hl ht hlk (t + 1) (m + t + 1) 0 (by omega)
  have e0 : listS (fwdTo st L H (looksF (l7.map toLk)) t) 0 = [] := rfl
  rw [e0, show ((0 : Nat) : Int) = 0 from rfl] at h1
  rw [h1, ok_both st hL.2.1]
  have h2 := errors_l2 (F := F) (S := S) (J := J) (l7 := l7) hL hst ht (B := 20000 + 600 * t) (by omega) (fwdTo_bnd hst hL (by omega) (looksF_bnd t _ hlk) t) t m 0 (by omega)
  have e1 : bwdTo st L H t (fwdTo st L H (looksF (l7.map toLk)) t) 0 = fwdTo st L H (looksF (l7.map toLk)) t := rfl
  rw [e1] at h2
  rw [h2]
  unfold roundF
  split <;> rfl
end
theorem check_parts {F S J L H T : Int} {st : List Int} {lk : List Lk} (h : checkB F S J L H T st lk = true) : isRuleB F S J L H = true ∧ 1 ≤ T ∧ T ≤ 60 ∧ lk.length ≤ 10 ∧ lk.all (lookB T) = true := by
  unfold checkB at h
  simp only [Bool.and_eq_true, decide_eq_true_eq, lies_iff] at h
  exact ⟨h.1.1.1.1.1, h.1.1.1.1.2.1, h.1.1.1.1.2.2, h.1.2, h.2⟩
theorem Error_f (F S J L H T : Int) (st : List Int) (l7 : List S71) (n : Int) (h6 : st.length ≤ 17592186044416) (h7 : l7.length ≤ 17592186044416) (k : Nat) (hk : 2 * l7.length + st.length + 1000 < k) :
    remontoirref04_Error.f k F S J L H T st l7 n = scale_Error.f F S J L H T st l7 n := by
  unfold remontoirref04_Error.f scale_Error.f
  rw [Check_f h6 h7 k (by omega), if_pos (show st.length ≤ 17592186044416 ∧ l7.length ≤ 17592186044416 from ⟨h6, h7⟩)]
  unfold scale_Check.f
  rw [if_pos (show st.length ≤ 17592186044416 ∧ l7.length ≤ 17592186044416 from ⟨h6, h7⟩)]
  simp only [Option.bind_some]
  unfold askE
  cases hc : checkB F S J L H T st (l7.map toLk)
  · simp
  · simp only [if_true]
    rw [lies_f]
    simp only [Option.bind_some]
    cases hn : lies n 0 T
    · simp
    · simp only [if_true]
      obtain ⟨hr, hT1, hT2, hl, hlk⟩ := check_parts hc
      have hn' := lies_iff.1 hn
      obtain ⟨t, rfl⟩ : ∃ t : Nat, T = t := ⟨T.toNat, by omega⟩
      obtain ⟨i, rfl⟩ : ∃ i : Nat, n = i := ⟨n.toNat, by omega⟩
      obtain ⟨_, _, _, hL⟩ := isRuleB_spec hr
      rw [errors_f (by omega) (stAt_bd hc) (by simpa using hl) (by omega) hlk k (by omega)]
      unfold solF
      rw [Int.toNat_natCast, Int.toNat_natCast]
      simp only [Option.bind_some]
      cases okF t (roundF st L H t (looksF (l7.map toLk)))
      · simp
      · simp only [if_true]
        rw [if_pos (by omega), listS_len, if_pos (by omega), rd_listS _ (by omega)]
        simp [fS]
theorem sol_bnd {F S J L H T : Int} {st : List Int} {lk : List Lk} (hc : checkB F S J L H T st lk = true) : Bnd 92000 (solF F S J L H T st lk) := by
  obtain ⟨hr, hT1, hT2, hl, hlk⟩ := check_parts hc
  obtain ⟨_, _, _, hL⟩ := isRuleB_spec hr
  exact (roundF_bnd (stAt_bd hc) (by omega) (B := 20000) (by omega) T.toNat (by omega) (looksF_bnd T _ hlk)).mono (by omega)
theorem Stated_f (F S J L H T : Int) (st : List Int) (l7 : List S71) (n : Int) (h6 : st.length ≤ 17592186044416) (h7 : l7.length ≤ 17592186044416) (k : Nat) (hk : 2 * l7.length + st.length + 1000 < k) :
    remontoirref04_Stated.f k F S J L H T st l7 n = scale_Stated.f F S J L H T st l7 n := by
  unfold remontoirref04_Stated.f
  rw [Error_f F S J L H T st l7 n h6 h7 k hk]
  unfold scale_Error.f scale_Stated.f
  rw [if_pos (show st.length ≤ 17592186044416 ∧ l7.length ≤ 17592186044416 from ⟨h6, h7⟩), if_pos (show st.length ≤ 17592186044416 ∧ l7.length ≤ 17592186044416 from ⟨h6, h7⟩)]
  by_cases ha : askE F S J L H T st (l7.map toLk) (lies n 0 T) = 0
  · obtain ⟨hc, hn, ho⟩ := askE_ok ha
    rw [if_pos ha, if_pos ha]
    have hb := sol_bnd hc n.toNat
    have hT := check_parts hc
    have hn' := lies_iff.1 hn
    have hlh := (okF_iff _ _).1 ho n.toNat (by omega)
    simp only [Option.bind_some]
    rw [size_f _ (by omega) (by omega), size_f _ (by omega) (by omega)]
    simp only [Option.bind_some, mx_eq]
    congr 2
    split <;> split <;> omega
  · rw [if_neg ha, if_neg ha]
    simp [size_f, mx_eq]
end Go.Proofs.TrydX.X
end

section
/- The plain law of ScaleErrors. -/
set_option linter.unusedSimpArgs false
set_option linter.unusedVariables false
namespace Go.Proofs.YtidnopmjhhmedaaDoor
open Go.RowKit Go.Proofs.YtidnopmjhhmedaaDoorW.PrintWords Go.Proofs.YtidnopmjhhmedaaDoorW.PrintLast TrydX.X
theorem scaleErrors_pure (F S J L H T : Int) (st : List Int) (lk : List S71) (n : Int) (wr : W64 F ∧ W64 S ∧ W64 J ∧ W64 L ∧ W64 H ∧ W64 T) (w6 : ∀ z ∈ st, W64 z) (w7 : ∀ z ∈ lk, W64 z.f0 ∧ W64 z.f1.f0 ∧ W64 z.f1.f1) (h6 : st.length ≤ 17592186044416) (h7 : lk.length ≤ 5864062014805) (wn : W64 n) :
    ∃ k, remontoirlaw04_ScaleErrors.f k F S J L H T st lk n = some true := by
  refine ⟨2 * lk.length + st.length + 2000 + 1, ?_⟩
  unfold remontoirlaw04_ScaleErrors.f
  rw [Error_f F S J L H T st lk n h6 (by omega) _ (by omega), Check_f h6 (by omega) _ (by omega)]
  have hi : ∃ x, scale_Error.f F S J L H T st lk n = some x := by
    unfold scale_Error.f
    rw [if_pos (show st.length ≤ 17592186044416 ∧ lk.length ≤ 17592186044416 from ⟨h6, by omega⟩)]
    split <;> exact ⟨_, rfl⟩
  have hc : ∃ x, scale_Check.f F S J L H T st lk = some x := by
    unfold scale_Check.f
    rw [if_pos (show st.length ≤ 17592186044416 ∧ lk.length ≤ 17592186044416 from ⟨h6, by omega⟩)]
    exact ⟨_, rfl⟩
  obtain ⟨x, hx⟩ := hi
  obtain ⟨c, hc⟩ := hc
  rw [hx, hc]
  simp only [Option.bind_some, bne_self_eq_false, beq_self_eq_true, Bool.not_true, Bool.or_self, Bool.false_eq_true, if_false, if_true, remontoirlaw04_ScaleErrors.j0]
  rw [Stated_f F S J L H T st lk n h6 (by omega) _ (by omega)]
  have hy : ∃ y, scale_Stated.f F S J L H T st lk n = some y := by
    unfold scale_Stated.f
    rw [if_pos (show st.length ≤ 17592186044416 ∧ lk.length ≤ 17592186044416 from ⟨h6, by omega⟩)]
    split <;> exact ⟨_, rfl⟩
  obtain ⟨y, hy⟩ := hy
  rw [hy]
  simp [remontoirlaw04_works.f]
end Go.Proofs.YtidnopmjhhmedaaDoor
end

section
/- The row and the card of ScaleErrors. Written by wip/tools/mkRow.py. -/
set_option linter.unusedVariables false
set_option linter.unusedSimpArgs false
namespace Go.Proofs.YtidnopmjhhmedaaDoor
open Go.ChangeShapes Go.WideShapes Go.ChangeAt Go.RowKit TrydX.X

set_option maxRecDepth 100000 in
theorem scaleErrors_lifted (os : Os) (started : os.Started) (H : Type) (enc : TypeId × Value → H) :
    ReturnsInHanded {} Tryd.checked os 5 .any (fun w args => (Rows.scaleErrorsSpec.pre enc Tryd.prog Tryd.f5 [] false w args ∧ laidMetH Tryd.prog laid1 w) ∧ sizedMet enc Tryd.prog Tryd.f5 (OpenSpec.ofChange Rows.scaleErrorsSpec) false w args)
      (Rows.scaleErrorsSpec.post enc Tryd.prog Tryd.f5 false true false false) := by
  refine returnsInHanded_of_change_and (C := Tryd.checked) (X := fun w _ => laidMetH Tryd.prog laid1 w) (fun _ _ _ hh h => h.of_heap hh) own started (by kernel_rfl) Tryd.func5
    (ChangeSpec.witness_shaped (enc := enc) (C := Tryd.checked) (os := os) (X := fun w _ => laidMetH Tryd.prog laid1 w) false (World.doorLaid Tryd.prog 400 os) #[.agg #[.int .i64 0, .int .i64 0, .int .i64 0, .int .i64 0, .int .i64 0, .int .i64 0, .slice none 0 0, .slice none 0 0], .int .i64 0] 8 rfl (World.shaped_of_RefB (by kernel_rfl) (by kernel_rfl)) (by kernel_rfl) (by kernel_rfl) (by kernel_rfl) (door_met os _)) ?_
  intro W base args ds gs before hval0 hW hcnd hsz0 hL _
  have hsz : (DataW.weightsEach Tryd.prog (Tryd.f5.params.toList ++ Rows.scaleErrorsSpec.plain.varTypes Tryd.prog) (ds ++ gs)).all (· ≤ reachBytes) = true := hsz0
  have hval : ∀ (j : Nat) t v, Tryd.f5.params[j]? = some t → args[j]? = some v → Value.okWide Tryd.prog W .any base t v := hval0
  have hW' := hW
  obtain ⟨p, q, hA0, hV, rfl, hfz, hnd⟩ := hW
  have hA : DataW.TrodAll enc Tryd.prog W 0 (fun _ => true) true Tryd.f5.params.toList args.toList ds p := hA0
  rw [Tryd.params5] at hA hval hsz
  obtain ⟨v0, vs0, d0, ds0, p0, q0, hargs, rfl, rfl, h0, r0⟩ := trodAll_cons hA
  obtain ⟨v1, vs1, d1, ds1, p1, q1, rfl, rfl, rfl, h1, r1⟩ := trodAll_cons r0
  obtain ⟨rfl, rfl, rfl⟩ := trodAll_nil r1
  obtain rfl : args = #[v0, v1] := by cases args; simp_all
  obtain ⟨rfl, rfl⟩ := trodVars_none hV
  have lt0 : ∀ x ∈ p0, x.block < W.heap.size := by obtain ⟨m, hm⟩ := h0; exact DataW.trod_lt m _ _ _ hm
  have k0 := h0
  obtain ⟨cs0, rfl, hcs0⟩ := agg_of Tryd.underlying44 (hval 0 44 v0 rfl rfl)
  obtain ⟨m0, hm0⟩ := h0
  rw [hcs0] at hm0
  obtain ⟨a_0, b_0, c_0, d_0, e_0, t_0, A6_0, c6_0, l6_0, A7_0, c7_0, l7_0, hB0, hs0⟩ := op44 hm0
  obtain ⟨z6_0, z7_0⟩ := hs0 (weights_at hsz (j := 0) (t := 44) (d := d0) rfl rfl)
  obtain rfl := hB0.cs
  have lt1 : ∀ x ∈ p1, x.block < W.heap.size := by obtain ⟨m, hm⟩ := h1; exact DataW.trod_lt m _ _ _ hm
  have k1 := h1
  obtain ⟨n_1, rfl, rfl, rfl, wf1⟩ := open_int Tryd.underlying3 (hval 1 3 v1 rfl rfl) h1
  obtain ⟨k, hk⟩ := scaleErrors_pure a_0 b_0 c_0 d_0 e_0 t_0 l6_0 l7_0 n_1 hB0.wf hB0.w6 hB0.w7 z6_0 z7_0 wf1
  clear hA0 hval0 hsz0 hsz
  refine (remontoirlaw04_ScaleErrors.calls k a_0 b_0 c_0 d_0 e_0 t_0 A6_0 c6_0 l6_0 A7_0 c7_0 l7_0 n_1 true W hB0.r6 hB0.h6 hB0.r7 hB0.h7 (ways_of_laid hL) hk).mono fun e W' ⟨he, bel⟩ => ?_
  subst he
  exact ⟨_, rfl, _, _, _, [], _, [], hW', trodAll_mk1 (shut_bool Tryd.underlying4 _), (trodAll_cons_mk (Below.trod laidOut (by kernel_rfl) (of_decide_eq_true (by kernel_rfl)) k0 bel lt0) (trodAll_cons_mk (Below.trod laidOut (by kernel_rfl) (of_decide_eq_true (by kernel_rfl)) k1 bel lt1) trodAll_mk0)), rfl, bel.frame _, fun h => by cases h⟩

theorem scaleErrors_row : Rows.ScaleErrorsSaid :=
  OpenClaim.holds_of_wide 5 Tryd.f5 rfl rfl rfl rfl rfl rfl rfl ⟨rfl, rfl, rfl, rfl, rfl⟩ rfl rfl rfl rfl rfl (by kernel_rfl) Tryd.func5 (by kernel_rfl)
    (of_decide_eq_true (by kernel_rfl)) (by unfold Func.isWrapper; first | (rw [if_pos (by decide +kernel)]; kernel_rfl) | (rw [if_neg (by decide +kernel)]; exact ⟨rfl, rfl⟩))
    (fun os started H enc _ => scaleErrors_lifted os started H enc)

/-- THE CARD. -/
theorem scaleErrors_holds : Rows.ScaleErrorsCardSaid :=
  Claim7.holds_tied_plain_at .later [] [.funcs] true (true, "42c157d2a2e9e6c40d73358f232322a0bd5e742c3af8e9a8c48de9150ba4d318") false
    scaleErrors_row (fun _ h => by cases h) (by kernel_rfl) (fun _ h => by cases h) scaleErrors_row_tie rfl ⟨rfl, rfl⟩ (by kernel_rfl) rfl
    (fun f fn hf hfn => by
      obtain rfl : f = 5 := Option.some.inj ((show Tryd.prog.funcNamed "remontoir/remontoirlaw04.ScaleErrors" = some 5 by kernel_rfl).symm.trans hf) |>.symm
      obtain rfl : fn = Tryd.f5 := (Option.some.inj (Tryd.func5.symm.trans hfn)).symm
      exact ⟨by kernel_rfl, fun j t ht => by
        rw [Tryd.params5] at ht
        have h3 : t ∈ [(44 : TypeId), (3 : TypeId)] := by
          obtain ⟨hj, e⟩ := Array.getElem?_eq_some_iff.1 ht
          rw [← e]
          exact Array.getElem_mem_toList hj
        simp only [List.mem_cons, List.not_mem_nil, or_false] at h3
        rcases h3 with rfl | rfl
        · exact (show Tryd.prog.wantsStandIn 44 = false by kernel_rfl)
        · exact (show Tryd.prog.wantsStandIn 3 = false by kernel_rfl)⟩)
    (by kernel_rfl)
#print axioms scaleErrors_holds
end Go.Proofs.YtidnopmjhhmedaaDoor
end
