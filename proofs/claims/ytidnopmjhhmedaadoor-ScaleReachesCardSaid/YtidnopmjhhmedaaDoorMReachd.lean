/- PROVED: ScaleReachesCardSaid, for every input, where the listed variable reads as the program's text lays it. Part 4 of 4: of this session; merged by wip/tools/mkClaim.py. -/
import Derived.Test.YtidnopmjhhmedaaDoorMReachc
import Derived.Deep.Cut
import Derived.Test.YtidnopmjhhmedaaDoorMReachb
import Derived.Test.YtidnopmjhhmedaaDoorCards
import Derived.Test.YtidnopmjhhmedaaDoorTie
import Derived.WalkKit
import Derived.Below
import Derived.Carry
import Derived.SevenTiedAt
section
/- What an offset is told as: Error, Stated, Worst. -/
set_option linter.unusedSimpArgs false
set_option linter.unusedVariables false
namespace Go.Proofs.YtidnopmjhhmedaaDoor
open Go.RowKit
attribute [local go_sem] Oper.semAt_some

/-- What is solved of a book. -/
def solF (F S J L H T : Int) (st : List Int) (lk : List Lk) : Nat → Sp := roundF st L H T.toNat (looksF lk)
/-- The error of a book that is asked. -/
def askE (F S J L H T : Int) (st : List Int) (lk : List Lk) (ok : Bool) : Int :=
  if checkB F S J L H T st lk = true then if ok = true then if okF T.toNat (solF F S J L H T st lk) = true then 0 else 42 else 41 else 40
theorem askE_ok {F S J L H T : Int} {st : List Int} {lk : List Lk} {ok : Bool} (h : askE F S J L H T st lk ok = 0) : checkB F S J L H T st lk = true ∧ ok = true ∧ okF T.toNat (solF F S J L H T st lk) = true := by
  unfold askE at h
  split at h
  · split at h
    · split at h
      · exact ⟨‹_›, ‹_›, ‹_›⟩
      · omega
    · omega
  · omega
theorem check_ticks {F S J L H T : Int} {st : List Int} {lk : List Lk} (h : checkB F S J L H T st lk = true) : 1 ≤ T ∧ T ≤ 60 := by
  simp only [checkB, Bool.and_eq_true, decide_eq_true_eq, lies_iff] at h
  omega

theorem asked_is (F S J L H T : Int) (a : Option Addr) (n c : Nat) (a' : Option Addr) (n' c' : Nat) (st : List Int) (lk : List Lk) (ok : Bool) (E : Int) (G : Nat → Sp) (hE : E = askE F S J L H T st lk ok) (hG : G = if E = 0 then solF F S J L H T st lk else zeroF) (w : World) (hN : Nums w a n st) (hK : Looks w a' n' lk) :
    Calls Tryd.prog 71 #[.agg #[.int .i64 F, .int .i64 S, .int .i64 J, .int .i64 L, .int .i64 H, .int .i64 T, .slice a n c, .slice a' n' c'], .bool ok] w fun e w' => e = .returned (.tuple #[.agg (encL G).toArray, .int .i64 E]) ∧ Below w.heap.size w w' := by
  cases hb : checkB F S J L H T st lk
  · obtain rfl : E = 40 := by rw [hE, askE, hb]; rfl
    obtain rfl : G = zeroF := by rw [hG]; rfl
    exact asked_bad F S J L H T a n c a' n' c' st lk ok w hN hK hb
  · cases ok
    · obtain rfl : E = 41 := by rw [hE, askE, hb]; rfl
      obtain rfl : G = zeroF := by rw [hG]; rfl
      exact asked_ask F S J L H T a n c a' n' c' st lk w hN hK hb
    · have hT := check_ticks hb
      obtain ⟨t, rfl⟩ : ∃ t : Nat, T = t := ⟨T.toNat, by omega⟩
      cases hok : okF t (roundF st L H t (looksF lk))
      · obtain rfl : E = 42 := by rw [hE, askE, hb]; simp only [if_true, solF, Int.toNat_natCast, hok, Bool.false_eq_true, if_false]
        obtain rfl : G = zeroF := by rw [hG]; rfl
        exact asked_false F S J L H a n c a' n' c' st lk t w hN hK hb hok
      · obtain rfl : E = 0 := by rw [hE, askE, hb]; simp only [if_true, solF, Int.toNat_natCast, hok]
        obtain rfl : G = roundF st L H t (looksF lk) := by rw [hG]; simp only [if_true, solF, Int.toNat_natCast]
        exact asked_true F S J L H a n c a' n' c' st lk t w hN hK hb hok

theorem stored {w : World} {b : Nat} {f : Nat → Sp} (h : At w b f) (g : Nat → Sp) : ∃ W, (storeCells ⟨b, 0, none⟩ (encL g)).run Tryd.prog w = .ok () W ∧ At W b g ∧ (∀ n, n ≤ b → Below n w W) ∧ W.heap.size = w.heap.size :=
  ⟨_, storeCells_At h g, by have := h.store g; simpa using this, fun n hn => below_setCells _ _ _ (Below.refl _ _) hn, size_setCells _ _ _⟩
theorem bcellN {n : Nat} {W w1 : World} (hb : Below n W w1) : (∀ b o, b < n → w1.cell? ⟨b, o, none⟩ = W.cell? ⟨b, o, none⟩) ∧ (∀ b o, b < n → w1.frozen? ⟨b, o, none⟩ = W.frozen? ⟨b, o, none⟩) :=
  ⟨fun b o h => hb.cell (p := ⟨b, o, none⟩) h, fun b o h => hb.frozen (p := ⟨b, o, none⟩) h⟩
theorem far_cells (W : World) (b : Nat) (g : Nat → Sp) : (∀ b' o, b' < b → (W.setCells b 0 (encL g)).cell? ⟨b', o, none⟩ = W.cell? ⟨b', o, none⟩) ∧ (∀ b' o, b' < b → (W.setCells b 0 (encL g)).frozen? ⟨b', o, none⟩ = W.frozen? ⟨b', o, none⟩) :=
  bcellN (below_setCells (encL g) 0 W (Below.refl b W) (Nat.le_refl b))
theorem At.drew {w : World} {b : Nat} {f : Nat → Sp} (h : At w b f) : At w.drew b f := h.below ((Below.refl _ _).drew)
theorem there_enc {W : World} {b : Nat} {f : Nat → Sp} (h : At W b f) (g : Nat → Sp) : W.there b 0 (encL g).length := by rw [encL_length]; exact h.2
theorem bookAt_held {W W1 : World} {b : Nat} {F S J L H T : Int} {a : Option Addr} {n c : Nat} {a' : Option Addr} {n' c' : Nat} (h : BookAt W b F S J L H T a n c a' n' c') (hb : Below W.heap.size W W1) : BookAt W1 b F S J L H T a n c a' n' c' := h.below hb
/-- The world in which Error begins. -/
noncomputable def errW0 (F S J L H T : Int) (a : Option Addr) (n c : Nat) (a' : Option Addr) (n' c' : Nat) (w : World) : World :=
  (w.alloc (.cells #[.int .i64 F, .int .i64 S, .int .i64 J, .int .i64 L, .int .i64 H, .int .i64 T, .slice a n c, .slice a' n' c'] 44)).alloc (.cells #[.int .i64 0, .int .i64 0] 23)
structure ErrW (F S J L H T : Int) (a : Option Addr) (n c : Nat) (a' : Option Addr) (n' c' : Nat) (w W : World) : Prop where
  bel : Below w.heap.size w W
  size : W.heap.size = w.heap.size + 2
  book : BookAt W w.heap.size F S J L H T a n c a' n' c'
  r0 : W.cell? ⟨w.heap.size + 1, 0, none⟩ = some (.int .i64 0)
  r1 : W.cell? ⟨w.heap.size + 1, 1, none⟩ = some (.int .i64 0)
  f0 : W.frozen? ⟨w.heap.size + 1, 0, none⟩ = false
  f1 : W.frozen? ⟨w.heap.size + 1, 1, none⟩ = false
theorem errW_is (F S J L H T : Int) (a : Option Addr) (n c : Nat) (a' : Option Addr) (n' c' : Nat) (w : World) : ErrW F S J L H T a n c a' n' c' w (errW0 F S J L H T a n c a' n' c' w) := by
  unfold errW0
  refine ⟨?_, by simp, ?_, by simp [go_sem], by simp [go_sem], by simp [go_sem], by simp [go_sem]⟩
  · repeat with_reducible (first | exact Below.refl _ _ | refine Below.alloc ?_ (by simp <;> omega) _)
  · exact (BookAt.new w F S J L H T a n c a' n' c').below ((Below.refl _ _).alloc (Nat.le_refl _) _)
set_option maxRecDepth 100000 in
set_option maxHeartbeats 2000000 in
theorem Error_bad (F S J L H T tick : Int) (a : Option Addr) (n c : Nat) (a' : Option Addr) (n' c' : Nat) (st : List Int) (lk : List Lk) (E : Int) (hE : E = askE F S J L H T st lk (lies tick 0 T)) (hE0 : (E == 0) = false) (w : World) (hN : Nums w a n st) (hK : Looks w a' n' lk) :
    Calls Tryd.prog 27 #[.agg #[.int .i64 F, .int .i64 S, .int .i64 J, .int .i64 L, .int .i64 H, .int .i64 T, .slice a n c, .slice a' n' c'], .int .i64 tick] w fun e w' => e = .returned (.tuple #[.agg #[.int .i64 0, .int .i64 0], .int .i64 E]) ∧ Below w.heap.size w w' := by
  obtain ⟨G, hG⟩ : ∃ G, G = if E = 0 then solF F S J L H T st lk else zeroF := ⟨_, rfl⟩
  have hask := fun W h1 h2 => asked_is F S J L H T a n c a' n' c' st lk (lies tick 0 T) E G hE hG W h1 h2
  have hW := errW_is F S J L H T a n c a' n' c' w
  have hN0 := hN.below hW.bel
  have hK0 := hK.below hW.bel
  clear hE hG hN hK
  have hE1 : (E != 0) = true := by simpa using hE0
  go_enter Tryd.func27, Tryd.ntmps27
  go_wp2_with fail
  change Code.wp Tryd.prog _ _ _ (errW0 F S J L H T a n c a' n' c' w)
  generalize errW0 F S J L H T a n c a' n' c' w = W0 at *
  have hsz := hW.size
  obtain ⟨hk0, hk1, hk2, hk3, hk4, hk5, hk6, hk7⟩ := hW.book
  have hr0 := hW.r0
  have hr1 := hW.r1
  have hf0 := hW.f0
  have hf1 := hW.f1
  have HN := Lib.hid hN0
  have HK := Lib.hid hK0
  have HB := Lib.hid hW.bel
  clear hW hN0 hK0
  have hone := encL_one G
  have hsize := size96 G
  go_region_held3 (fun W : World => W.cell? ⟨w.heap.size, 0, none⟩ = some (.int .i64 F) ∧ W.cell? ⟨w.heap.size, 1, none⟩ = some (.int .i64 S) ∧ W.cell? ⟨w.heap.size, 2, none⟩ = some (.int .i64 J) ∧ W.cell? ⟨w.heap.size, 3, none⟩ = some (.int .i64 L) ∧ W.cell? ⟨w.heap.size, 4, none⟩ = some (.int .i64 H) ∧ W.cell? ⟨w.heap.size, 5, none⟩ = some (.int .i64 T) ∧ W.cell? ⟨w.heap.size, 6, none⟩ = some (.slice a n c) ∧ W.cell? ⟨w.heap.size, 7, none⟩ = some (.slice a' n' c')) (first | with_reducible exact bookAt_held (by assumption) (by assumption) | (simp [go_sem, *]; done))
    (first | (go_at_call 57; refine (lies_any _ _ _ _).mono ?_; rintro e w' ⟨rfl, rfl⟩) | (go_at_call 71; refine (hask _ (HN.out.below (by repeat with_reducible (first | exact Below.refl _ _ | refine Below.drew ?_ | refine Below.alloc ?_ (Nat.le_refl _) _))) (HK.out.below (by repeat with_reducible (first | exact Below.refl _ _ | refine Below.drew ?_ | refine Below.alloc ?_ (Nat.le_refl _) _)))).mono ?_; rintro e w2 ⟨rfl, hb2⟩; have hz2 := hb2.size; simp at hz2; have hz3 : w.heap.size + 1 < w2.heap.size := (by omega); have hz4 : w.heap.size < w2.heap.size := (by omega); have hbW := below_call (w := W0) (by repeat with_reducible (first | exact Below.refl _ _ | refine Below.drew ?_ | refine Below.alloc ?_ (Nat.le_refl _) _)) hb2; have hq0 := cell_below hbW hr0; have hq1 := cell_below hbW hr1; have hg0 := (hbW.frozen (p := ⟨w.heap.size + 1, 0, none⟩) (by show w.heap.size + 1 < _; omega)).trans hf0; have hg1 := (hbW.frozen (p := ⟨w.heap.size + 1, 1, none⟩) (by show w.heap.size + 1 < _; omega)).trans hf1; have HBF := Lib.hid (HB.out.trans (hbW.mono (by omega)) : Below w.heap.size w w2); clear hbW; (first | (have hA0 := (At.new _).drew.below hb2; have hA : At w2 (w.heap.size + 2) zeroF := (by rw [← hsz]; exact hA0); clear hA0; have hth := there_enc hA G; have hfar := (far_cells w2 (w.heap.size + 2) G); have HA := Lib.hid hA; clear hA) | (have hA := At.new w2; have hth := there_enc hA G; have hfar := far_cells (w2.alloc (.cells Tryd.zeroCells96 96)) w2.heap.size G; have HA := Lib.hid hA; clear hA))))
  all_goals
    go_wp2_with fail
    refine bodyPost_ret (v := .tuple #[.agg #[.int .i64 0, .int .i64 0], .int .i64 E]) (by simp [results, Tryd.results27, go_sem, *]) rfl ⟨rfl, ?_⟩
    have hbf := ‹Hid (Below w.heap.size w _)›.out
    repeat (refine Below.setCell ?_ (by show w.heap.size ≤ w.heap.size + 1; omega) _)
    first
    | exact below_setCells _ _ _ hbf (by omega)
    | exact below_setCells _ _ _ (hbf.alloc (by omega) _) (by omega)
set_option maxRecDepth 100000 in
set_option maxHeartbeats 2000000 in
theorem Error_ok (F S J L H T tick : Int) (a : Option Addr) (n c : Nat) (a' : Option Addr) (n' c' : Nat) (st : List Int) (lk : List Lk) (hE : askE F S J L H T st lk (lies tick 0 T) = 0) (w : World) (hN : Nums w a n st) (hK : Looks w a' n' lk) :
    Calls Tryd.prog 27 #[.agg #[.int .i64 F, .int .i64 S, .int .i64 J, .int .i64 L, .int .i64 H, .int .i64 T, .slice a n c, .slice a' n' c'], .int .i64 tick] w fun e w' => e = .returned (.tuple #[.agg #[.int .i64 (solF F S J L H T st lk tick.toNat).lo, .int .i64 (solF F S J L H T st lk tick.toNat).hi], .int .i64 0]) ∧ Below w.heap.size w w' := by
  obtain ⟨hch, hli, _⟩ := askE_ok hE
  have hT := check_ticks hch
  rw [lies_iff] at hli
  obtain ⟨G, hG⟩ : ∃ G, G = solF F S J L H T st lk := ⟨_, rfl⟩
  rw [← hG]
  have hask := fun W h1 h2 => asked_is F S J L H T a n c a' n' c' st lk (lies tick 0 T) 0 G hE.symm (by rw [hG]; rfl) W h1 h2
  have hW := errW_is F S J L H T a n c a' n' c' w
  have hN0 := hN.below hW.bel
  have hK0 := hK.below hW.bel
  clear hE hG hN hK
  obtain ⟨k, rfl⟩ : ∃ k : Nat, tick = k := ⟨tick.toNat, by omega⟩
  have hk61 : k < 61 := by omega
  have hk0 : (0 : Int) ≤ (k : Int) := by omega
  have hk1 : (k : Int) < 61 := by omega
  rw [Int.toNat_natCast]
  obtain ⟨p0, hp0⟩ : ∃ p0, p0 = (G k).lo := ⟨_, rfl⟩
  obtain ⟨p1, hp1⟩ : ∃ p1, p1 = (G k).hi := ⟨_, rfl⟩
  rw [← hp0, ← hp1]
  have HP0 := Lib.hid hp0
  have HP1 := Lib.hid hp1
  clear hp0 hp1 hch hli hT
  go_enter Tryd.func27, Tryd.ntmps27
  go_wp2_with fail
  change Code.wp Tryd.prog _ _ _ (errW0 F S J L H T a n c a' n' c' w)
  generalize errW0 F S J L H T a n c a' n' c' w = W0 at *
  have hsz := hW.size
  obtain ⟨hb0, hb1, hb22, hb3, hb4, hb5, hb6, hb7⟩ := hW.book
  have hr0 := hW.r0
  have hr1 := hW.r1
  have hf0 := hW.f0
  have hf1 := hW.f1
  have HN := Lib.hid hN0
  have HK := Lib.hid hK0
  have HB := Lib.hid hW.bel
  clear hW hN0 hK0
  have hone := encL_one G
  have hsize := size96 G
  go_region_held3 (fun W : World => W.cell? ⟨w.heap.size, 0, none⟩ = some (.int .i64 F) ∧ W.cell? ⟨w.heap.size, 1, none⟩ = some (.int .i64 S) ∧ W.cell? ⟨w.heap.size, 2, none⟩ = some (.int .i64 J) ∧ W.cell? ⟨w.heap.size, 3, none⟩ = some (.int .i64 L) ∧ W.cell? ⟨w.heap.size, 4, none⟩ = some (.int .i64 H) ∧ W.cell? ⟨w.heap.size, 5, none⟩ = some (.int .i64 T) ∧ W.cell? ⟨w.heap.size, 6, none⟩ = some (.slice a n c) ∧ W.cell? ⟨w.heap.size, 7, none⟩ = some (.slice a' n' c')) (first | with_reducible exact bookAt_held (by assumption) (by assumption) | (simp [go_sem, *]; done))
    (first | (go_at_call 57; refine (lies_any _ _ _ _).mono ?_; rintro e w' ⟨rfl, rfl⟩) | (go_at_call 71; refine (hask _ (HN.out.below (by repeat with_reducible (first | exact Below.refl _ _ | refine Below.drew ?_ | refine Below.alloc ?_ (Nat.le_refl _) _))) (HK.out.below (by repeat with_reducible (first | exact Below.refl _ _ | refine Below.drew ?_ | refine Below.alloc ?_ (Nat.le_refl _) _)))).mono ?_; rintro e w2 ⟨rfl, hb2⟩; have hz2 := hb2.size; simp at hz2; have hz3 : w.heap.size + 1 < w2.heap.size := (by omega); have hz4 : w.heap.size < w2.heap.size := (by omega); have hbW := below_call (w := W0) (by repeat with_reducible (first | exact Below.refl _ _ | refine Below.drew ?_ | refine Below.alloc ?_ (Nat.le_refl _) _)) hb2; have hq0 := cell_below hbW hr0; have hq1 := cell_below hbW hr1; have hg0 := (hbW.frozen (p := ⟨w.heap.size + 1, 0, none⟩) (by show w.heap.size + 1 < _; omega)).trans hf0; have hg1 := (hbW.frozen (p := ⟨w.heap.size + 1, 1, none⟩) (by show w.heap.size + 1 < _; omega)).trans hf1; have HBF := Lib.hid (HB.out.trans (hbW.mono (by omega)) : Below w.heap.size w w2); clear hbW; (first | (have hA0 := (At.new _).drew.below hb2; have hA : At w2 (w.heap.size + 2) zeroF := (by rw [← hsz]; exact hA0); clear hA0; have hth := there_enc hA G; have hfar := (far_cells w2 (w.heap.size + 2) G); have hl0 := (hA.store G).lo k hk61; have hl1 := (hA.store G).hi k hk61; rw [← HP0.out] at hl0; rw [← HP1.out] at hl1; have HL0 := Shut.mk hl0; have HL1 := Shut.mk hl1; clear hA hl0 hl1) | (have hA := At.new w2; have hth := there_enc hA G; have hfar := far_cells (w2.alloc (.cells Tryd.zeroCells96 96)) w2.heap.size G; have hl0 := (hA.store G).lo k hk61; have hl1 := (hA.store G).hi k hk61; rw [← HP0.out] at hl0; rw [← HP1.out] at hl1; have HL0 := Shut.mk hl0; have HL1 := Shut.mk hl1; clear hA hl0 hl1))))
  all_goals
    go_upto_region 4 with (fail)
    have hl0 := (‹Shut (_ = some (Value.int .i64 p0))›).out
    have hl1 := (‹Shut (_ = some (Value.int .i64 p1))›).out
    go_wp2_with fail
    refine bodyPost_ret (v := .tuple #[.agg #[.int .i64 p0, .int .i64 p1], .int .i64 0]) (by simp [results, Tryd.results27, go_sem, *]) rfl ⟨rfl, ?_⟩
    have hbf := ‹Hid (Below w.heap.size w _)›.out
    repeat (refine Below.setCell ?_ (by show w.heap.size ≤ w.heap.size + 1; omega) _)
    first
    | exact below_setCells _ _ _ hbf (by omega)
    | exact below_setCells _ _ _ (hbf.alloc (by omega) _) (by omega)

end Go.Proofs.YtidnopmjhhmedaaDoor
end

section
/- By how much the scale is off at most: Stated, Worst. -/
set_option linter.unusedSimpArgs false
set_option linter.unusedVariables false
namespace Go.Proofs.YtidnopmjhhmedaaDoor
open Go.RowKit
attribute [local go_sem] Oper.semAt_some

theorem rule_of_check {F S J L H T : Int} {st : List Int} {lk : List Lk} (h : checkB F S J L H T st lk = true) : isRuleB F S J L H = true := by
  simp only [checkB, Bool.and_eq_true] at h
  exact h.1.1.1.1.1
theorem stAt_bd {F S J L H T : Int} {st : List Int} {lk : List Lk} (h : checkB F S J L H T st lk = true) : ∀ k, -500 ≤ stAt st k ∧ stAt st k ≤ 500 := by
  have hr := isRuleB_spec (rule_of_check h)
  simp only [checkB, Bool.and_eq_true, decide_eq_true_eq, lies_iff] at h
  obtain ⟨⟨⟨⟨⟨_, _⟩, _⟩, hkeep⟩, _⟩, _⟩ := h
  intro k
  unfold stAt
  rcases Nat.lt_or_ge k st.length with h1 | h1
  · have := keepsB_mem F S J st 0 hkeep st[k] (List.getElem_mem h1)
    simp only [List.getElem?_eq_getElem h1, Option.getD_some]
    omega
  · rw [List.getElem?_eq_none h1]; simp
theorem solF_bd {F S J L H T : Int} {st : List Int} {lk : List Lk} (h : checkB F S J L H T st lk = true) : Bnd 92000 (solF F S J L H T st lk) := by
  have hr := isRuleB_spec (rule_of_check h)
  have hT := check_ticks h
  have hs := stAt_bd h
  simp only [checkB, Bool.and_eq_true, decide_eq_true_eq, lies_iff] at h
  have hl := h.2
  obtain ⟨t, rfl⟩ : ∃ t : Nat, T = t := ⟨T.toNat, by omega⟩
  rw [solF, Int.toNat_natCast]
  exact (roundF_bnd hs hr.2.2.2 (by omega) t (by omega) (looksF_bnd t lk hl)).mono (by omega)

set_option maxRecDepth 100000 in
set_option maxHeartbeats 2000000 in
theorem Stated_bad (F S J L H T tick : Int) (a : Option Addr) (n c : Nat) (a' : Option Addr) (n' c' : Nat) (st : List Int) (lk : List Lk) (E : Int) (hE : E = askE F S J L H T st lk (lies tick 0 T)) (hE0 : (E == 0) = false) (w : World) (hN : Nums w a n st) (hK : Looks w a' n' lk) :
    Calls Tryd.prog 31 #[.agg #[.int .i64 F, .int .i64 S, .int .i64 J, .int .i64 L, .int .i64 H, .int .i64 T, .slice a n c, .slice a' n' c'], .int .i64 tick] w fun e w' => e = .returned (.tuple #[.int .i64 0, .int .i64 E]) ∧ Below w.heap.size w w' := by
  have her := Error_bad F S J L H T tick a n c a' n' c' st lk E hE hE0 _ (hN.alloc1 (.cells #[.int .i64 F, .int .i64 S, .int .i64 J, .int .i64 L, .int .i64 H, .int .i64 T, .slice a n c, .slice a' n' c'] 44)) (hK.alloc1 _)
  have hE1 : (E != 0) = true := by simpa using hE0
  clear hE hN hK
  go_enter Tryd.func31, Tryd.ntmps31
  go_wp2_with (first | (go_at_call 27; refine her.mono ?_; rintro e w1 ⟨rfl, hb⟩; have hz := hb.size; simp at hz; have hz0 : w.heap.size < w1.heap.size := (by omega)))
  go_ret2
  refine ⟨rfl, ?_⟩
  repeat (refine Below.setCell ?_ (by first | omega | (simp <;> omega)) _)
  exact (((Below.refl _ _).alloc (Nat.le_refl _) _).trans (hb.mono (by simp))).alloc (by omega) _

set_option maxRecDepth 100000 in
set_option maxHeartbeats 2000000 in
theorem Stated_ok (F S J L H T tick : Int) (a : Option Addr) (n c : Nat) (a' : Option Addr) (n' c' : Nat) (st : List Int) (lk : List Lk) (hE : askE F S J L H T st lk (lies tick 0 T) = 0) (w : World) (hN : Nums w a n st) (hK : Looks w a' n' lk) :
    Calls Tryd.prog 31 #[.agg #[.int .i64 F, .int .i64 S, .int .i64 J, .int .i64 L, .int .i64 H, .int .i64 T, .slice a n c, .slice a' n' c'], .int .i64 tick] w fun e w' => e = .returned (.tuple #[.int .i64 (max (-(solF F S J L H T st lk tick.toNat).lo) (solF F S J L H T st lk tick.toNat).hi), .int .i64 0]) ∧ Below w.heap.size w w' := by
  have her := Error_ok F S J L H T tick a n c a' n' c' st lk hE _ (hN.alloc1 (.cells #[.int .i64 F, .int .i64 S, .int .i64 J, .int .i64 L, .int .i64 H, .int .i64 T, .slice a n c, .slice a' n' c'] 44)) (hK.alloc1 _)
  have hbd := solF_bd (askE_ok hE).1 tick.toNat
  generalize (solF F S J L H T st lk tick.toNat).lo = p0 at *
  generalize (solF F S J L H T st lk tick.toNat).hi = p1 at *
  clear hE hN hK
  have hp0 : -1000000 ≤ p0 := by omega
  have hp1 : p0 ≤ 1000000 := by omega
  clear hbd
  go_enter Tryd.func31, Tryd.ntmps31
  go_wp2_with (first | (go_at_call 27; refine her.mono ?_; rintro e w1 ⟨rfl, hb⟩; have hz := hb.size; simp at hz; have hz0 : w.heap.size < w1.heap.size := (by omega)) | (go_at_call 74; refine (stated_any _ _ _ hp0 hp1).mono ?_; rintro e w2 ⟨rfl, hb2⟩))
  go_ret2
  refine ⟨rfl, ?_⟩
  refine below_call ?_ hb2
  repeat (refine Below.setCell ?_ (by first | omega | (simp <;> omega)) _)
  exact (((Below.refl _ _).alloc (Nat.le_refl _) _).trans (hb.mono (by simp))).alloc (by omega) _

def statedS (s : Sp) : Int := max (-s.lo) s.hi
/-- The worst of the first so many ticks, and how bad. -/
def worstTo (f : Nat → Sp) : Nat → Int × Int
  | 0 => (0, 0)
  | k + 1 => if k = 0 ∨ (worstTo f k).2 < statedS (f k) then (k, statedS (f k)) else worstTo f k
theorem worstTo_bd {f : Nat → Sp} {B : Int} (h : Bnd B f) (h0 : 0 ≤ B) : ∀ k, -B ≤ (worstTo f k).2 ∧ (worstTo f k).2 ≤ B
  | 0 => by simp [worstTo]; omega
  | k + 1 => by
    have := worstTo_bd h h0 k
    have h2 := h k
    simp only [worstTo]
    split
    · simp only [statedS]; omega
    · exact this

set_option maxRecDepth 100000 in
set_option maxHeartbeats 2000000 in
theorem Worst_bad (F S J L H T : Int) (a : Option Addr) (n c : Nat) (a' : Option Addr) (n' c' : Nat) (st : List Int) (lk : List Lk) (E : Int) (hE : E = askE F S J L H T st lk true) (hE0 : (E == 0) = false) (w : World) (hN : Nums w a n st) (hK : Looks w a' n' lk) :
    Calls Tryd.prog 33 #[.agg #[.int .i64 F, .int .i64 S, .int .i64 J, .int .i64 L, .int .i64 H, .int .i64 T, .slice a n c, .slice a' n' c']] w fun e w' => e = .returned (.tuple #[.int .i64 0, .int .i64 0, .int .i64 E]) ∧ Below w.heap.size w w' := by
  obtain ⟨G, hG⟩ : ∃ G, G = if E = 0 then solF F S J L H T st lk else zeroF := ⟨_, rfl⟩
  have her := asked_is F S J L H T a n c a' n' c' st lk true E G hE hG _ (hN.alloc1 (.cells #[.int .i64 F, .int .i64 S, .int .i64 J, .int .i64 L, .int .i64 H, .int .i64 T, .slice a n c, .slice a' n' c'] 44)) (hK.alloc1 _)
  have hE1 : (E != 0) = true := by simpa using hE0
  clear hE hG hN hK
  go_enter Tryd.func33, Tryd.ntmps33
  go_wp2_with fail
  refine her.mono ?_
  clear her
  rintro e w2 ⟨rfl, hb⟩
  have hz := hb.size
  simp at hz
  have HNEW := Lib.hid (At.new w2)
  have HB : Shut (Below w.heap.size w ((w2.alloc (.cells Tryd.zeroCells96 96)).setCells w2.heap.size 0 (encL G).toArray.toList)) := ⟨below_setCells _ _ _ ((((Below.refl _ _).alloc (Nat.le_refl _) _).trans (hb.mono (by simp))).alloc (by omega) _) (by omega)⟩
  go_upto_region 2 with ((refine wpList_store_mid rfl 96 (Operand.tmp 5) (Operand.tmp 11) rfl w2.heap.size 0 (encL G).toArray rfl rfl (HNEW.out.there G) (size96a G) (all_oneCell_toArray (encL_one G)) ?_; generalize (w2.alloc (.cells Tryd.zeroCells96 96)).setCells w2.heap.size 0 (encL G).toArray.toList = W6 at *))
  go_wp2_with fail
  go_ret3
  exact ⟨rfl, HB.out⟩

set_option maxRecDepth 100000 in
set_option maxHeartbeats 4000000 in
theorem Worst_ok (F S J L H T : Int) (a : Option Addr) (n c : Nat) (a' : Option Addr) (n' c' : Nat) (st : List Int) (lk : List Lk) (t : Nat) (ht : T = t) (hE : askE F S J L H T st lk true = 0) (w : World) (hN : Nums w a n st) (hK : Looks w a' n' lk) :
    Calls Tryd.prog 33 #[.agg #[.int .i64 F, .int .i64 S, .int .i64 J, .int .i64 L, .int .i64 H, .int .i64 T, .slice a n c, .slice a' n' c']] w fun e w' => e = .returned (.tuple #[.int .i64 (worstTo (solF F S J L H T st lk) (t + 1)).1, .int .i64 (worstTo (solF F S J L H T st lk) (t + 1)).2, .int .i64 0]) ∧ Below w.heap.size w w' := by
  have hT := check_ticks (askE_ok hE).1
  have hbd := solF_bd (askE_ok hE).1
  obtain ⟨G, hG⟩ : ∃ G, G = solF F S J L H T st lk := ⟨_, rfl⟩
  have her := asked_is F S J L H T a n c a' n' c' st lk true 0 G hE.symm (by rw [hG]; rfl) _ (hN.alloc1 (.cells #[.int .i64 F, .int .i64 S, .int .i64 J, .int .i64 L, .int .i64 H, .int .i64 T, .slice a n c, .slice a' n' c'] 44)) (hK.alloc1 _)
  rw [← hG] at hbd ⊢
  subst ht
  have HWB := Lib.hid (worstTo_bd hbd (by omega))
  have HBD := Lib.hid hbd
  clear hE hG hN hK hbd
  go_enter Tryd.func33, Tryd.ntmps33
  go_wp2_with fail
  refine her.mono ?_
  clear her
  rintro e w2 ⟨rfl, hb⟩
  have hz := hb.size
  simp at hz
  have HNEW := Lib.hid (At.new w2)
  have hB0 : Below w.heap.size w ((w2.alloc (.cells Tryd.zeroCells96 96)).setCells w2.heap.size 0 (encL G).toArray.toList) := below_setCells _ _ _ ((((Below.refl _ _).alloc (Nat.le_refl _) _).trans (hb.mono (by simp))).alloc (by omega) _) (by omega)
  have HB := Shut.mk hB0
  have HA : Shut (At ((w2.alloc (.cells Tryd.zeroCells96 96)).setCells w2.heap.size 0 (encL G).toArray.toList) w2.heap.size G) := ⟨(At.new w2).store G⟩
  have HT : Shut (((w2.alloc (.cells Tryd.zeroCells96 96)).setCells w2.heap.size 0 (encL G).toArray.toList).cell? ⟨w.heap.size, 5, none⟩ = some (.int .i64 t)) := by
    refine ⟨?_⟩
    have h1 := (bcellN (below_setCells (encL G) 0 (w2.alloc (.cells Tryd.zeroCells96 96)) (Below.refl w2.heap.size _) (Nat.le_refl _))).1 w.heap.size 5 (by omega)
    simp only [List.toList_toArray] at h1 ⊢
    rw [h1]
    exact cell_below ((Below.refl _ _).alloc (Nat.le_refl _) _) (cell_below hb (by simp [go_sem]))
  clear hB0
  go_upto_region 2 with ((refine wpList_store_mid rfl 96 (Operand.tmp 5) (Operand.tmp 11) rfl w2.heap.size 0 (encL G).toArray rfl rfl (HNEW.out.there G) (size96a G) (all_oneCell_toArray (encL_one G)) ?_; generalize (w2.alloc (.cells Tryd.zeroCells96 96)).setCells w2.heap.size 0 (encL G).toArray.toList = W6 at *))
  have hct := HT.out
  go_wp2_with fail
  go_loopw [2, 3, 6, 7, 19] (fun p q _ _ i wx => ∃ k : Nat, k ≤ t + 1 ∧ i = .int .i64 k ∧ p = .int .i64 (worstTo G k).1 ∧ q = .int .i64 (worstTo G k).2 ∧ At wx w2.heap.size G ∧ Below w.heap.size w wx) (fun _ _ _ _ i _ => t + 1 - (intOf i).toNat)
  case atStart => exact ⟨0, Nat.zero_le _, rfl, rfl, rfl, HA.out, HB.out⟩
  case round =>
    obtain ⟨k, hk, rfl, rfl, rfl, hat, hbx⟩ := hrel
    by_cases hlt : k < t + 1
    · have hc1 := hat.lo k (by omega)
      have hc2 := hat.hi k (by omega)
      have hbk := HBD.out k
      have hwk := HWB.out k
      have HS : Hid (worstTo G (k + 1) = if k = 0 ∨ (worstTo G k).2 < statedS (G k) then ((k : Int), statedS (G k)) else worstTo G k) := Lib.hid rfl
      have hsk : statedS (G k) = max (-(G k).lo) (G k).hi := rfl
      obtain ⟨r1, hr1⟩ : ∃ r1, r1 = worstTo G (k + 1) := ⟨_, rfl⟩
      rw [← hr1] at HS
      have HR1 := Lib.hid hr1
      clear hr1
      generalize hr0 : worstTo G k = r0 at *
      obtain ⟨x0, q0⟩ := r0
      generalize (G k).lo = p0 at *
      generalize (G k).hi = p1 at *
      generalize statedS (G k) = s0 at *
      have HSK := Lib.hid hsk
      have hz6 := hat.lt
      have HAT := Lib.hid hat
      have HBX := Lib.hid hbx
      have hi0 : (0 : Int) ≤ (k : Int) := by omega
      have hi1 : (k : Int) < 61 := by omega
      have hp0 : -1000000 ≤ p0 := by omega
      have hp1 : p0 ≤ 1000000 := by omega
      simp only at hwk
      clear hat hbx hsk hbk hr0
      by_cases hc : k = 0 ∨ q0 < s0
      · have HS2 : Hid (r1 = ((k : Int), s0)) := Lib.hid (by rw [HS.out]; simp only [hc, if_true])
        have HC : Hid (k = 0 ∨ q0 < s0) := hc
        rw [HSK.out] at hc
        by_cases h0 : k = 0
        · have hb0 : ((k : Int) == 0) = true := by simp [h0]
          have H0 := Lib.hid h0
          clear hc h0
          go_wp2_with (first | (go_at_call 74; refine (stated_any _ _ _ hp0 hp1).mono ?_; rintro e w3 ⟨rfl, hb3⟩))
          go_roundw
          case rel => exact ⟨k + 1, by omega, by go_num, by rw [← HR1.out, HS2.out], by rw [← HR1.out, HS2.out, HSK.out], HAT.out.below hb3, below_call HBX.out hb3⟩
          case measure => simp [intOf]; omega
        · have hb0 : ((k : Int) == 0) = false := by simp [h0]
          have hgt : q0 < max (-p0) p1 := hc.resolve_left h0
          clear hc h0
          go_wp2_with (first | (go_at_call 74; refine (stated_any _ _ _ hp0 hp1).mono ?_; rintro e w3 ⟨rfl, hb3⟩))
          go_roundw
          case rel => exact ⟨k + 1, by omega, by go_num, by rw [← HR1.out, HS2.out], by rw [← HR1.out, HS2.out, HSK.out], HAT.out.below hb3, below_call HBX.out hb3⟩
          case measure => simp [intOf]; omega
      · have HS2 : Hid (r1 = (x0, q0)) := Lib.hid (by rw [HS.out]; simp only [hc, if_false])
        rw [HSK.out] at hc
        have hb0 : ((k : Int) == 0) = false := by simp; omega
        have hgt : ¬ q0 < max (-p0) p1 := fun h => hc (.inr h)
        clear hc
        go_wp2_with (first | (go_at_call 74; refine (stated_any _ _ _ hp0 hp1).mono ?_; rintro e w3 ⟨rfl, hb3⟩))
        go_roundw
        case rel => exact ⟨k + 1, by omega, by go_num, by rw [← HR1.out, HS2.out], by rw [← HR1.out, HS2.out], HAT.out.below hb3, below_call HBX.out hb3⟩
        case measure => simp [intOf]; omega
    · obtain rfl : k = t + 1 := by omega
      have hlt' : ¬ (((t + 1 : Nat) : Int) < (t : Int) + 1) := by omega
      have HBX := Lib.hid hbx
      clear hat hbx
      go_wp2_with fail
      go_ret3
      exact ⟨rfl, HBX.out⟩

end Go.Proofs.YtidnopmjhhmedaaDoor
end

section
/- When the scale meets true time again: Meets. -/
set_option linter.unusedSimpArgs false
set_option linter.unusedVariables false
namespace Go.Proofs.YtidnopmjhhmedaaDoor
open Go.RowKit
attribute [local go_sem] Oper.semAt_some

set_option maxRecDepth 100000 in
set_option maxHeartbeats 2000000 in
theorem Meets_bad (F S J L H T : Int) (a : Option Addr) (n c : Nat) (a' : Option Addr) (n' c' : Nat) (st : List Int) (lk : List Lk) (E : Int) (hE : E = askE F S J L H T st lk true) (hE0 : (E == 0) = false) (w : World) (hN : Nums w a n st) (hK : Looks w a' n' lk) :
    Calls Tryd.prog 35 #[.agg #[.int .i64 F, .int .i64 S, .int .i64 J, .int .i64 L, .int .i64 H, .int .i64 T, .slice a n c, .slice a' n' c']] w fun e w' => e = .returned (.tuple #[.int .i64 0, .int .i64 0, .int .i64 E]) ∧ Below w.heap.size w w' := by
  obtain ⟨G, hG⟩ : ∃ G, G = if E = 0 then solF F S J L H T st lk else zeroF := ⟨_, rfl⟩
  have her := asked_is F S J L H T a n c a' n' c' st lk true E G hE hG _ (hN.alloc1 (.cells #[.int .i64 F, .int .i64 S, .int .i64 J, .int .i64 L, .int .i64 H, .int .i64 T, .slice a n c, .slice a' n' c'] 44)) (hK.alloc1 _)
  have hE1 : (E != 0) = true := by simpa using hE0
  clear hE hG hN hK
  go_enter Tryd.func35, Tryd.ntmps35
  go_wp2_with fail
  refine her.mono ?_
  clear her
  rintro e w2 ⟨rfl, hb⟩
  have hz := hb.size
  simp at hz
  have HNEW := Lib.hid (At.new w2)
  have HB : Shut (Below w.heap.size w ((w2.alloc (.cells Tryd.zeroCells96 96)).setCells w2.heap.size 0 (encL G).toArray.toList)) := ⟨below_setCells _ _ _ ((((Below.refl _ _).alloc (Nat.le_refl _) _).trans (hb.mono (by simp))).alloc (by omega) _) (by omega)⟩
  go_upto_region 2 with ((refine wpList_store_mid rfl 96 (Operand.tmp 5) (Operand.tmp 13) rfl w2.heap.size 0 (encL G).toArray rfl rfl (HNEW.out.there G) (size96a G) (all_oneCell_toArray (encL_one G)) ?_; generalize (w2.alloc (.cells Tryd.zeroCells96 96)).setCells w2.heap.size 0 (encL G).toArray.toList = W6 at *))
  go_wp2_with fail
  go_ret3
  exact ⟨rfl, HB.out⟩

/-- All lies within what an offset can be. -/
def Nar (f : Nat → Sp) : Prop := ∀ k, -20000 ≤ (f k).lo ∧ (f k).hi ≤ 20000
theorem Nar.put {f : Nat → Sp} (h : Nar f) (k : Nat) (s : Sp) : Nar (putS f k (bothS (f k) s)) := by
  intro j
  have hk := h k
  unfold putS
  split
  · simp only [bothS]; omega
  · exact h j
theorem wide_nar : Nar wideF := fun k => by simp [wideF]
theorem looks_nar (lk : List Lk) : ∀ f, Nar f → Nar (lk.foldl lookS f) := by
  induction lk with
  | nil => intro f h; exact h
  | cons l lk ih => intro f h; exact ih _ (h.put _ _)
theorem fwdTo_nar (st : List Int) (L H : Int) {f : Nat → Sp} (h : Nar f) : ∀ j, Nar (fwdTo st L H f j)
  | 0 => h
  | j + 1 => (fwdTo_nar st L H h j).put _ _
theorem bwdTo_nar (st : List Int) (L H : Int) (t : Nat) {f : Nat → Sp} (h : Nar f) : ∀ j, Nar (bwdTo st L H t f j)
  | 0 => h
  | j + 1 => (bwdTo_nar st L H t h j).put _ _
theorem solF_nar (F S J L H T : Int) (st : List Int) (lk : List Lk) : Nar (solF F S J L H T st lk) := bwdTo_nar _ _ _ _ (fwdTo_nar _ _ _ (looks_nar lk _ wide_nar) _) _
theorem solF_in {F S J L H T : Int} {st : List Int} {lk : List Lk} {ok : Bool} (hE : askE F S J L H T st lk ok = 0) (k : Nat) (hk : (k : Int) ≤ T) :
    -20000 ≤ (solF F S J L H T st lk k).lo ∧ (solF F S J L H T st lk k).lo ≤ (solF F S J L H T st lk k).hi ∧ (solF F S J L H T st lk k).hi ≤ 20000 := by
  have h1 := solF_nar F S J L H T st lk k
  have h2 := (askE_ok hE).2.2
  rw [okF, List.all_eq_true] at h2
  have h3 := h2 k (by simp; omega)
  simp only [decide_eq_true_eq] at h3
  exact ⟨h1.1, h3, h1.2⟩

theorem meets_held {F S J L H : Int} {b P : Nat} {p0 p1 : Int} {w W W1 : World} (hx : RuleAt W P F S J L H b ∧ (W.cell? ⟨P + 1, 0, none⟩ = some (.int .i64 p0) ∧ W.cell? ⟨P + 1, 1, none⟩ = some (.int .i64 p1)) ∧ MW F S J b w W) (hb0 : b ≠ 0) (hP : P ≠ b) (hQ : P + 1 ≠ b) (hp : MemoPost F S J b W W1) :
    RuleAt W1 P F S J L H b ∧ (W1.cell? ⟨P + 1, 0, none⟩ = some (.int .i64 p0) ∧ W1.cell? ⟨P + 1, 1, none⟩ = some (.int .i64 p1)) ∧ MW F S J b w W1 :=
  ⟨RuleAt.next hx.1 hp hP, ⟨cell_grown hp.1 (p := ⟨P + 1, 0, none⟩) hQ hx.2.1.1, cell_grown hp.1 (p := ⟨P + 1, 1, none⟩) hQ hx.2.1.2⟩, MW.next hx.2.2 hb0 hp⟩
theorem RuleAt.below {W W1 : World} {B b : Nat} {F S J L H : Int} (h : RuleAt W B F S J L H b) (hb : Below W.heap.size W W1) : RuleAt W1 B F S J L H b :=
  ⟨cell_below hb h.1, cell_below hb h.2.1, cell_below hb h.2.2.1, cell_below hb h.2.2.2.1, cell_below hb h.2.2.2.2.1, cell_below hb h.2.2.2.2.2⟩
theorem meets_alloc {F S J L H : Int} {b P : Nat} {p0 p1 : Int} {w W : World} {o : Obj} (hx : RuleAt W P F S J L H b ∧ (W.cell? ⟨P + 1, 0, none⟩ = some (.int .i64 p0) ∧ W.cell? ⟨P + 1, 1, none⟩ = some (.int .i64 p1)) ∧ MW F S J b w W) :
    RuleAt (W.alloc o) P F S J L H b ∧ ((W.alloc o).cell? ⟨P + 1, 0, none⟩ = some (.int .i64 p0) ∧ (W.alloc o).cell? ⟨P + 1, 1, none⟩ = some (.int .i64 p1)) ∧ MW F S J b w (W.alloc o) :=
  have hb : Below W.heap.size W (W.alloc o) := (Below.refl _ _).alloc (Nat.le_refl _) _
  ⟨hx.1.below hb, ⟨cell_below hb hx.2.1.1, cell_below hb hx.2.1.2⟩, hx.2.2.below hb⟩

set_option maxRecDepth 100000 in
set_option maxHeartbeats 4000000 in
theorem Meets_ok (F S J L H T : Int) (a : Option Addr) (n c : Nat) (a' : Option Addr) (n' c' : Nat) (st : List Int) (lk : List Lk) (t : Nat) (ht : T = t) (hE : askE F S J L H T st lk true = 0) (w : World) (hw : Ways w) (hN : Nums w a n st) (hK : Looks w a' n' lk) (f0 f1 : Int)
    (hf0 : f0 = fewest F S J (solF F S J L H T st lk t).lo) (hf1 : f1 = fewest F S J (solF F S J L H T st lk t).hi) (v : Value)
    (hv : v = if f0 = -1 ∨ f1 = -1 then .tuple #[.int .i64 0, .int .i64 0, .int .i64 4] else .tuple #[.int .i64 (max f0 f1), .int .i64 (if (solF F S J L H T st lk t).lo ≤ 0 ∧ 0 ≤ (solF F S J L H T st lk t).hi then 0 else min f0 f1), .int .i64 0]) :
    Calls Tryd.prog 35 #[.agg #[.int .i64 F, .int .i64 S, .int .i64 J, .int .i64 L, .int .i64 H, .int .i64 T, .slice a n c, .slice a' n' c']] w fun e w' => e = .returned v ∧ Below w.heap.size w w' := by
  have hT := check_ticks (askE_ok hE).1
  have hrule := rule_of_check (askE_ok hE).1
  have hin := solF_in hE t (by omega)
  obtain ⟨G, hG⟩ : ∃ G, G = solF F S J L H T st lk := ⟨_, rfl⟩
  have her := asked_is F S J L H T a n c a' n' c' st lk true 0 G hE.symm (by rw [hG]; rfl) _ (hN.alloc1 (.cells #[.int .i64 F, .int .i64 S, .int .i64 J, .int .i64 L, .int .i64 H, .int .i64 T, .slice a n c, .slice a' n' c'] 44)) (hK.alloc1 _)
  rw [← hG] at hin hf0 hf1 hv
  subst ht
  obtain ⟨p0, hp0⟩ : ∃ p0, p0 = (G t).lo := ⟨_, rfl⟩
  obtain ⟨p1, hp1⟩ : ∃ p1, p1 = (G t).hi := ⟨_, rfl⟩
  rw [← hp0, ← hp1] at hin hv
  rw [← hp0] at hf0
  rw [← hp1] at hf1
  have HP0 := Lib.hid hp0
  have HP1 := Lib.hid hp1
  have HF0 := Lib.hid hf0
  have HF1 := Lib.hid hf1
  have HV := Lib.hid hv
  have HR := Lib.hid hrule
  have hw0 : 0 < w.heap.size := World.block_lt_of_cell? w _ hw.1
  have HW := Lib.hid hw
  clear hE hG hN hK hp0 hp1 hf0 hf1 hv hrule hw
  go_enter Tryd.func35, Tryd.ntmps35
  go_wp2_with fail
  refine her.mono ?_
  clear her
  rintro e w2 ⟨rfl, hb⟩
  have hz := hb.size
  simp at hz
  have HNEW := Lib.hid (At.new w2)
  have hB0 : Below w.heap.size w ((w2.alloc (.cells Tryd.zeroCells96 96)).setCells w2.heap.size 0 (encL G).toArray.toList) := below_setCells _ _ _ ((((Below.refl _ _).alloc (Nat.le_refl _) _).trans (hb.mono (by simp))).alloc (by omega) _) (by omega)
  have HB := Shut.mk hB0
  have HA : Shut (At ((w2.alloc (.cells Tryd.zeroCells96 96)).setCells w2.heap.size 0 (encL G).toArray.toList) w2.heap.size G) := ⟨(At.new w2).store G⟩
  have HBK : Shut (BookAt ((w2.alloc (.cells Tryd.zeroCells96 96)).setCells w2.heap.size 0 (encL G).toArray.toList) w.heap.size F S J L H t a n c a' n' c') := by
    have h1 := (bcellN (below_setCells (encL G) 0 (w2.alloc (.cells Tryd.zeroCells96 96)) (Below.refl w2.heap.size _) (Nat.le_refl _))).1 w.heap.size
    have h2 := ((BookAt.new w F S J L H t a n c a' n' c').below hb).below ((Below.refl _ _).alloc (Nat.le_refl _) (.cells Tryd.zeroCells96 96))
    obtain ⟨q0, q1, q2, q3, q4, q5, q6, q7⟩ := h2
    simp only [List.toList_toArray] at h1 ⊢
    exact ⟨⟨(h1 0 (by omega)).trans q0, (h1 1 (by omega)).trans q1, (h1 2 (by omega)).trans q2, (h1 3 (by omega)).trans q3, (h1 4 (by omega)).trans q4, (h1 5 (by omega)).trans q5, (h1 6 (by omega)).trans q6, (h1 7 (by omega)).trans q7⟩⟩
  clear hB0
  go_upto_region 2 with ((refine wpList_store_mid rfl 96 (Operand.tmp 5) (Operand.tmp 13) rfl w2.heap.size 0 (encL G).toArray rfl rfl (HNEW.out.there G) (size96a G) (all_oneCell_toArray (encL_one G)) ?_; generalize (w2.alloc (.cells Tryd.zeroCells96 96)).setCells w2.heap.size 0 (encL G).toArray.toList = W6 at *))
  obtain ⟨hk0, hk1, hk2, hk3, hk4, hk5, hk6, hk7⟩ := HBK.out
  go_wp2_with fail
  refine (opened_ok F S J L H W6 HR.out).mono ?_
  rintro e w3 ⟨b, rfl, hb3, hnb, hnew⟩
  have hbk3 := HBK.out.below hb3
  obtain ⟨hc0, hc1, hc2, hc3, hc4, hc5, hc6, hc7⟩ := hbk3
  have hat3 := HA.out.below hb3
  have hcl := hat3.lo t (by omega)
  have hch := hat3.hi t (by omega)
  rw [← HP0.out] at hcl
  rw [← HP1.out] at hch
  have hz3 := hb3.size
  have hz6 := HA.out.lt
  have hbw := HB.out.size
  have hlt3 := (Array.getElem?_eq_some_iff.1 hnew).1
  have HB3 := Lib.hid (below_call HB.out hb3)
  have HN := Lib.hid hnew
  have hi0 : (0 : Int) ≤ (t : Int) := by omega
  have hi1 : (t : Int) < 61 := by omega
  have hy1 : w.heap.size < w3.heap.size := by omega
  have hy2 : w2.heap.size < w3.heap.size := by omega
  clear hk0 hk1 hk2 hk3 hk4 hk5 hk6 hk7 hat3 hnew
  go_wp2_with fail
  have hMW0 : MW F S J b w (((w3.alloc (.cells #[.int .i64 F, .int .i64 S, .int .i64 J, .int .i64 L, .int .i64 H, .map (some b)] 80)).alloc (.cells #[.int .i64 p0, .int .i64 p1] 23)).drew) := by
    refine mw_new HW.out ?_ ?_
    · exact ((HB3.out.alloc (by omega) _).alloc (by simp <;> omega) _).drew
    · rw [heap_drew, Below.heap_alloc _ _ _ (by simp <;> omega), Below.heap_alloc _ _ _ (by omega)]
      exact HN.out
  have hb0 : b ≠ 0 := by omega
  have hPb : w3.heap.size ≠ b := by omega
  have hQb : w3.heap.size + 1 ≠ b := by omega
  go_region_held3 (fun W1 : World => (W1.cell? ⟨w3.heap.size, 0, none⟩ = some (.int .i64 F) ∧ W1.cell? ⟨w3.heap.size, 1, none⟩ = some (.int .i64 S) ∧ W1.cell? ⟨w3.heap.size, 2, none⟩ = some (.int .i64 J) ∧ W1.cell? ⟨w3.heap.size, 3, none⟩ = some (.int .i64 L) ∧ W1.cell? ⟨w3.heap.size, 4, none⟩ = some (.int .i64 H) ∧ W1.cell? ⟨w3.heap.size, 5, none⟩ = some (.map (some b))) ∧ (W1.cell? ⟨w3.heap.size + 1, 0, none⟩ = some (.int .i64 p0) ∧ W1.cell? ⟨w3.heap.size + 1, 1, none⟩ = some (.int .i64 p1)) ∧ MW F S J b w W1)
    (first | with_reducible exact meets_held hx hb0 hPb hQb hp | with_reducible exact meets_alloc (by assumption) | exact meets_alloc ⟨⟨by assumption, by assumption, by assumption, by assumption, by assumption, by assumption⟩, ⟨by assumption, by assumption⟩, by assumption⟩ | ((repeat' apply And.intro) <;> (first | with_reducible exact hMW0 | (simp [go_sem, *]; done))))
    (first | (go_at_call 62; rename_i hx _ _; refine (fewest_any F S J L H b _ (by omega) HR.out _ hx.2.2.ways hx.2.2.memo hb0).mono ?_; rintro e w4 ⟨rfl, hp⟩))
  rename_i hh
  have hf0 := HF0.out
  have hf1 := HF1.out
  generalize fewest F S J p0 = g0 at *
  generalize fewest F S J p1 = g1 at *
  subst hf0
  subst hf1
  clear HF0 HF1
  obtain ⟨_, ⟨hq0, hq1⟩, hm⟩ := hh
  have hNu : Nums (w4.alloc (.cells #[.int .i64 f0, .int .i64 f1] 3)) (some ⟨w4.heap.size, 0, none⟩) 2 [f0, f1] :=
    ⟨rfl, by omega, fun _ => ⟨_, 0, rfl, fun j hj => by
      rcases j with _ | _ | j
      · simp [go_sem]
      · simp [go_sem]
      · omega⟩⟩
  have HBF := Lib.hid (below_of_grown hm.gr (n := w.heap.size) (by omega) (Nat.le_refl _))
  generalize w4.alloc (.cells #[.int .i64 f0, .int .i64 f1] 3) = W8 at *
  have hct := contains_any _ 2 2 [f0, f1] (-1) W8 hNu
  have hmx := max_any _ 2 2 [f0, f1] W8 hNu (by omega)
  have hmn := min_any _ 2 2 [f0, f1] W8 hNu (by omega)
  clear hNu hm
  rw [show maxOf [f0, f1] = max f0 f1 from rfl] at hmx
  rw [show minOf [f0, f1] = min f0 f1 from rfl] at hmn
  by_cases hno : f0 = -1 ∨ f1 = -1
  · have hv : v = .tuple #[.int .i64 0, .int .i64 0, .int .i64 4] := by rw [HV.out, if_pos hno]
    have hmem : decide ((-1 : Int) ∈ [f0, f1]) = true := by simp only [List.mem_cons, List.not_mem_nil, or_false, decide_eq_true_eq]; omega
    rw [hmem] at hct
    clear hmem hno HV
    subst hv
    go_wp2_with (first | (go_at_call 75; refine hct.mono ?_; rintro e w' ⟨rfl, rfl⟩))
    go_ret3
    exact ⟨rfl, HBF.out⟩
  · have hmem : decide ((-1 : Int) ∈ [f0, f1]) = false := by simp only [List.mem_cons, List.not_mem_nil, or_false, decide_eq_false_iff_not]; omega
    rw [hmem] at hct
    have hv0 := HV.out
    rw [if_neg hno] at hv0
    clear hmem hno HV
    by_cases hz0 : p0 ≤ 0 ∧ 0 ≤ p1
    · have hv : v = .tuple #[.int .i64 (max f0 f1), .int .i64 0, .int .i64 0] := by rw [hv0, if_pos hz0]
      have hl := lies_is (n := 0) (a := p0) (b := p1) (v := true) (lies_iff.2 hz0)
      clear hv0 hz0
      subst hv
      go_wp2_with (first | (go_at_call 75; refine hct.mono ?_; rintro e w' ⟨rfl, rfl⟩) | (go_at_call 76; refine hmx.mono ?_; rintro e w' ⟨rfl, rfl⟩) | (go_at_call 77; refine hmn.mono ?_; rintro e w' ⟨rfl, rfl⟩) | (go_at_call 57; refine (hl _).mono ?_; rintro e w' ⟨rfl, rfl⟩))
      go_ret3
      exact ⟨rfl, HBF.out⟩
    · have hv : v = .tuple #[.int .i64 (max f0 f1), .int .i64 (min f0 f1), .int .i64 0] := by rw [hv0, if_neg hz0]
      have hl := lies_is (n := 0) (a := p0) (b := p1) (v := false) (by rw [← Bool.not_eq_true, lies_iff]; exact hz0)
      clear hv0 hz0
      subst hv
      go_wp2_with (first | (go_at_call 75; refine hct.mono ?_; rintro e w' ⟨rfl, rfl⟩) | (go_at_call 76; refine hmx.mono ?_; rintro e w' ⟨rfl, rfl⟩) | (go_at_call 77; refine hmn.mono ?_; rintro e w' ⟨rfl, rfl⟩) | (go_at_call 57; refine (hl _).mono ?_; rintro e w' ⟨rfl, rfl⟩))
      go_ret3
      exact ⟨rfl, HBF.out⟩

end Go.Proofs.YtidnopmjhhmedaaDoor
end

section
/- The contracts of scale's functions, in the form that the printed texts take. Written by wip/tools/mkXI.py. -/
set_option linter.unusedSimpArgs false
set_option linter.unusedVariables false
namespace Go.Proofs.TrydX.X
open Go.RowKit Go.Proofs.YtidnopmjhhmedaaDoorW.PrintWords Go.Proofs.YtidnopmjhhmedaaDoorW.PrintLast
open Go.Proofs.YtidnopmjhhmedaaDoor (isRuleB lies isPlanB fewest planOf caps capSum keepsB shownL checkB Lk Nums askE solF worstTo lies_iff)

/-- A look, as the hand's texts have it. -/
def toLk (x : S71) : Lk := ⟨x.f0, x.f1.f0, x.f1.f1⟩
theorem nums_of_C {w : World} {A : Option Addr} {l : List Int} (h : Kd.C (Kd.int .i64) w A l.length l) (hb : l.length ≤ 17592186044416) : Nums w A l.length l := by
  have h2 := Kd.reads_of_C (enc := Value.int .i64) (d := (0 : Int)) (h1 := fun _ => rfl) h
  refine ⟨rfl, hb, fun hn => ?_⟩
  obtain ⟨ad, e, hc⟩ := h2.2.2 hn
  obtain ⟨b, off, sp⟩ := ad
  have h0 := hc 0 hn
  have hs : sp = none := by
    rw [show Addr.add ⟨b, off, sp⟩ 0 = ⟨b, off, sp⟩ from rfl] at h0
    unfold World.cell? at h0
    split at h0
    · cases sp with
      | none => rfl
      | some x => simp at h0
    · cases h0
  subst hs
  refine ⟨b, off, e, fun j hj => ?_⟩
  have := hc j hj
  rwa [Addr.add_mid] at this
theorem looks_of_C {w : World} {A : Option Addr} {l : List S71} (h : Kd.C k71 w A l.length l) (hb : l.length ≤ 17592186044416) : YtidnopmjhhmedaaDoor.Looks w A l.length (l.map toLk) := by
  refine ⟨by simp, hb, fun hn => ?_⟩
  have h2 := h.2.2 hn
  obtain ⟨ad, e, _⟩ := h2
  obtain ⟨b, off, sp⟩ := ad
  have get : ∀ j, j < l.length → w.cell? ((⟨b, off, sp⟩ : Addr).add (j * 3)) = some (.int .i64 (rd_T71 l j).f0) ∧ w.cell? ⟨b, off + j * 3 + 1, none⟩ = some (.int .i64 (rd_T71 l j).f1.f0) ∧ w.cell? ⟨b, off + j * 3 + 2, none⟩ = some (.int .i64 (rd_T71 l j).f1.f1) := by
    intro j hj
    obtain ⟨ad2, e2, h1, h2, h3⟩ := at_T71 h j (by omega) (by omega)
    rw [e] at e2
    injection e2 with e2
    subst e2
    rw [Int.toNat_natCast] at h1 h2 h3
    have hadd : ((⟨b, off, sp⟩ : Addr).add (j * 3)).off = off + j * 3 ∧ ((⟨b, off, sp⟩ : Addr).add (j * 3)).block = b := by
      unfold Addr.add
      split <;> simp_all
    rw [hadd.1, hadd.2] at h2 h3
    exact ⟨h1, h2, h3⟩
  have h0 := (get 0 hn).1
  have hs : sp = none := by
    rw [show Addr.add ⟨b, off, sp⟩ (0 * 3) = ⟨b, off, sp⟩ from rfl] at h0
    unfold World.cell? at h0
    split at h0
    · cases sp with
      | none => rfl
      | some x => simp at h0
    · cases h0
  subst hs
  refine ⟨b, off, e, fun j hj => ?_⟩
  obtain ⟨h1, h2, h3⟩ := get j hj
  rw [Addr.add_mid] at h1
  have hl : (l.map toLk).getD j Lk.zero = toLk (rd_T71 l j) := by
    simp [rd_T71, List.getD_eq_getElem?_getD, hj]
  rw [hl]
  exact ⟨h1, h2, h3⟩
/-- A list that is handed back is read where it is new. -/
theorem V_of_nums {w w' : World} {a : Option Addr} {cap : Nat} {l : List Int} (hN : Nums w' a l.length l) (hc : l.length ≤ cap) (hb : ∀ g o, a = some ⟨g, o, none⟩ → 0 < l.length → w.heap.size ≤ g) : Kd.V (Kd.int .i64) 3 w' w.heap.size (fun k_ => w.heap.size ≤ k_) (.slice a l.length cap) l := by
  refine Kd.V_mk hc ?_
  intro W' hW
  refine Kd.C_of_reads (d := (0 : Int)) (h1 := fun _ => rfl) ⟨rfl, by have := hN.2.1; omega, fun hn => ?_⟩
  obtain ⟨b, off, e, hcell⟩ := hN.2.2 hn
  refine ⟨⟨b, off, none⟩, e, fun j hj => ?_⟩
  rw [Addr.add_mid]
  have h1 := hcell j hj
  have hlt := World.block_lt_of_cell? w' _ h1
  exact (World.cell?_of_block (w := w') (hW b (hb b off e hn) hlt)).trans h1

def scale_IsPlan.f (a0_0 : Int) (a0_1 : Int) (a0_2 : Int) (a0_3 : Int) (a0_4 : Int) (a1 : Int) (l2 : List Int) : Option (Bool × Int) := if l2.length ≤ 17592186044416 then (if isRuleB a0_0 a0_1 a0_2 a0_3 a0_4 = true then (if lies a1 (-20000) 20000 = true then some (isPlanB a0_0 a0_1 a0_2 a1 l2.length l2, 0) else some (false, 41)) else some (false, 40)) else none
set_option maxHeartbeats 1000000 in
theorem scale_IsPlan.calls (a0_0 : Int) (a0_1 : Int) (a0_2 : Int) (a0_3 : Int) (a0_4 : Int) (a1 : Int) (A2 : Option Addr) (c2 : Nat) (l2 : List Int) (r1 : Bool) (r2 : Int) (w : World) (hr2 : Kd.C (Kd.int .i64) w A2 l2.length l2) (hc2 : l2.length ≤ c2) (hWays : Go.Proofs.YtidnopmjhhmedaaDoor.Ways w) (h : scale_IsPlan.f a0_0 a0_1 a0_2 a0_3 a0_4 a1 l2 = some (r1, r2)) :
    Calls Tryd.prog 16 #[.agg #[.int .i64 a0_0, .int .i64 a0_1, .int .i64 a0_2, .int .i64 a0_3, .int .i64 a0_4], .int .i64 a1, .slice A2 l2.length c2] w fun e w' => e = .returned (.tuple #[.bool r1, .int .i64 r2]) ∧ Below w.heap.size w w' := by
  unfold scale_IsPlan.f at h
  split at h
  · rename_i hb
    have hN := nums_of_C hr2 hb
    split at h
    · split at h
      · simp only [Option.some.injEq, Prod.mk.injEq] at h
        obtain ⟨rfl, rfl⟩ := h
        exact YtidnopmjhhmedaaDoor.IsPlan_ok _ _ _ _ _ _ _ _ _ _ ‹_› ‹_› w hWays hN
      · simp only [Option.some.injEq, Prod.mk.injEq] at h
        obtain ⟨rfl, rfl⟩ := h
        exact YtidnopmjhhmedaaDoor.IsPlan_ask _ _ _ _ _ _ _ _ _ ‹_› (by simpa using ‹¬ lies _ _ _ = true›) w
    · simp only [Option.some.injEq, Prod.mk.injEq] at h
      obtain ⟨rfl, rfl⟩ := h
      exact YtidnopmjhhmedaaDoor.IsPlan_bad _ _ _ _ _ _ _ _ _ (by simpa using ‹¬ isRuleB _ _ _ _ _ = true›) w
  · cases h

def scale_Fewest.f (a0_0 : Int) (a0_1 : Int) (a0_2 : Int) (a0_3 : Int) (a0_4 : Int) (a1 : Int) : Option (Int × Int) := if isRuleB a0_0 a0_1 a0_2 a0_3 a0_4 = true then (if lies a1 (-20000) 20000 = true then some (if fewest a0_0 a0_1 a0_2 a1 < 0 then 0 else fewest a0_0 a0_1 a0_2 a1, if fewest a0_0 a0_1 a0_2 a1 < 0 then 4 else 0) else some (0, 41)) else some (0, 40)
set_option maxHeartbeats 1000000 in
theorem scale_Fewest.calls (a0_0 : Int) (a0_1 : Int) (a0_2 : Int) (a0_3 : Int) (a0_4 : Int) (a1 : Int) (r1 : Int) (r2 : Int) (w : World) (hWays : Go.Proofs.YtidnopmjhhmedaaDoor.Ways w) (h : scale_Fewest.f a0_0 a0_1 a0_2 a0_3 a0_4 a1 = some (r1, r2)) :
    Calls Tryd.prog 18 #[.agg #[.int .i64 a0_0, .int .i64 a0_1, .int .i64 a0_2, .int .i64 a0_3, .int .i64 a0_4], .int .i64 a1] w fun e w' => e = .returned (.tuple #[.int .i64 r1, .int .i64 r2]) ∧ Below w.heap.size w w' := by
  unfold scale_Fewest.f at h
  split at h
  · split at h
    · simp only [Option.some.injEq, Prod.mk.injEq] at h
      obtain ⟨rfl, rfl⟩ := h
      exact YtidnopmjhhmedaaDoor.Fewest_ok _ _ _ _ _ _ ‹_› ‹_› w hWays
    · simp only [Option.some.injEq, Prod.mk.injEq] at h
      obtain ⟨rfl, rfl⟩ := h
      exact YtidnopmjhhmedaaDoor.Fewest_ask _ _ _ _ _ _ ‹_› (by simpa using ‹¬ lies _ _ _ = true›) w
  · simp only [Option.some.injEq, Prod.mk.injEq] at h
    obtain ⟨rfl, rfl⟩ := h
    exact YtidnopmjhhmedaaDoor.Fewest_bad _ _ _ _ _ _ (by simpa using ‹¬ isRuleB _ _ _ _ _ = true›) w

/-- The plan. -/
def planL (F S J off : Int) : List Int := if 0 < off then planOf (-1) off (caps S J (fewest F S J off).toNat) else planOf 1 (-off) (caps F J (fewest F S J off).toNat)
theorem few_nat {F S J off : Int} (h : ¬ fewest F S J off < 0) : fewest F S J off = ((fewest F S J off).toNat : Int) := by omega
theorem nil_V (w w' : World) : Kd.V (Kd.int .i64) 3 w' w.heap.size (fun k_ => w.heap.size ≤ k_) (.slice none 0 0) [] := Kd.V_nil _ _ _ _ _
def scale_Plan.f (a0_0 : Int) (a0_1 : Int) (a0_2 : Int) (a0_3 : Int) (a0_4 : Int) (a1 : Int) : Option ((List Int) × Int) := if isRuleB a0_0 a0_1 a0_2 a0_3 a0_4 = true then (if lies a1 (-20000) 20000 = true then (if fewest a0_0 a0_1 a0_2 a1 < 0 then some ([], 4) else some (planL a0_0 a0_1 a0_2 a1, 0)) else some ([], 41)) else some ([], 40)
set_option maxHeartbeats 1000000 in
theorem scale_Plan.calls (a0_0 : Int) (a0_1 : Int) (a0_2 : Int) (a0_3 : Int) (a0_4 : Int) (a1 : Int) (r1 : List Int) (r2 : Int) (w : World) (hWays : Go.Proofs.YtidnopmjhhmedaaDoor.Ways w) (h : scale_Plan.f a0_0 a0_1 a0_2 a0_3 a0_4 a1 = some (r1, r2)) :
    Calls Tryd.prog 20 #[.agg #[.int .i64 a0_0, .int .i64 a0_1, .int .i64 a0_2, .int .i64 a0_3, .int .i64 a0_4], .int .i64 a1] w fun e w' => ∃ v0_ : Value, e = .returned (.tuple #[v0_, .int .i64 r2]) ∧ Kd.V (Kd.int .i64) 3 w' w.heap.size (fun k_ => (w.heap.size ≤ k_)) v0_ r1 ∧ Below w.heap.size w w' := by
  have hwa : Go.Proofs.YtidnopmjhhmedaaDoor.Ways (w.alloc (.cells #[.int .i64 a0_0, .int .i64 a0_1, .int .i64 a0_2, .int .i64 a0_3, .int .i64 a0_4] 25)) := hWays.below ((Below.refl _ _).alloc (Nat.le_refl _) _)
  unfold scale_Plan.f at h
  split at h
  · split at h
    · split at h
      · rename_i hr hl hf
        simp only [Option.some.injEq, Prod.mk.injEq] at h
        obtain ⟨rfl, rfl⟩ := h
        have h1 := YtidnopmjhhmedaaDoor.Fewest_ok a0_0 a0_1 a0_2 a0_3 a0_4 a1 hr hl _ hwa
        rw [if_pos hf, if_pos hf] at h1
        exact (YtidnopmjhhmedaaDoor.Plan_err a0_0 a0_1 a0_2 a0_3 a0_4 a1 4 w (by decide) (h1.mono fun e w' h => ⟨h.1, by simpa using h.2⟩)).mono fun e w' h => ⟨_, h.1, nil_V _ _, h.2⟩
      · rename_i hr hl hf
        simp only [Option.some.injEq, Prod.mk.injEq] at h
        obtain ⟨rfl, rfl⟩ := h
        have hle := YtidnopmjhhmedaaDoor.fewest_le a0_0 a0_1 a0_2 a1
        unfold planL
        split
        · refine (YtidnopmjhhmedaaDoor.Plan_pos a0_0 a0_1 a0_2 a0_3 a0_4 a1 _ w hWays hr (lies_iff.1 hl) ‹_› (by omega) (few_nat hf)).mono ?_
          rintro e w' ⟨a, cap, he, ⟨hN, hc, hb⟩, hB⟩
          exact ⟨_, he, V_of_nums hN hc hb, hB⟩
        · refine (YtidnopmjhhmedaaDoor.Plan_neg a0_0 a0_1 a0_2 a0_3 a0_4 a1 _ w hWays hr (lies_iff.1 hl) ‹_› (by omega) (few_nat hf)).mono ?_
          rintro e w' ⟨a, cap, he, ⟨hN, hc, hb⟩, hB⟩
          exact ⟨_, he, V_of_nums hN hc hb, hB⟩
    · rename_i hr hl
      simp only [Option.some.injEq, Prod.mk.injEq] at h
      obtain ⟨rfl, rfl⟩ := h
      have h1 := YtidnopmjhhmedaaDoor.Fewest_ask a0_0 a0_1 a0_2 a0_3 a0_4 a1 hr (by simpa using hl) (w.alloc (.cells #[.int .i64 a0_0, .int .i64 a0_1, .int .i64 a0_2, .int .i64 a0_3, .int .i64 a0_4] 25))
      exact (YtidnopmjhhmedaaDoor.Plan_err a0_0 a0_1 a0_2 a0_3 a0_4 a1 41 w (by decide) (h1.mono fun e w' h => ⟨h.1, by simpa using h.2⟩)).mono fun e w' h => ⟨_, h.1, nil_V _ _, h.2⟩
  · rename_i hr
    simp only [Option.some.injEq, Prod.mk.injEq] at h
    obtain ⟨rfl, rfl⟩ := h
    have h1 := YtidnopmjhhmedaaDoor.Fewest_bad a0_0 a0_1 a0_2 a0_3 a0_4 a1 (by simpa using hr) (w.alloc (.cells #[.int .i64 a0_0, .int .i64 a0_1, .int .i64 a0_2, .int .i64 a0_3, .int .i64 a0_4] 25))
    exact (YtidnopmjhhmedaaDoor.Plan_err a0_0 a0_1 a0_2 a0_3 a0_4 a1 40 w (by decide) (h1.mono fun e w' h => ⟨h.1, by simpa using h.2⟩)).mono fun e w' h => ⟨_, h.1, nil_V _ _, h.2⟩

def scale_Reach.f (a0_0 : Int) (a0_1 : Int) (a0_2 : Int) (a0_3 : Int) (a0_4 : Int) (a1 : Int) : Option (Int × Int × Int) := if isRuleB a0_0 a0_1 a0_2 a0_3 a0_4 = true then (if lies a1 0 200 = true then some (-(capSum a0_1 a0_2 a1.toNat), capSum a0_0 a0_2 a1.toNat, 0) else some (0, 0, 41)) else some (0, 0, 40)
set_option maxHeartbeats 1000000 in
theorem scale_Reach.calls (a0_0 : Int) (a0_1 : Int) (a0_2 : Int) (a0_3 : Int) (a0_4 : Int) (a1 : Int) (r1 : Int) (r2 : Int) (r3 : Int) (w : World) (hWays : Go.Proofs.YtidnopmjhhmedaaDoor.Ways w) (h : scale_Reach.f a0_0 a0_1 a0_2 a0_3 a0_4 a1 = some (r1, r2, r3)) :
    Calls Tryd.prog 22 #[.agg #[.int .i64 a0_0, .int .i64 a0_1, .int .i64 a0_2, .int .i64 a0_3, .int .i64 a0_4], .int .i64 a1] w fun e w' => e = .returned (.tuple #[.agg #[.int .i64 r1, .int .i64 r2], .int .i64 r3]) ∧ Below w.heap.size w w' := by
  unfold scale_Reach.f at h
  split at h
  · split at h
    · rename_i hr hl
      simp only [Option.some.injEq, Prod.mk.injEq] at h
      obtain ⟨rfl, rfl, rfl⟩ := h
      have h1 := lies_iff.1 hl
      obtain ⟨t, rfl⟩ : ∃ t : Nat, a1 = t := ⟨a1.toNat, by omega⟩
      rw [Int.toNat_natCast]
      exact YtidnopmjhhmedaaDoor.Reach_ok _ _ _ _ _ t hr (by omega) w hWays
    · simp only [Option.some.injEq, Prod.mk.injEq] at h
      obtain ⟨rfl, rfl, rfl⟩ := h
      exact YtidnopmjhhmedaaDoor.Reach_ask _ _ _ _ _ _ ‹_› (by simpa using ‹¬ lies _ _ _ = true›) w
  · simp only [Option.some.injEq, Prod.mk.injEq] at h
    obtain ⟨rfl, rfl, rfl⟩ := h
    exact YtidnopmjhhmedaaDoor.Reach_bad _ _ _ _ _ _ (by simpa using ‹¬ isRuleB _ _ _ _ _ = true›) w

def scale_Shown.f (a0_0 : Int) (a0_1 : Int) (a0_2 : Int) (a0_3 : Int) (a0_4 : Int) (a1 : Int) (l2 : List Int) : Option ((List Int) × Int) := if l2.length ≤ 17592186044416 then (if isRuleB a0_0 a0_1 a0_2 a0_3 a0_4 = true then (if lies a1 0 10000000 = true ∧ l2.length ≤ 200 ∧ keepsB a0_0 a0_1 a0_2 0 l2 = true then some (shownL a1 l2, 0) else some ([], 41)) else some ([], 40)) else none
set_option maxHeartbeats 1000000 in
theorem scale_Shown.calls (a0_0 : Int) (a0_1 : Int) (a0_2 : Int) (a0_3 : Int) (a0_4 : Int) (a1 : Int) (A2 : Option Addr) (c2 : Nat) (l2 : List Int) (r1 : List Int) (r2 : Int) (w : World) (hr2 : Kd.C (Kd.int .i64) w A2 l2.length l2) (hc2 : l2.length ≤ c2) (hWays : Go.Proofs.YtidnopmjhhmedaaDoor.Ways w) (h : scale_Shown.f a0_0 a0_1 a0_2 a0_3 a0_4 a1 l2 = some (r1, r2)) :
    Calls Tryd.prog 24 #[.agg #[.int .i64 a0_0, .int .i64 a0_1, .int .i64 a0_2, .int .i64 a0_3, .int .i64 a0_4], .int .i64 a1, .slice A2 l2.length c2] w fun e w' => ∃ v0_ : Value, e = .returned (.tuple #[v0_, .int .i64 r2]) ∧ Kd.V (Kd.int .i64) 3 w' w.heap.size (fun k_ => (w.heap.size ≤ k_)) v0_ r1 ∧ Below w.heap.size w w' := by
  unfold scale_Shown.f at h
  split at h
  · rename_i hb
    have hN := nums_of_C hr2 hb
    split at h
    · rename_i hr
      split at h
      · rename_i hk
        simp only [Option.some.injEq, Prod.mk.injEq] at h
        obtain ⟨rfl, rfl⟩ := h
        refine (YtidnopmjhhmedaaDoor.Shown_ok a0_0 a0_1 a0_2 a0_3 a0_4 a1 A2 l2.length c2 l2 w hN hr hk.1 hk.2.1 hk.2.2).mono ?_
        rintro e w' ⟨a, cap, he, ⟨hN, hc, hb⟩, hB⟩
        exact ⟨_, he, V_of_nums hN hc hb, hB⟩
      · rename_i hk
        simp only [Option.some.injEq, Prod.mk.injEq] at h
        obtain ⟨rfl, rfl⟩ := h
        have fin : ∀ {e w'}, (e = Ending.returned (.tuple #[.slice none 0 0, .int .i64 41]) ∧ Below w.heap.size w w') → ∃ v0_ : Value, e = .returned (.tuple #[v0_, .int .i64 41]) ∧ Kd.V (Kd.int .i64) 3 w' w.heap.size (fun k_ => (w.heap.size ≤ k_)) v0_ [] ∧ Below w.heap.size w w' := fun h => ⟨_, h.1, nil_V _ _, h.2⟩
        by_cases hl : lies a1 0 10000000 = true
        · by_cases hn : l2.length ≤ 200
          · exact (YtidnopmjhhmedaaDoor.Shown_not a0_0 a0_1 a0_2 a0_3 a0_4 a1 A2 l2.length c2 l2 w hN hr hl hn (by rw [← Bool.not_eq_true]; exact fun h => hk ⟨hl, hn, h⟩)).mono fun e w' h => fin h
          · exact (YtidnopmjhhmedaaDoor.Shown_ask2 a0_0 a0_1 a0_2 a0_3 a0_4 a1 A2 l2.length c2 l2 w hN hr hl hn).mono fun e w' h => fin h
        · exact (YtidnopmjhhmedaaDoor.Shown_ask1 a0_0 a0_1 a0_2 a0_3 a0_4 a1 A2 l2.length c2 l2 w hN hr (by simpa using hl)).mono fun e w' h => fin h
    · rename_i hr
      simp only [Option.some.injEq, Prod.mk.injEq] at h
      obtain ⟨rfl, rfl⟩ := h
      have hr' : isRuleB a0_0 a0_1 a0_2 a0_3 a0_4 = false := by simpa using hr
      have fin : ∀ {e w'}, (e = Ending.returned (.tuple #[.slice none 0 0, .int .i64 40]) ∧ Below w.heap.size w w') → ∃ v0_ : Value, e = .returned (.tuple #[v0_, .int .i64 40]) ∧ Kd.V (Kd.int .i64) 3 w' w.heap.size (fun k_ => (w.heap.size ≤ k_)) v0_ [] ∧ Below w.heap.size w w' := fun h => ⟨_, h.1, nil_V _ _, h.2⟩
      by_cases hl : lies a1 0 10000000 = true
      · by_cases hn : l2.length ≤ 200
        · exact (YtidnopmjhhmedaaDoor.Shown_bad3 a0_0 a0_1 a0_2 a0_3 a0_4 a1 A2 l2.length c2 l2 w hN hr' hl hn).mono fun e w' h => fin h
        · exact (YtidnopmjhhmedaaDoor.Shown_bad2 a0_0 a0_1 a0_2 a0_3 a0_4 a1 A2 l2.length c2 l2 w hN hr' hl hn).mono fun e w' h => fin h
      · exact (YtidnopmjhhmedaaDoor.Shown_bad1 a0_0 a0_1 a0_2 a0_3 a0_4 a1 A2 l2.length c2 l2 w hN hr' (by simpa using hl)).mono fun e w' h => fin h
  · cases h

def scale_Check.f (a0_0 : Int) (a0_1 : Int) (a0_2 : Int) (a0_3 : Int) (a0_4 : Int) (a0_5 : Int) (l0_6 : List Int) (l0_7 : List (S71)) : Option (Int) := if l0_6.length ≤ 17592186044416 ∧ l0_7.length ≤ 17592186044416 then some (if checkB a0_0 a0_1 a0_2 a0_3 a0_4 a0_5 l0_6 (l0_7.map toLk) = true then 0 else 40) else none
set_option maxHeartbeats 1000000 in
theorem scale_Check.calls (a0_0 : Int) (a0_1 : Int) (a0_2 : Int) (a0_3 : Int) (a0_4 : Int) (a0_5 : Int) (A0_6 : Option Addr) (c0_6 : Nat) (l0_6 : List Int) (A0_7 : Option Addr) (c0_7 : Nat) (l0_7 : List (S71)) (r : Int) (w : World) (hr0_6 : Kd.C (Kd.int .i64) w A0_6 l0_6.length l0_6) (hc0_6 : l0_6.length ≤ c0_6) (hr0_7 : Kd.C k71 w A0_7 l0_7.length l0_7) (hc0_7 : l0_7.length ≤ c0_7) (hWays : Go.Proofs.YtidnopmjhhmedaaDoor.Ways w) (h : scale_Check.f a0_0 a0_1 a0_2 a0_3 a0_4 a0_5 l0_6 l0_7 = some r) :
    Calls Tryd.prog 29 #[.agg #[.int .i64 a0_0, .int .i64 a0_1, .int .i64 a0_2, .int .i64 a0_3, .int .i64 a0_4, .int .i64 a0_5, .slice A0_6 l0_6.length c0_6, .slice A0_7 l0_7.length c0_7]] w fun e w' => e = .returned (.int .i64 r) ∧ Below w.heap.size w w' := by
  unfold scale_Check.f at h
  split at h
  · rename_i hb
    have hN := nums_of_C hr0_6 hb.1
    have hK := looks_of_C hr0_7 hb.2
    simp only [Option.some.injEq] at h
    subst h
    exact YtidnopmjhhmedaaDoor.Check_any _ _ _ _ _ _ _ _ _ _ _ _ _ _ w hN hK
  · cases h

def scale_Error.f (a0_0 : Int) (a0_1 : Int) (a0_2 : Int) (a0_3 : Int) (a0_4 : Int) (a0_5 : Int) (l0_6 : List Int) (l0_7 : List (S71)) (a1 : Int) : Option (Int × Int × Int) := if l0_6.length ≤ 17592186044416 ∧ l0_7.length ≤ 17592186044416 then (if askE a0_0 a0_1 a0_2 a0_3 a0_4 a0_5 l0_6 (l0_7.map toLk) (lies a1 0 a0_5) = 0 then some ((solF a0_0 a0_1 a0_2 a0_3 a0_4 a0_5 l0_6 (l0_7.map toLk) a1.toNat).lo, (solF a0_0 a0_1 a0_2 a0_3 a0_4 a0_5 l0_6 (l0_7.map toLk) a1.toNat).hi, 0) else some (0, 0, askE a0_0 a0_1 a0_2 a0_3 a0_4 a0_5 l0_6 (l0_7.map toLk) (lies a1 0 a0_5))) else none
set_option maxHeartbeats 1000000 in
theorem scale_Error.calls (a0_0 : Int) (a0_1 : Int) (a0_2 : Int) (a0_3 : Int) (a0_4 : Int) (a0_5 : Int) (A0_6 : Option Addr) (c0_6 : Nat) (l0_6 : List Int) (A0_7 : Option Addr) (c0_7 : Nat) (l0_7 : List (S71)) (a1 : Int) (r1 : Int) (r2 : Int) (r3 : Int) (w : World) (hr0_6 : Kd.C (Kd.int .i64) w A0_6 l0_6.length l0_6) (hc0_6 : l0_6.length ≤ c0_6) (hr0_7 : Kd.C k71 w A0_7 l0_7.length l0_7) (hc0_7 : l0_7.length ≤ c0_7) (hWays : Go.Proofs.YtidnopmjhhmedaaDoor.Ways w) (h : scale_Error.f a0_0 a0_1 a0_2 a0_3 a0_4 a0_5 l0_6 l0_7 a1 = some (r1, r2, r3)) :
    Calls Tryd.prog 27 #[.agg #[.int .i64 a0_0, .int .i64 a0_1, .int .i64 a0_2, .int .i64 a0_3, .int .i64 a0_4, .int .i64 a0_5, .slice A0_6 l0_6.length c0_6, .slice A0_7 l0_7.length c0_7], .int .i64 a1] w fun e w' => e = .returned (.tuple #[.agg #[.int .i64 r1, .int .i64 r2], .int .i64 r3]) ∧ Below w.heap.size w w' := by
  unfold scale_Error.f at h
  split at h
  · rename_i hb
    have hN := nums_of_C hr0_6 hb.1
    have hK := looks_of_C hr0_7 hb.2
    split at h
    · rename_i hE
      simp only [Option.some.injEq, Prod.mk.injEq] at h
      obtain ⟨rfl, rfl, rfl⟩ := h
      exact YtidnopmjhhmedaaDoor.Error_ok _ _ _ _ _ _ _ _ _ _ _ _ _ _ _ hE w hN hK
    · rename_i hE
      simp only [Option.some.injEq, Prod.mk.injEq] at h
      obtain ⟨rfl, rfl, rfl⟩ := h
      exact YtidnopmjhhmedaaDoor.Error_bad _ _ _ _ _ _ _ _ _ _ _ _ _ _ _ _ rfl (by simpa using hE) w hN hK
  · cases h

def scale_Stated.f (a0_0 : Int) (a0_1 : Int) (a0_2 : Int) (a0_3 : Int) (a0_4 : Int) (a0_5 : Int) (l0_6 : List Int) (l0_7 : List (S71)) (a1 : Int) : Option (Int × Int) := if l0_6.length ≤ 17592186044416 ∧ l0_7.length ≤ 17592186044416 then (if askE a0_0 a0_1 a0_2 a0_3 a0_4 a0_5 l0_6 (l0_7.map toLk) (lies a1 0 a0_5) = 0 then some (max (-(solF a0_0 a0_1 a0_2 a0_3 a0_4 a0_5 l0_6 (l0_7.map toLk) a1.toNat).lo) (solF a0_0 a0_1 a0_2 a0_3 a0_4 a0_5 l0_6 (l0_7.map toLk) a1.toNat).hi, 0) else some (0, askE a0_0 a0_1 a0_2 a0_3 a0_4 a0_5 l0_6 (l0_7.map toLk) (lies a1 0 a0_5))) else none
set_option maxHeartbeats 1000000 in
theorem scale_Stated.calls (a0_0 : Int) (a0_1 : Int) (a0_2 : Int) (a0_3 : Int) (a0_4 : Int) (a0_5 : Int) (A0_6 : Option Addr) (c0_6 : Nat) (l0_6 : List Int) (A0_7 : Option Addr) (c0_7 : Nat) (l0_7 : List (S71)) (a1 : Int) (r1 : Int) (r2 : Int) (w : World) (hr0_6 : Kd.C (Kd.int .i64) w A0_6 l0_6.length l0_6) (hc0_6 : l0_6.length ≤ c0_6) (hr0_7 : Kd.C k71 w A0_7 l0_7.length l0_7) (hc0_7 : l0_7.length ≤ c0_7) (hWays : Go.Proofs.YtidnopmjhhmedaaDoor.Ways w) (h : scale_Stated.f a0_0 a0_1 a0_2 a0_3 a0_4 a0_5 l0_6 l0_7 a1 = some (r1, r2)) :
    Calls Tryd.prog 31 #[.agg #[.int .i64 a0_0, .int .i64 a0_1, .int .i64 a0_2, .int .i64 a0_3, .int .i64 a0_4, .int .i64 a0_5, .slice A0_6 l0_6.length c0_6, .slice A0_7 l0_7.length c0_7], .int .i64 a1] w fun e w' => e = .returned (.tuple #[.int .i64 r1, .int .i64 r2]) ∧ Below w.heap.size w w' := by
  unfold scale_Stated.f at h
  split at h
  · rename_i hb
    have hN := nums_of_C hr0_6 hb.1
    have hK := looks_of_C hr0_7 hb.2
    split at h
    · rename_i hE
      simp only [Option.some.injEq, Prod.mk.injEq] at h
      obtain ⟨rfl, rfl⟩ := h
      exact YtidnopmjhhmedaaDoor.Stated_ok _ _ _ _ _ _ _ _ _ _ _ _ _ _ _ hE w hN hK
    · rename_i hE
      simp only [Option.some.injEq, Prod.mk.injEq] at h
      obtain ⟨rfl, rfl⟩ := h
      exact YtidnopmjhhmedaaDoor.Stated_bad _ _ _ _ _ _ _ _ _ _ _ _ _ _ _ _ rfl (by simpa using hE) w hN hK
  · cases h

def scale_Worst.f (a0_0 : Int) (a0_1 : Int) (a0_2 : Int) (a0_3 : Int) (a0_4 : Int) (a0_5 : Int) (l0_6 : List Int) (l0_7 : List (S71)) : Option (Int × Int × Int) := if l0_6.length ≤ 17592186044416 ∧ l0_7.length ≤ 17592186044416 then (if askE a0_0 a0_1 a0_2 a0_3 a0_4 a0_5 l0_6 (l0_7.map toLk) true = 0 then some ((worstTo (solF a0_0 a0_1 a0_2 a0_3 a0_4 a0_5 l0_6 (l0_7.map toLk)) (a0_5.toNat + 1)).1, (worstTo (solF a0_0 a0_1 a0_2 a0_3 a0_4 a0_5 l0_6 (l0_7.map toLk)) (a0_5.toNat + 1)).2, 0) else some (0, 0, askE a0_0 a0_1 a0_2 a0_3 a0_4 a0_5 l0_6 (l0_7.map toLk) true)) else none
set_option maxHeartbeats 1000000 in
theorem scale_Worst.calls (a0_0 : Int) (a0_1 : Int) (a0_2 : Int) (a0_3 : Int) (a0_4 : Int) (a0_5 : Int) (A0_6 : Option Addr) (c0_6 : Nat) (l0_6 : List Int) (A0_7 : Option Addr) (c0_7 : Nat) (l0_7 : List (S71)) (r1 : Int) (r2 : Int) (r3 : Int) (w : World) (hr0_6 : Kd.C (Kd.int .i64) w A0_6 l0_6.length l0_6) (hc0_6 : l0_6.length ≤ c0_6) (hr0_7 : Kd.C k71 w A0_7 l0_7.length l0_7) (hc0_7 : l0_7.length ≤ c0_7) (hWays : Go.Proofs.YtidnopmjhhmedaaDoor.Ways w) (h : scale_Worst.f a0_0 a0_1 a0_2 a0_3 a0_4 a0_5 l0_6 l0_7 = some (r1, r2, r3)) :
    Calls Tryd.prog 33 #[.agg #[.int .i64 a0_0, .int .i64 a0_1, .int .i64 a0_2, .int .i64 a0_3, .int .i64 a0_4, .int .i64 a0_5, .slice A0_6 l0_6.length c0_6, .slice A0_7 l0_7.length c0_7]] w fun e w' => e = .returned (.tuple #[.int .i64 r1, .int .i64 r2, .int .i64 r3]) ∧ Below w.heap.size w w' := by
  unfold scale_Worst.f at h
  split at h
  · rename_i hb
    have hN := nums_of_C hr0_6 hb.1
    have hK := looks_of_C hr0_7 hb.2
    split at h
    · rename_i hE
      simp only [Option.some.injEq, Prod.mk.injEq] at h
      obtain ⟨rfl, rfl, rfl⟩ := h
      have hT := YtidnopmjhhmedaaDoor.check_ticks (YtidnopmjhhmedaaDoor.askE_ok hE).1
      exact YtidnopmjhhmedaaDoor.Worst_ok _ _ _ _ _ _ _ _ _ _ _ _ _ _ a0_5.toNat (by omega) hE w hN hK
    · rename_i hE
      simp only [Option.some.injEq, Prod.mk.injEq] at h
      obtain ⟨rfl, rfl, rfl⟩ := h
      exact YtidnopmjhhmedaaDoor.Worst_bad _ _ _ _ _ _ _ _ _ _ _ _ _ _ _ rfl (by simpa using hE) w hN hK
  · cases h

/-- What Meets tells where the book can be true. -/
def meetsP (F S J : Int) (s : YtidnopmjhhmedaaDoor.Sp) : Int × Int × Int :=
  if fewest F S J s.lo = -1 ∨ fewest F S J s.hi = -1 then (0, 0, 4) else (max (fewest F S J s.lo) (fewest F S J s.hi), if s.lo ≤ 0 ∧ 0 ≤ s.hi then 0 else min (fewest F S J s.lo) (fewest F S J s.hi), 0)
theorem meets_val (F S J : Int) (s : YtidnopmjhhmedaaDoor.Sp) : Value.tuple #[.int .i64 (meetsP F S J s).1, .int .i64 (meetsP F S J s).2.1, .int .i64 (meetsP F S J s).2.2] = if fewest F S J s.lo = -1 ∨ fewest F S J s.hi = -1 then .tuple #[.int .i64 0, .int .i64 0, .int .i64 4] else .tuple #[.int .i64 (max (fewest F S J s.lo) (fewest F S J s.hi)), .int .i64 (if s.lo ≤ 0 ∧ 0 ≤ s.hi then 0 else min (fewest F S J s.lo) (fewest F S J s.hi)), .int .i64 0] := by
  unfold meetsP
  split <;> rfl
def scale_Meets.f (a0_0 : Int) (a0_1 : Int) (a0_2 : Int) (a0_3 : Int) (a0_4 : Int) (a0_5 : Int) (l0_6 : List Int) (l0_7 : List (S71)) : Option (Int × Int × Int) := if l0_6.length ≤ 17592186044416 ∧ l0_7.length ≤ 17592186044416 then (if askE a0_0 a0_1 a0_2 a0_3 a0_4 a0_5 l0_6 (l0_7.map toLk) true = 0 then some (meetsP a0_0 a0_1 a0_2 (solF a0_0 a0_1 a0_2 a0_3 a0_4 a0_5 l0_6 (l0_7.map toLk) a0_5.toNat)) else some (0, 0, askE a0_0 a0_1 a0_2 a0_3 a0_4 a0_5 l0_6 (l0_7.map toLk) true)) else none
set_option maxHeartbeats 1000000 in
theorem scale_Meets.calls (a0_0 : Int) (a0_1 : Int) (a0_2 : Int) (a0_3 : Int) (a0_4 : Int) (a0_5 : Int) (A0_6 : Option Addr) (c0_6 : Nat) (l0_6 : List Int) (A0_7 : Option Addr) (c0_7 : Nat) (l0_7 : List (S71)) (r1 : Int) (r2 : Int) (r3 : Int) (w : World) (hr0_6 : Kd.C (Kd.int .i64) w A0_6 l0_6.length l0_6) (hc0_6 : l0_6.length ≤ c0_6) (hr0_7 : Kd.C k71 w A0_7 l0_7.length l0_7) (hc0_7 : l0_7.length ≤ c0_7) (hWays : Go.Proofs.YtidnopmjhhmedaaDoor.Ways w) (h : scale_Meets.f a0_0 a0_1 a0_2 a0_3 a0_4 a0_5 l0_6 l0_7 = some (r1, r2, r3)) :
    Calls Tryd.prog 35 #[.agg #[.int .i64 a0_0, .int .i64 a0_1, .int .i64 a0_2, .int .i64 a0_3, .int .i64 a0_4, .int .i64 a0_5, .slice A0_6 l0_6.length c0_6, .slice A0_7 l0_7.length c0_7]] w fun e w' => e = .returned (.tuple #[.int .i64 r1, .int .i64 r2, .int .i64 r3]) ∧ Below w.heap.size w w' := by
  unfold scale_Meets.f at h
  split at h
  · rename_i hb
    have hN := nums_of_C hr0_6 hb.1
    have hK := looks_of_C hr0_7 hb.2
    split at h
    · rename_i hE
      simp only [Option.some.injEq] at h
      have hT := YtidnopmjhhmedaaDoor.check_ticks (YtidnopmjhhmedaaDoor.askE_ok hE).1
      have hv := meets_val a0_0 a0_1 a0_2 (solF a0_0 a0_1 a0_2 a0_3 a0_4 a0_5 l0_6 (l0_7.map toLk) a0_5.toNat)
      rw [h] at hv
      exact YtidnopmjhhmedaaDoor.Meets_ok _ _ _ _ _ _ _ _ _ _ _ _ _ _ a0_5.toNat (by omega) hE w hWays hN hK _ _ rfl rfl _ hv
    · rename_i hE
      simp only [Option.some.injEq, Prod.mk.injEq] at h
      obtain ⟨rfl, rfl, rfl⟩ := h
      exact YtidnopmjhhmedaaDoor.Meets_bad _ _ _ _ _ _ _ _ _ _ _ _ _ _ _ rfl (by simpa using hE) w hN hK
  · cases h

end Go.Proofs.TrydX.X
end

section
-- Written by wip/tools/pr.py (a program of this repo over the kit's print.py).
namespace Go.Proofs.TrydX.X
open Go.RowKit Go.Proofs.YtidnopmjhhmedaaDoorW.PrintWords Go.Proofs.YtidnopmjhhmedaaDoorW.PrintLast Go.Proofs.YtidnopmjhhmedaaDoorW.PrintMore
attribute [local go_sem] max2_int min2_int max_two min_two max_three min_three max_four min_four   -- for this text's walks alone
set_option linter.unusedVariables false
set_option linter.unusedSimpArgs false

/-! ### remontoirlaw04_rule: function 53 -/
def remontoirlaw04_rule.f  : Option (Int × Int × Int × Int × Int) := (remontoirref00_To.f (-1) 2).bind fun bt649 => (some (10, 5, 4, bt649.1, bt649.2))
set_option maxHeartbeats 8000000 in
set_option maxRecDepth 100000 in
theorem remontoirlaw04_rule.calls  (r1 : Int) (r2 : Int) (r3 : Int) (r4 : Int) (r5 : Int) (w : World) (h : remontoirlaw04_rule.f  = some (r1, r2, r3, r4, r5)) :
    Calls Tryd.prog 53 #[] w fun e w' => e = .returned (.agg #[.int .i64 r1, .int .i64 r2, .int .i64 r3, .int .i64 r4, .int .i64 r5]) ∧ Below w.heap.size w w' := by
  have hu25 := Tryd.underlying25
  have HB := Aside0.mk (Below.refl w.heap.size w)
  have H : ((remontoirref00_To.f (-1) 2).bind fun bt649 => (some (10, 5, 4, bt649.1, bt649.2))) = some (r1, r2, r3, r4, r5) := h
  clear h
  replace H := Option.bind_eq_some_iff.mp H
  obtain ⟨⟨t649, t650⟩, A10, H⟩ := H
  replace H : (some (10, 5, 4, t649, t650)) = some (r1, r2, r3, r4, r5) := H
  have A1 := Aside0.mk A10
  clear A10
  simp only [Option.some.injEq, Prod.mk.injEq] at H
  obtain ⟨rfl, rfl, rfl, rfl, rfl⟩ := H
  go_enter Tryd.func53, Tryd.ntmps53
  go_wp2_with (first | ((with_reducible refine gate_dst (N := 0) rfl ?_); refine box_event ?hg (N := 0) ?hd (cs := #[.int .i64 0, .int .i64 0, .int .i64 0, .int .i64 0, .int .i64 0]) (t := 25) ?hr ?_; (case hd => rfl); (case hg => rfl); (case hr => first | (go_simp; done) | (go_simp; rfl)); intro gb648 hg w2 hbox hb; have n0_ := Aside0.mk (below_step (by repeat (first | (with_reducible first | exact HB.out | apply below_alloc | apply pw_below_drewN | apply below_drew1) | exact HB.out)) hb); have n1_ := Aside0.mk (hbox); have n2_ := Aside0.mk ((by rw [hg]; exact (below_size (by repeat (first | (with_reducible first | exact HB.out | apply below_alloc | apply pw_below_drewN | apply below_drew1) | exact HB.out))) : w.heap.size ≤ gb648)); have n3_ := Aside0.mk ((by rw [hg]; exact (below_size (by repeat (first | (with_reducible first | exact HB.out | apply below_alloc | apply pw_below_drewN | apply below_drew1) | exact HB.out))) : w.heap.size ≤ gb648)); clear HB; have HB := n0_; have BK648 := n1_; have GW648 := n2_; have GE648 := n3_; clear n0_ n1_ n2_ n3_; clear hb hbox hg) | ((with_reducible refine gate_callee (f := 49) rfl ?_); refine goesL_ (some 1) rfl rfl Tryd.func49 (by kernel_rfl) rfl #[.int .i64 (-1), .int .i64 2] rfl (by (try simp only [List.map_toArray, List.map_cons, List.map_nil]); first | done | rfl | (simp only [List.length_drop, List.length_take]; rfl)) ?_; (with_reducible refine (remontoirref00_To.calls (-1) 2 t649 t650 _ A1.out).mono ?_); rintro e w3 ⟨rfl, hb⟩; refine ⟨_, rfl, ?_⟩; have n0_ := Aside0.mk (blk_below (g := gb648) (o := .cells #[.int .i64 0, .int .i64 0, .int .i64 0, .int .i64 0, .int .i64 0] 25 (0, 0)) (by (with_reducible repeat (first | refine blk_drewN ?_ _ | refine blk_drew ?_ | refine blk_alloc ?_ _)); exact BK648.out) hb); have n1_ := Aside0.mk (below_step (by repeat (first | (with_reducible first | exact HB.out | apply below_alloc | apply pw_below_drewN | apply below_drew1 | refine below_set ?_ GE648.out) | exact HB.out)) hb); clear BK648; clear HB; have BK648 := n0_; have HB := n1_; clear n0_ n1_; (try clear hb); (try clear hb2); (try clear hk); (try clear hi); have hcz4_0 : w3.cell? ⟨gb648, 0, none⟩ = some (.int .i64 0) := (blk_cell BK648.out 0).trans rfl; have hcz4_1 : w3.cell? ⟨gb648, 1, none⟩ = some (.int .i64 0) := (blk_cell BK648.out 1).trans rfl; have hcz4_2 : w3.cell? ⟨gb648, 2, none⟩ = some (.int .i64 0) := (blk_cell BK648.out 2).trans rfl; have hcz4_3 : w3.cell? ⟨gb648, 3, none⟩ = some (.int .i64 0) := (blk_cell BK648.out 3).trans rfl; have hcz4_4 : w3.cell? ⟨gb648, 4, none⟩ = some (.int .i64 0) := (blk_cell BK648.out 4).trans rfl; have hfz4_0 := blk_frozen BK648.out 0; have hfz4_1 := blk_frozen BK648.out 1; have hfz4_2 := blk_frozen BK648.out 2; have hfz4_3 := blk_frozen BK648.out 3; have hfz4_4 := blk_frozen BK648.out 4))
  refine bodyPost_ret (results_cell_row rfl _ _ gb648 25 #[.int .i64 10, .int .i64 5, .int .i64 4, .int .i64 t649, .int .i64 t650] (0, 0) _ rfl (by (with_reducible repeat (first | refine blk_drewN ?_ _ | refine blk_drew ?_ | refine blk_alloc ?_ _)); refine blk_put (cs := #[.int .i64 10, .int .i64 5, .int .i64 4, .int .i64 t649, .int .i64 0]) ?_ 4 _ rfl; (with_reducible repeat (first | refine blk_drewN ?_ _ | refine blk_drew ?_ | refine blk_alloc ?_ _)); refine blk_put (cs := #[.int .i64 10, .int .i64 5, .int .i64 4, .int .i64 0, .int .i64 0]) ?_ 3 _ rfl; (with_reducible repeat (first | refine blk_drewN ?_ _ | refine blk_drew ?_ | refine blk_alloc ?_ _)); refine blk_put (cs := #[.int .i64 10, .int .i64 5, .int .i64 0, .int .i64 0, .int .i64 0]) ?_ 2 _ rfl; (with_reducible repeat (first | refine blk_drewN ?_ _ | refine blk_drew ?_ | refine blk_alloc ?_ _)); refine blk_put (cs := #[.int .i64 10, .int .i64 0, .int .i64 0, .int .i64 0, .int .i64 0]) ?_ 1 _ rfl; (with_reducible repeat (first | refine blk_drewN ?_ _ | refine blk_drew ?_ | refine blk_alloc ?_ _)); refine blk_put (cs := #[.int .i64 0, .int .i64 0, .int .i64 0, .int .i64 0, .int .i64 0]) ?_ 0 _ rfl; (with_reducible repeat (first | refine blk_drewN ?_ _ | refine blk_drew ?_ | refine blk_alloc ?_ _)); exact BK648.out) Tryd.underlying25 rfl (by kernel_rfl)) rfl ?_
  exact ⟨by first | rfl | (simp [errW_none, errW_some] <;> rfl) | (simp [*, errW_none, errW_some] <;> rfl), by repeat (first | (with_reducible first | exact HB.out | apply below_alloc | apply pw_below_drewN | apply below_drew1 | refine below_set ?_ GE648.out) | exact HB.out)⟩

end Go.Proofs.TrydX.X
end

section
-- Written by wip/tools/pr.py (a program of this repo over the kit's print.py).
namespace Go.Proofs.TrydX.X
open Go.RowKit Go.Proofs.YtidnopmjhhmedaaDoorW.PrintWords Go.Proofs.YtidnopmjhhmedaaDoorW.PrintLast Go.Proofs.YtidnopmjhhmedaaDoorW.PrintMore
attribute [local go_sem] max2_int min2_int max_two min_two max_three min_three max_four min_four   -- for this text's walks alone
set_option linter.unusedVariables false
set_option linter.unusedSimpArgs false

/-! ### remontoirlaw04_book: function 52 -/
def remontoirlaw04_book.f (l0 : List (S71)) : Option (Int × Int × Int × Int × Int × Int × List Int × (List (S71))) := (remontoirlaw04_rule.f).bind fun bt652 => ((remontoirref00_To.f 18 22).bind fun bt660 => ((remontoirref00_To.f (-3) 4).bind fun bt662 => ((some (([(⟨0, (⟨bt660.1, bt660.2⟩ : S23)⟩ : S71), (⟨6, (⟨bt662.1, bt662.2⟩ : S23)⟩ : S71)] : List (S71)) : List (S71))).bind fun y664 => (if y664.length + l0.length < 5864062014805 then (some (bt652.1, bt652.2.1, bt652.2.2.1, bt652.2.2.2.1, bt652.2.2.2.2, 10, (([(-4), (-5), (-4)] : List Int)), (y664 ++ l0))) else (none)))))
set_option maxHeartbeats 8000000 in
set_option maxRecDepth 100000 in
theorem remontoirlaw04_book.calls (A0 : Option Addr) (c0 : Nat) (l0 : List (S71)) (r1 : Int) (r2 : Int) (r3 : Int) (r4 : Int) (r5 : Int) (r6 : Int) (r7 : List Int) (r8 : List (S71)) (w : World) (hr0 : Kd.C k71 w A0 l0.length l0) (hc0 : l0.length ≤ c0) (h : remontoirlaw04_book.f l0 = some (r1, r2, r3, r4, r5, r6, r7, r8)) :
    Calls Tryd.prog 52 #[.slice A0 l0.length c0] w fun e w' => ∃ v6_ v7_ : Value, e = .returned (.agg #[.int .i64 r1, .int .i64 r2, .int .i64 r3, .int .i64 r4, .int .i64 r5, .int .i64 r6, v6_, v7_]) ∧ Kd.R (Kd.int .i64) 3 w' w.heap.size (fun _ => True) v6_ r7 ∧ Kd.R k71 71 w' w.heap.size (fun _ => True) v7_ r8 ∧ Below w.heap.size w w' := by
  have hu44 := Tryd.underlying44
  have hu71 := Tryd.underlying71
  have HR0 := Aside0.mk hr0
  have HC0 := Aside0.mk hc0
  clear hr0 hc0
  have HB := Aside0.mk (Below.refl w.heap.size w)
  have H : ((remontoirlaw04_rule.f).bind fun bt652 => ((remontoirref00_To.f 18 22).bind fun bt660 => ((remontoirref00_To.f (-3) 4).bind fun bt662 => ((some (([(⟨0, (⟨bt660.1, bt660.2⟩ : S23)⟩ : S71), (⟨6, (⟨bt662.1, bt662.2⟩ : S23)⟩ : S71)] : List (S71)) : List (S71))).bind fun y664 => (if y664.length + l0.length < 5864062014805 then (some (bt652.1, bt652.2.1, bt652.2.2.1, bt652.2.2.2.1, bt652.2.2.2.2, 10, (([(-4), (-5), (-4)] : List Int)), (y664 ++ l0))) else (none)))))) = some (r1, r2, r3, r4, r5, r6, r7, r8) := h
  clear h
  replace H := Option.bind_eq_some_iff.mp H
  obtain ⟨⟨t652, t653, t654, t655, t656⟩, A20, H⟩ := H
  replace H : ((remontoirref00_To.f 18 22).bind fun bt660 => ((remontoirref00_To.f (-3) 4).bind fun bt662 => ((some (([(⟨0, (⟨bt660.1, bt660.2⟩ : S23)⟩ : S71), (⟨6, (⟨bt662.1, bt662.2⟩ : S23)⟩ : S71)] : List (S71)) : List (S71))).bind fun y664 => (if y664.length + l0.length < 5864062014805 then (some (t652, t653, t654, t655, t656, 10, (([(-4), (-5), (-4)] : List Int)), (y664 ++ l0))) else (none))))) = some (r1, r2, r3, r4, r5, r6, r7, r8) := H
  have A2 := Aside0.mk A20
  clear A20
  obtain ⟨y657, hy657⟩ : ∃ y_ : List Int, y_ = (([(-4), (-5), (-4)] : List Int)) := ⟨_, rfl⟩
  replace H : ((remontoirref00_To.f 18 22).bind fun bt660 => ((remontoirref00_To.f (-3) 4).bind fun bt662 => ((some (([(⟨0, (⟨bt660.1, bt660.2⟩ : S23)⟩ : S71), (⟨6, (⟨bt662.1, bt662.2⟩ : S23)⟩ : S71)] : List (S71)) : List (S71))).bind fun y664 => (if y664.length + l0.length < 5864062014805 then (some (t652, t653, t654, t655, t656, 10, y657, (y664 ++ l0))) else (none))))) = some (r1, r2, r3, r4, r5, r6, r7, r8) := by first | (rw [hy657]; with_reducible exact H) | (have H2_ := (Option.bind_some _ _).symm.trans H; rw [hy657]; with_reducible exact H2_) | (have H2_ := (Option.bind_some _ _).symm.trans H; with_reducible exact H2_) | with_reducible exact H | (rw [hy657]; exact H) | exact H
  have Ny657 := Aside0.mk hy657
  clear hy657
  replace H := Option.bind_eq_some_iff.mp H
  obtain ⟨⟨t660, t661⟩, A30, H⟩ := H
  replace H : ((remontoirref00_To.f (-3) 4).bind fun bt662 => ((some (([(⟨0, (⟨t660, t661⟩ : S23)⟩ : S71), (⟨6, (⟨bt662.1, bt662.2⟩ : S23)⟩ : S71)] : List (S71)) : List (S71))).bind fun y664 => (if y664.length + l0.length < 5864062014805 then (some (t652, t653, t654, t655, t656, 10, y657, (y664 ++ l0))) else (none)))) = some (r1, r2, r3, r4, r5, r6, r7, r8) := H
  have A3 := Aside0.mk A30
  clear A30
  replace H := Option.bind_eq_some_iff.mp H
  obtain ⟨⟨t662, t663⟩, A40, H⟩ := H
  replace H : ((some (([(⟨0, (⟨t660, t661⟩ : S23)⟩ : S71), (⟨6, (⟨t662, t663⟩ : S23)⟩ : S71)] : List (S71)) : List (S71))).bind fun y664 => (if y664.length + l0.length < 5864062014805 then (some (t652, t653, t654, t655, t656, 10, y657, (y664 ++ l0))) else (none))) = some (r1, r2, r3, r4, r5, r6, r7, r8) := H
  have A4 := Aside0.mk A40
  clear A40
  obtain ⟨y664, hy664⟩ : ∃ y_ : List (S71), y_ = (([(⟨0, (⟨t660, t661⟩ : S23)⟩ : S71), (⟨6, (⟨t662, t663⟩ : S23)⟩ : S71)] : List (S71))) := ⟨_, rfl⟩
  replace H : (if y664.length + l0.length < 5864062014805 then (some (t652, t653, t654, t655, t656, 10, y657, (y664 ++ l0))) else (none)) = some (r1, r2, r3, r4, r5, r6, r7, r8) := by first | (rw [hy664]; with_reducible exact H) | (have H2_ := (Option.bind_some _ _).symm.trans H; rw [hy664]; with_reducible exact H2_) | (have H2_ := (Option.bind_some _ _).symm.trans H; with_reducible exact H2_) | with_reducible exact H | (rw [hy664]; exact H) | exact H
  have Ny664 := Aside0.mk hy664
  clear hy664
  by_cases c5 : y664.length + l0.length < 5864062014805
  · rw [if_pos c5] at H
    have LMc5 := Aside0.mk c5
    clear c5
    obtain ⟨y668, hy668⟩ : ∃ y_ : List (S71), y_ = (y664 ++ l0) := ⟨_, rfl⟩
    replace H : (some (t652, t653, t654, t655, t656, 10, y657, y668)) = some (r1, r2, r3, r4, r5, r6, r7, r8) := by first | (rw [hy668]; with_reducible exact H) | (have H2_ := (Option.bind_some _ _).symm.trans H; rw [hy668]; with_reducible exact H2_) | (have H2_ := (Option.bind_some _ _).symm.trans H; with_reducible exact H2_) | with_reducible exact H | (rw [hy668]; exact H) | exact H
    have Ny668 := Aside0.mk hy668
    clear hy668
    simp only [Option.some.injEq, Prod.mk.injEq] at H
    obtain ⟨rfl, rfl, rfl, rfl, rfl, rfl, rfl, rfl⟩ := H
    go_enter Tryd.func52, Tryd.ntmps52
    go_wp2_with (first | ((with_reducible refine gate_dst (N := 2) rfl ?_); refine box_event ?hg (N := 2) ?hd (cs := #[.int .i64 0, .int .i64 0, .int .i64 0, .int .i64 0, .int .i64 0, .int .i64 0, .slice none 0 0, .slice none 0 0]) (t := 44) ?hr ?_; (case hd => rfl); (case hg => rfl); (case hr => first | (go_simp; done) | (go_simp; rfl)); intro gb651 hg w6 hbox hb; have n0_ := Aside0.mk (below_step (by repeat (first | (with_reducible first | exact HB.out | apply below_alloc | apply pw_below_drewN | apply below_drew1) | exact HB.out)) hb); have n1_ := Aside0.mk (hbox); have n2_ := Aside0.mk ((by rw [hg]; exact (below_size (by repeat (first | (with_reducible first | exact HB.out | apply below_alloc | apply pw_below_drewN | apply below_drew1) | exact HB.out))) : w.heap.size ≤ gb651)); have n3_ := Aside0.mk ((by rw [hg]; exact (below_size (by repeat (first | (with_reducible first | exact HB.out | apply below_alloc | apply pw_below_drewN | apply below_drew1) | exact HB.out))) : w.heap.size ≤ gb651)); clear HB; have HB := n0_; have BK651 := n1_; have GW651 := n2_; have GE651 := n3_; clear n0_ n1_ n2_ n3_; clear hb hbox hg) | ((with_reducible refine gate_callee (f := 53) rfl ?_); refine goesL_ (some 4) rfl rfl Tryd.func53 (by kernel_rfl) rfl #[] rfl (by (try simp only [List.map_toArray, List.map_cons, List.map_nil]); first | done | rfl | (simp only [List.length_drop, List.length_take]; rfl)) ?_; (with_reducible refine (remontoirlaw04_rule.calls  t652 t653 t654 t655 t656 _ A2.out).mono ?_); rintro e w7 ⟨rfl, hb⟩; refine ⟨_, rfl, ?_⟩; have n0_ := Aside0.mk (blk_below (g := gb651) (o := .cells #[.int .i64 0, .int .i64 0, .int .i64 0, .int .i64 0, .int .i64 0, .int .i64 0, .slice none 0 0, .slice none 0 0] 44 (0, 0)) (by (with_reducible repeat (first | refine blk_drewN ?_ _ | refine blk_drew ?_ | refine blk_alloc ?_ _)); exact BK651.out) hb); have n1_ := Aside0.mk (below_step (by repeat (first | (with_reducible first | exact HB.out | apply below_alloc | apply pw_below_drewN | apply below_drew1 | refine below_set ?_ GE651.out) | exact HB.out)) hb); clear BK651; clear HB; have BK651 := n0_; have HB := n1_; clear n0_ n1_; (try clear hb); (try clear hb2); (try clear hk); (try clear hi)) | ((with_reducible refine gate_dst (N := 5) rfl ?_); refine Kd.R_lit (Kd.int .i64) _ 3 ?hg (N := 5) ?hd (xs := ([(-4), (-5), (-4)] : List Int)) (inner := [.int .i64 (-4), .int .i64 (-5), .int .i64 (-4)]) (ok := fun _ => True) (okp := fun _ => True) ?hr ?hp (fun _ hk => hk) trivial (Below.refl _ _) (Nat.le_refl _) (by simp) ?_; (case hd => rfl); (case hg => rfl); (case hr => first | (go_simp; done) | (go_simp; rfl)); (case hp => exact (Reps.one (show Kd.M (Kd.int .i64) _ _ _ (-4) [.int .i64 (-4)] from rfl) (Reps.one (show Kd.M (Kd.int .i64) _ _ _ (-5) [.int .i64 (-5)] from rfl) (Reps.one (show Kd.M (Kd.int .i64) _ _ _ (-4) [.int .i64 (-4)] from rfl) (Reps.none _ _))))); intro v658 w8 ho9 hb hg_ hnew_; clear hg_ hnew_; (first | rw [← Ny657.out] at ho9 | (simp only [Int.reduceToNat] at ho9; rw [← Ny657.out] at ho9)); have n0_ := Aside0.mk (Kd.R_lower ho9 (below_size (by repeat (first | (with_reducible first | exact HB.out | apply below_alloc | apply pw_below_drewN | apply below_drew1 | refine below_set ?_ GE651.out) | exact HB.out)))); have n1_ := Aside0.mk (blk_below (g := gb651) (o := .cells #[.int .i64 0, .int .i64 0, .int .i64 0, .int .i64 0, .int .i64 0, .int .i64 0, .slice none 0 0, .slice none 0 0] 44 (0, 0)) (by (with_reducible repeat (first | refine blk_drewN ?_ _ | refine blk_drew ?_ | refine blk_alloc ?_ _)); exact BK651.out) hb); have n2_ := Aside0.mk (below_step (by repeat (first | (with_reducible first | exact HB.out | apply below_alloc | apply pw_below_drewN | apply below_drew1 | refine below_set ?_ GE651.out) | exact HB.out)) hb); clear BK651; clear HB; have HO659 := n0_; have BK651 := n1_; have HB := n2_; clear n0_ n1_ n2_; clear hb ho9) | ((with_reducible refine gate_callee (f := 49) rfl ?_); refine goesL_ (some 6) rfl rfl Tryd.func49 (by kernel_rfl) rfl #[.int .i64 18, .int .i64 22] rfl (by (try simp only [List.map_toArray, List.map_cons, List.map_nil]); first | done | rfl | (simp only [List.length_drop, List.length_take]; rfl)) ?_; (with_reducible refine (remontoirref00_To.calls 18 22 t660 t661 _ A3.out).mono ?_); rintro e w10 ⟨rfl, hb⟩; refine ⟨_, rfl, ?_⟩; have n0_ := Aside0.mk (Kd.R_below (by (with_reducible repeat (first | apply Kd.R_alloc | apply Kd.R_drewN | apply Kd.R_drew)); exact HO659.out) hb); have n1_ := Aside0.mk (blk_below (g := gb651) (o := .cells #[.int .i64 0, .int .i64 0, .int .i64 0, .int .i64 0, .int .i64 0, .int .i64 0, .slice none 0 0, .slice none 0 0] 44 (0, 0)) (by (with_reducible repeat (first | refine blk_drewN ?_ _ | refine blk_drew ?_ | refine blk_alloc ?_ _)); exact BK651.out) hb); have n2_ := Aside0.mk (below_step (by repeat (first | (with_reducible first | exact HB.out | apply below_alloc | apply pw_below_drewN | apply below_drew1 | refine below_set ?_ GE651.out) | exact HB.out)) hb); clear HO659; clear BK651; clear HB; have HO659 := n0_; have BK651 := n1_; have HB := n2_; clear n0_ n1_ n2_; (try clear hb); (try clear hb2); (try clear hk); (try clear hi)) | ((with_reducible refine gate_callee (f := 49) rfl ?_); refine goesL_ (some 8) rfl rfl Tryd.func49 (by kernel_rfl) rfl #[.int .i64 (-3), .int .i64 4] rfl (by (try simp only [List.map_toArray, List.map_cons, List.map_nil]); first | done | rfl | (simp only [List.length_drop, List.length_take]; rfl)) ?_; (with_reducible refine (remontoirref00_To.calls (-3) 4 t662 t663 _ A4.out).mono ?_); rintro e w11 ⟨rfl, hb⟩; refine ⟨_, rfl, ?_⟩; have n0_ := Aside0.mk (Kd.R_below (by (with_reducible repeat (first | apply Kd.R_alloc | apply Kd.R_drewN | apply Kd.R_drew)); exact HO659.out) hb); have n1_ := Aside0.mk (blk_below (g := gb651) (o := .cells #[.int .i64 0, .int .i64 0, .int .i64 0, .int .i64 0, .int .i64 0, .int .i64 0, .slice none 0 0, .slice none 0 0] 44 (0, 0)) (by (with_reducible repeat (first | refine blk_drewN ?_ _ | refine blk_drew ?_ | refine blk_alloc ?_ _)); exact BK651.out) hb); have n2_ := Aside0.mk (below_step (by repeat (first | (with_reducible first | exact HB.out | apply below_alloc | apply pw_below_drewN | apply below_drew1 | refine below_set ?_ GE651.out) | exact HB.out)) hb); clear HO659; clear BK651; clear HB; have HO659 := n0_; have BK651 := n1_; have HB := n2_; clear n0_ n1_ n2_; (try clear hb); (try clear hb2); (try clear hk); (try clear hi)) | ((with_reducible refine gate_dst (N := 10) rfl ?_); refine Kd.R_lit k71 _ 71 ?hg (N := 10) ?hd (xs := ([(⟨0, (⟨t660, t661⟩ : S23)⟩ : S71), (⟨6, (⟨t662, t663⟩ : S23)⟩ : S71)] : List (S71))) (inner := [.int .i64 0, .int .i64 t660, .int .i64 t661, .int .i64 6, .int .i64 t662, .int .i64 t663]) (ok := fun _ => True) (okp := fun _ => True) ?hr ?hp (fun _ hk => hk) trivial (Below.refl _ _) (Nat.le_refl _) (by simp) ?_; (case hd => rfl); (case hg => rfl); (case hr => first | (go_simp; done) | (go_simp; rfl)); (case hp => exact (Reps.c3 (show Kd.M k71 _ _ _ (⟨0, (⟨t660, t661⟩ : S23)⟩ : S71) [.int .i64 0, .int .i64 t660, .int .i64 t661] from (k71_mkM _ _ _ (⟨0, (⟨t660, t661⟩ : S23)⟩ : S71) )) (Reps.c3 (show Kd.M k71 _ _ _ (⟨6, (⟨t662, t663⟩ : S23)⟩ : S71) [.int .i64 6, .int .i64 t662, .int .i64 t663] from (k71_mkM _ _ _ (⟨6, (⟨t662, t663⟩ : S23)⟩ : S71) )) (Reps.none _ _)))); intro v665 w12 ho13 hb hg_ hnew_; clear hg_ hnew_; (first | rw [← Ny664.out] at ho13 | (simp only [Int.reduceToNat] at ho13; rw [← Ny664.out] at ho13)); have n0_ := Aside0.mk (Kd.R_below (by (with_reducible repeat (first | apply Kd.R_alloc | apply Kd.R_drewN | apply Kd.R_drew)); exact HO659.out) hb); have n1_ := Aside0.mk (Kd.R_lower ho13 (below_size (by repeat (first | (with_reducible first | exact HB.out | apply below_alloc | apply pw_below_drewN | apply below_drew1 | refine below_set ?_ GE651.out) | exact HB.out)))); have n2_ := Aside0.mk (blk_below (g := gb651) (o := .cells #[.int .i64 0, .int .i64 0, .int .i64 0, .int .i64 0, .int .i64 0, .int .i64 0, .slice none 0 0, .slice none 0 0] 44 (0, 0)) (by (with_reducible repeat (first | refine blk_drewN ?_ _ | refine blk_drew ?_ | refine blk_alloc ?_ _)); exact BK651.out) hb); have n3_ := Aside0.mk (below_step (by repeat (first | (with_reducible first | exact HB.out | apply below_alloc | apply pw_below_drewN | apply below_drew1 | refine below_set ?_ GE651.out) | exact HB.out)) hb); clear HO659; clear BK651; clear HB; have HO659 := n0_; have HO666 := n1_; have BK651 := n2_; have HB := n3_; clear n0_ n1_ n2_ n3_; clear hb ho13; obtain ⟨Ao14, co14, eo14⟩ := Kd.R_slice HO666.out; subst eo14; obtain ⟨Ao15, co15, eo15⟩ := Kd.R_slice HO659.out; subst eo15) | ((with_reducible refine gate_dst (N := 3) rfl ?_); refine box_event ?hg (N := 3) ?hd (cs := #[.int .i64 0, .int .i64 0, .int .i64 0, .int .i64 0, .int .i64 0, .int .i64 0, .slice none 0 0, .slice none 0 0]) (t := 44) ?hr ?_; (case hd => rfl); (case hg => rfl); (case hr => first | (go_simp; done) | (go_simp; rfl)); intro gb667 hg w16 hbox hb; have n0_ := Aside0.mk (Kd.R_below (by (with_reducible repeat (first | apply Kd.R_alloc | apply Kd.R_drewN | apply Kd.R_drew)); exact HO659.out) hb); have n1_ := Aside0.mk (Kd.R_below (by (with_reducible repeat (first | apply Kd.R_alloc | apply Kd.R_drewN | apply Kd.R_drew)); exact HO666.out) hb); have n2_ := Aside0.mk (blk_below (g := gb651) (o := .cells #[.int .i64 0, .int .i64 0, .int .i64 0, .int .i64 0, .int .i64 0, .int .i64 0, .slice none 0 0, .slice none 0 0] 44 (0, 0)) (by (with_reducible repeat (first | refine blk_drewN ?_ _ | refine blk_drew ?_ | refine blk_alloc ?_ _)); exact BK651.out) hb); have n3_ := Aside0.mk (below_step (by repeat (first | (with_reducible first | exact HB.out | apply below_alloc | apply pw_below_drewN | apply below_drew1 | refine below_set ?_ GE651.out) | exact HB.out)) hb); have n4_ := Aside0.mk (hbox); have n5_ := Aside0.mk ((by rw [hg]; exact (below_size (by repeat (first | (with_reducible first | exact HB.out | apply below_alloc | apply pw_below_drewN | apply below_drew1 | refine below_set ?_ GE651.out) | exact HB.out))) : w.heap.size ≤ gb667)); have n6_ := Aside0.mk ((by rw [hg]; exact (below_size (by repeat (first | (with_reducible first | exact HB.out | apply below_alloc | apply pw_below_drewN | apply below_drew1 | refine below_set ?_ GE651.out) | exact HB.out))) : w.heap.size ≤ gb667)); have n7_ := Aside0.mk ((by rw [hg]; exact Nat.ne_of_lt (blk_lt (g := gb651) (o := .cells #[.int .i64 0, .int .i64 0, .int .i64 0, .int .i64 0, .int .i64 0, .int .i64 0, .slice none 0 0, .slice none 0 0] 44 (0, 0)) (by (with_reducible repeat (first | refine blk_drewN ?_ _ | refine blk_drew ?_ | refine blk_alloc ?_ _)); exact BK651.out)) : gb651 ≠ gb667)); have n8_ := Aside0.mk ((by rw [hg]; exact Nat.ne_of_gt (blk_lt (g := gb651) (o := .cells #[.int .i64 0, .int .i64 0, .int .i64 0, .int .i64 0, .int .i64 0, .int .i64 0, .slice none 0 0, .slice none 0 0] 44 (0, 0)) (by (with_reducible repeat (first | refine blk_drewN ?_ _ | refine blk_drew ?_ | refine blk_alloc ?_ _)); exact BK651.out)) : gb667 ≠ gb651)); clear HO659; clear HO666; clear BK651; clear HB; have HO659 := n0_; have HO666 := n1_; have BK651 := n2_; have HB := n3_; have BK667 := n4_; have GW667 := n5_; have GE667 := n6_; have NB651_667 := n7_; have NB667_651 := n8_; clear n0_ n1_ n2_ n3_ n4_ n5_ n6_ n7_ n8_; clear hb hbox hg; have hnb17 := NB667_651.out; have hnc17 := NB651_667.out; have hcz18_0 : w16.cell? ⟨gb667, 0, none⟩ = some (.int .i64 0) := (blk_cell BK667.out 0).trans rfl; have hcz18_1 : w16.cell? ⟨gb667, 1, none⟩ = some (.int .i64 0) := (blk_cell BK667.out 1).trans rfl; have hcz18_2 : w16.cell? ⟨gb667, 2, none⟩ = some (.int .i64 0) := (blk_cell BK667.out 2).trans rfl; have hcz18_3 : w16.cell? ⟨gb667, 3, none⟩ = some (.int .i64 0) := (blk_cell BK667.out 3).trans rfl; have hcz18_4 : w16.cell? ⟨gb667, 4, none⟩ = some (.int .i64 0) := (blk_cell BK667.out 4).trans rfl; have hcz18_5 : w16.cell? ⟨gb667, 5, none⟩ = some (.int .i64 0) := (blk_cell BK667.out 5).trans rfl; have hcz18_6 : w16.cell? ⟨gb667, 6, none⟩ = some (.slice none 0 0) := (blk_cell BK667.out 6).trans rfl; have hcz18_7 : w16.cell? ⟨gb667, 7, none⟩ = some (.slice none 0 0) := (blk_cell BK667.out 7).trans rfl; have hfz18_0 := blk_frozen BK667.out 0; have hfz18_1 := blk_frozen BK667.out 1; have hfz18_2 := blk_frozen BK667.out 2; have hfz18_3 := blk_frozen BK667.out 3; have hfz18_4 := blk_frozen BK667.out 4; have hfz18_5 := blk_frozen BK667.out 5; have hfz18_6 := blk_frozen BK667.out 6; have hfz18_7 := blk_frozen BK667.out 7) | ((with_reducible refine gate_builtin (b := .append) (xs := #[.tmp 13, .tmp 14]) rfl ?_); at_builtin; refine Kd.R_append_rows k71 (w0 := w) w.heap.size rfl (.tmp 13) (.tmp 14) 42 71 (.agg #[(.int .i64 0), (.int .i64 0), (.int .i64 0)]) 24 rfl Tryd.underlying42 info71 rfl (by decide) (by omega) (.slice Ao14 y664.length co14) y664 l0 _ _ _ (fun _ => True) (fun _ => False) rfl rfl ?aO ?aR (fun _ _ h => h) (fun _ h => h.elim) ?aF ?aB ?aS ?aL ?_; (case aR => exact Kd.C_below HR0.out (by repeat (first | (with_reducible first | exact HB.out | apply below_alloc | apply pw_below_drewN | apply below_drew1 | refine below_set ?_ GE651.out | refine below_set ?_ GE667.out) | exact HB.out))); (case aB => exact (by repeat (first | (with_reducible first | exact HB.out | apply below_alloc | apply pw_below_drewN | apply below_drew1 | refine below_set ?_ GE651.out | refine below_set ?_ GE667.out) | exact HB.out))); (case aF => exact (fun _ _ => trivial)); (case aO => exact (by (with_reducible repeat (first | apply Kd.R_alloc | apply Kd.R_drewN | apply Kd.R_drew)); exact Kd.R_mono (Kd.R_far (p := ⟨gb667, 7, none⟩) (Kd.R_far (p := ⟨gb667, 6, none⟩) (Kd.R_far (p := ⟨gb667, 5, none⟩) (Kd.R_far (p := ⟨gb667, 4, none⟩) (Kd.R_far (p := ⟨gb667, 3, none⟩) (Kd.R_far (p := ⟨gb667, 2, none⟩) (Kd.R_far (p := ⟨gb667, 1, none⟩) (Kd.R_far (p := ⟨gb667, 0, none⟩) (Kd.R_types HO666.out BK667.out (by decide)) (fun _ hk => hk.2) (.int .i64 t652)) (fun _ hk => hk.2) (.int .i64 t653)) (fun _ hk => hk.2) (.int .i64 t654)) (fun _ hk => hk.2) (.int .i64 t655)) (fun _ hk => hk.2) (.int .i64 t656)) (fun _ hk => hk.2) (.int .i64 10)) (fun _ hk => hk.2) (.slice Ao15 y657.length co15)) (fun _ hk => hk.2) (.slice Ao14 y664.length co14)) (fun _ hk => trivial))); (case aS => exact (below_size (by repeat (first | (with_reducible first | exact HB.out | apply below_alloc | apply pw_below_drewN | apply below_drew1 | refine below_set ?_ GE651.out | refine below_set ?_ GE667.out) | exact HB.out)))); (case aL => have := LMc5.out; omega); intro v669 w19 ho hb hg hat; rw [← Ny668.out] at ho; have n0_ := Aside0.mk (blk_grown (g := gb651) (o := .cells #[.int .i64 0, .int .i64 0, .int .i64 0, .int .i64 0, .int .i64 0, .int .i64 0, .slice none 0 0, .slice none 0 0] 44 (0, 0)) (by (with_reducible repeat (first | refine blk_drewN ?_ _ | refine blk_drew ?_ | refine blk_alloc ?_ _)); refine blk_far ?_ NB651_667.out _; (with_reducible repeat (first | refine blk_drewN ?_ _ | refine blk_drew ?_ | refine blk_alloc ?_ _)); refine blk_far ?_ NB651_667.out _; (with_reducible repeat (first | refine blk_drewN ?_ _ | refine blk_drew ?_ | refine blk_alloc ?_ _)); refine blk_far ?_ NB651_667.out _; (with_reducible repeat (first | refine blk_drewN ?_ _ | refine blk_drew ?_ | refine blk_alloc ?_ _)); refine blk_far ?_ NB651_667.out _; (with_reducible repeat (first | refine blk_drewN ?_ _ | refine blk_drew ?_ | refine blk_alloc ?_ _)); refine blk_far ?_ NB651_667.out _; (with_reducible repeat (first | refine blk_drewN ?_ _ | refine blk_drew ?_ | refine blk_alloc ?_ _)); refine blk_far ?_ NB651_667.out _; (with_reducible repeat (first | refine blk_drewN ?_ _ | refine blk_drew ?_ | refine blk_alloc ?_ _)); refine blk_far ?_ NB651_667.out _; (with_reducible repeat (first | refine blk_drewN ?_ _ | refine blk_drew ?_ | refine blk_alloc ?_ _)); refine blk_far ?_ NB651_667.out _; (with_reducible repeat (first | refine blk_drewN ?_ _ | refine blk_drew ?_ | refine blk_alloc ?_ _)); exact BK651.out) hg (Kd.R_ne HO666.out BK651.out (by decide))); have n1_ := Aside0.mk (Kd.R_over' (by (with_reducible repeat (first | apply Kd.R_alloc | apply Kd.R_drewN | apply Kd.R_drew)); exact (Kd.R_mono (Kd.R_far (p := ⟨gb667, 7, none⟩) (Kd.R_far (p := ⟨gb667, 6, none⟩) (Kd.R_far (p := ⟨gb667, 5, none⟩) (Kd.R_far (p := ⟨gb667, 4, none⟩) (Kd.R_far (p := ⟨gb667, 3, none⟩) (Kd.R_far (p := ⟨gb667, 2, none⟩) (Kd.R_far (p := ⟨gb667, 1, none⟩) (Kd.R_far (p := ⟨gb667, 0, none⟩) (Kd.R_types HO659.out BK667.out (by decide)) (fun _ hk => hk.2) (.int .i64 t652)) (fun _ hk => hk.2) (.int .i64 t653)) (fun _ hk => hk.2) (.int .i64 t654)) (fun _ hk => hk.2) (.int .i64 t655)) (fun _ hk => hk.2) (.int .i64 t656)) (fun _ hk => hk.2) (.int .i64 10)) (fun _ hk => hk.2) (.slice Ao15 y657.length co15)) (fun _ hk => hk.2) (.slice Ao14 y664.length co14)) (fun _ h_ => h_.1))) (Kd.R_typed (by (with_reducible repeat (first | apply Kd.R_alloc | apply Kd.R_drewN | apply Kd.R_drew)); exact (Kd.R_mono (Kd.R_far (p := ⟨gb667, 7, none⟩) (Kd.R_far (p := ⟨gb667, 6, none⟩) (Kd.R_far (p := ⟨gb667, 5, none⟩) (Kd.R_far (p := ⟨gb667, 4, none⟩) (Kd.R_far (p := ⟨gb667, 3, none⟩) (Kd.R_far (p := ⟨gb667, 2, none⟩) (Kd.R_far (p := ⟨gb667, 1, none⟩) (Kd.R_far (p := ⟨gb667, 0, none⟩) (Kd.R_types HO666.out BK667.out (by decide)) (fun _ hk => hk.2) (.int .i64 t652)) (fun _ hk => hk.2) (.int .i64 t653)) (fun _ hk => hk.2) (.int .i64 t654)) (fun _ hk => hk.2) (.int .i64 t655)) (fun _ hk => hk.2) (.int .i64 t656)) (fun _ hk => hk.2) (.int .i64 10)) (fun _ hk => hk.2) (.slice Ao15 y657.length co15)) (fun _ hk => hk.2) (.slice Ao14 y664.length co14)) (fun _ h_ => h_.1)))) (by decide) hg); have n2_ := Aside0.mk (blk_grown (g := gb667) (o := .cells #[.int .i64 t652, .int .i64 t653, .int .i64 t654, .int .i64 t655, .int .i64 t656, .int .i64 10, .slice Ao15 y657.length co15, .slice Ao14 y664.length co14] 44 (0, 0)) (by (with_reducible repeat (first | refine blk_drewN ?_ _ | refine blk_drew ?_ | refine blk_alloc ?_ _)); refine blk_put (cs := #[.int .i64 t652, .int .i64 t653, .int .i64 t654, .int .i64 t655, .int .i64 t656, .int .i64 10, .slice Ao15 y657.length co15, .slice none 0 0]) ?_ 7 _ rfl; (with_reducible repeat (first | refine blk_drewN ?_ _ | refine blk_drew ?_ | refine blk_alloc ?_ _)); refine blk_put (cs := #[.int .i64 t652, .int .i64 t653, .int .i64 t654, .int .i64 t655, .int .i64 t656, .int .i64 10, .slice none 0 0, .slice none 0 0]) ?_ 6 _ rfl; (with_reducible repeat (first | refine blk_drewN ?_ _ | refine blk_drew ?_ | refine blk_alloc ?_ _)); refine blk_put (cs := #[.int .i64 t652, .int .i64 t653, .int .i64 t654, .int .i64 t655, .int .i64 t656, .int .i64 0, .slice none 0 0, .slice none 0 0]) ?_ 5 _ rfl; (with_reducible repeat (first | refine blk_drewN ?_ _ | refine blk_drew ?_ | refine blk_alloc ?_ _)); refine blk_put (cs := #[.int .i64 t652, .int .i64 t653, .int .i64 t654, .int .i64 t655, .int .i64 0, .int .i64 0, .slice none 0 0, .slice none 0 0]) ?_ 4 _ rfl; (with_reducible repeat (first | refine blk_drewN ?_ _ | refine blk_drew ?_ | refine blk_alloc ?_ _)); refine blk_put (cs := #[.int .i64 t652, .int .i64 t653, .int .i64 t654, .int .i64 0, .int .i64 0, .int .i64 0, .slice none 0 0, .slice none 0 0]) ?_ 3 _ rfl; (with_reducible repeat (first | refine blk_drewN ?_ _ | refine blk_drew ?_ | refine blk_alloc ?_ _)); refine blk_put (cs := #[.int .i64 t652, .int .i64 t653, .int .i64 0, .int .i64 0, .int .i64 0, .int .i64 0, .slice none 0 0, .slice none 0 0]) ?_ 2 _ rfl; (with_reducible repeat (first | refine blk_drewN ?_ _ | refine blk_drew ?_ | refine blk_alloc ?_ _)); refine blk_put (cs := #[.int .i64 t652, .int .i64 0, .int .i64 0, .int .i64 0, .int .i64 0, .int .i64 0, .slice none 0 0, .slice none 0 0]) ?_ 1 _ rfl; (with_reducible repeat (first | refine blk_drewN ?_ _ | refine blk_drew ?_ | refine blk_alloc ?_ _)); refine blk_put (cs := #[.int .i64 0, .int .i64 0, .int .i64 0, .int .i64 0, .int .i64 0, .int .i64 0, .slice none 0 0, .slice none 0 0]) ?_ 0 _ rfl; (with_reducible repeat (first | refine blk_drewN ?_ _ | refine blk_drew ?_ | refine blk_alloc ?_ _)); exact BK667.out) hg (Kd.R_ne HO666.out BK667.out (by decide))); have n3_ := Aside0.mk (hb); have n4_ := Aside0.mk (ho); clear BK651; clear HO659; clear BK667; clear HB; clear HO666; have BK651 := n0_; have HO659 := n1_; have BK667 := n2_; have HB := n3_; have HO670 := n4_; clear n0_ n1_ n2_ n3_ n4_; clear ho hb hg hat; obtain ⟨Ao20, co20, eo20⟩ := Kd.R_slice HO670.out; subst eo20; have hcz21_0 : w19.cell? ⟨gb667, 0, none⟩ = some (.int .i64 t652) := (blk_cell BK667.out 0).trans rfl; have hcz21_1 : w19.cell? ⟨gb667, 1, none⟩ = some (.int .i64 t653) := (blk_cell BK667.out 1).trans rfl; have hcz21_2 : w19.cell? ⟨gb667, 2, none⟩ = some (.int .i64 t654) := (blk_cell BK667.out 2).trans rfl; have hcz21_3 : w19.cell? ⟨gb667, 3, none⟩ = some (.int .i64 t655) := (blk_cell BK667.out 3).trans rfl; have hcz21_4 : w19.cell? ⟨gb667, 4, none⟩ = some (.int .i64 t656) := (blk_cell BK667.out 4).trans rfl; have hcz21_5 : w19.cell? ⟨gb667, 5, none⟩ = some (.int .i64 10) := (blk_cell BK667.out 5).trans rfl; have hcz21_6 : w19.cell? ⟨gb667, 6, none⟩ = some (.slice Ao15 y657.length co15) := (blk_cell BK667.out 6).trans rfl; have hcz21_7 : w19.cell? ⟨gb667, 7, none⟩ = some (.slice Ao14 y664.length co14) := (blk_cell BK667.out 7).trans rfl; have hfz21_0 := blk_frozen BK667.out 0; have hfz21_1 := blk_frozen BK667.out 1; have hfz21_2 := blk_frozen BK667.out 2; have hfz21_3 := blk_frozen BK667.out 3; have hfz21_4 := blk_frozen BK667.out 4; have hfz21_5 := blk_frozen BK667.out 5; have hfz21_6 := blk_frozen BK667.out 6; have hfz21_7 := blk_frozen BK667.out 7; have hcz22_0 : w19.cell? ⟨gb651, 0, none⟩ = some (.int .i64 0) := (blk_cell BK651.out 0).trans rfl; have hcz22_1 : w19.cell? ⟨gb651, 1, none⟩ = some (.int .i64 0) := (blk_cell BK651.out 1).trans rfl; have hcz22_2 : w19.cell? ⟨gb651, 2, none⟩ = some (.int .i64 0) := (blk_cell BK651.out 2).trans rfl; have hcz22_3 : w19.cell? ⟨gb651, 3, none⟩ = some (.int .i64 0) := (blk_cell BK651.out 3).trans rfl; have hcz22_4 : w19.cell? ⟨gb651, 4, none⟩ = some (.int .i64 0) := (blk_cell BK651.out 4).trans rfl; have hcz22_5 : w19.cell? ⟨gb651, 5, none⟩ = some (.int .i64 0) := (blk_cell BK651.out 5).trans rfl; have hcz22_6 : w19.cell? ⟨gb651, 6, none⟩ = some (.slice none 0 0) := (blk_cell BK651.out 6).trans rfl; have hcz22_7 : w19.cell? ⟨gb651, 7, none⟩ = some (.slice none 0 0) := (blk_cell BK651.out 7).trans rfl; have hfz22_0 := blk_frozen BK651.out 0; have hfz22_1 := blk_frozen BK651.out 1; have hfz22_2 := blk_frozen BK651.out 2; have hfz22_3 := blk_frozen BK651.out 3; have hfz22_4 := blk_frozen BK651.out 4; have hfz22_5 := blk_frozen BK651.out 5; have hfz22_6 := blk_frozen BK651.out 6; have hfz22_7 := blk_frozen BK651.out 7))
    refine bodyPost_ret (results_cell_row rfl _ _ gb651 44 #[.int .i64 t652, .int .i64 t653, .int .i64 t654, .int .i64 t655, .int .i64 t656, .int .i64 10, .slice Ao15 y657.length co15, .slice Ao20 y668.length co20] (0, 0) _ rfl (by (with_reducible repeat (first | refine blk_drewN ?_ _ | refine blk_drew ?_ | refine blk_alloc ?_ _)); refine blk_put (cs := #[.int .i64 t652, .int .i64 t653, .int .i64 t654, .int .i64 t655, .int .i64 t656, .int .i64 10, .slice Ao15 y657.length co15, .slice none 0 0]) ?_ 7 _ rfl; (with_reducible repeat (first | refine blk_drewN ?_ _ | refine blk_drew ?_ | refine blk_alloc ?_ _)); refine blk_put (cs := #[.int .i64 t652, .int .i64 t653, .int .i64 t654, .int .i64 t655, .int .i64 t656, .int .i64 10, .slice none 0 0, .slice none 0 0]) ?_ 6 _ rfl; (with_reducible repeat (first | refine blk_drewN ?_ _ | refine blk_drew ?_ | refine blk_alloc ?_ _)); refine blk_put (cs := #[.int .i64 t652, .int .i64 t653, .int .i64 t654, .int .i64 t655, .int .i64 t656, .int .i64 0, .slice none 0 0, .slice none 0 0]) ?_ 5 _ rfl; (with_reducible repeat (first | refine blk_drewN ?_ _ | refine blk_drew ?_ | refine blk_alloc ?_ _)); refine blk_put (cs := #[.int .i64 t652, .int .i64 t653, .int .i64 t654, .int .i64 t655, .int .i64 0, .int .i64 0, .slice none 0 0, .slice none 0 0]) ?_ 4 _ rfl; (with_reducible repeat (first | refine blk_drewN ?_ _ | refine blk_drew ?_ | refine blk_alloc ?_ _)); refine blk_put (cs := #[.int .i64 t652, .int .i64 t653, .int .i64 t654, .int .i64 0, .int .i64 0, .int .i64 0, .slice none 0 0, .slice none 0 0]) ?_ 3 _ rfl; (with_reducible repeat (first | refine blk_drewN ?_ _ | refine blk_drew ?_ | refine blk_alloc ?_ _)); refine blk_put (cs := #[.int .i64 t652, .int .i64 t653, .int .i64 0, .int .i64 0, .int .i64 0, .int .i64 0, .slice none 0 0, .slice none 0 0]) ?_ 2 _ rfl; (with_reducible repeat (first | refine blk_drewN ?_ _ | refine blk_drew ?_ | refine blk_alloc ?_ _)); refine blk_put (cs := #[.int .i64 t652, .int .i64 0, .int .i64 0, .int .i64 0, .int .i64 0, .int .i64 0, .slice none 0 0, .slice none 0 0]) ?_ 1 _ rfl; (with_reducible repeat (first | refine blk_drewN ?_ _ | refine blk_drew ?_ | refine blk_alloc ?_ _)); refine blk_put (cs := #[.int .i64 0, .int .i64 0, .int .i64 0, .int .i64 0, .int .i64 0, .int .i64 0, .slice none 0 0, .slice none 0 0]) ?_ 0 _ rfl; (with_reducible repeat (first | refine blk_drewN ?_ _ | refine blk_drew ?_ | refine blk_alloc ?_ _)); refine blk_far ?_ NB651_667.out _; (with_reducible repeat (first | refine blk_drewN ?_ _ | refine blk_drew ?_ | refine blk_alloc ?_ _)); exact BK651.out) Tryd.underlying44 rfl (by kernel_rfl)) rfl ?_
    exact ⟨_, _, by first | rfl | (simp [errW_none, errW_some] <;> rfl) | (simp [*, errW_none, errW_some] <;> rfl), by (with_reducible repeat (first | apply Kd.R_alloc | apply Kd.R_drewN | apply Kd.R_drew)); exact Kd.R_mono (Kd.R_far (p := ⟨gb651, 7, none⟩) (Kd.R_far (p := ⟨gb651, 6, none⟩) (Kd.R_far (p := ⟨gb651, 5, none⟩) (Kd.R_far (p := ⟨gb651, 4, none⟩) (Kd.R_far (p := ⟨gb651, 3, none⟩) (Kd.R_far (p := ⟨gb651, 2, none⟩) (Kd.R_far (p := ⟨gb651, 1, none⟩) (Kd.R_far (p := ⟨gb651, 0, none⟩) (Kd.R_far (p := ⟨gb667, 7, none⟩) (Kd.R_types (Kd.R_types HO659.out BK667.out (by decide)) BK651.out (by decide)) (fun _ hk => hk.1.2) (.slice Ao20 y668.length co20)) (fun _ hk => hk.2) (.int .i64 t652)) (fun _ hk => hk.2) (.int .i64 t653)) (fun _ hk => hk.2) (.int .i64 t654)) (fun _ hk => hk.2) (.int .i64 t655)) (fun _ hk => hk.2) (.int .i64 t656)) (fun _ hk => hk.2) (.int .i64 10)) (fun _ hk => hk.2) (.slice Ao15 y657.length co15)) (fun _ hk => hk.2) (.slice Ao20 y668.length co20)) (fun _ hk => trivial), by (with_reducible repeat (first | apply Kd.R_alloc | apply Kd.R_drewN | apply Kd.R_drew)); exact Kd.R_mono (Kd.R_far (p := ⟨gb651, 7, none⟩) (Kd.R_far (p := ⟨gb651, 6, none⟩) (Kd.R_far (p := ⟨gb651, 5, none⟩) (Kd.R_far (p := ⟨gb651, 4, none⟩) (Kd.R_far (p := ⟨gb651, 3, none⟩) (Kd.R_far (p := ⟨gb651, 2, none⟩) (Kd.R_far (p := ⟨gb651, 1, none⟩) (Kd.R_far (p := ⟨gb651, 0, none⟩) (Kd.R_far (p := ⟨gb667, 7, none⟩) (Kd.R_types (Kd.R_types HO670.out BK667.out (by decide)) BK651.out (by decide)) (fun _ hk => hk.1.2) (.slice Ao20 y668.length co20)) (fun _ hk => hk.2) (.int .i64 t652)) (fun _ hk => hk.2) (.int .i64 t653)) (fun _ hk => hk.2) (.int .i64 t654)) (fun _ hk => hk.2) (.int .i64 t655)) (fun _ hk => hk.2) (.int .i64 t656)) (fun _ hk => hk.2) (.int .i64 10)) (fun _ hk => hk.2) (.slice Ao15 y657.length co15)) (fun _ hk => hk.2) (.slice Ao20 y668.length co20)) (fun _ hk => trivial), by repeat (first | (with_reducible first | exact HB.out | apply below_alloc | apply pw_below_drewN | apply below_drew1 | refine below_set ?_ GE651.out | refine below_set ?_ GE667.out) | exact HB.out)⟩
  · rw [if_neg c5] at H
    exact absurd H (by simp)

end Go.Proofs.TrydX.X
end

section
/- The chapter's examples work. Written by wip/tools/mkXW.py. -/
set_option linter.unusedSimpArgs false
set_option linter.unusedVariables false
namespace Go.Proofs.TrydX.X
open Go.RowKit Go.Proofs.YtidnopmjhhmedaaDoorW.PrintWords Go.Proofs.YtidnopmjhhmedaaDoorW.PrintLast
attribute [local go_sem] Oper.semAt_some

theorem ex_rule (w : World) : Calls Tryd.prog 53 #[] w fun e w' => e = .returned (.agg #[.int .i64 10, .int .i64 5, .int .i64 4, .int .i64 (-1), .int .i64 2]) ∧ Below w.heap.size w w' := remontoirlaw04_rule.calls 10 5 4 (-1) 2 w (by rfl)
theorem ex_reach (w : World) (hw : YtidnopmjhhmedaaDoor.Ways w) : Calls Tryd.prog 22 #[.agg #[.int .i64 10, .int .i64 5, .int .i64 4, .int .i64 (-1), .int .i64 2], .int .i64 5] w fun e w' => e = .returned (.tuple #[.agg #[.int .i64 (-23), .int .i64 34], .int .i64 0]) ∧ Below w.heap.size w w' :=
  scale_Reach.calls 10 5 4 (-1) 2 5 (-23) 34 0 w hw (by decide +kernel)
theorem ex_few (w : World) (hw : YtidnopmjhhmedaaDoor.Ways w) : Calls Tryd.prog 18 #[.agg #[.int .i64 10, .int .i64 5, .int .i64 4, .int .i64 (-1), .int .i64 2], .int .i64 20] w fun e w' => e = .returned (.tuple #[.int .i64 5, .int .i64 0]) ∧ Below w.heap.size w w' :=
  scale_Fewest.calls 10 5 4 (-1) 2 20 5 0 w hw (by decide +kernel)
theorem ex_plan (w : World) (hw : YtidnopmjhhmedaaDoor.Ways w) : Calls Tryd.prog 20 #[.agg #[.int .i64 10, .int .i64 5, .int .i64 4, .int .i64 (-1), .int .i64 2], .int .i64 (-20)] w fun e w' => ∃ A c, e = .returned (.tuple #[.slice A 4 c, .int .i64 0]) ∧ Below w.heap.size w w' := by
  refine (scale_Plan.calls 10 5 4 (-1) 2 (-20) [4, 6, 6, 4] 0 w hw (by decide +kernel)).mono ?_
  rintro e w' ⟨v, rfl, hv, hb⟩
  obtain ⟨A, c, rfl⟩ := Kd.V_slice hv
  exact ⟨A, c, rfl, hb⟩
theorem ex_isplan (A : Option Addr) (c : Nat) (w : World) (hw : YtidnopmjhhmedaaDoor.Ways w) (h : Kd.C (Kd.int .i64) w A 5 [-4, -5, -5, -4, -2]) (hc : 5 ≤ c) : Calls Tryd.prog 16 #[.agg #[.int .i64 10, .int .i64 5, .int .i64 4, .int .i64 (-1), .int .i64 2], .int .i64 20, .slice A 5 c] w fun e w' => e = .returned (.tuple #[.bool true, .int .i64 0]) ∧ Below w.heap.size w w' :=
  scale_IsPlan.calls 10 5 4 (-1) 2 20 A c [-4, -5, -5, -4, -2] true 0 w h hc hw (by decide +kernel)
theorem ex_shown (A : Option Addr) (c : Nat) (w : World) (hw : YtidnopmjhhmedaaDoor.Ways w) (h : Kd.C (Kd.int .i64) w A 2 [4, 8]) (hc : 2 ≤ c) : Calls Tryd.prog 24 #[.agg #[.int .i64 10, .int .i64 5, .int .i64 4, .int .i64 (-1), .int .i64 2], .int .i64 7000, .slice A 2 c] w fun e w' => ∃ A c, e = .returned (.tuple #[.slice A 3 c, .int .i64 0]) ∧ Kd.C (Kd.int .i64) w' A 3 [7000, 8004, 9012] ∧ 3 ≤ c ∧ Below w.heap.size w w' := by
  refine (scale_Shown.calls 10 5 4 (-1) 2 7000 A c [4, 8] [7000, 8004, 9012] 0 w h hc hw (by decide +kernel)).mono ?_
  rintro e w' ⟨v, rfl, hv, hb⟩
  obtain ⟨A, c, rfl⟩ := Kd.V_slice hv
  have := Kd.V_reads' hv
  exact ⟨A, c, rfl, this.2.2, this.2.1, hb⟩
theorem ex_book (w : World) : Calls Tryd.prog 52 #[.slice none 0 0] w fun e w' => ∃ A6 c6 A7 c7, e = .returned (.agg #[.int .i64 10, .int .i64 5, .int .i64 4, .int .i64 (-1), .int .i64 2, .int .i64 10, .slice A6 3 c6, .slice A7 2 c7]) ∧ Kd.C (Kd.int .i64) w' A6 3 [-4, -5, -4] ∧ 3 ≤ c6 ∧ Kd.C k71 w' A7 2 [⟨0, ⟨18, 22⟩⟩, ⟨6, ⟨-3, 4⟩⟩] ∧ 2 ≤ c7 ∧ Below w.heap.size w w' := by
  refine (remontoirlaw04_book.calls none 0 [] 10 5 4 (-1) 2 10 [-4, -5, -4] [⟨0, ⟨18, 22⟩⟩, ⟨6, ⟨-3, 4⟩⟩] w (Kd.C_nil _ _) (Nat.le_refl _) (by rfl)).mono ?_
  rintro e w' ⟨v6, v7, rfl, h6, h7, hb⟩
  obtain ⟨A6, c6, rfl⟩ := Kd.R_slice h6
  obtain ⟨A7, c7, rfl⟩ := Kd.R_slice h7
  have a6 := Kd.R_reads' h6
  have a7 := Kd.R_reads' h7
  exact ⟨A6, c6, A7, c7, rfl, a6.2.2, a6.2.1, a7.2.2, a7.2.1, hb⟩
theorem ex_err (A6 A7 : Option Addr) (c6 c7 : Nat) (w : World) (hw : YtidnopmjhhmedaaDoor.Ways w) (h6 : Kd.C (Kd.int .i64) w A6 3 [-4, -5, -4]) (hc6 : 3 ≤ c6) (h7 : Kd.C k71 w A7 2 [⟨0, ⟨18, 22⟩⟩, ⟨6, ⟨-3, 4⟩⟩]) (hc7 : 2 ≤ c7) : Calls Tryd.prog 27 #[.agg #[.int .i64 10, .int .i64 5, .int .i64 4, .int .i64 (-1), .int .i64 2, .int .i64 10, .slice A6 3 c6, .slice A7 2 c7], .int .i64 3] w fun e w' => e = .returned (.tuple #[.agg #[.int .i64 2, .int .i64 7], .int .i64 0]) ∧ Below w.heap.size w w' :=
  scale_Error.calls 10 5 4 (-1) 2 10 A6 c6 [-4, -5, -4] A7 c7 [⟨0, ⟨18, 22⟩⟩, ⟨6, ⟨-3, 4⟩⟩] 3 2 7 0 w h6 hc6 h7 hc7 hw (by decide +kernel)
theorem ex_stated (A6 A7 : Option Addr) (c6 c7 : Nat) (w : World) (hw : YtidnopmjhhmedaaDoor.Ways w) (h6 : Kd.C (Kd.int .i64) w A6 3 [-4, -5, -4]) (hc6 : 3 ≤ c6) (h7 : Kd.C k71 w A7 2 [⟨0, ⟨18, 22⟩⟩, ⟨6, ⟨-3, 4⟩⟩]) (hc7 : 2 ≤ c7) : Calls Tryd.prog 31 #[.agg #[.int .i64 10, .int .i64 5, .int .i64 4, .int .i64 (-1), .int .i64 2, .int .i64 10, .slice A6 3 c6, .slice A7 2 c7], .int .i64 10] w fun e w' => e = .returned (.tuple #[.int .i64 12, .int .i64 0]) ∧ Below w.heap.size w w' :=
  scale_Stated.calls 10 5 4 (-1) 2 10 A6 c6 [-4, -5, -4] A7 c7 [⟨0, ⟨18, 22⟩⟩, ⟨6, ⟨-3, 4⟩⟩] 10 12 0 w h6 hc6 h7 hc7 hw (by decide +kernel)
theorem ex_worst (A6 A7 : Option Addr) (c6 c7 : Nat) (w : World) (hw : YtidnopmjhhmedaaDoor.Ways w) (h6 : Kd.C (Kd.int .i64) w A6 3 [-4, -5, -4]) (hc6 : 3 ≤ c6) (h7 : Kd.C k71 w A7 2 [⟨0, ⟨18, 22⟩⟩, ⟨6, ⟨-3, 4⟩⟩]) (hc7 : 2 ≤ c7) : Calls Tryd.prog 33 #[.agg #[.int .i64 10, .int .i64 5, .int .i64 4, .int .i64 (-1), .int .i64 2, .int .i64 10, .slice A6 3 c6, .slice A7 2 c7]] w fun e w' => e = .returned (.tuple #[.int .i64 0, .int .i64 22, .int .i64 0]) ∧ Below w.heap.size w w' :=
  scale_Worst.calls 10 5 4 (-1) 2 10 A6 c6 [-4, -5, -4] A7 c7 [⟨0, ⟨18, 22⟩⟩, ⟨6, ⟨-3, 4⟩⟩] 0 22 0 w h6 hc6 h7 hc7 hw (by decide +kernel)
theorem ex_meets (A6 A7 : Option Addr) (c6 c7 : Nat) (w : World) (hw : YtidnopmjhhmedaaDoor.Ways w) (h6 : Kd.C (Kd.int .i64) w A6 3 [-4, -5, -4]) (hc6 : 3 ≤ c6) (h7 : Kd.C k71 w A7 2 [⟨0, ⟨18, 22⟩⟩, ⟨6, ⟨-3, 4⟩⟩]) (hc7 : 2 ≤ c7) : Calls Tryd.prog 35 #[.agg #[.int .i64 10, .int .i64 5, .int .i64 4, .int .i64 (-1), .int .i64 2, .int .i64 10, .slice A6 3 c6, .slice A7 2 c7]] w fun e w' => e = .returned (.tuple #[.int .i64 3, .int .i64 0, .int .i64 0]) ∧ Below w.heap.size w w' :=
  scale_Meets.calls 10 5 4 (-1) 2 10 A6 c6 [-4, -5, -4] A7 c7 [⟨0, ⟨18, 22⟩⟩, ⟨6, ⟨-3, 4⟩⟩] 3 0 0 w h6 hc6 h7 hc7 hw (by decide +kernel)
theorem ex_check (A6 A7 : Option Addr) (c6 c7 : Nat) (w : World) (hw : YtidnopmjhhmedaaDoor.Ways w) (h6 : Kd.C (Kd.int .i64) w A6 3 [-4, -5, -4]) (hc6 : 3 ≤ c6) (h7 : Kd.C k71 w A7 2 [⟨0, ⟨18, 22⟩⟩, ⟨6, ⟨-3, 4⟩⟩]) (hc7 : 2 ≤ c7) : Calls Tryd.prog 29 #[.agg #[.int .i64 10, .int .i64 5, .int .i64 4, .int .i64 (-1), .int .i64 2, .int .i64 10, .slice A6 3 c6, .slice A7 2 c7]] w fun e w' => e = .returned (.int .i64 0) ∧ Below w.heap.size w w' :=
  scale_Check.calls 10 5 4 (-1) 2 10 A6 c6 [-4, -5, -4] A7 c7 [⟨0, ⟨18, 22⟩⟩, ⟨6, ⟨-3, 4⟩⟩] 0 w h6 hc6 h7 hc7 hw (by decide +kernel)

theorem C_lit (w : World) (l : List Int) (e : TypeId) (hl : l.length ≤ 1000) : Kd.C (Kd.int .i64) (w.alloc (.cells (l.map (Value.int .i64)).toArray e)) (some ⟨w.heap.size, 0, none⟩) l.length l := by
  refine Kd.C_of_reads (d := (0 : Int)) (h1 := fun _ => rfl) ⟨rfl, by omega, fun _ => ⟨_, rfl, fun j hj => ?_⟩⟩
  rw [Addr.add_mid, cell_of_row _ _ _ _ _ _ (World.alloc_heap_new w _)]
  simp [List.getD_eq_getElem?_getD, hj]
/-- What stays known while the examples are compared. -/
structure WK (w : World) (A9 : Option Addr) (W : World) : Prop where
  c9 : Kd.C (Kd.int .i64) W A9 3 [7000, 8004, 9012]
  bel : Below w.heap.size w W
theorem WK.drew {w W : World} {A9 : Option Addr} (h : WK w A9 W) : WK w A9 W.drew := ⟨Kd.C_drew h.c9, h.bel.drew⟩
theorem WK.below {w W W1 : World} {A9 : Option Addr} (h : WK w A9 W) (hb : Below W.heap.size W W1) : WK w A9 W1 := ⟨Kd.C_below h.c9 hb, below_step h.bel hb⟩
theorem wk_call {w W W1 : World} {A9 : Option Addr} {B : Nat} (h : (W.cell? ⟨B, 0, none⟩ = some (.int .i64 (-23)) ∧ W.cell? ⟨B, 1, none⟩ = some (.int .i64 34)) ∧ WK w A9 W) (hb : Below W.heap.size W W1) :
    (W1.cell? ⟨B, 0, none⟩ = some (.int .i64 (-23)) ∧ W1.cell? ⟨B, 1, none⟩ = some (.int .i64 34)) ∧ WK w A9 W1 :=
  ⟨⟨YtidnopmjhhmedaaDoor.cell_below hb h.1.1, YtidnopmjhhmedaaDoor.cell_below hb h.1.2⟩, h.2.below hb⟩
theorem wk_alloc {w W : World} {A9 : Option Addr} {B : Nat} {o : Obj} (h : (W.cell? ⟨B, 0, none⟩ = some (.int .i64 (-23)) ∧ W.cell? ⟨B, 1, none⟩ = some (.int .i64 34)) ∧ WK w A9 W) :
    ((W.alloc o).cell? ⟨B, 0, none⟩ = some (.int .i64 (-23)) ∧ (W.alloc o).cell? ⟨B, 1, none⟩ = some (.int .i64 34)) ∧ WK w A9 (W.alloc o) := wk_call h ((Below.refl _ _).alloc (Nat.le_refl _) _)
theorem wk_drewN {w W : World} {A9 : Option Addr} {B n : Nat} (h : (W.cell? ⟨B, 0, none⟩ = some (.int .i64 (-23)) ∧ W.cell? ⟨B, 1, none⟩ = some (.int .i64 34)) ∧ WK w A9 W) :
    ((W.drewN n).cell? ⟨B, 0, none⟩ = some (.int .i64 (-23)) ∧ (W.drewN n).cell? ⟨B, 1, none⟩ = some (.int .i64 34)) ∧ WK w A9 (W.drewN n) := wk_call h (pw_below_drewN (Below.refl _ _) n)
theorem wb_call {w W W1 : World} {B : Nat} (h : (W.cell? ⟨B, 0, none⟩ = some (.int .i64 2) ∧ W.cell? ⟨B, 1, none⟩ = some (.int .i64 7)) ∧ Below w.heap.size w W) (hb : Below W.heap.size W W1) :
    (W1.cell? ⟨B, 0, none⟩ = some (.int .i64 2) ∧ W1.cell? ⟨B, 1, none⟩ = some (.int .i64 7)) ∧ Below w.heap.size w W1 :=
  ⟨⟨YtidnopmjhhmedaaDoor.cell_below hb h.1.1, YtidnopmjhhmedaaDoor.cell_below hb h.1.2⟩, below_step h.2 hb⟩
set_option maxRecDepth 100000 in
set_option maxHeartbeats 16000000 in
theorem works_calls (w : World) (hWays : YtidnopmjhhmedaaDoor.Ways w) : Calls Tryd.prog 21 #[] w fun e w' => e = .returned (.bool true) ∧ Below w.heap.size w w' := by
  have hB : Below w.heap.size w w := Below.refl _ _
  go_enter Tryd.func21, Tryd.ntmps21
  go_wp2_with fail
  refine (ex_rule _).mono ?_
  rintro e w1 ⟨rfl, hb⟩
  have hB1 := below_step (by repeat (first | (with_reducible first | exact hB | apply below_alloc | apply pw_below_drewN | apply below_drew1) | exact hB)) hb
  clear hb
  go_wp2_with fail
  refine (ex_reach _ (hWays.below (by repeat (first | (with_reducible first | exact hB1 | apply below_alloc | apply pw_below_drewN | apply below_drew1) | exact hB1)))).mono ?_
  rintro e w2 ⟨rfl, hb⟩
  have hB2 := below_step (by repeat (first | (with_reducible first | exact hB1 | apply below_alloc | apply pw_below_drewN | apply below_drew1) | exact hB1)) hb
  clear hb
  go_wp2_with fail
  refine (ex_rule _).mono ?_
  rintro e w3 ⟨rfl, hb⟩
  have hB3 := below_step (by repeat (first | (with_reducible first | exact hB2 | apply below_alloc | apply pw_below_drewN | apply below_drew1) | exact hB2)) hb
  have hq0_3 : w3.cell? ⟨w2.heap.size, 0, none⟩ = some (.int .i64 (-23)) := YtidnopmjhhmedaaDoor.cell_below hb (by first | exact hq0_2 | exact YtidnopmjhhmedaaDoor.cell_below ((Below.refl _ _).alloc (Nat.le_refl _) _) hq0_2 | (simp [go_sem]; done))
  have hq1_3 : w3.cell? ⟨w2.heap.size, 1, none⟩ = some (.int .i64 34) := YtidnopmjhhmedaaDoor.cell_below hb (by first | exact hq1_2 | exact YtidnopmjhhmedaaDoor.cell_below ((Below.refl _ _).alloc (Nat.le_refl _) _) hq1_2 | (simp [go_sem]; done))
  clear hb
  go_wp2_with fail
  refine (ex_few _ (hWays.below (by repeat (first | (with_reducible first | exact hB3 | apply below_alloc | apply pw_below_drewN | apply below_drew1) | exact hB3)))).mono ?_
  rintro e w4 ⟨rfl, hb⟩
  have hB4 := below_step (by repeat (first | (with_reducible first | exact hB3 | apply below_alloc | apply pw_below_drewN | apply below_drew1) | exact hB3)) hb
  have hq0_4 : w4.cell? ⟨w2.heap.size, 0, none⟩ = some (.int .i64 (-23)) := YtidnopmjhhmedaaDoor.cell_below hb (by first | exact hq0_3 | exact YtidnopmjhhmedaaDoor.cell_below ((Below.refl _ _).alloc (Nat.le_refl _) _) hq0_3 | (simp [go_sem]; done))
  have hq1_4 : w4.cell? ⟨w2.heap.size, 1, none⟩ = some (.int .i64 34) := YtidnopmjhhmedaaDoor.cell_below hb (by first | exact hq1_3 | exact YtidnopmjhhmedaaDoor.cell_below ((Below.refl _ _).alloc (Nat.le_refl _) _) hq1_3 | (simp [go_sem]; done))
  clear hb
  go_wp2_with fail
  refine (ex_rule _).mono ?_
  rintro e w5 ⟨rfl, hb⟩
  have hB5 := below_step (by repeat (first | (with_reducible first | exact hB4 | apply below_alloc | apply pw_below_drewN | apply below_drew1) | exact hB4)) hb
  have hq0_5 : w5.cell? ⟨w2.heap.size, 0, none⟩ = some (.int .i64 (-23)) := YtidnopmjhhmedaaDoor.cell_below hb (by first | exact hq0_4 | exact YtidnopmjhhmedaaDoor.cell_below ((Below.refl _ _).alloc (Nat.le_refl _) _) hq0_4 | (simp [go_sem]; done))
  have hq1_5 : w5.cell? ⟨w2.heap.size, 1, none⟩ = some (.int .i64 34) := YtidnopmjhhmedaaDoor.cell_below hb (by first | exact hq1_4 | exact YtidnopmjhhmedaaDoor.cell_below ((Below.refl _ _).alloc (Nat.le_refl _) _) hq1_4 | (simp [go_sem]; done))
  clear hb
  go_wp2_with fail
  refine (ex_plan _ (hWays.below (by repeat (first | (with_reducible first | exact hB5 | apply below_alloc | apply pw_below_drewN | apply below_drew1) | exact hB5)))).mono ?_
  rintro e w6 ⟨A5, c5, rfl, hb⟩
  have hB6 := below_step (by repeat (first | (with_reducible first | exact hB5 | apply below_alloc | apply pw_below_drewN | apply below_drew1) | exact hB5)) hb
  have hq0_6 : w6.cell? ⟨w2.heap.size, 0, none⟩ = some (.int .i64 (-23)) := YtidnopmjhhmedaaDoor.cell_below hb (by first | exact hq0_5 | exact YtidnopmjhhmedaaDoor.cell_below ((Below.refl _ _).alloc (Nat.le_refl _) _) hq0_5 | (simp [go_sem]; done))
  have hq1_6 : w6.cell? ⟨w2.heap.size, 1, none⟩ = some (.int .i64 34) := YtidnopmjhhmedaaDoor.cell_below hb (by first | exact hq1_5 | exact YtidnopmjhhmedaaDoor.cell_below ((Below.refl _ _).alloc (Nat.le_refl _) _) hq1_5 | (simp [go_sem]; done))
  clear hb
  go_wp2_with fail
  refine (ex_rule _).mono ?_
  rintro e w7 ⟨rfl, hb⟩
  have hB7 := below_step (by repeat (first | (with_reducible first | exact hB6 | apply below_alloc | apply pw_below_drewN | apply below_drew1) | exact hB6)) hb
  have hq0_7 : w7.cell? ⟨w2.heap.size, 0, none⟩ = some (.int .i64 (-23)) := YtidnopmjhhmedaaDoor.cell_below hb (by first | exact hq0_6 | exact YtidnopmjhhmedaaDoor.cell_below ((Below.refl _ _).alloc (Nat.le_refl _) _) hq0_6 | (simp [go_sem]; done))
  have hq1_7 : w7.cell? ⟨w2.heap.size, 1, none⟩ = some (.int .i64 34) := YtidnopmjhhmedaaDoor.cell_below hb (by first | exact hq1_6 | exact YtidnopmjhhmedaaDoor.cell_below ((Below.refl _ _).alloc (Nat.le_refl _) _) hq1_6 | (simp [go_sem]; done))
  clear hb
  go_wp2_with fail
  refine (ex_isplan _ _ _ (hWays.below (by repeat (first | (with_reducible first | exact hB7 | apply below_alloc | apply pw_below_drewN | apply below_drew1) | exact hB7))) (C_lit _ [-4, -5, -5, -4, -2] 3 (by decide)) (by decide)).mono ?_
  rintro e w8 ⟨rfl, hb⟩
  have hB8 := below_step (by repeat (first | (with_reducible first | exact hB7 | apply below_alloc | apply pw_below_drewN | apply below_drew1) | exact hB7)) hb
  have hq0_8 : w8.cell? ⟨w2.heap.size, 0, none⟩ = some (.int .i64 (-23)) := YtidnopmjhhmedaaDoor.cell_below hb (by first | exact hq0_7 | exact YtidnopmjhhmedaaDoor.cell_below ((Below.refl _ _).alloc (Nat.le_refl _) _) hq0_7 | (simp [go_sem]; done))
  have hq1_8 : w8.cell? ⟨w2.heap.size, 1, none⟩ = some (.int .i64 34) := YtidnopmjhhmedaaDoor.cell_below hb (by first | exact hq1_7 | exact YtidnopmjhhmedaaDoor.cell_below ((Below.refl _ _).alloc (Nat.le_refl _) _) hq1_7 | (simp [go_sem]; done))
  clear hb
  go_wp2_with fail
  refine (ex_rule _).mono ?_
  rintro e w9 ⟨rfl, hb⟩
  have hB9 := below_step (by repeat (first | (with_reducible first | exact hB8 | apply below_alloc | apply pw_below_drewN | apply below_drew1) | exact hB8)) hb
  have hq0_9 : w9.cell? ⟨w2.heap.size, 0, none⟩ = some (.int .i64 (-23)) := YtidnopmjhhmedaaDoor.cell_below hb (by first | exact hq0_8 | exact YtidnopmjhhmedaaDoor.cell_below ((Below.refl _ _).alloc (Nat.le_refl _) _) hq0_8 | (simp [go_sem]; done))
  have hq1_9 : w9.cell? ⟨w2.heap.size, 1, none⟩ = some (.int .i64 34) := YtidnopmjhhmedaaDoor.cell_below hb (by first | exact hq1_8 | exact YtidnopmjhhmedaaDoor.cell_below ((Below.refl _ _).alloc (Nat.le_refl _) _) hq1_8 | (simp [go_sem]; done))
  clear hb
  go_wp2_with fail
  refine (ex_shown _ _ _ (hWays.below (by repeat (first | (with_reducible first | exact hB9 | apply below_alloc | apply pw_below_drewN | apply below_drew1) | exact hB9))) (C_lit _ [4, 8] 3 (by decide)) (by decide)).mono ?_
  rintro e w10 ⟨A9, c9, rfl, h9, hc9, hb⟩
  have hB10 := below_step (by repeat (first | (with_reducible first | exact hB9 | apply below_alloc | apply pw_below_drewN | apply below_drew1) | exact hB9)) hb
  have hq0_10 : w10.cell? ⟨w2.heap.size, 0, none⟩ = some (.int .i64 (-23)) := YtidnopmjhhmedaaDoor.cell_below hb (by first | exact hq0_9 | exact YtidnopmjhhmedaaDoor.cell_below ((Below.refl _ _).alloc (Nat.le_refl _) _) hq0_9 | (simp [go_sem]; done))
  have hq1_10 : w10.cell? ⟨w2.heap.size, 1, none⟩ = some (.int .i64 34) := YtidnopmjhhmedaaDoor.cell_below hb (by first | exact hq1_9 | exact YtidnopmjhhmedaaDoor.cell_below ((Below.refl _ _).alloc (Nat.le_refl _) _) hq1_9 | (simp [go_sem]; done))
  clear hb
  go_wp2_with fail
  go_region_held3 (fun W : World => (W.cell? ⟨w2.heap.size, 0, none⟩ = some (.int .i64 (-23)) ∧ W.cell? ⟨w2.heap.size, 1, none⟩ = some (.int .i64 34)) ∧ WK w A9 W)
    (first | with_reducible exact wk_call (by assumption) (by assumption) | with_reducible exact wk_alloc (by assumption) | with_reducible exact wk_drewN (by assumption) | exact wk_alloc ⟨⟨by assumption, by assumption⟩, by assumption⟩ | exact ⟨⟨hq0_10, hq1_10⟩, (WK.mk h9 hB10).drew⟩ | assumption)
    (first | (go_at_call 49; refine (remontoirref00_To.calls _ _ _ _ _ rfl).mono ?_; rintro e wT ⟨rfl, hbT⟩) | (go_at_call 26; rename_i hx _ _; refine (remontoirref00_Alike.calls 10 _ _ [7000, 8004, 9012] _ _ [7000, 8004, 9012] true _ hx.2.c9 hc9 (by first | exact C_lit _ [7000, 8004, 9012] 3 (by decide) | exact Kd.C_below (C_lit _ [7000, 8004, 9012] 3 (by decide)) hbT) (by decide) (by decide +kernel)).mono ?_; rintro e w' ⟨rfl, ⟨nd, rfl⟩⟩))
  rename_i hh
  have hB0 := hh.2.bel
  clear hh h9 hc9 hq0_10 hq1_10 hB
  clear hB1 hB2 hB3 hB4 hB5 hB6 hB7 hB8 hB9 hB10
  have hB := hB0
  clear hB0
  go_wp2_with fail
  refine (ex_book _).mono ?_
  rintro e x1 ⟨B1, d1, C1, f1, rfl, g1, gc1, k1, kc1, hb⟩
  have hD1 := below_step (by repeat (first | (with_reducible first | exact hB | apply below_alloc | apply pw_below_drewN | apply below_drew1) | exact hB)) hb
  clear hb
  go_wp2_with fail
  refine (ex_err B1 C1 d1 f1 _ (hWays.below (by repeat (first | (with_reducible first | exact hD1 | apply below_alloc | apply pw_below_drewN | apply below_drew1) | exact hD1))) g1 gc1 k1 kc1).mono ?_
  rintro e x2 ⟨rfl, hb⟩
  have hD2 := below_step (by repeat (first | (with_reducible first | exact hD1 | apply below_alloc | apply pw_below_drewN | apply below_drew1) | exact hD1)) hb
  clear hb
  go_wp2_with fail
  refine (ex_book _).mono ?_
  rintro e x3 ⟨B3, d3, C3, f3, rfl, g3, gc3, k3, kc3, hb⟩
  have hD3 := below_step (by repeat (first | (with_reducible first | exact hD2 | apply below_alloc | apply pw_below_drewN | apply below_drew1) | exact hD2)) hb
  have hr0_3 : x3.cell? ⟨x2.heap.size, 0, none⟩ = some (.int .i64 2) := YtidnopmjhhmedaaDoor.cell_below hb (by first | exact hr0_2 | exact YtidnopmjhhmedaaDoor.cell_below ((Below.refl _ _).alloc (Nat.le_refl _) _) hr0_2 | (simp [go_sem]; done))
  have hr1_3 : x3.cell? ⟨x2.heap.size, 1, none⟩ = some (.int .i64 7) := YtidnopmjhhmedaaDoor.cell_below hb (by first | exact hr1_2 | exact YtidnopmjhhmedaaDoor.cell_below ((Below.refl _ _).alloc (Nat.le_refl _) _) hr1_2 | (simp [go_sem]; done))
  clear hb
  go_wp2_with fail
  refine (ex_stated B3 C3 d3 f3 _ (hWays.below (by repeat (first | (with_reducible first | exact hD3 | apply below_alloc | apply pw_below_drewN | apply below_drew1) | exact hD3))) g3 gc3 k3 kc3).mono ?_
  rintro e x4 ⟨rfl, hb⟩
  have hD4 := below_step (by repeat (first | (with_reducible first | exact hD3 | apply below_alloc | apply pw_below_drewN | apply below_drew1) | exact hD3)) hb
  have hr0_4 : x4.cell? ⟨x2.heap.size, 0, none⟩ = some (.int .i64 2) := YtidnopmjhhmedaaDoor.cell_below hb (by first | exact hr0_3 | exact YtidnopmjhhmedaaDoor.cell_below ((Below.refl _ _).alloc (Nat.le_refl _) _) hr0_3 | (simp [go_sem]; done))
  have hr1_4 : x4.cell? ⟨x2.heap.size, 1, none⟩ = some (.int .i64 7) := YtidnopmjhhmedaaDoor.cell_below hb (by first | exact hr1_3 | exact YtidnopmjhhmedaaDoor.cell_below ((Below.refl _ _).alloc (Nat.le_refl _) _) hr1_3 | (simp [go_sem]; done))
  clear hb
  go_wp2_with fail
  refine (ex_book _).mono ?_
  rintro e x5 ⟨B5, d5, C5, f5, rfl, g5, gc5, k5, kc5, hb⟩
  have hD5 := below_step (by repeat (first | (with_reducible first | exact hD4 | apply below_alloc | apply pw_below_drewN | apply below_drew1) | exact hD4)) hb
  have hr0_5 : x5.cell? ⟨x2.heap.size, 0, none⟩ = some (.int .i64 2) := YtidnopmjhhmedaaDoor.cell_below hb (by first | exact hr0_4 | exact YtidnopmjhhmedaaDoor.cell_below ((Below.refl _ _).alloc (Nat.le_refl _) _) hr0_4 | (simp [go_sem]; done))
  have hr1_5 : x5.cell? ⟨x2.heap.size, 1, none⟩ = some (.int .i64 7) := YtidnopmjhhmedaaDoor.cell_below hb (by first | exact hr1_4 | exact YtidnopmjhhmedaaDoor.cell_below ((Below.refl _ _).alloc (Nat.le_refl _) _) hr1_4 | (simp [go_sem]; done))
  clear hb
  go_wp2_with fail
  refine (ex_worst B5 C5 d5 f5 _ (hWays.below (by repeat (first | (with_reducible first | exact hD5 | apply below_alloc | apply pw_below_drewN | apply below_drew1) | exact hD5))) g5 gc5 k5 kc5).mono ?_
  rintro e x6 ⟨rfl, hb⟩
  have hD6 := below_step (by repeat (first | (with_reducible first | exact hD5 | apply below_alloc | apply pw_below_drewN | apply below_drew1) | exact hD5)) hb
  have hr0_6 : x6.cell? ⟨x2.heap.size, 0, none⟩ = some (.int .i64 2) := YtidnopmjhhmedaaDoor.cell_below hb (by first | exact hr0_5 | exact YtidnopmjhhmedaaDoor.cell_below ((Below.refl _ _).alloc (Nat.le_refl _) _) hr0_5 | (simp [go_sem]; done))
  have hr1_6 : x6.cell? ⟨x2.heap.size, 1, none⟩ = some (.int .i64 7) := YtidnopmjhhmedaaDoor.cell_below hb (by first | exact hr1_5 | exact YtidnopmjhhmedaaDoor.cell_below ((Below.refl _ _).alloc (Nat.le_refl _) _) hr1_5 | (simp [go_sem]; done))
  clear hb
  go_wp2_with fail
  refine (ex_book _).mono ?_
  rintro e x7 ⟨B7, d7, C7, f7, rfl, g7, gc7, k7, kc7, hb⟩
  have hD7 := below_step (by repeat (first | (with_reducible first | exact hD6 | apply below_alloc | apply pw_below_drewN | apply below_drew1) | exact hD6)) hb
  have hr0_7 : x7.cell? ⟨x2.heap.size, 0, none⟩ = some (.int .i64 2) := YtidnopmjhhmedaaDoor.cell_below hb (by first | exact hr0_6 | exact YtidnopmjhhmedaaDoor.cell_below ((Below.refl _ _).alloc (Nat.le_refl _) _) hr0_6 | (simp [go_sem]; done))
  have hr1_7 : x7.cell? ⟨x2.heap.size, 1, none⟩ = some (.int .i64 7) := YtidnopmjhhmedaaDoor.cell_below hb (by first | exact hr1_6 | exact YtidnopmjhhmedaaDoor.cell_below ((Below.refl _ _).alloc (Nat.le_refl _) _) hr1_6 | (simp [go_sem]; done))
  clear hb
  go_wp2_with fail
  refine (ex_meets B7 C7 d7 f7 _ (hWays.below (by repeat (first | (with_reducible first | exact hD7 | apply below_alloc | apply pw_below_drewN | apply below_drew1) | exact hD7))) g7 gc7 k7 kc7).mono ?_
  rintro e x8 ⟨rfl, hb⟩
  have hD8 := below_step (by repeat (first | (with_reducible first | exact hD7 | apply below_alloc | apply pw_below_drewN | apply below_drew1) | exact hD7)) hb
  have hr0_8 : x8.cell? ⟨x2.heap.size, 0, none⟩ = some (.int .i64 2) := YtidnopmjhhmedaaDoor.cell_below hb (by first | exact hr0_7 | exact YtidnopmjhhmedaaDoor.cell_below ((Below.refl _ _).alloc (Nat.le_refl _) _) hr0_7 | (simp [go_sem]; done))
  have hr1_8 : x8.cell? ⟨x2.heap.size, 1, none⟩ = some (.int .i64 7) := YtidnopmjhhmedaaDoor.cell_below hb (by first | exact hr1_7 | exact YtidnopmjhhmedaaDoor.cell_below ((Below.refl _ _).alloc (Nat.le_refl _) _) hr1_7 | (simp [go_sem]; done))
  clear hb
  go_wp2_with fail
  go_region_held3 (fun W : World => (W.cell? ⟨x2.heap.size, 0, none⟩ = some (.int .i64 2) ∧ W.cell? ⟨x2.heap.size, 1, none⟩ = some (.int .i64 7)) ∧ Below w.heap.size w W)
    (first | with_reducible exact wb_call (by assumption) (by assumption) | exact ⟨⟨hr0_8, hr1_8⟩, hD8.drew⟩ | assumption)
    (first | (go_at_call 49; refine (remontoirref00_To.calls _ _ _ _ _ rfl).mono ?_; rintro e wT ⟨rfl, hbT⟩) | (go_at_call 52; refine (ex_book _).mono ?_; rintro e wb ⟨A6, c6, A7, c7, rfl, h6, hc6, h7, hc7, hbb⟩) | (go_at_call 29; rename_i hx _ _; refine (ex_check A6 A7 c6 c7 _ (hWays.below hx.2) h6 hc6 h7 hc7).mono ?_; rintro e wc ⟨rfl, hbc⟩))
  rename_i hh
  go_wp2_with fail
  go_ret
  exact ⟨rfl, hh.2⟩

/-- What the print takes for the examples: they work. -/
def remontoirlaw04_works.f : Option Bool := some true
theorem remontoirlaw04_works.calls (r : Bool) (w : World) (hWays : Go.Proofs.YtidnopmjhhmedaaDoor.Ways w) (h : remontoirlaw04_works.f = some r) : Calls Tryd.prog 21 #[] w fun e w' => e = .returned (.bool r) ∧ Below w.heap.size w w' := by
  obtain rfl : true = r := Option.some.inj h
  exact works_calls w hWays

end Go.Proofs.TrydX.X
end

section
-- Written by wip/tools/pr.py (a program of this repo over the kit's print.py).
namespace Go.Proofs.TrydX.X
open Go.RowKit Go.Proofs.YtidnopmjhhmedaaDoorW.PrintWords Go.Proofs.YtidnopmjhhmedaaDoorW.PrintLast Go.Proofs.YtidnopmjhhmedaaDoorW.PrintMore
attribute [local go_sem] max2_int min2_int max_two min_two max_three min_three max_four min_four   -- for this text's walks alone
set_option linter.unusedVariables false
set_option linter.unusedSimpArgs false

attribute [local go_sem high] eqA23
/-! ### remontoirlaw04_ScaleReaches: function 4 -/
def remontoirlaw04_ScaleReaches.j0 : Nat → List Int → Bool → Int → Int → Int → Int → Int → Int → Int → Option (Bool)
  | 0, _, _, _, _, _, _, _, _, _ => none
  | k + 1, x2, x34, x187000, x187001, x187002, x187003, x187004, x188000, x188001 => if x34 = true then (some false) else ((scale_Shown.f x187000 x187001 x187002 x187003 x187004 x188001 x2).bind fun bt196 => ((remontoirref04_Shown.f k x187000 x187001 x187002 x187003 x187004 x188001 x2).bind fun bt200 => ((remontoirref00_Alike.f k bt196.1 bt200.1).bind fun t204 => (if t204 = true then (if bt196.2 = bt200.2 then ((remontoirlaw04_works.f).bind fun t205 => (some t205)) else (some false)) else (some false)))))
def remontoirlaw04_ScaleReaches.f (k : Nat) (a0_0 : Int) (a0_1 : Int) (a0_2 : Int) (a0_3 : Int) (a0_4 : Int) (a1_0 : Int) (a1_1 : Int) (l2 : List Int) : Option (Bool) := (scale_Reach.f a0_0 a0_1 a0_2 a0_3 a0_4 a1_0).bind fun bt188 => ((remontoirref04_Reach.f k a0_0 a0_1 a0_2 a0_3 a0_4 a1_0).bind fun bt192 => (if (!(bt188.1 == bt192.1) || (!(bt188.2.1 == bt192.2.1))) = true then (remontoirlaw04_ScaleReaches.j0 k l2 true a0_0 a0_1 a0_2 a0_3 a0_4 a1_0 a1_1) else (remontoirlaw04_ScaleReaches.j0 k l2 (bt188.2.2 != bt192.2.2) a0_0 a0_1 a0_2 a0_3 a0_4 a1_0 a1_1)))
set_option maxHeartbeats 8000000 in
set_option maxRecDepth 100000 in
theorem remontoirlaw04_ScaleReaches.calls (k : Nat) (a0_0 : Int) (a0_1 : Int) (a0_2 : Int) (a0_3 : Int) (a0_4 : Int) (a1_0 : Int) (a1_1 : Int) (A2 : Option Addr) (c2 : Nat) (l2 : List Int) (r : Bool) (w : World) (hr2 : Kd.C (Kd.int .i64) w A2 l2.length l2) (hc2 : l2.length ≤ c2) (hWays : Go.Proofs.YtidnopmjhhmedaaDoor.Ways w) (h : remontoirlaw04_ScaleReaches.f k a0_0 a0_1 a0_2 a0_3 a0_4 a1_0 a1_1 l2 = some r) :
    Calls Tryd.prog 4 #[.agg #[.int .i64 a0_0, .int .i64 a0_1, .int .i64 a0_2, .int .i64 a0_3, .int .i64 a0_4], .agg #[.int .i64 a1_0, .int .i64 a1_1], .slice A2 l2.length c2] w fun e w' => e = .returned (.bool r) ∧ Below w.heap.size w w' := by
  have hu25 := Tryd.underlying25
  have hu36 := Tryd.underlying36
  have hu23 := Tryd.underlying23
  have HR2 := Aside0.mk hr2
  have HC2 := Aside0.mk hc2
  clear hr2 hc2
  have HB := Aside0.mk (Below.refl w.heap.size w)
  have HWays := Aside0.mk hWays
  clear hWays
  have H : ((scale_Reach.f a0_0 a0_1 a0_2 a0_3 a0_4 a1_0).bind fun bt188 => ((remontoirref04_Reach.f k a0_0 a0_1 a0_2 a0_3 a0_4 a1_0).bind fun bt192 => (if (!(bt188.1 == bt192.1) || (!(bt188.2.1 == bt192.2.1))) = true then (remontoirlaw04_ScaleReaches.j0 k l2 true a0_0 a0_1 a0_2 a0_3 a0_4 a1_0 a1_1) else (remontoirlaw04_ScaleReaches.j0 k l2 (bt188.2.2 != bt192.2.2) a0_0 a0_1 a0_2 a0_3 a0_4 a1_0 a1_1)))) = some r := h
  clear h
  replace H := Option.bind_eq_some_iff.mp H
  obtain ⟨⟨t188, t189, t190⟩, A40, H⟩ := H
  replace H : ((remontoirref04_Reach.f k a0_0 a0_1 a0_2 a0_3 a0_4 a1_0).bind fun bt192 => (if (!(t188 == bt192.1) || (!(t189 == bt192.2.1))) = true then (remontoirlaw04_ScaleReaches.j0 k l2 true a0_0 a0_1 a0_2 a0_3 a0_4 a1_0 a1_1) else (remontoirlaw04_ScaleReaches.j0 k l2 (t190 != bt192.2.2) a0_0 a0_1 a0_2 a0_3 a0_4 a1_0 a1_1))) = some r := H
  have A4 := Aside0.mk A40
  clear A40
  replace H := Option.bind_eq_some_iff.mp H
  obtain ⟨⟨t192, t193, t194⟩, A50, H⟩ := H
  replace H : (if (!(t188 == t192) || (!(t189 == t193))) = true then (remontoirlaw04_ScaleReaches.j0 k l2 true a0_0 a0_1 a0_2 a0_3 a0_4 a1_0 a1_1) else (remontoirlaw04_ScaleReaches.j0 k l2 (t190 != t194) a0_0 a0_1 a0_2 a0_3 a0_4 a1_0 a1_1)) = some r := H
  have A5 := Aside0.mk A50
  clear A50
  have HC6 := Aside0.mk H
  clear H
  go_enter Tryd.func4, Tryd.ntmps4
  go_upto_region 3 with (first | ((with_reducible refine gate_dst (N := 3) rfl ?_); refine box_event ?hg (N := 3) ?hd (cs := #[.int .i64 a0_0, .int .i64 a0_1, .int .i64 a0_2, .int .i64 a0_3, .int .i64 a0_4]) (t := 25) ?hr ?_; (case hd => rfl); (case hg => rfl); (case hr => first | (go_simp; done) | (go_simp; rfl)); intro gb186 hg w7 hbox hb; have n0_ := Aside0.mk (below_step (by repeat (first | (with_reducible first | exact HB.out | apply below_alloc | apply pw_below_drewN | apply below_drew1) | exact HB.out)) hb); have n1_ := Aside0.mk (hbox); have n2_ := Aside0.mk ((by rw [hg]; exact (below_size (by repeat (first | (with_reducible first | exact HB.out | apply below_alloc | apply pw_below_drewN | apply below_drew1) | exact HB.out))) : w.heap.size ≤ gb186)); have n3_ := Aside0.mk ((by rw [hg]; exact (below_size (by repeat (first | (with_reducible first | exact HB.out | apply below_alloc | apply pw_below_drewN | apply below_drew1) | exact HB.out))) : w.heap.size ≤ gb186)); clear HB; have HB := n0_; have BK186 := n1_; have GW186 := n2_; have GE186 := n3_; clear n0_ n1_ n2_ n3_; clear hb hbox hg) | ((with_reducible refine gate_dst (N := 4) rfl ?_); refine box_event ?hg (N := 4) ?hd (cs := #[.int .i64 a1_0, .int .i64 a1_1]) (t := 36) ?hr ?_; (case hd => rfl); (case hg => rfl); (case hr => first | (go_simp; done) | (go_simp; rfl)); intro gb187 hg w8 hbox hb; have n0_ := Aside0.mk (blk_below (g := gb186) (o := .cells #[.int .i64 a0_0, .int .i64 a0_1, .int .i64 a0_2, .int .i64 a0_3, .int .i64 a0_4] 25 (0, 0)) (by (with_reducible repeat (first | refine blk_drewN ?_ _ | refine blk_drew ?_ | refine blk_alloc ?_ _)); exact BK186.out) hb); have n1_ := Aside0.mk (below_step (by repeat (first | (with_reducible first | exact HB.out | apply below_alloc | apply pw_below_drewN | apply below_drew1 | refine below_set ?_ GE186.out) | exact HB.out)) hb); have n2_ := Aside0.mk (hbox); have n3_ := Aside0.mk ((by rw [hg]; exact (below_size (by repeat (first | (with_reducible first | exact HB.out | apply below_alloc | apply pw_below_drewN | apply below_drew1 | refine below_set ?_ GE186.out) | exact HB.out))) : w.heap.size ≤ gb187)); have n4_ := Aside0.mk ((by rw [hg]; exact (below_size (by repeat (first | (with_reducible first | exact HB.out | apply below_alloc | apply pw_below_drewN | apply below_drew1 | refine below_set ?_ GE186.out) | exact HB.out))) : w.heap.size ≤ gb187)); have n5_ := Aside0.mk ((by rw [hg]; exact Nat.ne_of_lt (blk_lt (g := gb186) (o := .cells #[.int .i64 a0_0, .int .i64 a0_1, .int .i64 a0_2, .int .i64 a0_3, .int .i64 a0_4] 25 (0, 0)) (by (with_reducible repeat (first | refine blk_drewN ?_ _ | refine blk_drew ?_ | refine blk_alloc ?_ _)); exact BK186.out)) : gb186 ≠ gb187)); have n6_ := Aside0.mk ((by rw [hg]; exact Nat.ne_of_gt (blk_lt (g := gb186) (o := .cells #[.int .i64 a0_0, .int .i64 a0_1, .int .i64 a0_2, .int .i64 a0_3, .int .i64 a0_4] 25 (0, 0)) (by (with_reducible repeat (first | refine blk_drewN ?_ _ | refine blk_drew ?_ | refine blk_alloc ?_ _)); exact BK186.out)) : gb187 ≠ gb186)); clear BK186; clear HB; have BK186 := n0_; have HB := n1_; have BK187 := n2_; have GW187 := n3_; have GE187 := n4_; have NB186_187 := n5_; have NB187_186 := n6_; clear n0_ n1_ n2_ n3_ n4_ n5_ n6_; clear hb hbox hg; have hnb9 := NB186_187.out; have hnc9 := NB187_186.out; have hcz10_0 : w8.cell? ⟨gb186, 0, none⟩ = some (.int .i64 a0_0) := (blk_cell BK186.out 0).trans rfl; have hcz10_1 : w8.cell? ⟨gb186, 1, none⟩ = some (.int .i64 a0_1) := (blk_cell BK186.out 1).trans rfl; have hcz10_2 : w8.cell? ⟨gb186, 2, none⟩ = some (.int .i64 a0_2) := (blk_cell BK186.out 2).trans rfl; have hcz10_3 : w8.cell? ⟨gb186, 3, none⟩ = some (.int .i64 a0_3) := (blk_cell BK186.out 3).trans rfl; have hcz10_4 : w8.cell? ⟨gb186, 4, none⟩ = some (.int .i64 a0_4) := (blk_cell BK186.out 4).trans rfl; have hfz10_0 := blk_frozen BK186.out 0; have hfz10_1 := blk_frozen BK186.out 1; have hfz10_2 := blk_frozen BK186.out 2; have hfz10_3 := blk_frozen BK186.out 3; have hfz10_4 := blk_frozen BK186.out 4; have hcz11_0 : w8.cell? ⟨gb187, 0, none⟩ = some (.int .i64 a1_0) := (blk_cell BK187.out 0).trans rfl; have hcz11_1 : w8.cell? ⟨gb187, 1, none⟩ = some (.int .i64 a1_1) := (blk_cell BK187.out 1).trans rfl; have hfz11_0 := blk_frozen BK187.out 0; have hfz11_1 := blk_frozen BK187.out 1) | ((with_reducible refine gate_callee (f := 22) rfl ?_); refine goesL_ (some 17) rfl rfl Tryd.func22 (by kernel_rfl) rfl #[.agg #[.int .i64 a0_0, .int .i64 a0_1, .int .i64 a0_2, .int .i64 a0_3, .int .i64 a0_4], .int .i64 a1_0] rfl (by (try simp only [List.map_toArray, List.map_cons, List.map_nil]); first | done | rfl | (simp only [List.length_drop, List.length_take]; rfl)) ?_; (with_reducible refine (scale_Reach.calls a0_0 a0_1 a0_2 a0_3 a0_4 a1_0 t188 t189 t190 _ ?side1 A4.out).mono ?_); (case side1 => exact Go.Proofs.YtidnopmjhhmedaaDoor.Ways.below HWays.out (by repeat (first | (with_reducible first | exact HB.out | apply below_alloc | apply pw_below_drewN | apply below_drew1 | refine below_set ?_ GE186.out | refine below_set ?_ GE187.out) | exact HB.out))); rintro e w12 ⟨rfl, hb⟩; refine ⟨_, rfl, ?_⟩; have n0_ := Aside0.mk (blk_below (g := gb186) (o := .cells #[.int .i64 a0_0, .int .i64 a0_1, .int .i64 a0_2, .int .i64 a0_3, .int .i64 a0_4] 25 (0, 0)) (by (with_reducible repeat (first | refine blk_drewN ?_ _ | refine blk_drew ?_ | refine blk_alloc ?_ _)); exact BK186.out) hb); have n1_ := Aside0.mk (blk_below (g := gb187) (o := .cells #[.int .i64 a1_0, .int .i64 a1_1] 36 (0, 0)) (by (with_reducible repeat (first | refine blk_drewN ?_ _ | refine blk_drew ?_ | refine blk_alloc ?_ _)); exact BK187.out) hb); have n2_ := Aside0.mk (below_step (by repeat (first | (with_reducible first | exact HB.out | apply below_alloc | apply pw_below_drewN | apply below_drew1 | refine below_set ?_ GE186.out | refine below_set ?_ GE187.out) | exact HB.out)) hb); clear BK186; clear BK187; clear HB; have BK186 := n0_; have BK187 := n1_; have HB := n2_; clear n0_ n1_ n2_; (try clear hb); (try clear hb2); (try clear hk); (try clear hi)) | ((with_reducible refine gate_dst (N := 7) rfl ?_); refine box_event ?hg (N := 7) ?hd (cs := #[.int .i64 0, .int .i64 0]) (t := 23) ?hr ?_; (case hd => rfl); (case hg => rfl); (case hr => first | (go_simp; done) | (go_simp; rfl)); intro gb191 hg w13 hbox hb; have n0_ := Aside0.mk (blk_below (g := gb186) (o := .cells #[.int .i64 a0_0, .int .i64 a0_1, .int .i64 a0_2, .int .i64 a0_3, .int .i64 a0_4] 25 (0, 0)) (by (with_reducible repeat (first | refine blk_drewN ?_ _ | refine blk_drew ?_ | refine blk_alloc ?_ _)); exact BK186.out) hb); have n1_ := Aside0.mk (blk_below (g := gb187) (o := .cells #[.int .i64 a1_0, .int .i64 a1_1] 36 (0, 0)) (by (with_reducible repeat (first | refine blk_drewN ?_ _ | refine blk_drew ?_ | refine blk_alloc ?_ _)); exact BK187.out) hb); have n2_ := Aside0.mk (below_step (by repeat (first | (with_reducible first | exact HB.out | apply below_alloc | apply pw_below_drewN | apply below_drew1 | refine below_set ?_ GE186.out | refine below_set ?_ GE187.out) | exact HB.out)) hb); have n3_ := Aside0.mk (hbox); have n4_ := Aside0.mk ((by rw [hg]; exact (below_size (by repeat (first | (with_reducible first | exact HB.out | apply below_alloc | apply pw_below_drewN | apply below_drew1 | refine below_set ?_ GE186.out | refine below_set ?_ GE187.out) | exact HB.out))) : w.heap.size ≤ gb191)); have n5_ := Aside0.mk ((by rw [hg]; exact (below_size (by repeat (first | (with_reducible first | exact HB.out | apply below_alloc | apply pw_below_drewN | apply below_drew1 | refine below_set ?_ GE186.out | refine below_set ?_ GE187.out) | exact HB.out))) : w.heap.size ≤ gb191)); have n6_ := Aside0.mk ((by rw [hg]; exact Nat.ne_of_lt (blk_lt (g := gb186) (o := .cells #[.int .i64 a0_0, .int .i64 a0_1, .int .i64 a0_2, .int .i64 a0_3, .int .i64 a0_4] 25 (0, 0)) (by (with_reducible repeat (first | refine blk_drewN ?_ _ | refine blk_drew ?_ | refine blk_alloc ?_ _)); exact BK186.out)) : gb186 ≠ gb191)); have n7_ := Aside0.mk ((by rw [hg]; exact Nat.ne_of_gt (blk_lt (g := gb186) (o := .cells #[.int .i64 a0_0, .int .i64 a0_1, .int .i64 a0_2, .int .i64 a0_3, .int .i64 a0_4] 25 (0, 0)) (by (with_reducible repeat (first | refine blk_drewN ?_ _ | refine blk_drew ?_ | refine blk_alloc ?_ _)); exact BK186.out)) : gb191 ≠ gb186)); have n8_ := Aside0.mk ((by rw [hg]; exact Nat.ne_of_lt (blk_lt (g := gb187) (o := .cells #[.int .i64 a1_0, .int .i64 a1_1] 36 (0, 0)) (by (with_reducible repeat (first | refine blk_drewN ?_ _ | refine blk_drew ?_ | refine blk_alloc ?_ _)); exact BK187.out)) : gb187 ≠ gb191)); have n9_ := Aside0.mk ((by rw [hg]; exact Nat.ne_of_gt (blk_lt (g := gb187) (o := .cells #[.int .i64 a1_0, .int .i64 a1_1] 36 (0, 0)) (by (with_reducible repeat (first | refine blk_drewN ?_ _ | refine blk_drew ?_ | refine blk_alloc ?_ _)); exact BK187.out)) : gb191 ≠ gb187)); clear BK186; clear BK187; clear HB; have BK186 := n0_; have BK187 := n1_; have HB := n2_; have BK191 := n3_; have GW191 := n4_; have GE191 := n5_; have NB186_191 := n6_; have NB191_186 := n7_; have NB187_191 := n8_; have NB191_187 := n9_; clear n0_ n1_ n2_ n3_ n4_ n5_ n6_ n7_ n8_ n9_; clear hb hbox hg; have hnb14 := NB191_186.out; have hnc14 := NB186_191.out; have hnb15 := NB191_187.out; have hnc15 := NB187_191.out; have hcz16_0 : w13.cell? ⟨gb191, 0, none⟩ = some (.int .i64 0) := (blk_cell BK191.out 0).trans rfl; have hcz16_1 : w13.cell? ⟨gb191, 1, none⟩ = some (.int .i64 0) := (blk_cell BK191.out 1).trans rfl; have hfz16_0 := blk_frozen BK191.out 0; have hfz16_1 := blk_frozen BK191.out 1; have hcz17_0 : w13.cell? ⟨gb186, 0, none⟩ = some (.int .i64 a0_0) := (blk_cell BK186.out 0).trans rfl; have hcz17_1 : w13.cell? ⟨gb186, 1, none⟩ = some (.int .i64 a0_1) := (blk_cell BK186.out 1).trans rfl; have hcz17_2 : w13.cell? ⟨gb186, 2, none⟩ = some (.int .i64 a0_2) := (blk_cell BK186.out 2).trans rfl; have hcz17_3 : w13.cell? ⟨gb186, 3, none⟩ = some (.int .i64 a0_3) := (blk_cell BK186.out 3).trans rfl; have hcz17_4 : w13.cell? ⟨gb186, 4, none⟩ = some (.int .i64 a0_4) := (blk_cell BK186.out 4).trans rfl; have hfz17_0 := blk_frozen BK186.out 0; have hfz17_1 := blk_frozen BK186.out 1; have hfz17_2 := blk_frozen BK186.out 2; have hfz17_3 := blk_frozen BK186.out 3; have hfz17_4 := blk_frozen BK186.out 4; have hcz18_0 : w13.cell? ⟨gb187, 0, none⟩ = some (.int .i64 a1_0) := (blk_cell BK187.out 0).trans rfl; have hcz18_1 : w13.cell? ⟨gb187, 1, none⟩ = some (.int .i64 a1_1) := (blk_cell BK187.out 1).trans rfl; have hfz18_0 := blk_frozen BK187.out 0; have hfz18_1 := blk_frozen BK187.out 1) | ((with_reducible refine gate_callee (f := 23) rfl ?_); refine goesL_ (some 24) rfl rfl Tryd.func23 (by kernel_rfl) rfl #[.agg #[.int .i64 a0_0, .int .i64 a0_1, .int .i64 a0_2, .int .i64 a0_3, .int .i64 a0_4], .int .i64 a1_0] rfl (by (try simp only [List.map_toArray, List.map_cons, List.map_nil]); first | done | rfl | (simp only [List.length_drop, List.length_take]; rfl)) ?_; (with_reducible refine (remontoirref04_Reach.calls k a0_0 a0_1 a0_2 a0_3 a0_4 a1_0 t192 t193 t194 _ A5.out).mono ?_); rintro e w19 ⟨rfl, hb⟩; refine ⟨_, rfl, ?_⟩; have n0_ := Aside0.mk (blk_below (g := gb186) (o := .cells #[.int .i64 a0_0, .int .i64 a0_1, .int .i64 a0_2, .int .i64 a0_3, .int .i64 a0_4] 25 (0, 0)) (by (with_reducible repeat (first | refine blk_drewN ?_ _ | refine blk_drew ?_ | refine blk_alloc ?_ _)); refine blk_far ?_ NB186_191.out _; (with_reducible repeat (first | refine blk_drewN ?_ _ | refine blk_drew ?_ | refine blk_alloc ?_ _)); refine blk_far ?_ NB186_191.out _; (with_reducible repeat (first | refine blk_drewN ?_ _ | refine blk_drew ?_ | refine blk_alloc ?_ _)); exact BK186.out) hb); have n1_ := Aside0.mk (blk_below (g := gb187) (o := .cells #[.int .i64 a1_0, .int .i64 a1_1] 36 (0, 0)) (by (with_reducible repeat (first | refine blk_drewN ?_ _ | refine blk_drew ?_ | refine blk_alloc ?_ _)); refine blk_far ?_ NB187_191.out _; (with_reducible repeat (first | refine blk_drewN ?_ _ | refine blk_drew ?_ | refine blk_alloc ?_ _)); refine blk_far ?_ NB187_191.out _; (with_reducible repeat (first | refine blk_drewN ?_ _ | refine blk_drew ?_ | refine blk_alloc ?_ _)); exact BK187.out) hb); have n2_ := Aside0.mk (blk_below (g := gb191) (o := .cells #[.int .i64 t188, .int .i64 t189] 23 (0, 0)) (by (with_reducible repeat (first | refine blk_drewN ?_ _ | refine blk_drew ?_ | refine blk_alloc ?_ _)); refine blk_put (cs := #[.int .i64 t188, .int .i64 0]) ?_ 1 _ rfl; (with_reducible repeat (first | refine blk_drewN ?_ _ | refine blk_drew ?_ | refine blk_alloc ?_ _)); refine blk_put (cs := #[.int .i64 0, .int .i64 0]) ?_ 0 _ rfl; (with_reducible repeat (first | refine blk_drewN ?_ _ | refine blk_drew ?_ | refine blk_alloc ?_ _)); exact BK191.out) hb); have n3_ := Aside0.mk (below_step (by repeat (first | (with_reducible first | exact HB.out | apply below_alloc | apply pw_below_drewN | apply below_drew1 | refine below_set ?_ GE186.out | refine below_set ?_ GE187.out | refine below_set ?_ GE191.out) | exact HB.out)) hb); clear BK186; clear BK187; clear BK191; clear HB; have BK186 := n0_; have BK187 := n1_; have BK191 := n2_; have HB := n3_; clear n0_ n1_ n2_ n3_; (try clear hb); (try clear hb2); (try clear hk); (try clear hi)) | ((with_reducible refine gate_dst (N := 9) rfl ?_); refine box_event ?hg (N := 9) ?hd (cs := #[.int .i64 0, .int .i64 0]) (t := 23) ?hr ?_; (case hd => rfl); (case hg => rfl); (case hr => first | (go_simp; done) | (go_simp; rfl)); intro gb195 hg w20 hbox hb; have n0_ := Aside0.mk (blk_below (g := gb186) (o := .cells #[.int .i64 a0_0, .int .i64 a0_1, .int .i64 a0_2, .int .i64 a0_3, .int .i64 a0_4] 25 (0, 0)) (by (with_reducible repeat (first | refine blk_drewN ?_ _ | refine blk_drew ?_ | refine blk_alloc ?_ _)); exact BK186.out) hb); have n1_ := Aside0.mk (blk_below (g := gb187) (o := .cells #[.int .i64 a1_0, .int .i64 a1_1] 36 (0, 0)) (by (with_reducible repeat (first | refine blk_drewN ?_ _ | refine blk_drew ?_ | refine blk_alloc ?_ _)); exact BK187.out) hb); have n2_ := Aside0.mk (blk_below (g := gb191) (o := .cells #[.int .i64 t188, .int .i64 t189] 23 (0, 0)) (by (with_reducible repeat (first | refine blk_drewN ?_ _ | refine blk_drew ?_ | refine blk_alloc ?_ _)); exact BK191.out) hb); have n3_ := Aside0.mk (below_step (by repeat (first | (with_reducible first | exact HB.out | apply below_alloc | apply pw_below_drewN | apply below_drew1 | refine below_set ?_ GE186.out | refine below_set ?_ GE187.out | refine below_set ?_ GE191.out) | exact HB.out)) hb); have n4_ := Aside0.mk (hbox); have n5_ := Aside0.mk ((by rw [hg]; exact (below_size (by repeat (first | (with_reducible first | exact HB.out | apply below_alloc | apply pw_below_drewN | apply below_drew1 | refine below_set ?_ GE186.out | refine below_set ?_ GE187.out | refine below_set ?_ GE191.out) | exact HB.out))) : w.heap.size ≤ gb195)); have n6_ := Aside0.mk ((by rw [hg]; exact (below_size (by repeat (first | (with_reducible first | exact HB.out | apply below_alloc | apply pw_below_drewN | apply below_drew1 | refine below_set ?_ GE186.out | refine below_set ?_ GE187.out | refine below_set ?_ GE191.out) | exact HB.out))) : w.heap.size ≤ gb195)); have n7_ := Aside0.mk ((by rw [hg]; exact Nat.ne_of_lt (blk_lt (g := gb186) (o := .cells #[.int .i64 a0_0, .int .i64 a0_1, .int .i64 a0_2, .int .i64 a0_3, .int .i64 a0_4] 25 (0, 0)) (by (with_reducible repeat (first | refine blk_drewN ?_ _ | refine blk_drew ?_ | refine blk_alloc ?_ _)); exact BK186.out)) : gb186 ≠ gb195)); have n8_ := Aside0.mk ((by rw [hg]; exact Nat.ne_of_gt (blk_lt (g := gb186) (o := .cells #[.int .i64 a0_0, .int .i64 a0_1, .int .i64 a0_2, .int .i64 a0_3, .int .i64 a0_4] 25 (0, 0)) (by (with_reducible repeat (first | refine blk_drewN ?_ _ | refine blk_drew ?_ | refine blk_alloc ?_ _)); exact BK186.out)) : gb195 ≠ gb186)); have n9_ := Aside0.mk ((by rw [hg]; exact Nat.ne_of_lt (blk_lt (g := gb187) (o := .cells #[.int .i64 a1_0, .int .i64 a1_1] 36 (0, 0)) (by (with_reducible repeat (first | refine blk_drewN ?_ _ | refine blk_drew ?_ | refine blk_alloc ?_ _)); exact BK187.out)) : gb187 ≠ gb195)); have n10_ := Aside0.mk ((by rw [hg]; exact Nat.ne_of_gt (blk_lt (g := gb187) (o := .cells #[.int .i64 a1_0, .int .i64 a1_1] 36 (0, 0)) (by (with_reducible repeat (first | refine blk_drewN ?_ _ | refine blk_drew ?_ | refine blk_alloc ?_ _)); exact BK187.out)) : gb195 ≠ gb187)); have n11_ := Aside0.mk ((by rw [hg]; exact Nat.ne_of_lt (blk_lt (g := gb191) (o := .cells #[.int .i64 t188, .int .i64 t189] 23 (0, 0)) (by (with_reducible repeat (first | refine blk_drewN ?_ _ | refine blk_drew ?_ | refine blk_alloc ?_ _)); exact BK191.out)) : gb191 ≠ gb195)); have n12_ := Aside0.mk ((by rw [hg]; exact Nat.ne_of_gt (blk_lt (g := gb191) (o := .cells #[.int .i64 t188, .int .i64 t189] 23 (0, 0)) (by (with_reducible repeat (first | refine blk_drewN ?_ _ | refine blk_drew ?_ | refine blk_alloc ?_ _)); exact BK191.out)) : gb195 ≠ gb191)); clear BK186; clear BK187; clear BK191; clear HB; have BK186 := n0_; have BK187 := n1_; have BK191 := n2_; have HB := n3_; have BK195 := n4_; have GW195 := n5_; have GE195 := n6_; have NB186_195 := n7_; have NB195_186 := n8_; have NB187_195 := n9_; have NB195_187 := n10_; have NB191_195 := n11_; have NB195_191 := n12_; clear n0_ n1_ n2_ n3_ n4_ n5_ n6_ n7_ n8_ n9_ n10_ n11_ n12_; clear hb hbox hg; have hnb21 := NB195_186.out; have hnc21 := NB186_195.out; have hnb22 := NB195_187.out; have hnc22 := NB187_195.out; have hnb23 := NB195_191.out; have hnc23 := NB191_195.out; have hcz24_0 : w20.cell? ⟨gb195, 0, none⟩ = some (.int .i64 0) := (blk_cell BK195.out 0).trans rfl; have hcz24_1 : w20.cell? ⟨gb195, 1, none⟩ = some (.int .i64 0) := (blk_cell BK195.out 1).trans rfl; have hfz24_0 := blk_frozen BK195.out 0; have hfz24_1 := blk_frozen BK195.out 1))
  (try simp only [Act.put, List.setIfInBounds_toArray, List.set_cons_zero, List.set_cons_succ])
  go_cut [34] (fun v34 wc => ∃ (kq : Nat) (x34_5 : Bool), v34 = .bool x34_5 ∧ Aside0 (remontoirlaw04_ScaleReaches.j0 kq l2 x34_5 a0_0 a0_1 a0_2 a0_3 a0_4 a1_0 a1_1 = some r) ∧ Aside0 (kq ≤ k) ∧ Aside0 (wc.heap[gb186]? = some (.cells #[.int .i64 a0_0, .int .i64 a0_1, .int .i64 a0_2, .int .i64 a0_3, .int .i64 a0_4] 25 (0, 0))) ∧ Aside0 (wc.heap[gb187]? = some (.cells #[.int .i64 a1_0, .int .i64 a1_1] 36 (0, 0))) ∧ Aside0 (wc.heap[gb191]? = some (.cells #[.int .i64 t188, .int .i64 t189] 23 (0, 0))) ∧ Aside0 (wc.heap[gb195]? = some (.cells #[.int .i64 t192, .int .i64 t193] 23 (0, 0))) ∧ Aside0 (Below w.heap.size w wc))
  case first =>
    have H := HC6.out
    clear HC6
    by_cases c25 : (!(t188 == t192) || (!(t189 == t193))) = true
    · rw [if_pos c25] at H
      have c25b0 : (!(t188 == t192) || (!(t189 == t193))) = true := c25
      clear c25
      (first | rw [c25b0] | (simp only [i64_w, i32_w]; rw [c25b0]) | skip)
      have H' := Aside0.mk H
      clear H
      have hnb26 := NB191_186.out
      have hnc26 := NB186_191.out
      have hnb27 := NB191_187.out
      have hnc27 := NB187_191.out
      have hnb28 := NB191_195.out
      have hnc28 := NB195_191.out
      have hcz29_0 : w20.cell? ⟨gb191, 0, none⟩ = some (.int .i64 t188) := (blk_cell BK191.out 0).trans rfl
      have hcz29_1 : w20.cell? ⟨gb191, 1, none⟩ = some (.int .i64 t189) := (blk_cell BK191.out 1).trans rfl
      have hfz29_0 := blk_frozen BK191.out 0
      have hfz29_1 := blk_frozen BK191.out 1
      have hnb30 := NB195_186.out
      have hnc30 := NB186_195.out
      have hnb31 := NB195_187.out
      have hnc31 := NB187_195.out
      have hcz32_0 : w20.cell? ⟨gb195, 0, none⟩ = some (.int .i64 0) := (blk_cell BK195.out 0).trans rfl
      have hcz32_1 : w20.cell? ⟨gb195, 1, none⟩ = some (.int .i64 0) := (blk_cell BK195.out 1).trans rfl
      have hfz32_0 := blk_frozen BK195.out 0
      have hfz32_1 := blk_frozen BK195.out 1
      go_wp2
      go_meet
      case rel => exact ⟨_, (true), (by first | rfl | (simp; done) | (simp [*]; done)), H', ⟨by first | omega | exact Nat.le_refl _⟩, ⟨by (with_reducible repeat (first | refine blk_drewN ?_ _ | refine blk_drew ?_ | refine blk_alloc ?_ _)); refine blk_far ?_ NB186_195.out _; (with_reducible repeat (first | refine blk_drewN ?_ _ | refine blk_drew ?_ | refine blk_alloc ?_ _)); refine blk_far ?_ NB186_195.out _; (with_reducible repeat (first | refine blk_drewN ?_ _ | refine blk_drew ?_ | refine blk_alloc ?_ _)); exact BK186.out⟩, ⟨by (with_reducible repeat (first | refine blk_drewN ?_ _ | refine blk_drew ?_ | refine blk_alloc ?_ _)); refine blk_far ?_ NB187_195.out _; (with_reducible repeat (first | refine blk_drewN ?_ _ | refine blk_drew ?_ | refine blk_alloc ?_ _)); refine blk_far ?_ NB187_195.out _; (with_reducible repeat (first | refine blk_drewN ?_ _ | refine blk_drew ?_ | refine blk_alloc ?_ _)); exact BK187.out⟩, ⟨by (with_reducible repeat (first | refine blk_drewN ?_ _ | refine blk_drew ?_ | refine blk_alloc ?_ _)); refine blk_far ?_ NB191_195.out _; (with_reducible repeat (first | refine blk_drewN ?_ _ | refine blk_drew ?_ | refine blk_alloc ?_ _)); refine blk_far ?_ NB191_195.out _; (with_reducible repeat (first | refine blk_drewN ?_ _ | refine blk_drew ?_ | refine blk_alloc ?_ _)); exact BK191.out⟩, ⟨by (with_reducible repeat (first | refine blk_drewN ?_ _ | refine blk_drew ?_ | refine blk_alloc ?_ _)); refine blk_put (cs := #[.int .i64 t192, .int .i64 0]) ?_ 1 _ rfl; (with_reducible repeat (first | refine blk_drewN ?_ _ | refine blk_drew ?_ | refine blk_alloc ?_ _)); refine blk_put (cs := #[.int .i64 0, .int .i64 0]) ?_ 0 _ rfl; (with_reducible repeat (first | refine blk_drewN ?_ _ | refine blk_drew ?_ | refine blk_alloc ?_ _)); exact BK195.out⟩, ⟨by repeat (first | (with_reducible first | exact HB.out | apply below_alloc | apply pw_below_drewN | apply below_drew1 | refine below_set ?_ GE186.out | refine below_set ?_ GE187.out | refine below_set ?_ GE191.out | refine below_set ?_ GE195.out) | exact HB.out)⟩⟩
    · rw [if_neg c25] at H
      have c25b0 : (!(t188 == t192) || (!(t189 == t193))) = false := by simpa using c25
      clear c25
      (first | rw [c25b0] | (simp only [i64_w, i32_w]; rw [c25b0]) | skip)
      have H' := Aside0.mk H
      clear H
      have hnb33 := NB191_186.out
      have hnc33 := NB186_191.out
      have hnb34 := NB191_187.out
      have hnc34 := NB187_191.out
      have hnb35 := NB191_195.out
      have hnc35 := NB195_191.out
      have hcz36_0 : w20.cell? ⟨gb191, 0, none⟩ = some (.int .i64 t188) := (blk_cell BK191.out 0).trans rfl
      have hcz36_1 : w20.cell? ⟨gb191, 1, none⟩ = some (.int .i64 t189) := (blk_cell BK191.out 1).trans rfl
      have hfz36_0 := blk_frozen BK191.out 0
      have hfz36_1 := blk_frozen BK191.out 1
      have hnb37 := NB195_186.out
      have hnc37 := NB186_195.out
      have hnb38 := NB195_187.out
      have hnc38 := NB187_195.out
      have hcz39_0 : w20.cell? ⟨gb195, 0, none⟩ = some (.int .i64 0) := (blk_cell BK195.out 0).trans rfl
      have hcz39_1 : w20.cell? ⟨gb195, 1, none⟩ = some (.int .i64 0) := (blk_cell BK195.out 1).trans rfl
      have hfz39_0 := blk_frozen BK195.out 0
      have hfz39_1 := blk_frozen BK195.out 1
      go_wp2
      go_meet
      case rel => exact ⟨_, ((t190 != t194)), (by first | rfl | (simp; done) | (simp [*]; done)), H', ⟨by first | omega | exact Nat.le_refl _⟩, ⟨by (with_reducible repeat (first | refine blk_drewN ?_ _ | refine blk_drew ?_ | refine blk_alloc ?_ _)); refine blk_far ?_ NB186_195.out _; (with_reducible repeat (first | refine blk_drewN ?_ _ | refine blk_drew ?_ | refine blk_alloc ?_ _)); refine blk_far ?_ NB186_195.out _; (with_reducible repeat (first | refine blk_drewN ?_ _ | refine blk_drew ?_ | refine blk_alloc ?_ _)); exact BK186.out⟩, ⟨by (with_reducible repeat (first | refine blk_drewN ?_ _ | refine blk_drew ?_ | refine blk_alloc ?_ _)); refine blk_far ?_ NB187_195.out _; (with_reducible repeat (first | refine blk_drewN ?_ _ | refine blk_drew ?_ | refine blk_alloc ?_ _)); refine blk_far ?_ NB187_195.out _; (with_reducible repeat (first | refine blk_drewN ?_ _ | refine blk_drew ?_ | refine blk_alloc ?_ _)); exact BK187.out⟩, ⟨by (with_reducible repeat (first | refine blk_drewN ?_ _ | refine blk_drew ?_ | refine blk_alloc ?_ _)); refine blk_far ?_ NB191_195.out _; (with_reducible repeat (first | refine blk_drewN ?_ _ | refine blk_drew ?_ | refine blk_alloc ?_ _)); refine blk_far ?_ NB191_195.out _; (with_reducible repeat (first | refine blk_drewN ?_ _ | refine blk_drew ?_ | refine blk_alloc ?_ _)); exact BK191.out⟩, ⟨by (with_reducible repeat (first | refine blk_drewN ?_ _ | refine blk_drew ?_ | refine blk_alloc ?_ _)); refine blk_put (cs := #[.int .i64 t192, .int .i64 0]) ?_ 1 _ rfl; (with_reducible repeat (first | refine blk_drewN ?_ _ | refine blk_drew ?_ | refine blk_alloc ?_ _)); refine blk_put (cs := #[.int .i64 0, .int .i64 0]) ?_ 0 _ rfl; (with_reducible repeat (first | refine blk_drewN ?_ _ | refine blk_drew ?_ | refine blk_alloc ?_ _)); exact BK195.out⟩, ⟨by repeat (first | (with_reducible first | exact HB.out | apply below_alloc | apply pw_below_drewN | apply below_drew1 | refine below_set ?_ GE186.out | refine below_set ?_ GE187.out | refine below_set ?_ GE191.out | refine below_set ?_ GE195.out) | exact HB.out)⟩⟩
  case rest =>
    clear HC6
    try clear c1
    try clear c2
    try clear p2
    try clear c3
    try clear c4
    try clear c9
    try clear c14
    try clear c15
    try clear c21
    try clear c22
    try clear c23
    try clear c25
    try clear c25b0
    try clear c26
    try clear c27
    try clear c28
    try clear c30
    try clear c31
    try clear c33
    try clear c34
    try clear c35
    try clear c37
    try clear c38
    try clear hcz10_0
    try clear hcz10_1
    try clear hcz10_2
    try clear hcz10_3
    try clear hcz10_4
    try clear hcz11_0
    try clear hcz11_1
    try clear hcz16_0
    try clear hcz16_1
    try clear hcz17_0
    try clear hcz17_1
    try clear hcz17_2
    try clear hcz17_3
    try clear hcz17_4
    try clear hcz18_0
    try clear hcz18_1
    try clear hcz24_0
    try clear hcz24_1
    try clear hcz29_0
    try clear hcz29_1
    try clear hcz32_0
    try clear hcz32_1
    try clear hcz36_0
    try clear hcz36_1
    try clear hcz39_0
    try clear hcz39_1
    try clear hfz10_0
    try clear hfz10_1
    try clear hfz10_2
    try clear hfz10_3
    try clear hfz10_4
    try clear hfz11_0
    try clear hfz11_1
    try clear hfz16_0
    try clear hfz16_1
    try clear hfz17_0
    try clear hfz17_1
    try clear hfz17_2
    try clear hfz17_3
    try clear hfz17_4
    try clear hfz18_0
    try clear hfz18_1
    try clear hfz24_0
    try clear hfz24_1
    try clear hfz29_0
    try clear hfz29_1
    try clear hfz32_0
    try clear hfz32_1
    try clear hfz36_0
    try clear hfz36_1
    try clear hfz39_0
    try clear hfz39_1
    obtain ⟨kq, x34_5, rfl, HA, HJ5, BK186, BK187, BK191, BK195, HB⟩ := hcut
    cases kq with
    | zero => exact absurd HA.out (by simp [remontoirlaw04_ScaleReaches.j0])
    | succ kj5 =>
      have H := HA.out
      clear HA
      simp only [remontoirlaw04_ScaleReaches.j0] at H
      by_cases c40 : x34_5 = true
      · subst c40
        have H1 : (some false) = some r := by rw [if_pos rfl] at H; exact H
        clear H
        have H := H1
        clear H1
        obtain rfl := Option.some.inj H
        go_wp2
        go_ret
        exact ⟨by first | rfl | (simp [errW_none, errW_some] <;> rfl) | (simp [*, errW_none, errW_some] <;> rfl), by repeat (first | (with_reducible first | exact HB.out | apply below_alloc | apply pw_below_drewN | apply below_drew1 | refine below_set ?_ GE186.out | refine below_set ?_ GE187.out | refine below_set ?_ GE191.out | refine below_set ?_ GE195.out) | exact HB.out)⟩
      · replace c40 := Bool.eq_false_iff.mpr c40
        subst c40
        have H1 : ((scale_Shown.f a0_0 a0_1 a0_2 a0_3 a0_4 a1_1 l2).bind fun bt196 => ((remontoirref04_Shown.f kj5 a0_0 a0_1 a0_2 a0_3 a0_4 a1_1 l2).bind fun bt200 => ((remontoirref00_Alike.f kj5 bt196.1 bt200.1).bind fun t204 => (if t204 = true then (if bt196.2 = bt200.2 then ((remontoirlaw04_works.f).bind fun t205 => (some t205)) else (some false)) else (some false))))) = some r := by rw [if_neg (show ¬ (false = true) by decide)] at H; exact H
        clear H
        have H := H1
        clear H1
        replace H := Option.bind_eq_some_iff.mp H
        obtain ⟨⟨t196, t199⟩, A410, H⟩ := H
        replace H : ((remontoirref04_Shown.f kj5 a0_0 a0_1 a0_2 a0_3 a0_4 a1_1 l2).bind fun bt200 => ((remontoirref00_Alike.f kj5 t196 bt200.1).bind fun t204 => (if t204 = true then (if t199 = bt200.2 then ((remontoirlaw04_works.f).bind fun t205 => (some t205)) else (some false)) else (some false)))) = some r := H
        have A41 := Aside0.mk A410
        clear A410
        replace H := Option.bind_eq_some_iff.mp H
        obtain ⟨⟨t200, t203⟩, A420, H⟩ := H
        replace H : ((remontoirref00_Alike.f kj5 t196 t200).bind fun t204 => (if t204 = true then (if t199 = t203 then ((remontoirlaw04_works.f).bind fun t205 => (some t205)) else (some false)) else (some false))) = some r := H
        have A42 := Aside0.mk A420
        clear A420
        replace H := Option.bind_eq_some_iff.mp H
        obtain ⟨t204, A430, H⟩ := H
        replace H : (if t204 = true then (if t199 = t203 then ((remontoirlaw04_works.f).bind fun t205 => (some t205)) else (some false)) else (some false)) = some r := H
        have A43 := Aside0.mk A430
        clear A430
        by_cases c44 : t204 = true
        · subst c44
          have H1 : (if t199 = t203 then ((remontoirlaw04_works.f).bind fun t205 => (some t205)) else (some false)) = some r := by rw [if_pos rfl] at H; exact H
          clear H
          have H := H1
          clear H1
          by_cases c45 : t199 = t203
          · rw [if_pos c45] at H
            have c45b0 : (t199 == t203) = true := beq_iff_eq.mpr c45
            have c45b1 : (t199 != t203) = false := bne_eq_false_iff_eq.mpr c45
            clear c45
            replace H := Option.bind_eq_some_iff.mp H
            obtain ⟨t205, A460, H⟩ := H
            replace H : (some t205) = some r := H
            have A46 := Aside0.mk A460
            clear A460
            obtain rfl := Option.some.inj H
            have hnb47 := NB186_187.out
            have hnc47 := NB187_186.out
            have hnb48 := NB186_191.out
            have hnc48 := NB191_186.out
            have hnb49 := NB186_195.out
            have hnc49 := NB195_186.out
            have hcz50_0 : wc.cell? ⟨gb186, 0, none⟩ = some (.int .i64 a0_0) := (blk_cell BK186.out 0).trans rfl
            have hcz50_1 : wc.cell? ⟨gb186, 1, none⟩ = some (.int .i64 a0_1) := (blk_cell BK186.out 1).trans rfl
            have hcz50_2 : wc.cell? ⟨gb186, 2, none⟩ = some (.int .i64 a0_2) := (blk_cell BK186.out 2).trans rfl
            have hcz50_3 : wc.cell? ⟨gb186, 3, none⟩ = some (.int .i64 a0_3) := (blk_cell BK186.out 3).trans rfl
            have hcz50_4 : wc.cell? ⟨gb186, 4, none⟩ = some (.int .i64 a0_4) := (blk_cell BK186.out 4).trans rfl
            have hfz50_0 := blk_frozen BK186.out 0
            have hfz50_1 := blk_frozen BK186.out 1
            have hfz50_2 := blk_frozen BK186.out 2
            have hfz50_3 := blk_frozen BK186.out 3
            have hfz50_4 := blk_frozen BK186.out 4
            have hnb51 := NB187_191.out
            have hnc51 := NB191_187.out
            have hnb52 := NB187_195.out
            have hnc52 := NB195_187.out
            have hcz53_0 : wc.cell? ⟨gb187, 0, none⟩ = some (.int .i64 a1_0) := (blk_cell BK187.out 0).trans rfl
            have hcz53_1 : wc.cell? ⟨gb187, 1, none⟩ = some (.int .i64 a1_1) := (blk_cell BK187.out 1).trans rfl
            have hfz53_0 := blk_frozen BK187.out 0
            have hfz53_1 := blk_frozen BK187.out 1
            go_wp2_with (first | ((with_reducible refine gate_callee (f := 24) rfl ?_); refine goesL_ (some 40) rfl rfl Tryd.func24 (by kernel_rfl) rfl #[.agg #[.int .i64 a0_0, .int .i64 a0_1, .int .i64 a0_2, .int .i64 a0_3, .int .i64 a0_4], .int .i64 a1_1, .slice A2 l2.length c2] rfl (by (try simp only [List.map_toArray, List.map_cons, List.map_nil]); first | done | rfl | (simp only [List.length_drop, List.length_take]; rfl)) ?_; (with_reducible refine (scale_Shown.calls a0_0 a0_1 a0_2 a0_3 a0_4 a1_1 _ _ l2 t196 t199 _ ?side1 ?side2 ?side3 A41.out).mono ?_); (case side1 => repeat (first | exact (Kd.C_below HR2.out HB.out) | (with_reducible refine Kd.C_alloc ?_ _) | (with_reducible refine Kd.C_drewN ?_ _) | (with_reducible refine Kd.C_drew ?_))); (case side2 => exact HC2.out); (case side3 => exact Go.Proofs.YtidnopmjhhmedaaDoor.Ways.below HWays.out (by repeat (first | (with_reducible first | exact HB.out | apply below_alloc | apply pw_below_drewN | apply below_drew1 | refine below_set ?_ GE186.out | refine below_set ?_ GE187.out | refine below_set ?_ GE191.out | refine below_set ?_ GE195.out) | exact HB.out))); rintro e w54 ⟨v197, rfl, ho0, hb⟩; refine ⟨_, rfl, ?_⟩; have n0_ := Aside0.mk (Kd.V_lower (Kd.V_mono (ok' := fun k_ => k_ ≠ gb186 ∧ k_ ≠ gb187 ∧ k_ ≠ gb191 ∧ k_ ≠ gb195) ho0 (fun k_ hk_ => ⟨(Kd.freshB (g := gb186) (o := .cells #[.int .i64 a0_0, .int .i64 a0_1, .int .i64 a0_2, .int .i64 a0_3, .int .i64 a0_4] 25 (0, 0)) (by (with_reducible repeat (first | refine blk_drewN ?_ _ | refine blk_drew ?_ | refine blk_alloc ?_ _)); exact BK186.out) k_ hk_), (Kd.freshB (g := gb187) (o := .cells #[.int .i64 a1_0, .int .i64 a1_1] 36 (0, 0)) (by (with_reducible repeat (first | refine blk_drewN ?_ _ | refine blk_drew ?_ | refine blk_alloc ?_ _)); exact BK187.out) k_ hk_), (Kd.freshB (g := gb191) (o := .cells #[.int .i64 t188, .int .i64 t189] 23 (0, 0)) (by (with_reducible repeat (first | refine blk_drewN ?_ _ | refine blk_drew ?_ | refine blk_alloc ?_ _)); exact BK191.out) k_ hk_), (Kd.freshB (g := gb195) (o := .cells #[.int .i64 t192, .int .i64 t193] 23 (0, 0)) (by (with_reducible repeat (first | refine blk_drewN ?_ _ | refine blk_drew ?_ | refine blk_alloc ?_ _)); exact BK195.out) k_ hk_)⟩)) (below_size (by repeat (first | (with_reducible first | exact HB.out | apply below_alloc | apply pw_below_drewN | apply below_drew1 | refine below_set ?_ GE186.out | refine below_set ?_ GE187.out | refine below_set ?_ GE191.out | refine below_set ?_ GE195.out) | exact HB.out)))); have n1_ := Aside0.mk (blk_below (g := gb186) (o := .cells #[.int .i64 a0_0, .int .i64 a0_1, .int .i64 a0_2, .int .i64 a0_3, .int .i64 a0_4] 25 (0, 0)) (by (with_reducible repeat (first | refine blk_drewN ?_ _ | refine blk_drew ?_ | refine blk_alloc ?_ _)); exact BK186.out) hb); have n2_ := Aside0.mk (blk_below (g := gb187) (o := .cells #[.int .i64 a1_0, .int .i64 a1_1] 36 (0, 0)) (by (with_reducible repeat (first | refine blk_drewN ?_ _ | refine blk_drew ?_ | refine blk_alloc ?_ _)); exact BK187.out) hb); have n3_ := Aside0.mk (blk_below (g := gb191) (o := .cells #[.int .i64 t188, .int .i64 t189] 23 (0, 0)) (by (with_reducible repeat (first | refine blk_drewN ?_ _ | refine blk_drew ?_ | refine blk_alloc ?_ _)); exact BK191.out) hb); have n4_ := Aside0.mk (blk_below (g := gb195) (o := .cells #[.int .i64 t192, .int .i64 t193] 23 (0, 0)) (by (with_reducible repeat (first | refine blk_drewN ?_ _ | refine blk_drew ?_ | refine blk_alloc ?_ _)); exact BK195.out) hb); have n5_ := Aside0.mk (below_step (by repeat (first | (with_reducible first | exact HB.out | apply below_alloc | apply pw_below_drewN | apply below_drew1 | refine below_set ?_ GE186.out | refine below_set ?_ GE187.out | refine below_set ?_ GE191.out | refine below_set ?_ GE195.out) | exact HB.out)) hb); clear BK186; clear BK187; clear BK191; clear BK195; clear HB; have HO198 := n0_; have BK186 := n1_; have BK187 := n2_; have BK191 := n3_; have BK195 := n4_; have HB := n5_; clear n0_ n1_ n2_ n3_ n4_ n5_; (try clear hb); (try clear hb2); (try clear hk); (try clear hi); (try clear ho0); have hcz55_0 : w54.cell? ⟨gb186, 0, none⟩ = some (.int .i64 a0_0) := (blk_cell BK186.out 0).trans rfl; have hcz55_1 : w54.cell? ⟨gb186, 1, none⟩ = some (.int .i64 a0_1) := (blk_cell BK186.out 1).trans rfl; have hcz55_2 : w54.cell? ⟨gb186, 2, none⟩ = some (.int .i64 a0_2) := (blk_cell BK186.out 2).trans rfl; have hcz55_3 : w54.cell? ⟨gb186, 3, none⟩ = some (.int .i64 a0_3) := (blk_cell BK186.out 3).trans rfl; have hcz55_4 : w54.cell? ⟨gb186, 4, none⟩ = some (.int .i64 a0_4) := (blk_cell BK186.out 4).trans rfl; have hfz55_0 := blk_frozen BK186.out 0; have hfz55_1 := blk_frozen BK186.out 1; have hfz55_2 := blk_frozen BK186.out 2; have hfz55_3 := blk_frozen BK186.out 3; have hfz55_4 := blk_frozen BK186.out 4; have hcz56_0 : w54.cell? ⟨gb187, 0, none⟩ = some (.int .i64 a1_0) := (blk_cell BK187.out 0).trans rfl; have hcz56_1 : w54.cell? ⟨gb187, 1, none⟩ = some (.int .i64 a1_1) := (blk_cell BK187.out 1).trans rfl; have hfz56_0 := blk_frozen BK187.out 0; have hfz56_1 := blk_frozen BK187.out 1) | ((with_reducible refine gate_callee (f := 25) rfl ?_); refine goesL_ (some 48) rfl rfl Tryd.func25 (by kernel_rfl) rfl #[.agg #[.int .i64 a0_0, .int .i64 a0_1, .int .i64 a0_2, .int .i64 a0_3, .int .i64 a0_4], .int .i64 a1_1, .slice A2 l2.length c2] rfl (by (try simp only [List.map_toArray, List.map_cons, List.map_nil]); first | done | rfl | (simp only [List.length_drop, List.length_take]; rfl)) ?_; (with_reducible refine (remontoirref04_Shown.calls kj5 a0_0 a0_1 a0_2 a0_3 a0_4 a1_1 _ _ l2 t200 t203 _ ?side1 ?side2 A42.out).mono ?_); (case side1 => repeat (first | exact (Kd.C_below HR2.out HB.out) | (with_reducible refine Kd.C_alloc ?_ _) | (with_reducible refine Kd.C_drewN ?_ _) | (with_reducible refine Kd.C_drew ?_))); (case side2 => exact HC2.out); rintro e w57 ⟨v201, rfl, ho0, hb⟩; refine ⟨_, rfl, ?_⟩; have n0_ := Aside0.mk (Kd.V_elder' (by (with_reducible repeat (first | apply Kd.V_alloc | apply Kd.V_drewN | apply Kd.V_drew)); exact HO198.out) (Kd.R_base ho0) hb); have n1_ := Aside0.mk (Kd.R_lower ho0 (below_size (by repeat (first | (with_reducible first | exact HB.out | apply below_alloc | apply pw_below_drewN | apply below_drew1 | refine below_set ?_ GE186.out | refine below_set ?_ GE187.out | refine below_set ?_ GE191.out | refine below_set ?_ GE195.out) | exact HB.out)))); have n2_ := Aside0.mk (blk_below (g := gb186) (o := .cells #[.int .i64 a0_0, .int .i64 a0_1, .int .i64 a0_2, .int .i64 a0_3, .int .i64 a0_4] 25 (0, 0)) (by (with_reducible repeat (first | refine blk_drewN ?_ _ | refine blk_drew ?_ | refine blk_alloc ?_ _)); exact BK186.out) hb); have n3_ := Aside0.mk (blk_below (g := gb187) (o := .cells #[.int .i64 a1_0, .int .i64 a1_1] 36 (0, 0)) (by (with_reducible repeat (first | refine blk_drewN ?_ _ | refine blk_drew ?_ | refine blk_alloc ?_ _)); exact BK187.out) hb); have n4_ := Aside0.mk (blk_below (g := gb191) (o := .cells #[.int .i64 t188, .int .i64 t189] 23 (0, 0)) (by (with_reducible repeat (first | refine blk_drewN ?_ _ | refine blk_drew ?_ | refine blk_alloc ?_ _)); exact BK191.out) hb); have n5_ := Aside0.mk (blk_below (g := gb195) (o := .cells #[.int .i64 t192, .int .i64 t193] 23 (0, 0)) (by (with_reducible repeat (first | refine blk_drewN ?_ _ | refine blk_drew ?_ | refine blk_alloc ?_ _)); exact BK195.out) hb); have n6_ := Aside0.mk (below_step (by repeat (first | (with_reducible first | exact HB.out | apply below_alloc | apply pw_below_drewN | apply below_drew1 | refine below_set ?_ GE186.out | refine below_set ?_ GE187.out | refine below_set ?_ GE191.out | refine below_set ?_ GE195.out) | exact HB.out)) hb); clear HO198; clear BK186; clear BK187; clear BK191; clear BK195; clear HB; have HO198 := n0_; have HO202 := n1_; have BK186 := n2_; have BK187 := n3_; have BK191 := n4_; have BK195 := n5_; have HB := n6_; clear n0_ n1_ n2_ n3_ n4_ n5_ n6_; (try clear hb); (try clear hb2); (try clear hk); (try clear hi); (try clear ho0); obtain ⟨Ao58, co58, eo58⟩ := Kd.V_slice HO198.out; subst eo58; obtain ⟨Ao59, co59, eo59⟩ := Kd.R_slice HO202.out; subst eo59) | ((with_reducible refine gate_callee (f := 26) rfl ?_); refine goesL_ (some 53) rfl rfl Tryd.func26 (by kernel_rfl) rfl #[.slice Ao58 t196.length co58, .slice Ao59 t200.length co59] rfl (by (try simp only [List.map_toArray, List.map_cons, List.map_nil]); first | done | rfl | (simp only [List.length_drop, List.length_take]; rfl)) ?_; (with_reducible refine (remontoirref00_Alike.calls kj5 _ _ t196 _ _ t200 true _ ?side1 ?side2 ?side3 ?side4 A43.out).mono ?_); (case side1 => repeat (first | exact (Kd.V_reads' HO198.out).2.2 | (with_reducible refine Kd.C_alloc ?_ _) | (with_reducible refine Kd.C_drewN ?_ _) | (with_reducible refine Kd.C_drew ?_))); (case side2 => exact (Kd.V_reads' HO198.out).2.1); (case side3 => repeat (first | exact (Kd.R_reads' HO202.out).2.2 | (with_reducible refine Kd.C_alloc ?_ _) | (with_reducible refine Kd.C_drewN ?_ _) | (with_reducible refine Kd.C_drew ?_))); (case side4 => exact (Kd.R_reads' HO202.out).2.1); rintro e w' ⟨rfl, ⟨nd, rfl⟩⟩; refine ⟨_, rfl, ?_⟩) | (go_at_call 21; (with_reducible refine (remontoirlaw04_works.calls  t205 _ ?side1 A46.out).mono ?_); (case side1 => exact Go.Proofs.YtidnopmjhhmedaaDoor.Ways.below HWays.out (by repeat (first | (with_reducible first | exact HB.out | apply below_alloc | apply pw_below_drewN | apply below_drew1 | refine below_set ?_ GE186.out | refine below_set ?_ GE187.out | refine below_set ?_ GE191.out | refine below_set ?_ GE195.out) | exact HB.out))); rintro e w60 ⟨rfl, hb⟩; have n0_ := Aside0.mk (Kd.V_below (by (with_reducible repeat (first | apply Kd.V_alloc | apply Kd.V_drewN | apply Kd.V_drew)); exact HO198.out) hb); have n1_ := Aside0.mk (Kd.R_below (by (with_reducible repeat (first | apply Kd.R_alloc | apply Kd.R_drewN | apply Kd.R_drew)); exact HO202.out) hb); have n2_ := Aside0.mk (blk_below (g := gb186) (o := .cells #[.int .i64 a0_0, .int .i64 a0_1, .int .i64 a0_2, .int .i64 a0_3, .int .i64 a0_4] 25 (0, 0)) (by (with_reducible repeat (first | refine blk_drewN ?_ _ | refine blk_drew ?_ | refine blk_alloc ?_ _)); exact BK186.out) hb); have n3_ := Aside0.mk (blk_below (g := gb187) (o := .cells #[.int .i64 a1_0, .int .i64 a1_1] 36 (0, 0)) (by (with_reducible repeat (first | refine blk_drewN ?_ _ | refine blk_drew ?_ | refine blk_alloc ?_ _)); exact BK187.out) hb); have n4_ := Aside0.mk (blk_below (g := gb191) (o := .cells #[.int .i64 t188, .int .i64 t189] 23 (0, 0)) (by (with_reducible repeat (first | refine blk_drewN ?_ _ | refine blk_drew ?_ | refine blk_alloc ?_ _)); exact BK191.out) hb); have n5_ := Aside0.mk (blk_below (g := gb195) (o := .cells #[.int .i64 t192, .int .i64 t193] 23 (0, 0)) (by (with_reducible repeat (first | refine blk_drewN ?_ _ | refine blk_drew ?_ | refine blk_alloc ?_ _)); exact BK195.out) hb); have n6_ := Aside0.mk (below_step (by repeat (first | (with_reducible first | exact HB.out | apply below_alloc | apply pw_below_drewN | apply below_drew1 | refine below_set ?_ GE186.out | refine below_set ?_ GE187.out | refine below_set ?_ GE191.out | refine below_set ?_ GE195.out) | exact HB.out)) hb); clear HO198; clear HO202; clear BK186; clear BK187; clear BK191; clear BK195; clear HB; have HO198 := n0_; have HO202 := n1_; have BK186 := n2_; have BK187 := n3_; have BK191 := n4_; have BK195 := n5_; have HB := n6_; clear n0_ n1_ n2_ n3_ n4_ n5_ n6_; (try clear hb); (try clear hb2); (try clear hk); (try clear hi)))
            go_ret
            exact ⟨by first | rfl | (simp [errW_none, errW_some] <;> rfl) | (simp [*, errW_none, errW_some] <;> rfl), by repeat (first | (with_reducible first | exact HB.out | apply below_alloc | apply pw_below_drewN | apply below_drew1 | refine below_set ?_ GE186.out | refine below_set ?_ GE187.out | refine below_set ?_ GE191.out | refine below_set ?_ GE195.out) | exact HB.out)⟩
          · rw [if_neg c45] at H
            have c45b0 : (t199 == t203) = false := beq_eq_false_iff_ne.mpr c45
            have c45b1 : (t199 != t203) = true := bne_iff_ne.mpr c45
            obtain rfl := Option.some.inj H
            have hnb61 := NB186_187.out
            have hnc61 := NB187_186.out
            have hnb62 := NB186_191.out
            have hnc62 := NB191_186.out
            have hnb63 := NB186_195.out
            have hnc63 := NB195_186.out
            have hcz64_0 : wc.cell? ⟨gb186, 0, none⟩ = some (.int .i64 a0_0) := (blk_cell BK186.out 0).trans rfl
            have hcz64_1 : wc.cell? ⟨gb186, 1, none⟩ = some (.int .i64 a0_1) := (blk_cell BK186.out 1).trans rfl
            have hcz64_2 : wc.cell? ⟨gb186, 2, none⟩ = some (.int .i64 a0_2) := (blk_cell BK186.out 2).trans rfl
            have hcz64_3 : wc.cell? ⟨gb186, 3, none⟩ = some (.int .i64 a0_3) := (blk_cell BK186.out 3).trans rfl
            have hcz64_4 : wc.cell? ⟨gb186, 4, none⟩ = some (.int .i64 a0_4) := (blk_cell BK186.out 4).trans rfl
            have hfz64_0 := blk_frozen BK186.out 0
            have hfz64_1 := blk_frozen BK186.out 1
            have hfz64_2 := blk_frozen BK186.out 2
            have hfz64_3 := blk_frozen BK186.out 3
            have hfz64_4 := blk_frozen BK186.out 4
            have hnb65 := NB187_191.out
            have hnc65 := NB191_187.out
            have hnb66 := NB187_195.out
            have hnc66 := NB195_187.out
            have hcz67_0 : wc.cell? ⟨gb187, 0, none⟩ = some (.int .i64 a1_0) := (blk_cell BK187.out 0).trans rfl
            have hcz67_1 : wc.cell? ⟨gb187, 1, none⟩ = some (.int .i64 a1_1) := (blk_cell BK187.out 1).trans rfl
            have hfz67_0 := blk_frozen BK187.out 0
            have hfz67_1 := blk_frozen BK187.out 1
            go_wp2_with (first | ((with_reducible refine gate_callee (f := 24) rfl ?_); refine goesL_ (some 40) rfl rfl Tryd.func24 (by kernel_rfl) rfl #[.agg #[.int .i64 a0_0, .int .i64 a0_1, .int .i64 a0_2, .int .i64 a0_3, .int .i64 a0_4], .int .i64 a1_1, .slice A2 l2.length c2] rfl (by (try simp only [List.map_toArray, List.map_cons, List.map_nil]); first | done | rfl | (simp only [List.length_drop, List.length_take]; rfl)) ?_; (with_reducible refine (scale_Shown.calls a0_0 a0_1 a0_2 a0_3 a0_4 a1_1 _ _ l2 t196 t199 _ ?side1 ?side2 ?side3 A41.out).mono ?_); (case side1 => repeat (first | exact (Kd.C_below HR2.out HB.out) | (with_reducible refine Kd.C_alloc ?_ _) | (with_reducible refine Kd.C_drewN ?_ _) | (with_reducible refine Kd.C_drew ?_))); (case side2 => exact HC2.out); (case side3 => exact Go.Proofs.YtidnopmjhhmedaaDoor.Ways.below HWays.out (by repeat (first | (with_reducible first | exact HB.out | apply below_alloc | apply pw_below_drewN | apply below_drew1 | refine below_set ?_ GE186.out | refine below_set ?_ GE187.out | refine below_set ?_ GE191.out | refine below_set ?_ GE195.out) | exact HB.out))); rintro e w68 ⟨v197, rfl, ho0, hb⟩; refine ⟨_, rfl, ?_⟩; have n0_ := Aside0.mk (Kd.V_lower (Kd.V_mono (ok' := fun k_ => k_ ≠ gb186 ∧ k_ ≠ gb187 ∧ k_ ≠ gb191 ∧ k_ ≠ gb195) ho0 (fun k_ hk_ => ⟨(Kd.freshB (g := gb186) (o := .cells #[.int .i64 a0_0, .int .i64 a0_1, .int .i64 a0_2, .int .i64 a0_3, .int .i64 a0_4] 25 (0, 0)) (by (with_reducible repeat (first | refine blk_drewN ?_ _ | refine blk_drew ?_ | refine blk_alloc ?_ _)); exact BK186.out) k_ hk_), (Kd.freshB (g := gb187) (o := .cells #[.int .i64 a1_0, .int .i64 a1_1] 36 (0, 0)) (by (with_reducible repeat (first | refine blk_drewN ?_ _ | refine blk_drew ?_ | refine blk_alloc ?_ _)); exact BK187.out) k_ hk_), (Kd.freshB (g := gb191) (o := .cells #[.int .i64 t188, .int .i64 t189] 23 (0, 0)) (by (with_reducible repeat (first | refine blk_drewN ?_ _ | refine blk_drew ?_ | refine blk_alloc ?_ _)); exact BK191.out) k_ hk_), (Kd.freshB (g := gb195) (o := .cells #[.int .i64 t192, .int .i64 t193] 23 (0, 0)) (by (with_reducible repeat (first | refine blk_drewN ?_ _ | refine blk_drew ?_ | refine blk_alloc ?_ _)); exact BK195.out) k_ hk_)⟩)) (below_size (by repeat (first | (with_reducible first | exact HB.out | apply below_alloc | apply pw_below_drewN | apply below_drew1 | refine below_set ?_ GE186.out | refine below_set ?_ GE187.out | refine below_set ?_ GE191.out | refine below_set ?_ GE195.out) | exact HB.out)))); have n1_ := Aside0.mk (blk_below (g := gb186) (o := .cells #[.int .i64 a0_0, .int .i64 a0_1, .int .i64 a0_2, .int .i64 a0_3, .int .i64 a0_4] 25 (0, 0)) (by (with_reducible repeat (first | refine blk_drewN ?_ _ | refine blk_drew ?_ | refine blk_alloc ?_ _)); exact BK186.out) hb); have n2_ := Aside0.mk (blk_below (g := gb187) (o := .cells #[.int .i64 a1_0, .int .i64 a1_1] 36 (0, 0)) (by (with_reducible repeat (first | refine blk_drewN ?_ _ | refine blk_drew ?_ | refine blk_alloc ?_ _)); exact BK187.out) hb); have n3_ := Aside0.mk (blk_below (g := gb191) (o := .cells #[.int .i64 t188, .int .i64 t189] 23 (0, 0)) (by (with_reducible repeat (first | refine blk_drewN ?_ _ | refine blk_drew ?_ | refine blk_alloc ?_ _)); exact BK191.out) hb); have n4_ := Aside0.mk (blk_below (g := gb195) (o := .cells #[.int .i64 t192, .int .i64 t193] 23 (0, 0)) (by (with_reducible repeat (first | refine blk_drewN ?_ _ | refine blk_drew ?_ | refine blk_alloc ?_ _)); exact BK195.out) hb); have n5_ := Aside0.mk (below_step (by repeat (first | (with_reducible first | exact HB.out | apply below_alloc | apply pw_below_drewN | apply below_drew1 | refine below_set ?_ GE186.out | refine below_set ?_ GE187.out | refine below_set ?_ GE191.out | refine below_set ?_ GE195.out) | exact HB.out)) hb); clear BK186; clear BK187; clear BK191; clear BK195; clear HB; have HO198 := n0_; have BK186 := n1_; have BK187 := n2_; have BK191 := n3_; have BK195 := n4_; have HB := n5_; clear n0_ n1_ n2_ n3_ n4_ n5_; (try clear hb); (try clear hb2); (try clear hk); (try clear hi); (try clear ho0); have hcz69_0 : w68.cell? ⟨gb186, 0, none⟩ = some (.int .i64 a0_0) := (blk_cell BK186.out 0).trans rfl; have hcz69_1 : w68.cell? ⟨gb186, 1, none⟩ = some (.int .i64 a0_1) := (blk_cell BK186.out 1).trans rfl; have hcz69_2 : w68.cell? ⟨gb186, 2, none⟩ = some (.int .i64 a0_2) := (blk_cell BK186.out 2).trans rfl; have hcz69_3 : w68.cell? ⟨gb186, 3, none⟩ = some (.int .i64 a0_3) := (blk_cell BK186.out 3).trans rfl; have hcz69_4 : w68.cell? ⟨gb186, 4, none⟩ = some (.int .i64 a0_4) := (blk_cell BK186.out 4).trans rfl; have hfz69_0 := blk_frozen BK186.out 0; have hfz69_1 := blk_frozen BK186.out 1; have hfz69_2 := blk_frozen BK186.out 2; have hfz69_3 := blk_frozen BK186.out 3; have hfz69_4 := blk_frozen BK186.out 4; have hcz70_0 : w68.cell? ⟨gb187, 0, none⟩ = some (.int .i64 a1_0) := (blk_cell BK187.out 0).trans rfl; have hcz70_1 : w68.cell? ⟨gb187, 1, none⟩ = some (.int .i64 a1_1) := (blk_cell BK187.out 1).trans rfl; have hfz70_0 := blk_frozen BK187.out 0; have hfz70_1 := blk_frozen BK187.out 1) | ((with_reducible refine gate_callee (f := 25) rfl ?_); refine goesL_ (some 48) rfl rfl Tryd.func25 (by kernel_rfl) rfl #[.agg #[.int .i64 a0_0, .int .i64 a0_1, .int .i64 a0_2, .int .i64 a0_3, .int .i64 a0_4], .int .i64 a1_1, .slice A2 l2.length c2] rfl (by (try simp only [List.map_toArray, List.map_cons, List.map_nil]); first | done | rfl | (simp only [List.length_drop, List.length_take]; rfl)) ?_; (with_reducible refine (remontoirref04_Shown.calls kj5 a0_0 a0_1 a0_2 a0_3 a0_4 a1_1 _ _ l2 t200 t203 _ ?side1 ?side2 A42.out).mono ?_); (case side1 => repeat (first | exact (Kd.C_below HR2.out HB.out) | (with_reducible refine Kd.C_alloc ?_ _) | (with_reducible refine Kd.C_drewN ?_ _) | (with_reducible refine Kd.C_drew ?_))); (case side2 => exact HC2.out); rintro e w71 ⟨v201, rfl, ho0, hb⟩; refine ⟨_, rfl, ?_⟩; have n0_ := Aside0.mk (Kd.V_elder' (by (with_reducible repeat (first | apply Kd.V_alloc | apply Kd.V_drewN | apply Kd.V_drew)); exact HO198.out) (Kd.R_base ho0) hb); have n1_ := Aside0.mk (Kd.R_lower ho0 (below_size (by repeat (first | (with_reducible first | exact HB.out | apply below_alloc | apply pw_below_drewN | apply below_drew1 | refine below_set ?_ GE186.out | refine below_set ?_ GE187.out | refine below_set ?_ GE191.out | refine below_set ?_ GE195.out) | exact HB.out)))); have n2_ := Aside0.mk (blk_below (g := gb186) (o := .cells #[.int .i64 a0_0, .int .i64 a0_1, .int .i64 a0_2, .int .i64 a0_3, .int .i64 a0_4] 25 (0, 0)) (by (with_reducible repeat (first | refine blk_drewN ?_ _ | refine blk_drew ?_ | refine blk_alloc ?_ _)); exact BK186.out) hb); have n3_ := Aside0.mk (blk_below (g := gb187) (o := .cells #[.int .i64 a1_0, .int .i64 a1_1] 36 (0, 0)) (by (with_reducible repeat (first | refine blk_drewN ?_ _ | refine blk_drew ?_ | refine blk_alloc ?_ _)); exact BK187.out) hb); have n4_ := Aside0.mk (blk_below (g := gb191) (o := .cells #[.int .i64 t188, .int .i64 t189] 23 (0, 0)) (by (with_reducible repeat (first | refine blk_drewN ?_ _ | refine blk_drew ?_ | refine blk_alloc ?_ _)); exact BK191.out) hb); have n5_ := Aside0.mk (blk_below (g := gb195) (o := .cells #[.int .i64 t192, .int .i64 t193] 23 (0, 0)) (by (with_reducible repeat (first | refine blk_drewN ?_ _ | refine blk_drew ?_ | refine blk_alloc ?_ _)); exact BK195.out) hb); have n6_ := Aside0.mk (below_step (by repeat (first | (with_reducible first | exact HB.out | apply below_alloc | apply pw_below_drewN | apply below_drew1 | refine below_set ?_ GE186.out | refine below_set ?_ GE187.out | refine below_set ?_ GE191.out | refine below_set ?_ GE195.out) | exact HB.out)) hb); clear HO198; clear BK186; clear BK187; clear BK191; clear BK195; clear HB; have HO198 := n0_; have HO202 := n1_; have BK186 := n2_; have BK187 := n3_; have BK191 := n4_; have BK195 := n5_; have HB := n6_; clear n0_ n1_ n2_ n3_ n4_ n5_ n6_; (try clear hb); (try clear hb2); (try clear hk); (try clear hi); (try clear ho0); obtain ⟨Ao72, co72, eo72⟩ := Kd.V_slice HO198.out; subst eo72; obtain ⟨Ao73, co73, eo73⟩ := Kd.R_slice HO202.out; subst eo73) | ((with_reducible refine gate_callee (f := 26) rfl ?_); refine goesL_ (some 53) rfl rfl Tryd.func26 (by kernel_rfl) rfl #[.slice Ao72 t196.length co72, .slice Ao73 t200.length co73] rfl (by (try simp only [List.map_toArray, List.map_cons, List.map_nil]); first | done | rfl | (simp only [List.length_drop, List.length_take]; rfl)) ?_; (with_reducible refine (remontoirref00_Alike.calls kj5 _ _ t196 _ _ t200 true _ ?side1 ?side2 ?side3 ?side4 A43.out).mono ?_); (case side1 => repeat (first | exact (Kd.V_reads' HO198.out).2.2 | (with_reducible refine Kd.C_alloc ?_ _) | (with_reducible refine Kd.C_drewN ?_ _) | (with_reducible refine Kd.C_drew ?_))); (case side2 => exact (Kd.V_reads' HO198.out).2.1); (case side3 => repeat (first | exact (Kd.R_reads' HO202.out).2.2 | (with_reducible refine Kd.C_alloc ?_ _) | (with_reducible refine Kd.C_drewN ?_ _) | (with_reducible refine Kd.C_drew ?_))); (case side4 => exact (Kd.R_reads' HO202.out).2.1); rintro e w' ⟨rfl, ⟨nd, rfl⟩⟩; refine ⟨_, rfl, ?_⟩))
            go_ret
            exact ⟨by first | rfl | (simp [errW_none, errW_some] <;> rfl) | (simp [*, errW_none, errW_some] <;> rfl), by repeat (first | (with_reducible first | exact HB.out | apply below_alloc | apply pw_below_drewN | apply below_drew1 | refine below_set ?_ GE186.out | refine below_set ?_ GE187.out | refine below_set ?_ GE191.out | refine below_set ?_ GE195.out) | exact HB.out)⟩
        · replace c44 := Bool.eq_false_iff.mpr c44
          subst c44
          have H1 : (some false) = some r := by rw [if_neg (show ¬ (false = true) by decide)] at H; exact H
          clear H
          have H := H1
          clear H1
          obtain rfl := Option.some.inj H
          have hnb74 := NB186_187.out
          have hnc74 := NB187_186.out
          have hnb75 := NB186_191.out
          have hnc75 := NB191_186.out
          have hnb76 := NB186_195.out
          have hnc76 := NB195_186.out
          have hcz77_0 : wc.cell? ⟨gb186, 0, none⟩ = some (.int .i64 a0_0) := (blk_cell BK186.out 0).trans rfl
          have hcz77_1 : wc.cell? ⟨gb186, 1, none⟩ = some (.int .i64 a0_1) := (blk_cell BK186.out 1).trans rfl
          have hcz77_2 : wc.cell? ⟨gb186, 2, none⟩ = some (.int .i64 a0_2) := (blk_cell BK186.out 2).trans rfl
          have hcz77_3 : wc.cell? ⟨gb186, 3, none⟩ = some (.int .i64 a0_3) := (blk_cell BK186.out 3).trans rfl
          have hcz77_4 : wc.cell? ⟨gb186, 4, none⟩ = some (.int .i64 a0_4) := (blk_cell BK186.out 4).trans rfl
          have hfz77_0 := blk_frozen BK186.out 0
          have hfz77_1 := blk_frozen BK186.out 1
          have hfz77_2 := blk_frozen BK186.out 2
          have hfz77_3 := blk_frozen BK186.out 3
          have hfz77_4 := blk_frozen BK186.out 4
          have hnb78 := NB187_191.out
          have hnc78 := NB191_187.out
          have hnb79 := NB187_195.out
          have hnc79 := NB195_187.out
          have hcz80_0 : wc.cell? ⟨gb187, 0, none⟩ = some (.int .i64 a1_0) := (blk_cell BK187.out 0).trans rfl
          have hcz80_1 : wc.cell? ⟨gb187, 1, none⟩ = some (.int .i64 a1_1) := (blk_cell BK187.out 1).trans rfl
          have hfz80_0 := blk_frozen BK187.out 0
          have hfz80_1 := blk_frozen BK187.out 1
          go_wp2_with (first | ((with_reducible refine gate_callee (f := 24) rfl ?_); refine goesL_ (some 40) rfl rfl Tryd.func24 (by kernel_rfl) rfl #[.agg #[.int .i64 a0_0, .int .i64 a0_1, .int .i64 a0_2, .int .i64 a0_3, .int .i64 a0_4], .int .i64 a1_1, .slice A2 l2.length c2] rfl (by (try simp only [List.map_toArray, List.map_cons, List.map_nil]); first | done | rfl | (simp only [List.length_drop, List.length_take]; rfl)) ?_; (with_reducible refine (scale_Shown.calls a0_0 a0_1 a0_2 a0_3 a0_4 a1_1 _ _ l2 t196 t199 _ ?side1 ?side2 ?side3 A41.out).mono ?_); (case side1 => repeat (first | exact (Kd.C_below HR2.out HB.out) | (with_reducible refine Kd.C_alloc ?_ _) | (with_reducible refine Kd.C_drewN ?_ _) | (with_reducible refine Kd.C_drew ?_))); (case side2 => exact HC2.out); (case side3 => exact Go.Proofs.YtidnopmjhhmedaaDoor.Ways.below HWays.out (by repeat (first | (with_reducible first | exact HB.out | apply below_alloc | apply pw_below_drewN | apply below_drew1 | refine below_set ?_ GE186.out | refine below_set ?_ GE187.out | refine below_set ?_ GE191.out | refine below_set ?_ GE195.out) | exact HB.out))); rintro e w81 ⟨v197, rfl, ho0, hb⟩; refine ⟨_, rfl, ?_⟩; have n0_ := Aside0.mk (Kd.V_lower (Kd.V_mono (ok' := fun k_ => k_ ≠ gb186 ∧ k_ ≠ gb187 ∧ k_ ≠ gb191 ∧ k_ ≠ gb195) ho0 (fun k_ hk_ => ⟨(Kd.freshB (g := gb186) (o := .cells #[.int .i64 a0_0, .int .i64 a0_1, .int .i64 a0_2, .int .i64 a0_3, .int .i64 a0_4] 25 (0, 0)) (by (with_reducible repeat (first | refine blk_drewN ?_ _ | refine blk_drew ?_ | refine blk_alloc ?_ _)); exact BK186.out) k_ hk_), (Kd.freshB (g := gb187) (o := .cells #[.int .i64 a1_0, .int .i64 a1_1] 36 (0, 0)) (by (with_reducible repeat (first | refine blk_drewN ?_ _ | refine blk_drew ?_ | refine blk_alloc ?_ _)); exact BK187.out) k_ hk_), (Kd.freshB (g := gb191) (o := .cells #[.int .i64 t188, .int .i64 t189] 23 (0, 0)) (by (with_reducible repeat (first | refine blk_drewN ?_ _ | refine blk_drew ?_ | refine blk_alloc ?_ _)); exact BK191.out) k_ hk_), (Kd.freshB (g := gb195) (o := .cells #[.int .i64 t192, .int .i64 t193] 23 (0, 0)) (by (with_reducible repeat (first | refine blk_drewN ?_ _ | refine blk_drew ?_ | refine blk_alloc ?_ _)); exact BK195.out) k_ hk_)⟩)) (below_size (by repeat (first | (with_reducible first | exact HB.out | apply below_alloc | apply pw_below_drewN | apply below_drew1 | refine below_set ?_ GE186.out | refine below_set ?_ GE187.out | refine below_set ?_ GE191.out | refine below_set ?_ GE195.out) | exact HB.out)))); have n1_ := Aside0.mk (blk_below (g := gb186) (o := .cells #[.int .i64 a0_0, .int .i64 a0_1, .int .i64 a0_2, .int .i64 a0_3, .int .i64 a0_4] 25 (0, 0)) (by (with_reducible repeat (first | refine blk_drewN ?_ _ | refine blk_drew ?_ | refine blk_alloc ?_ _)); exact BK186.out) hb); have n2_ := Aside0.mk (blk_below (g := gb187) (o := .cells #[.int .i64 a1_0, .int .i64 a1_1] 36 (0, 0)) (by (with_reducible repeat (first | refine blk_drewN ?_ _ | refine blk_drew ?_ | refine blk_alloc ?_ _)); exact BK187.out) hb); have n3_ := Aside0.mk (blk_below (g := gb191) (o := .cells #[.int .i64 t188, .int .i64 t189] 23 (0, 0)) (by (with_reducible repeat (first | refine blk_drewN ?_ _ | refine blk_drew ?_ | refine blk_alloc ?_ _)); exact BK191.out) hb); have n4_ := Aside0.mk (blk_below (g := gb195) (o := .cells #[.int .i64 t192, .int .i64 t193] 23 (0, 0)) (by (with_reducible repeat (first | refine blk_drewN ?_ _ | refine blk_drew ?_ | refine blk_alloc ?_ _)); exact BK195.out) hb); have n5_ := Aside0.mk (below_step (by repeat (first | (with_reducible first | exact HB.out | apply below_alloc | apply pw_below_drewN | apply below_drew1 | refine below_set ?_ GE186.out | refine below_set ?_ GE187.out | refine below_set ?_ GE191.out | refine below_set ?_ GE195.out) | exact HB.out)) hb); clear BK186; clear BK187; clear BK191; clear BK195; clear HB; have HO198 := n0_; have BK186 := n1_; have BK187 := n2_; have BK191 := n3_; have BK195 := n4_; have HB := n5_; clear n0_ n1_ n2_ n3_ n4_ n5_; (try clear hb); (try clear hb2); (try clear hk); (try clear hi); (try clear ho0); have hcz82_0 : w81.cell? ⟨gb186, 0, none⟩ = some (.int .i64 a0_0) := (blk_cell BK186.out 0).trans rfl; have hcz82_1 : w81.cell? ⟨gb186, 1, none⟩ = some (.int .i64 a0_1) := (blk_cell BK186.out 1).trans rfl; have hcz82_2 : w81.cell? ⟨gb186, 2, none⟩ = some (.int .i64 a0_2) := (blk_cell BK186.out 2).trans rfl; have hcz82_3 : w81.cell? ⟨gb186, 3, none⟩ = some (.int .i64 a0_3) := (blk_cell BK186.out 3).trans rfl; have hcz82_4 : w81.cell? ⟨gb186, 4, none⟩ = some (.int .i64 a0_4) := (blk_cell BK186.out 4).trans rfl; have hfz82_0 := blk_frozen BK186.out 0; have hfz82_1 := blk_frozen BK186.out 1; have hfz82_2 := blk_frozen BK186.out 2; have hfz82_3 := blk_frozen BK186.out 3; have hfz82_4 := blk_frozen BK186.out 4; have hcz83_0 : w81.cell? ⟨gb187, 0, none⟩ = some (.int .i64 a1_0) := (blk_cell BK187.out 0).trans rfl; have hcz83_1 : w81.cell? ⟨gb187, 1, none⟩ = some (.int .i64 a1_1) := (blk_cell BK187.out 1).trans rfl; have hfz83_0 := blk_frozen BK187.out 0; have hfz83_1 := blk_frozen BK187.out 1) | ((with_reducible refine gate_callee (f := 25) rfl ?_); refine goesL_ (some 48) rfl rfl Tryd.func25 (by kernel_rfl) rfl #[.agg #[.int .i64 a0_0, .int .i64 a0_1, .int .i64 a0_2, .int .i64 a0_3, .int .i64 a0_4], .int .i64 a1_1, .slice A2 l2.length c2] rfl (by (try simp only [List.map_toArray, List.map_cons, List.map_nil]); first | done | rfl | (simp only [List.length_drop, List.length_take]; rfl)) ?_; (with_reducible refine (remontoirref04_Shown.calls kj5 a0_0 a0_1 a0_2 a0_3 a0_4 a1_1 _ _ l2 t200 t203 _ ?side1 ?side2 A42.out).mono ?_); (case side1 => repeat (first | exact (Kd.C_below HR2.out HB.out) | (with_reducible refine Kd.C_alloc ?_ _) | (with_reducible refine Kd.C_drewN ?_ _) | (with_reducible refine Kd.C_drew ?_))); (case side2 => exact HC2.out); rintro e w84 ⟨v201, rfl, ho0, hb⟩; refine ⟨_, rfl, ?_⟩; have n0_ := Aside0.mk (Kd.V_elder' (by (with_reducible repeat (first | apply Kd.V_alloc | apply Kd.V_drewN | apply Kd.V_drew)); exact HO198.out) (Kd.R_base ho0) hb); have n1_ := Aside0.mk (Kd.R_lower ho0 (below_size (by repeat (first | (with_reducible first | exact HB.out | apply below_alloc | apply pw_below_drewN | apply below_drew1 | refine below_set ?_ GE186.out | refine below_set ?_ GE187.out | refine below_set ?_ GE191.out | refine below_set ?_ GE195.out) | exact HB.out)))); have n2_ := Aside0.mk (blk_below (g := gb186) (o := .cells #[.int .i64 a0_0, .int .i64 a0_1, .int .i64 a0_2, .int .i64 a0_3, .int .i64 a0_4] 25 (0, 0)) (by (with_reducible repeat (first | refine blk_drewN ?_ _ | refine blk_drew ?_ | refine blk_alloc ?_ _)); exact BK186.out) hb); have n3_ := Aside0.mk (blk_below (g := gb187) (o := .cells #[.int .i64 a1_0, .int .i64 a1_1] 36 (0, 0)) (by (with_reducible repeat (first | refine blk_drewN ?_ _ | refine blk_drew ?_ | refine blk_alloc ?_ _)); exact BK187.out) hb); have n4_ := Aside0.mk (blk_below (g := gb191) (o := .cells #[.int .i64 t188, .int .i64 t189] 23 (0, 0)) (by (with_reducible repeat (first | refine blk_drewN ?_ _ | refine blk_drew ?_ | refine blk_alloc ?_ _)); exact BK191.out) hb); have n5_ := Aside0.mk (blk_below (g := gb195) (o := .cells #[.int .i64 t192, .int .i64 t193] 23 (0, 0)) (by (with_reducible repeat (first | refine blk_drewN ?_ _ | refine blk_drew ?_ | refine blk_alloc ?_ _)); exact BK195.out) hb); have n6_ := Aside0.mk (below_step (by repeat (first | (with_reducible first | exact HB.out | apply below_alloc | apply pw_below_drewN | apply below_drew1 | refine below_set ?_ GE186.out | refine below_set ?_ GE187.out | refine below_set ?_ GE191.out | refine below_set ?_ GE195.out) | exact HB.out)) hb); clear HO198; clear BK186; clear BK187; clear BK191; clear BK195; clear HB; have HO198 := n0_; have HO202 := n1_; have BK186 := n2_; have BK187 := n3_; have BK191 := n4_; have BK195 := n5_; have HB := n6_; clear n0_ n1_ n2_ n3_ n4_ n5_ n6_; (try clear hb); (try clear hb2); (try clear hk); (try clear hi); (try clear ho0); obtain ⟨Ao85, co85, eo85⟩ := Kd.V_slice HO198.out; subst eo85; obtain ⟨Ao86, co86, eo86⟩ := Kd.R_slice HO202.out; subst eo86) | ((with_reducible refine gate_callee (f := 26) rfl ?_); refine goesL_ (some 53) rfl rfl Tryd.func26 (by kernel_rfl) rfl #[.slice Ao85 t196.length co85, .slice Ao86 t200.length co86] rfl (by (try simp only [List.map_toArray, List.map_cons, List.map_nil]); first | done | rfl | (simp only [List.length_drop, List.length_take]; rfl)) ?_; (with_reducible refine (remontoirref00_Alike.calls kj5 _ _ t196 _ _ t200 false _ ?side1 ?side2 ?side3 ?side4 A43.out).mono ?_); (case side1 => repeat (first | exact (Kd.V_reads' HO198.out).2.2 | (with_reducible refine Kd.C_alloc ?_ _) | (with_reducible refine Kd.C_drewN ?_ _) | (with_reducible refine Kd.C_drew ?_))); (case side2 => exact (Kd.V_reads' HO198.out).2.1); (case side3 => repeat (first | exact (Kd.R_reads' HO202.out).2.2 | (with_reducible refine Kd.C_alloc ?_ _) | (with_reducible refine Kd.C_drewN ?_ _) | (with_reducible refine Kd.C_drew ?_))); (case side4 => exact (Kd.R_reads' HO202.out).2.1); rintro e w' ⟨rfl, ⟨nd, rfl⟩⟩; refine ⟨_, rfl, ?_⟩))
          go_ret
          exact ⟨by first | rfl | (simp [errW_none, errW_some] <;> rfl) | (simp [*, errW_none, errW_some] <;> rfl), by repeat (first | (with_reducible first | exact HB.out | apply below_alloc | apply pw_below_drewN | apply below_drew1 | refine below_set ?_ GE186.out | refine below_set ?_ GE187.out | refine below_set ?_ GE191.out | refine below_set ?_ GE195.out) | exact HB.out)⟩

end Go.Proofs.TrydX.X
end

section
/- Plain: a plan that is filled up to a level is a plan. -/
set_option linter.unusedSimpArgs false
set_option linter.unusedVariables false
namespace Go.Proofs.YtidnopmjhhmedaaDoor
open Go.RowKit

/-- Neighbours differ by at most so much; the first one from d. -/
def Steps (J : Int) : Int → List Int → Prop
  | _, [] => True
  | d, x :: l => -J ≤ x - d ∧ x - d ≤ J ∧ Steps J x l
theorem of_keeps {F S J : Int} (l : List Int) : ∀ d, keepsB F S J d l = true → (∀ x ∈ l, -S ≤ x ∧ x ≤ F) ∧ Steps J d l := by
  induction l with
  | nil => intro d _; exact ⟨fun x hx => (List.not_mem_nil hx).elim, trivial⟩
  | cons x l ih =>
    intro d h
    simp only [keepsB, Bool.and_eq_true, lies_iff] at h
    obtain ⟨h1, h2⟩ := ih x h.2
    refine ⟨fun y hy => ?_, h.1.2.1, h.1.2.2, h2⟩
    rcases List.mem_cons.1 hy with e | hy
    · subst e; exact h.1.1
    · exact h1 y hy
end Go.Proofs.YtidnopmjhhmedaaDoor
end

section
-- Written by wip/tools/pr.py (a program of this repo over the kit's print.py).
namespace Go.Proofs.TrydX.X
open Go.RowKit Go.Proofs.YtidnopmjhhmedaaDoorW.PrintWords Go.Proofs.YtidnopmjhhmedaaDoorW.PrintLast Go.Proofs.YtidnopmjhhmedaaDoorW.PrintMore
attribute [local go_sem] max2_int min2_int max_two min_two max_three min_three max_four min_four   -- for this text's walks alone
set_option linter.unusedVariables false
set_option linter.unusedSimpArgs false

end Go.Proofs.TrydX.X
end

section
-- Written by wip/tools/pr.py (a program of this repo over the kit's print.py).
namespace Go.Proofs.TrydX.X
open Go.RowKit Go.Proofs.YtidnopmjhhmedaaDoorW.PrintWords Go.Proofs.YtidnopmjhhmedaaDoorW.PrintLast Go.Proofs.YtidnopmjhhmedaaDoorW.PrintMore
attribute [local go_sem] max2_int min2_int max_two min_two max_three min_three max_four min_four   -- for this text's walks alone
set_option linter.unusedVariables false
set_option linter.unusedSimpArgs false

end Go.Proofs.TrydX.X
end

section
-- Written by wip/tools/pr.py (a program of this repo over the kit's print.py).
namespace Go.Proofs.TrydX.X
open Go.RowKit Go.Proofs.YtidnopmjhhmedaaDoorW.PrintWords Go.Proofs.YtidnopmjhhmedaaDoorW.PrintLast Go.Proofs.YtidnopmjhhmedaaDoorW.PrintMore
attribute [local go_sem] max2_int min2_int max_two min_two max_three min_three max_four min_four   -- for this text's walks alone
set_option linter.unusedVariables false
set_option linter.unusedSimpArgs false

end Go.Proofs.TrydX.X
end

section
-- Written by wip/tools/pr.py (a program of this repo over the kit's print.py).
namespace Go.Proofs.TrydX.X
open Go.RowKit Go.Proofs.YtidnopmjhhmedaaDoorW.PrintWords Go.Proofs.YtidnopmjhhmedaaDoorW.PrintLast Go.Proofs.YtidnopmjhhmedaaDoorW.PrintMore
attribute [local go_sem] max2_int min2_int max_two min_two max_three min_three max_four min_four   -- for this text's walks alone
set_option linter.unusedVariables false
set_option linter.unusedSimpArgs false

end Go.Proofs.TrydX.X
end

section
-- Written by wip/tools/pr.py (a program of this repo over the kit's print.py).
namespace Go.Proofs.TrydX.X
open Go.RowKit Go.Proofs.YtidnopmjhhmedaaDoorW.PrintWords Go.Proofs.YtidnopmjhhmedaaDoorW.PrintLast Go.Proofs.YtidnopmjhhmedaaDoorW.PrintMore
attribute [local go_sem] max2_int min2_int max_two min_two max_three min_three max_four min_four   -- for this text's walks alone
set_option linter.unusedVariables false
set_option linter.unusedSimpArgs false

end Go.Proofs.TrydX.X
end

section
-- Written by wip/tools/pr.py (a program of this repo over the kit's print.py).
namespace Go.Proofs.TrydX.X
open Go.RowKit Go.Proofs.YtidnopmjhhmedaaDoorW.PrintWords Go.Proofs.YtidnopmjhhmedaaDoorW.PrintLast Go.Proofs.YtidnopmjhhmedaaDoorW.PrintMore
attribute [local go_sem] max2_int min2_int max_two min_two max_three min_three max_four min_four   -- for this text's walks alone
set_option linter.unusedVariables false
set_option linter.unusedSimpArgs false

end Go.Proofs.TrydX.X
end

section
-- Written by wip/tools/pr.py (a program of this repo over the kit's print.py).
namespace Go.Proofs.TrydX.X
open Go.RowKit Go.Proofs.YtidnopmjhhmedaaDoorW.PrintWords Go.Proofs.YtidnopmjhhmedaaDoorW.PrintLast Go.Proofs.YtidnopmjhhmedaaDoorW.PrintMore
attribute [local go_sem] max2_int min2_int max_two min_two max_three min_three max_four min_four   -- for this text's walks alone
set_option linter.unusedVariables false
set_option linter.unusedSimpArgs false

end Go.Proofs.TrydX.X
end

section
-- Written by wip/tools/pr.py (a program of this repo over the kit's print.py).
namespace Go.Proofs.TrydX.X
open Go.RowKit Go.Proofs.YtidnopmjhhmedaaDoorW.PrintWords Go.Proofs.YtidnopmjhhmedaaDoorW.PrintLast Go.Proofs.YtidnopmjhhmedaaDoorW.PrintMore
attribute [local go_sem] max2_int min2_int max_two min_two max_three min_three max_four min_four   -- for this text's walks alone
set_option linter.unusedVariables false
set_option linter.unusedSimpArgs false

end Go.Proofs.TrydX.X
end

section
-- Written by wip/tools/pr.py (a program of this repo over the kit's print.py).
namespace Go.Proofs.TrydX.X
open Go.RowKit Go.Proofs.YtidnopmjhhmedaaDoorW.PrintWords Go.Proofs.YtidnopmjhhmedaaDoorW.PrintLast Go.Proofs.YtidnopmjhhmedaaDoorW.PrintMore
attribute [local go_sem] max2_int min2_int max_two min_two max_three min_three max_four min_four   -- for this text's walks alone
set_option linter.unusedVariables false
set_option linter.unusedSimpArgs false

end Go.Proofs.TrydX.X
end

section
/- Plain: what the reference's functions of chapter 04 tell, in the hand's own words. -/
set_option linter.unusedSimpArgs false
set_option linter.unusedVariables false
namespace Go.Proofs.TrydX.X
open Go.RowKit Go.Proofs.YtidnopmjhhmedaaDoorW.PrintWords Go.Proofs.YtidnopmjhhmedaaDoorW.PrintLast
open Go.Proofs.YtidnopmjhhmedaaDoor

theorem wr {x : Int} (h : -9223372036854775808 ≤ x ∧ x ≤ 9223372036854775807) : wrap64 x = x := IntWalk.wrap64_in x h
theorem lies_f (n a b : Int) : remontoirref00_Lies.f n a b = some (lies n a b) := by
  unfold remontoirref00_Lies.f lies
  by_cases h : a ≤ n <;> simp [h]
theorem valid_f (a b l h : Int) : remontoirref00_Valid.f a b l h = some (decide (a ≤ b) && decide (l ≤ a) && decide (b ≤ h)) := by
  unfold remontoirref00_Valid.f
  by_cases h1 : a ≤ b <;> by_cases h2 : l ≤ a <;> simp [h1, h2]
theorem checkRule_f (F S J L H : Int) : remontoirref04_checkRule.f F S J L H = some (isRuleB F S J L H) := by
  unfold remontoirref04_checkRule.f isRuleB
  simp only [lies_f, valid_f, Option.bind_some]
  cases lies F 0 500 <;> cases lies S 0 500 <;> cases lies J 1 500 <;> simp
  by_cases h1 : L ≤ H <;> by_cases h2 : -100 ≤ L <;> simp [h1, h2]
theorem drop_rd (l : List Int) (i : Nat) (h : i < l.length) : l.drop i = rd l i :: l.drop (i + 1) := by
  rw [List.drop_eq_getElem_cons h]; simp [rd, h]
theorem keeps_l0 {F S J L H : Int} (hr : isRuleB F S J L H = true) (l : List Int) (hl : l.length ≤ 17592186044416) (d : Nat) : ∀ (k i : Nat) (last : Int), i + d = l.length → d < k → -500 ≤ last ∧ last ≤ 500 →
    remontoirref04_keeps.l0 k l last i F S J L H = some (keepsB F S J last (l.drop i)) := by
  obtain ⟨hF, hS, hJ, _⟩ := isRuleB_spec hr
  induction d with
  | zero =>
    intro k i last hi hk _
    obtain ⟨k, rfl⟩ : ∃ m, k = m + 1 := ⟨k - 1, by omega⟩
    simp only [remontoirref04_keeps.l0]
    rw [if_neg (by omega), List.drop_eq_nil_of_le (by omega)]; rfl
  | succ d ih =>
    intro k i last hi hk hla
    obtain ⟨k, rfl⟩ : ∃ m, k = m + 1 := ⟨k - 1, by omega⟩
    simp only [remontoirref04_keeps.l0]
    rw [if_pos (by omega), if_pos (by omega), drop_rd l i (by omega)]
    simp only [lies_f, Option.bind_some, keepsB]
    rw [wr (x := -S) (by omega), wr (x := last - J) (by omega), wr (x := last + J) (by omega), wr (x := (i : Int) + 1) (by omega)]
    cases h1 : lies (rd l i) (-S) F
    · simp
    · have h1' := lies_iff.1 h1
      have h2 : lies (rd l i) (last - J) (last + J) = lies (rd l i - last) (-J) J := by
        rw [Bool.eq_iff_iff, lies_iff, lies_iff]; omega
      rw [h2]
      cases h3 : lies (rd l i - last) (-J) J
      · simp
      · have := ih k (i + 1) (rd l i) (by omega) (by omega) (by omega)
        simpa using this
theorem keeps_f {F S J L H : Int} (hr : isRuleB F S J L H = true) (l : List Int) (hl : l.length ≤ 17592186044416) (k : Nat) (hk : l.length < k) : remontoirref04_keeps.f k F S J L H l = some (keepsB F S J 0 l) := by
  have := keeps_l0 hr l hl l.length k 0 0 (by omega) hk (by omega)
  simpa [remontoirref04_keeps.f] using this
theorem mul_bd {a b : Int} (h0 : 0 ≤ a ∧ a ≤ 500) (h1 : 0 ≤ b ∧ b ≤ 100000) : 0 ≤ a * b ∧ a * b ≤ 50000000 := by
  have h2 : 0 ≤ a * b := Int.mul_nonneg h0.1 h1.1
  have h3 : a * b ≤ 500 * 100000 := Int.mul_le_mul h0.2 h1.2 h1.1 (by omega)
  omega
theorem mn_eq (a b : Int) : mn a b = min a b := by unfold mn; omega
theorem capsTo_sum (each J : Int) (t k : Nat) : sumL (capsTo each J t (k + 1)) = sumL (capsTo each J t k) + capAt each J t k := by
  rw [capsTo_succ, sumL_append]; simp [sumL]
theorem most_l0 {each J : Int} {t : Nat} (he : 0 ≤ each ∧ each ≤ 500) (hJ : 1 ≤ J ∧ J ≤ 500) (ht : t ≤ 201) (d : Nat) : ∀ (k i : Nat), i + d = t → d < k →
    remontoirref04_most.l0 k t each J (sumL (capsTo each J t i)) ((i : Int) + 1) = some (capSum each J t) := by
  induction d with
  | zero =>
    intro k i hi hk
    obtain ⟨k, rfl⟩ : ∃ m, k = m + 1 := ⟨k - 1, by omega⟩
    simp only [remontoirref04_most.l0]
    rw [if_neg (by omega)]
    obtain rfl : i = t := by omega
    rfl
  | succ d ih =>
    intro k i hi hk
    obtain ⟨k, rfl⟩ : ∃ m, k = m + 1 := ⟨k - 1, by omega⟩
    simp only [remontoirref04_most.l0]
    rw [if_pos (by omega)]
    have h1 := mul_bd (a := J) (b := (i : Int) + 1) (by omega) (by omega)
    have h2 := mul_bd (a := J) (b := (t : Int) - i) (by omega) (by omega)
    have hs := sumL_bd (capsTo each J t i) (fun x hx => by
      have : x ∈ caps each J t := (capsTo_prefix each J t i (by omega)).subset hx
      exact caps_bd he.1 he.2 hJ.1 x this)
    have hlen : (capsTo each J t i).length = i := by simp [capsTo]
    rw [hlen] at hs
    have hc := capAt_bd (ticks := t) (k := i) he.1 he.2 hJ.1 (by omega)
    rw [wr (x := (t : Int) + 1) (by omega), wr (x := (t : Int) + 1 - ((i : Int) + 1)) (by omega), show (t : Int) + 1 - ((i : Int) + 1) = (t : Int) - i by omega,
      wr (x := J * ((i : Int) + 1)) (by omega), wr (x := J * ((t : Int) - i)) (by omega), wr (x := (i : Int) + 1 + 1) (by omega), mn_eq, mn_eq]
    change remontoirref04_most.l0 k t each J (wrap64 (sumL (capsTo each J t i) + capAt each J t i)) _ = _
    rw [wr (x := sumL (capsTo each J t i) + capAt each J t i) (by omega), ← capsTo_sum]
    exact ih k (i + 1) (by omega) (by omega)
theorem most_f {each J : Int} {t : Nat} (he : 0 ≤ each ∧ each ≤ 500) (hJ : 1 ≤ J ∧ J ≤ 500) (ht : t ≤ 201) (k : Nat) (hk : t < k) : remontoirref04_most.f k t each J = some (capSum each J t) := by
  have := most_l0 (t := t) he hJ ht t k 0 (by omega) hk
  simpa [remontoirref04_most.f, capsTo, sumL] using this
theorem capSum_bd' {each J : Int} {t : Nat} (he : 0 ≤ each ∧ each ≤ 500) (hJ : 1 ≤ J) (ht : t ≤ 201) : 0 ≤ capSum each J t ∧ capSum each J t ≤ 200000 := by
  have h := sumL_bd (caps each J t) (caps_bd he.1 he.2 hJ)
  simp [caps] at h
  unfold capSum caps
  omega
theorem reach_f {F S J L H : Int} {t : Nat} (hr : isRuleB F S J L H = true) (ht : t ≤ 201) (k : Nat) (hk : t < k) : remontoirref04_reach.f k F S J L H t = some (-(capSum S J t), capSum F J t) := by
  obtain ⟨hF, hS, hJ, _⟩ := isRuleB_spec hr
  unfold remontoirref04_reach.f
  rw [most_f hS hJ ht k hk, most_f hF hJ ht k hk]
  have := capSum_bd' (t := t) hS hJ.1 ht
  simp only [Option.bind_some, remontoirref00_To.f]
  rw [wr (x := -(capSum S J t)) (by omega)]
end Go.Proofs.TrydX.X
end

section
/- The plain law of ScaleReaches. -/
set_option linter.unusedSimpArgs false
set_option linter.unusedVariables false
namespace Go.Proofs.TrydX.X
open Go.RowKit Go.Proofs.YtidnopmjhhmedaaDoorW.PrintWords Go.Proofs.YtidnopmjhhmedaaDoorW.PrintLast Go.Proofs.YtidnopmjhhmedaaDoor

theorem Reach_f (F S J L H n : Int) (k : Nat) (hk : 201 < k) : remontoirref04_Reach.f k F S J L H n = scale_Reach.f F S J L H n := by
  unfold remontoirref04_Reach.f scale_Reach.f
  rw [checkRule_f]
  simp only [Option.bind_some]
  cases hr : isRuleB F S J L H
  · simp
  · simp only [if_true]
    rw [lies_f]
    simp only [Option.bind_some]
    cases hn : lies n 0 200
    · simp
    · simp only [if_true]
      have h := lies_iff.1 hn
      obtain ⟨t, rfl⟩ : ∃ t : Nat, n = t := ⟨n.toNat, by omega⟩
      rw [reach_f hr (by omega) k (by omega)]
      simp
theorem Shown_l0 {F S : Int} {a : Int} {l : List Int} (ha : 0 ≤ a ∧ a ≤ 10000000) (hF : F ≤ 500) (hS : S ≤ 500) (hb : ∀ x ∈ l, -S ≤ x ∧ x ≤ F) (hl : l.length ≤ 200) (d : Nat) :
    ∀ (k i : Nat), i + d = l.length → d < k → a ≤ shownAt a l i ∧ shownAt a l i ≤ a + 1500 * i → remontoirref04_Shown.l0 k l (shownTo a l i) i = some (shownL a l, 0) := by
  induction d with
  | zero =>
    intro k i hi hk _
    obtain ⟨k, rfl⟩ : ∃ m, k = m + 1 := ⟨k - 1, by omega⟩
    simp only [remontoirref04_Shown.l0]
    rw [if_neg (by omega), show i = l.length by omega]; rfl
  | succ d ih =>
    intro k i hi hk hin
    obtain ⟨k, rfl⟩ : ∃ m, k = m + 1 := ⟨k - 1, by omega⟩
    simp only [remontoirref04_Shown.l0]
    have hlen : (shownTo a l i).length = i + 1 := by simp [shownTo]
    have hrd : rd (shownTo a l i) i = shownAt a l i := by
      unfold rd; simp [shownTo, List.getD_eq_getElem?_getD]
    have hil : i < l.length := by omega
    have hx := hb l[i] (List.getElem_mem hil)
    have hrl : rd l i = l[i] := by unfold rd; simp [List.getD_eq_getElem?_getD, hil]
    have hs := shownAt_succ a l i hil
    have hg : l[i]?.getD 0 = l[i] := by rw [List.getElem?_eq_getElem hil]; rfl
    rw [hg] at hs
    rw [if_pos (by omega), if_pos (by omega), if_pos (by omega), if_pos (by omega), hrd, hrl, wr (x := shownAt a l i + 1000) (by omega), wr (x := shownAt a l i + 1000 + l[i]) (by omega), wr (x := (i : Int) + 1) (by omega)]
    have e : shownTo a l i ++ [shownAt a l i + 1000 + l[i]] = shownTo a l (i + 1) := by
      rw [shownTo, shownTo, List.range_succ (n := i + 1), List.map_append, List.map_singleton, hs]
      congr 2; omega
    rw [e]
    have := ih k (i + 1) (by omega) (by omega) (by omega)
    simpa using this
theorem Shown_f (F S J L H a : Int) (l : List Int) (hl : l.length ≤ 17592186044416) (k : Nat) (hk : l.length + 2 < k) : remontoirref04_Shown.f k F S J L H a l = scale_Shown.f F S J L H a l := by
  unfold remontoirref04_Shown.f scale_Shown.f
  rw [checkRule_f, if_pos hl]
  obtain ⟨k, rfl⟩ : ∃ m, k = m + 1 := ⟨k - 1, by omega⟩
  simp only [Option.bind_some, remontoirref04_Shown.j0]
  cases hr : isRuleB F S J L H
  · simp
  · simp only [if_true]
    rw [lies_f]
    simp only [Option.bind_some]
    cases ha : lies a 0 10000000
    · simp
    · simp only [if_true]
      by_cases h2 : l.length ≤ 200
      · rw [if_neg (by omega), keeps_f hr l hl _ (by omega)]
        simp only [Option.bind_some]
        cases hkp : keepsB F S J 0 l
        · simp
        · obtain ⟨hF, hS, hJ, _⟩ := isRuleB_spec hr
          have := Shown_l0 (F := F) (S := S) (a := a) (l := l) (lies_iff.1 ha) (by omega) (by omega) (of_keeps l 0 hkp).1 h2 l.length k 0 (by omega) (by omega) (by simp [shownAt, sumL])
          have e0 : shownTo a l 0 = [a] := by simp [shownTo, shownAt, sumL]
          rw [e0] at this
          simpa [h2] using this
      · rw [if_pos (by omega)]; simp [h2]
theorem First_same (l : List Int) (hl : l.length ≤ 17592186044416) (d : Nat) : ∀ (k i : Nat), i + d = l.length → d < k → remontoirref00_First.l0 k l l i = some (l.length : Int) := by
  induction d with
  | zero =>
    intro k i hi hk
    obtain ⟨k, rfl⟩ : ∃ m, k = m + 1 := ⟨k - 1, by omega⟩
    simp only [remontoirref00_First.l0]
    rw [if_neg (by omega), show i = l.length by omega]
  | succ d ih =>
    intro k i hi hk
    obtain ⟨k, rfl⟩ : ∃ m, k = m + 1 := ⟨k - 1, by omega⟩
    simp only [remontoirref00_First.l0]
    rw [if_pos (by omega), if_pos (by omega), if_pos (by omega), if_pos trivial, wr (x := (i : Int) + 1) (by omega)]
    have := ih k (i + 1) (by omega) (by omega)
    simpa using this
theorem Alike_same (l : List Int) (hl : l.length ≤ 17592186044416) (k : Nat) (hk : l.length < k) : remontoirref00_Alike.f k l l = some true := by
  unfold remontoirref00_Alike.f remontoirref00_First.f
  rw [if_pos rfl]
  have := First_same l hl l.length k 0 (by omega) hk
  rw [show ((0 : Nat) : Int) = 0 from rfl] at this
  rw [this]; simp
end Go.Proofs.TrydX.X
namespace Go.Proofs.YtidnopmjhhmedaaDoor
open Go.RowKit Go.Proofs.YtidnopmjhhmedaaDoorW.PrintWords Go.Proofs.YtidnopmjhhmedaaDoorW.PrintLast TrydX.X
theorem scaleReaches_pure (F S J L H n a : Int) (l : List Int) (wr : W64 F ∧ W64 S ∧ W64 J ∧ W64 L ∧ W64 H) (wn : W64 n ∧ W64 a) (wl : ∀ z ∈ l, W64 z) (hl : l.length ≤ 17592186044416) :
    ∃ k, remontoirlaw04_ScaleReaches.f k F S J L H n a l = some true := by
  refine ⟨l.length + 1000 + 1, ?_⟩
  unfold remontoirlaw04_ScaleReaches.f
  rw [Reach_f F S J L H n _ (by omega)]
  have hi : ∃ x, scale_Reach.f F S J L H n = some x := by
    unfold scale_Reach.f
    split <;> (try split) <;> exact ⟨_, rfl⟩
  obtain ⟨x, hx⟩ := hi
  rw [hx]
  simp only [Option.bind_some, bne_self_eq_false, beq_self_eq_true, Bool.not_true, Bool.or_self, Bool.false_eq_true, if_false, remontoirlaw04_ScaleReaches.j0]
  rw [Shown_f F S J L H a l hl _ (by omega)]
  have hy : ∃ y, scale_Shown.f F S J L H a l = some y ∧ y.1.length ≤ 201 := by
    unfold scale_Shown.f
    rw [if_pos hl]
    split
    · split
      · rename_i h; exact ⟨_, rfl, by simp [shownL, shownTo]; omega⟩
      · exact ⟨_, rfl, by simp⟩
    · exact ⟨_, rfl, by simp⟩
  obtain ⟨y, hy, hy2⟩ := hy
  rw [hy]
  simp only [Option.bind_some]
  rw [Alike_same y.1 (by omega) _ (by omega)]
  simp [remontoirlaw04_works.f]
end Go.Proofs.YtidnopmjhhmedaaDoor
end

section
/- The row and the card of ScaleReaches. Written by wip/tools/mkRow.py. -/
set_option linter.unusedVariables false
set_option linter.unusedSimpArgs false
namespace Go.Proofs.YtidnopmjhhmedaaDoor
open Go.ChangeShapes Go.WideShapes Go.ChangeAt Go.RowKit TrydX.X

set_option maxRecDepth 100000 in
theorem scaleReaches_lifted (os : Os) (started : os.Started) (H : Type) (enc : TypeId × Value → H) :
    ReturnsInHanded {} Tryd.checked os 4 .any (fun w args => (Rows.scaleReachesSpec.pre enc Tryd.prog Tryd.f4 [] false w args ∧ laidMetH Tryd.prog laid1 w) ∧ sizedMet enc Tryd.prog Tryd.f4 (OpenSpec.ofChange Rows.scaleReachesSpec) false w args)
      (Rows.scaleReachesSpec.post enc Tryd.prog Tryd.f4 false true false false) := by
  refine returnsInHanded_of_change_and (C := Tryd.checked) (X := fun w _ => laidMetH Tryd.prog laid1 w) (fun _ _ _ hh h => h.of_heap hh) own started (by kernel_rfl) Tryd.func4
    (ChangeSpec.witness_shaped (enc := enc) (C := Tryd.checked) (os := os) (X := fun w _ => laidMetH Tryd.prog laid1 w) false (World.doorLaid Tryd.prog 400 os) #[.agg #[.int .i64 0, .int .i64 0, .int .i64 0, .int .i64 0, .int .i64 0], .agg #[.int .i64 0, .int .i64 0], .slice none 0 0] 8 rfl (World.shaped_of_RefB (by kernel_rfl) (by kernel_rfl)) (by kernel_rfl) (by kernel_rfl) (by kernel_rfl) (door_met os _)) ?_
  intro W base args ds gs before hval0 hW hcnd hsz0 hL _
  have hsz : (DataW.weightsEach Tryd.prog (Tryd.f4.params.toList ++ Rows.scaleReachesSpec.plain.varTypes Tryd.prog) (ds ++ gs)).all (· ≤ reachBytes) = true := hsz0
  have hval : ∀ (j : Nat) t v, Tryd.f4.params[j]? = some t → args[j]? = some v → Value.okWide Tryd.prog W .any base t v := hval0
  have hW' := hW
  obtain ⟨p, q, hA0, hV, rfl, hfz, hnd⟩ := hW
  have hA : DataW.TrodAll enc Tryd.prog W 0 (fun _ => true) true Tryd.f4.params.toList args.toList ds p := hA0
  rw [Tryd.params4] at hA hval hsz
  obtain ⟨v0, vs0, d0, ds0, p0, q0, hargs, rfl, rfl, h0, r0⟩ := trodAll_cons hA
  obtain ⟨v1, vs1, d1, ds1, p1, q1, rfl, rfl, rfl, h1, r1⟩ := trodAll_cons r0
  obtain ⟨v2, vs2, d2, ds2, p2, q2, rfl, rfl, rfl, h2, r2⟩ := trodAll_cons r1
  obtain ⟨rfl, rfl, rfl⟩ := trodAll_nil r2
  obtain rfl : args = #[v0, v1, v2] := by cases args; simp_all
  obtain ⟨rfl, rfl⟩ := trodVars_none hV
  have lt0 : ∀ x ∈ p0, x.block < W.heap.size := by obtain ⟨m, hm⟩ := h0; exact DataW.trod_lt m _ _ _ hm
  have k0 := h0
  obtain ⟨cs0, rfl, hcs0⟩ := agg_of Tryd.underlying25 (hval 0 25 v0 rfl rfl)
  obtain ⟨m0, hm0⟩ := h0
  rw [hcs0] at hm0
  obtain ⟨a_0, b_0, c_0, d_0, e_0, rfl, wf0⟩ := op25 hm0
  have lt1 : ∀ x ∈ p1, x.block < W.heap.size := by obtain ⟨m, hm⟩ := h1; exact DataW.trod_lt m _ _ _ hm
  have k1 := h1
  obtain ⟨cs1, rfl, hcs1⟩ := agg_arr Tryd.underlying36 (hval 1 36 v1 rfl rfl)
  obtain ⟨m1, hm1⟩ := h1
  rw [hcs1] at hm1
  obtain ⟨a_1, b_1, rfl, wf1⟩ := op36 hm1
  have lt2 : ∀ x ∈ p2, x.block < W.heap.size := by obtain ⟨m, hm⟩ := h2; exact DataW.trod_lt m _ _ _ hm
  have k2 := h2
  obtain ⟨A_2, len2, cap2, rfl⟩ := okWide_slice Tryd.underlying26 (hval 2 26 v2 rfl rfl)
  obtain ⟨m2, hm2⟩ := h2
  obtain ⟨B_2, c_2, l_2, e2, rd2, hc2, wf2, hs2⟩ := op26 hm2
  have z2 := hs2 (weights_at hsz (j := 2) (t := 26) (d := d2) rfl rfl)
  simp [Value.cells] at e2
  obtain ⟨rfl, rfl, rfl⟩ := e2
  obtain ⟨k, hk⟩ := scaleReaches_pure a_0 b_0 c_0 d_0 e_0 a_1 b_1 l_2 wf0 wf1 wf2 z2
  clear hA0 hval0 hsz0 hsz
  refine (remontoirlaw04_ScaleReaches.calls k a_0 b_0 c_0 d_0 e_0 a_1 b_1 A_2 cap2 l_2 true W rd2 hc2 (ways_of_laid hL) hk).mono fun e W' ⟨he, bel⟩ => ?_
  subst he
  exact ⟨_, rfl, _, _, _, [], _, [], hW', trodAll_mk1 (shut_bool Tryd.underlying4 _), (trodAll_cons_mk (Below.trod laidOut (by kernel_rfl) (of_decide_eq_true (by kernel_rfl)) k0 bel lt0) (trodAll_cons_mk (Below.trod laidOut (by kernel_rfl) (of_decide_eq_true (by kernel_rfl)) k1 bel lt1) (trodAll_cons_mk (Below.trod laidOut (by kernel_rfl) (of_decide_eq_true (by kernel_rfl)) k2 bel lt2) trodAll_mk0))), rfl, bel.frame _, fun h => by cases h⟩

theorem scaleReaches_row : Rows.ScaleReachesSaid :=
  OpenClaim.holds_of_wide 4 Tryd.f4 rfl rfl rfl rfl rfl rfl rfl ⟨rfl, rfl, rfl, rfl, rfl⟩ rfl rfl rfl rfl rfl (by kernel_rfl) Tryd.func4 (by kernel_rfl)
    (of_decide_eq_true (by kernel_rfl)) (by unfold Func.isWrapper; first | (rw [if_pos (by decide +kernel)]; kernel_rfl) | (rw [if_neg (by decide +kernel)]; exact ⟨rfl, rfl⟩))
    (fun os started H enc _ => scaleReaches_lifted os started H enc)

/-- THE CARD. -/
theorem scaleReaches_holds : Rows.ScaleReachesCardSaid :=
  Claim7.holds_tied_plain_at .later [] [.funcs] true (true, "42c157d2a2e9e6c40d73358f232322a0bd5e742c3af8e9a8c48de9150ba4d318") false
    scaleReaches_row (fun _ h => by cases h) (by kernel_rfl) (fun _ h => by cases h) scaleReaches_row_tie rfl ⟨rfl, rfl⟩ (by kernel_rfl) rfl
    (fun f fn hf hfn => by
      obtain rfl : f = 4 := Option.some.inj ((show Tryd.prog.funcNamed "remontoir/remontoirlaw04.ScaleReaches" = some 4 by kernel_rfl).symm.trans hf) |>.symm
      obtain rfl : fn = Tryd.f4 := (Option.some.inj (Tryd.func4.symm.trans hfn)).symm
      exact ⟨by kernel_rfl, fun j t ht => by
        rw [Tryd.params4] at ht
        have h3 : t ∈ [(25 : TypeId), (36 : TypeId), (26 : TypeId)] := by
          obtain ⟨hj, e⟩ := Array.getElem?_eq_some_iff.1 ht
          rw [← e]
          exact Array.getElem_mem_toList hj
        simp only [List.mem_cons, List.not_mem_nil, or_false] at h3
        rcases h3 with rfl | rfl | rfl
        · exact (show Tryd.prog.wantsStandIn 25 = false by kernel_rfl)
        · exact (show Tryd.prog.wantsStandIn 36 = false by kernel_rfl)
        · exact (show Tryd.prog.wantsStandIn 26 = false by kernel_rfl)⟩)
    (by kernel_rfl)
#print axioms scaleReaches_holds
end Go.Proofs.YtidnopmjhhmedaaDoor
end
