/- PROVED: StarLeftCardSaid, for every input, where the listed variable reads as the program's text lays it. Part 5 of 7: of this session; merged by wip/tools/mkClaim.py. -/
import Derived.Test.YtohbeninpmmmpaaDoorMLeftb
import Derived.Test.YtohbeninpmmmpaaDoorMLeftd
import Derived.Test.YtohbeninpmmmpaaDoorMLeftc
section
-- Written by wip/tools/pr.py (a program of this repo over the kit's print.py).
namespace Go.Proofs.TrydX.X
open Go.RowKit Go.Proofs.YtohbeninpmmmpaaDoorW.PrintWords Go.Proofs.YtohbeninpmmmpaaDoorW.PrintLast Go.Proofs.YtohbeninpmmmpaaDoorW.PrintMore
attribute [local go_sem] max2_int min2_int max_two min_two max_three min_three max_four min_four   -- for this text's walks alone
set_option linter.unusedVariables false
set_option linter.unusedSimpArgs false

/-! ### remontoirref00_List: function 49 -/
def remontoirref00_List.l0 : Nat → Int → Int → List Int → Int → Option (List Int)
 | 0, _, _, _, _ => none
 | k + 1, x0, x1, x5, x6 => if x6 < x1 then ((remontoirref00_In.f x0 x6).bind fun t227 => (if t227 = true then (if x5.length < 17592186044416 then (remontoirref00_List.l0 k x0 x1 (x5 ++ [x6]) (wrap64 (x6 + 1))) else (none)) else (remontoirref00_List.l0 k x0 x1 x5 (wrap64 (x6 + 1))))) else (some x5)
def remontoirref00_List.f (k : Nat) (a0 : Int) (a1 : Int) : Option (List Int) := remontoirref00_List.l0 k a0 a1 ([] : List Int) 0
set_option maxHeartbeats 8000000 in
set_option maxRecDepth 100000 in
theorem remontoirref00_List.calls (k : Nat) (a0 : Int) (a1 : Int) (r : List Int) (w : World) (h : remontoirref00_List.f k a0 a1 = some r) :
  Calls Tryd.prog 49 #[.int .i64 a0, .int .i64 a1] w fun e w' => ∃ v0_ : Value, e = .returned (v0_) ∧ Kd.R (Kd.int .i64) 3 w' w.heap.size (fun _ => True) v0_ r ∧ Below w.heap.size w w' := by
 have HB := Aside0.mk (Below.refl w.heap.size w)
 have H : (remontoirref00_List.l0 k a0 a1 ([] : List Int) 0) = some r := h
 clear h
 have H' := Aside0.mk H
 clear H
 go_enter Tryd.func49, Tryd.ntmps49
 go_wp2
 go_loopg [5, 6] k (fun kq v5 v6 w' => ∃ (x5_1 : List Int) (x6_1 : Int), v6 = .int .i64 x6_1 ∧ Aside0 (remontoirref00_List.l0 kq a0 a1 x5_1 x6_1 = some r) ∧ Aside0 (kq ≤ k) ∧ Aside0 (Kd.R (Kd.int .i64) 3 w' w.heap.size (fun _ => True) v5 x5_1) ∧ Aside0 (Below w.heap.size w w'))
 case atStart => exact ⟨(([] : List Int)), (0), (by first | rfl | (simp; done) | (simp [*]; done)), H', ⟨Nat.le_refl _⟩, ⟨by first | exact Kd.R_nil _ _ _ _ _ | exact Kd.N_nil _ _ _ _ _ | exact Kd.V_nil _ _ _ _ _ | exact Kd.Q_nil _ _ _ _ _ | exact Kd.S_nil _ _ _ _ _⟩, ⟨bl HB⟩⟩
 case round =>
  clear H'
  (try clear p2)
  (try clear HO_5); (try clear HB)
  obtain ⟨x5_1, x6_1, rfl, HA, HK1, HO_5, HB⟩ := hrel
  cases gk with
  | zero => exact absurd HA.out (by simp [remontoirref00_List.l0])
  | succ k1 =>
   have H := HA.out
   clear HA
   simp only [remontoirref00_List.l0] at H
   by_cases c3 : x6_1 < a1
   ·
    rw [if_pos c3] at H
    have c3b0 : decide (x6_1 < a1) = true := decide_eq_true c3
    clear c3
    replace H := Option.bind_eq_some_iff.mp H
    obtain ⟨t227, A40, H⟩ := H
    replace H : (if t227 = true then (if x5_1.length < 17592186044416 then (remontoirref00_List.l0 k1 a0 a1 (x5_1 ++ [x6_1]) (wrap64 (x6_1 + 1))) else (none)) else (remontoirref00_List.l0 k1 a0 a1 x5_1 (wrap64 (x6_1 + 1)))) = some r := H
    have A4 := Aside0.mk A40
    clear A40
    by_cases c5 : t227 = true
    ·
     subst c5
     have H1 : (if x5_1.length < 17592186044416 then (remontoirref00_List.l0 k1 a0 a1 (x5_1 ++ [x6_1]) (wrap64 (x6_1 + 1))) else (none)) = some r := by rw [if_pos rfl] at H; exact H
     clear H
     have H := H1
     clear H1
     by_cases c6 : x5_1.length < 17592186044416
     ·
      rw [if_pos c6] at H
      have LMc6 := Aside0.mk c6
      clear c6
      obtain ⟨y228, hy228⟩ : ∃ y_ : List Int, y_ = (x5_1 ++ [x6_1]) := ⟨_, rfl⟩
      replace H : (remontoirref00_List.l0 k1 a0 a1 y228 (wrap64 (x6_1 + 1))) = some r := by first | (rw [hy228]; with_reducible exact H) | (have H2_ := (Option.bind_some _ _).symm.trans H; rw [hy228]; with_reducible exact H2_) | (have H2_ := (Option.bind_some _ _).symm.trans H; with_reducible exact H2_) | with_reducible exact H | (rw [hy228]; exact H) | exact H
      have Ny228 := Aside0.mk hy228
      clear hy228
      have H' := Aside0.mk H
      clear H
      go_wp2_with (first | ((with_reducible refine gate_callee (f := 86) rfl ?_); refine goesL_ (some 14) rfl rfl Tryd.func86 (by kernel_rfl) rfl #[.int .i64 a0, .int .i64 x6_1] rfl (by (try simp only [List.map_toArray, List.map_cons, List.map_nil]); first | done | rfl | (simp only [List.length_drop, List.length_take]; rfl)) ?_; (with_reducible refine (remontoirref00_In.calls a0 x6_1 true _ A4.out).mono ?_); rintro e w' ⟨rfl, ⟨nd, rfl⟩⟩; refine ⟨_, rfl, ?_⟩) | ((with_reducible refine gate_builtin (b := .append) (xs := #[.tmp 15, .tmp 17]) rfl ?_); at_builtin; refine Kd.R_append (Kd.int .i64) (w0 := w) w.heap.size rfl (.tmp 15) (.tmp 17) 28 3 (.int .i64 0) 8 rfl Tryd.underlying28 info3 rfl (by decide) (by omega) u5 x5_1 x6_1 [.int .i64 x6_1] (fun _ => True) (fun _ => False) rfl rfl ?aP (fun _ hk => hk.elim) ?aF ?aO ?aB ?aS ?aL ?_; (case aP => exact rfl); (case aB => exact (bl HB)); (case aF => exact (fun _ _ => trivial)); (case aO => exact (rk HO_5)); (case aS => exact (below_size (bl HB))); (case aL => have := LMc6.out; omega); intro v229 w7 ho hb hg hat; rw [← Ny228.out] at ho; have n0_ := Aside0.mk (hb); have n1_ := Aside0.mk (ho); clear HB; clear HO_5; have HB := n0_; have HO230 := n1_; clear n0_ n1_; clear ho hb hg hat))
      go_roundg k1
      case measure => have := HK1.out; omega
      case rel => exact ⟨(y228), (wrap64 (x6_1 + 1)), (by first | rfl | (simp; done) | (simp [*]; done)), H', ⟨by have := HK1.out; omega⟩, ⟨by (with_reducible repeat (first | apply Kd.R_alloc | apply Kd.R_drewN | apply Kd.R_drew)); exact HO230.out⟩, ⟨bl HB⟩⟩
     ·
      rw [if_neg c6] at H
      exact absurd H (by simp)
    ·
     replace c5 := Bool.eq_false_iff.mpr c5
     subst c5
     have H1 : (remontoirref00_List.l0 k1 a0 a1 x5_1 (wrap64 (x6_1 + 1))) = some r := by rw [if_neg (show ¬ (false = true) by decide)] at H; exact H
     clear H
     have H := H1
     clear H1
     have H' := Aside0.mk H
     clear H
     go_wp2_with (first | ((with_reducible refine gate_callee (f := 86) rfl ?_); refine goesL_ (some 14) rfl rfl Tryd.func86 (by kernel_rfl) rfl #[.int .i64 a0, .int .i64 x6_1] rfl (by (try simp only [List.map_toArray, List.map_cons, List.map_nil]); first | done | rfl | (simp only [List.length_drop, List.length_take]; rfl)) ?_; (with_reducible refine (remontoirref00_In.calls a0 x6_1 false _ A4.out).mono ?_); rintro e w' ⟨rfl, ⟨nd, rfl⟩⟩; refine ⟨_, rfl, ?_⟩))
     go_roundg k1
     case measure => have := HK1.out; omega
     case rel => exact ⟨(x5_1), (wrap64 (x6_1 + 1)), (by first | rfl | (simp; done) | (simp [*]; done)), H', ⟨by have := HK1.out; omega⟩, ⟨by (with_reducible repeat (first | apply Kd.R_alloc | apply Kd.R_drewN | apply Kd.R_drew)); exact HO_5.out⟩, ⟨bl HB⟩⟩
   ·
    rw [if_neg c3] at H
    have c3b0 : decide (x6_1 < a1) = false := decide_eq_false c3
    clear c3
    obtain rfl := Option.some.inj H
    go_wp2
    go_ret
    exact ⟨_, by first | rfl | (simp [errW_none, errW_some] <;> rfl) | (simp [*, errW_none, errW_some] <;> rfl), by (with_reducible repeat (first | apply Kd.R_alloc | apply Kd.R_drewN | apply Kd.R_drew)); exact HO_5.out, by repeat (first | (with_reducible first | exact HB.out | apply below_alloc | apply pw_below_drewN | apply below_drew1) | exact HB.out)⟩

end Go.Proofs.TrydX.X
end

section
-- Written by wip/tools/pr.py (a program of this repo over the kit's print.py).
namespace Go.Proofs.TrydX.X
open Go.RowKit Go.Proofs.YtohbeninpmmmpaaDoorW.PrintWords Go.Proofs.YtohbeninpmmmpaaDoorW.PrintLast Go.Proofs.YtohbeninpmmmpaaDoorW.PrintMore
attribute [local go_sem] max2_int min2_int max_two min_two max_three min_three max_four min_four   -- for this text's walks alone
set_option linter.unusedVariables false
set_option linter.unusedSimpArgs false

/-! ### remontoirref00_First: function 80 -/
def remontoirref00_First.l0 : Nat → List Int → List Int → Int → Option (Int)
 | 0, _, _, _ => none
 | k + 1, x0, x1, x5 => if x5 < (x0.length : Int) then (if x5 < (x1.length : Int) then (if 0 ≤ x5 then (if (rd x0 x5) = (rd x1 x5) then (remontoirref00_First.l0 k x0 x1 (wrap64 (x5 + 1))) else (some x5)) else (none)) else (some x5)) else (some x5)
def remontoirref00_First.f (k : Nat) (l0 : List Int) (l1 : List Int) : Option (Int) := remontoirref00_First.l0 k l0 l1 0
set_option maxHeartbeats 8000000 in
set_option maxRecDepth 100000 in
theorem remontoirref00_First.calls (k : Nat) (A0 : Option Addr) (c0 : Nat) (l0 : List Int) (A1 : Option Addr) (c1 : Nat) (l1 : List Int) (r : Int) (w : World) (hr0 : Kd.C (Kd.int .i64) w A0 l0.length l0) (hc0 : l0.length ≤ c0) (hr1 : Kd.C (Kd.int .i64) w A1 l1.length l1) (hc1 : l1.length ≤ c1) (h : remontoirref00_First.f k l0 l1 = some r) :
  Calls Tryd.prog 80 #[.slice A0 l0.length c0, .slice A1 l1.length c1] w fun e w' => e = .returned (.int .i64 r) ∧ Drawn0 w w' := by
 have HR0 := Aside0.mk hr0
 have HC0 := Aside0.mk hc0
 clear hr0 hc0
 have HR1 := Aside0.mk hr1
 have HC1 := Aside0.mk hc1
 clear hr1 hc1
 have H : (remontoirref00_First.l0 k l0 l1 0) = some r := h
 clear h
 have H' := Aside0.mk H
 clear H
 go_enter Tryd.func80, Tryd.ntmps80
 go_wp2
 repeat (go_quiet (fail); try go_wp2)
 go_loopg [5] k (fun kq v5 w' => ∃ (x5_1 : Int), v5 = .int .i64 x5_1 ∧ Aside0 (remontoirref00_First.l0 kq l0 l1 x5_1 = some r) ∧ Aside0 (kq ≤ k) ∧ Drawn0 w w')
 case atStart => exact ⟨(0), (by first | rfl | (simp; done) | (simp [*]; done)), H', ⟨Nat.le_refl _⟩, by repeat (first | exact Drawn0.refl _ | apply Drawn0.step)⟩
 case round =>
  clear H'
  (try clear c1); (try clear p2)
  obtain ⟨x5_1, rfl, HA, HK1, ⟨m1, rfl⟩⟩ := hrel
  cases gk with
  | zero => exact absurd HA.out (by simp [remontoirref00_First.l0])
  | succ k1 =>
   have H := HA.out
   clear HA
   simp only [remontoirref00_First.l0] at H
   by_cases c3 : x5_1 < (l0.length : Int)
   ·
    rw [if_pos c3] at H
    have c3b0 : decide (x5_1 < (l0.length : Int)) = true := decide_eq_true c3
    clear c3
    by_cases c4 : x5_1 < (l1.length : Int)
    ·
     rw [if_pos c4] at H
     have c4b0 : decide (x5_1 < (l1.length : Int)) = true := decide_eq_true c4
     clear c4
     by_cases c5 : 0 ≤ x5_1
     ·
      rw [if_pos c5] at H
      have c5b0 : decide (0 ≤ x5_1) = true := decide_eq_true c5
      clear c5
      by_cases c6 : (rd l0 x5_1) = (rd l1 x5_1)
      ·
       rw [if_pos c6] at H
       have c6b0 : ((rd l0 x5_1) == (rd l1 x5_1)) = true := beq_iff_eq.mpr c6
       have c6b1 : ((rd l0 x5_1) != (rd l1 x5_1)) = false := bne_eq_false_iff_eq.mpr c6
       clear c6
       have H' := Aside0.mk H
       clear H
       have p231 : 0 ≤ (x5_1 : Int) := of_decide_eq_true (by first | (with_reducible assumption) | assumption)
       have q231 : x5_1 < (l0.length : Int) := of_decide_eq_true (by first | (with_reducible assumption) | assumption)
       obtain ⟨ad231, e231, hx231_0⟩ := Kd.at_int HR0.out x5_1 p231 q231
       cases e231
       replace p231 := eq_true p231
       replace q231 := eq_true q231
       have p232 : 0 ≤ (x5_1 : Int) := of_decide_eq_true (by first | (with_reducible assumption) | assumption)
       have q232 : x5_1 < (l1.length : Int) := of_decide_eq_true (by first | (with_reducible assumption) | assumption)
       obtain ⟨ad232, e232, hx232_0⟩ := Kd.at_int HR1.out x5_1 p232 q232
       cases e232
       replace p232 := eq_true p232
       replace q232 := eq_true q232
       go_wp2
       repeat (go_quiet (fail); try go_wp2)
       go_roundg k1
       case measure => have := HK1.out; omega
       case rel => exact ⟨(wrap64 (x5_1 + 1)), (by first | rfl | (simp; done) | (simp [*]; done)), H', ⟨by have := HK1.out; omega⟩, by repeat (first | exact Drawn0.refl _ | apply Drawn0.step)⟩
      ·
       rw [if_neg c6] at H
       have c6b0 : ((rd l0 x5_1) == (rd l1 x5_1)) = false := beq_eq_false_iff_ne.mpr c6
       have c6b1 : ((rd l0 x5_1) != (rd l1 x5_1)) = true := bne_iff_ne.mpr c6
       obtain rfl := Option.some.inj H
       have p231 : 0 ≤ (x5_1 : Int) := of_decide_eq_true (by first | (with_reducible assumption) | assumption)
       have q231 : x5_1 < (l0.length : Int) := of_decide_eq_true (by first | (with_reducible assumption) | assumption)
       obtain ⟨ad231, e231, hx231_0⟩ := Kd.at_int HR0.out x5_1 p231 q231
       cases e231
       replace p231 := eq_true p231
       replace q231 := eq_true q231
       have p232 : 0 ≤ (x5_1 : Int) := of_decide_eq_true (by first | (with_reducible assumption) | assumption)
       have q232 : x5_1 < (l1.length : Int) := of_decide_eq_true (by first | (with_reducible assumption) | assumption)
       obtain ⟨ad232, e232, hx232_0⟩ := Kd.at_int HR1.out x5_1 p232 q232
       cases e232
       replace p232 := eq_true p232
       replace q232 := eq_true q232
       go_wp2
       repeat (go_quiet (fail); try go_wp2)
       go_ret
       exact ⟨by first | rfl | (simp; done) | (simp [*]; done), by repeat (first | exact Drawn0.refl _ | apply Drawn0.step)⟩
     ·
      rw [if_neg c5] at H
      exact absurd H (by simp)
    ·
     rw [if_neg c4] at H
     have c4b0 : decide (x5_1 < (l1.length : Int)) = false := decide_eq_false c4
     clear c4
     obtain rfl := Option.some.inj H
     go_wp2
     repeat (go_quiet (fail); try go_wp2)
     go_ret
     exact ⟨by first | rfl | (simp; done) | (simp [*]; done), by repeat (first | exact Drawn0.refl _ | apply Drawn0.step)⟩
   ·
    rw [if_neg c3] at H
    have c3b0 : decide (x5_1 < (l0.length : Int)) = false := decide_eq_false c3
    clear c3
    obtain rfl := Option.some.inj H
    go_wp2
    repeat (go_quiet (fail); try go_wp2)
    go_ret
    exact ⟨by first | rfl | (simp; done) | (simp [*]; done), by repeat (first | exact Drawn0.refl _ | apply Drawn0.step)⟩

end Go.Proofs.TrydX.X
end

section
-- Written by wip/tools/pr.py (a program of this repo over the kit's print.py).
namespace Go.Proofs.TrydX.X
open Go.RowKit Go.Proofs.YtohbeninpmmmpaaDoorW.PrintWords Go.Proofs.YtohbeninpmmmpaaDoorW.PrintLast Go.Proofs.YtohbeninpmmmpaaDoorW.PrintMore
attribute [local go_sem] max2_int min2_int max_two min_two max_three min_three max_four min_four   -- for this text's walks alone
set_option linter.unusedVariables false
set_option linter.unusedSimpArgs false

/-! ### remontoirref00_Ahead: function 50 -/
def remontoirref00_Ahead.f (k : Nat) (l0 : List Int) (l1 : List Int) : Option (Bool) := (remontoirref00_First.f k l0 l1).bind fun t233 => (if t233 < (l0.length : Int) then (if t233 < (l1.length : Int) then (if 0 ≤ t233 then (some (decide ((rd l0 t233) < (rd l1 t233)))) else (none)) else (some (decide ((l0.length : Int) < (l1.length : Int))))) else (some (decide ((l0.length : Int) < (l1.length : Int)))))
set_option maxHeartbeats 8000000 in
set_option maxRecDepth 100000 in
theorem remontoirref00_Ahead.calls (k : Nat) (A0 : Option Addr) (c0 : Nat) (l0 : List Int) (A1 : Option Addr) (c1 : Nat) (l1 : List Int) (r : Bool) (w : World) (hr0 : Kd.C (Kd.int .i64) w A0 l0.length l0) (hc0 : l0.length ≤ c0) (hr1 : Kd.C (Kd.int .i64) w A1 l1.length l1) (hc1 : l1.length ≤ c1) (h : remontoirref00_Ahead.f k l0 l1 = some r) :
  Calls Tryd.prog 50 #[.slice A0 l0.length c0, .slice A1 l1.length c1] w fun e w' => e = .returned (.bool r) ∧ Drawn0 w w' := by
 have HR0 := Aside0.mk hr0
 have HC0 := Aside0.mk hc0
 clear hr0 hc0
 have HR1 := Aside0.mk hr1
 have HC1 := Aside0.mk hc1
 clear hr1 hc1
 have H : ((remontoirref00_First.f k l0 l1).bind fun t233 => (if t233 < (l0.length : Int) then (if t233 < (l1.length : Int) then (if 0 ≤ t233 then (some (decide ((rd l0 t233) < (rd l1 t233)))) else (none)) else (some (decide ((l0.length : Int) < (l1.length : Int))))) else (some (decide ((l0.length : Int) < (l1.length : Int)))))) = some r := h
 clear h
 replace H := Option.bind_eq_some_iff.mp H
 obtain ⟨t233, A30, H⟩ := H
 replace H : (if t233 < (l0.length : Int) then (if t233 < (l1.length : Int) then (if 0 ≤ t233 then (some (decide ((rd l0 t233) < (rd l1 t233)))) else (none)) else (some (decide ((l0.length : Int) < (l1.length : Int))))) else (some (decide ((l0.length : Int) < (l1.length : Int))))) = some r := H
 have A3 := Aside0.mk A30
 clear A30
 by_cases c4 : t233 < (l0.length : Int)
 ·
  rw [if_pos c4] at H
  have c4b0 : decide (t233 < (l0.length : Int)) = true := decide_eq_true c4
  clear c4
  by_cases c5 : t233 < (l1.length : Int)
  ·
   rw [if_pos c5] at H
   have c5b0 : decide (t233 < (l1.length : Int)) = true := decide_eq_true c5
   clear c5
   by_cases c6 : 0 ≤ t233
   ·
    rw [if_pos c6] at H
    have c6b0 : decide (0 ≤ t233) = true := decide_eq_true c6
    clear c6
    obtain rfl := Option.some.inj H
    go_enter Tryd.func50, Tryd.ntmps50
    go_wp2_with (first | (go_at_call 80; (with_reducible refine (remontoirref00_First.calls k _ _ l0 _ _ l1 t233 _ ?side1 ?side2 ?side3 ?side4 A3.out).mono ?_); (case side1 => repeat (first | exact HR0.out | (with_reducible refine Kd.C_alloc ?_ _) | (with_reducible refine Kd.C_drewN ?_ _) | (with_reducible refine Kd.C_drew ?_))); (case side2 => exact HC0.out); (case side3 => repeat (first | exact HR1.out | (with_reducible refine Kd.C_alloc ?_ _) | (with_reducible refine Kd.C_drewN ?_ _) | (with_reducible refine Kd.C_drew ?_))); (case side4 => exact HC1.out); rintro e w' ⟨rfl, ⟨nd, rfl⟩⟩; (try first | exact ⟨rfl, _, World.drewN_drewN _ _ _⟩ | exact ⟨rfl, _, Eq.trans (World.drewN_drewN _ _ _) (congrArg (World.drewN _) (Nat.add_assoc _ _ _))⟩); have p234 : 0 ≤ (t233 : Int) := of_decide_eq_true (by first | (with_reducible assumption) | assumption); have q234 : t233 < (l0.length : Int) := of_decide_eq_true (by first | (with_reducible assumption) | assumption); obtain ⟨ad234, e234, hx234_0⟩ := Kd.at_int HR0.out t233 p234 q234; cases e234; replace p234 := eq_true p234; replace q234 := eq_true q234; have p235 : 0 ≤ (t233 : Int) := of_decide_eq_true (by first | (with_reducible assumption) | assumption); have q235 : t233 < (l1.length : Int) := of_decide_eq_true (by first | (with_reducible assumption) | assumption); obtain ⟨ad235, e235, hx235_0⟩ := Kd.at_int HR1.out t233 p235 q235; cases e235; replace p235 := eq_true p235; replace q235 := eq_true q235))
    repeat (go_quiet (first | (go_at_call 80; (with_reducible refine (remontoirref00_First.calls k _ _ l0 _ _ l1 t233 _ ?side1 ?side2 ?side3 ?side4 A3.out).mono ?_); (case side1 => repeat (first | exact HR0.out | (with_reducible refine Kd.C_alloc ?_ _) | (with_reducible refine Kd.C_drewN ?_ _) | (with_reducible refine Kd.C_drew ?_))); (case side2 => exact HC0.out); (case side3 => repeat (first | exact HR1.out | (with_reducible refine Kd.C_alloc ?_ _) | (with_reducible refine Kd.C_drewN ?_ _) | (with_reducible refine Kd.C_drew ?_))); (case side4 => exact HC1.out); rintro e w' ⟨rfl, ⟨nd, rfl⟩⟩; (try first | exact ⟨rfl, _, World.drewN_drewN _ _ _⟩ | exact ⟨rfl, _, Eq.trans (World.drewN_drewN _ _ _) (congrArg (World.drewN _) (Nat.add_assoc _ _ _))⟩); have p234 : 0 ≤ (t233 : Int) := of_decide_eq_true (by first | (with_reducible assumption) | assumption); have q234 : t233 < (l0.length : Int) := of_decide_eq_true (by first | (with_reducible assumption) | assumption); obtain ⟨ad234, e234, hx234_0⟩ := Kd.at_int HR0.out t233 p234 q234; cases e234; replace p234 := eq_true p234; replace q234 := eq_true q234; have p235 : 0 ≤ (t233 : Int) := of_decide_eq_true (by first | (with_reducible assumption) | assumption); have q235 : t233 < (l1.length : Int) := of_decide_eq_true (by first | (with_reducible assumption) | assumption); obtain ⟨ad235, e235, hx235_0⟩ := Kd.at_int HR1.out t233 p235 q235; cases e235; replace p235 := eq_true p235; replace q235 := eq_true q235)); try go_wp2_with (first | (go_at_call 80; (with_reducible refine (remontoirref00_First.calls k _ _ l0 _ _ l1 t233 _ ?side1 ?side2 ?side3 ?side4 A3.out).mono ?_); (case side1 => repeat (first | exact HR0.out | (with_reducible refine Kd.C_alloc ?_ _) | (with_reducible refine Kd.C_drewN ?_ _) | (with_reducible refine Kd.C_drew ?_))); (case side2 => exact HC0.out); (case side3 => repeat (first | exact HR1.out | (with_reducible refine Kd.C_alloc ?_ _) | (with_reducible refine Kd.C_drewN ?_ _) | (with_reducible refine Kd.C_drew ?_))); (case side4 => exact HC1.out); rintro e w' ⟨rfl, ⟨nd, rfl⟩⟩; (try first | exact ⟨rfl, _, World.drewN_drewN _ _ _⟩ | exact ⟨rfl, _, Eq.trans (World.drewN_drewN _ _ _) (congrArg (World.drewN _) (Nat.add_assoc _ _ _))⟩); have p234 : 0 ≤ (t233 : Int) := of_decide_eq_true (by first | (with_reducible assumption) | assumption); have q234 : t233 < (l0.length : Int) := of_decide_eq_true (by first | (with_reducible assumption) | assumption); obtain ⟨ad234, e234, hx234_0⟩ := Kd.at_int HR0.out t233 p234 q234; cases e234; replace p234 := eq_true p234; replace q234 := eq_true q234; have p235 : 0 ≤ (t233 : Int) := of_decide_eq_true (by first | (with_reducible assumption) | assumption); have q235 : t233 < (l1.length : Int) := of_decide_eq_true (by first | (with_reducible assumption) | assumption); obtain ⟨ad235, e235, hx235_0⟩ := Kd.at_int HR1.out t233 p235 q235; cases e235; replace p235 := eq_true p235; replace q235 := eq_true q235)))
    go_ret
    exact ⟨by first | rfl | (simp; done) | (simp [*]; done), by repeat (first | exact Drawn0.refl _ | apply Drawn0.step)⟩
   ·
    rw [if_neg c6] at H
    exact absurd H (by simp)
  ·
   rw [if_neg c5] at H
   have c5b0 : decide (t233 < (l1.length : Int)) = false := decide_eq_false c5
   clear c5
   obtain rfl := Option.some.inj H
   go_enter Tryd.func50, Tryd.ntmps50
   go_wp2_with (first | (go_at_call 80; (with_reducible refine (remontoirref00_First.calls k _ _ l0 _ _ l1 t233 _ ?side1 ?side2 ?side3 ?side4 A3.out).mono ?_); (case side1 => repeat (first | exact HR0.out | (with_reducible refine Kd.C_alloc ?_ _) | (with_reducible refine Kd.C_drewN ?_ _) | (with_reducible refine Kd.C_drew ?_))); (case side2 => exact HC0.out); (case side3 => repeat (first | exact HR1.out | (with_reducible refine Kd.C_alloc ?_ _) | (with_reducible refine Kd.C_drewN ?_ _) | (with_reducible refine Kd.C_drew ?_))); (case side4 => exact HC1.out); rintro e w' ⟨rfl, ⟨nd, rfl⟩⟩; (try first | exact ⟨rfl, _, World.drewN_drewN _ _ _⟩ | exact ⟨rfl, _, Eq.trans (World.drewN_drewN _ _ _) (congrArg (World.drewN _) (Nat.add_assoc _ _ _))⟩)))
   repeat (go_quiet (first | (go_at_call 80; (with_reducible refine (remontoirref00_First.calls k _ _ l0 _ _ l1 t233 _ ?side1 ?side2 ?side3 ?side4 A3.out).mono ?_); (case side1 => repeat (first | exact HR0.out | (with_reducible refine Kd.C_alloc ?_ _) | (with_reducible refine Kd.C_drewN ?_ _) | (with_reducible refine Kd.C_drew ?_))); (case side2 => exact HC0.out); (case side3 => repeat (first | exact HR1.out | (with_reducible refine Kd.C_alloc ?_ _) | (with_reducible refine Kd.C_drewN ?_ _) | (with_reducible refine Kd.C_drew ?_))); (case side4 => exact HC1.out); rintro e w' ⟨rfl, ⟨nd, rfl⟩⟩; (try first | exact ⟨rfl, _, World.drewN_drewN _ _ _⟩ | exact ⟨rfl, _, Eq.trans (World.drewN_drewN _ _ _) (congrArg (World.drewN _) (Nat.add_assoc _ _ _))⟩))); try go_wp2_with (first | (go_at_call 80; (with_reducible refine (remontoirref00_First.calls k _ _ l0 _ _ l1 t233 _ ?side1 ?side2 ?side3 ?side4 A3.out).mono ?_); (case side1 => repeat (first | exact HR0.out | (with_reducible refine Kd.C_alloc ?_ _) | (with_reducible refine Kd.C_drewN ?_ _) | (with_reducible refine Kd.C_drew ?_))); (case side2 => exact HC0.out); (case side3 => repeat (first | exact HR1.out | (with_reducible refine Kd.C_alloc ?_ _) | (with_reducible refine Kd.C_drewN ?_ _) | (with_reducible refine Kd.C_drew ?_))); (case side4 => exact HC1.out); rintro e w' ⟨rfl, ⟨nd, rfl⟩⟩; (try first | exact ⟨rfl, _, World.drewN_drewN _ _ _⟩ | exact ⟨rfl, _, Eq.trans (World.drewN_drewN _ _ _) (congrArg (World.drewN _) (Nat.add_assoc _ _ _))⟩))))
   go_ret
   exact ⟨by first | rfl | (simp; done) | (simp [*]; done), by repeat (first | exact Drawn0.refl _ | apply Drawn0.step)⟩
 ·
  rw [if_neg c4] at H
  have c4b0 : decide (t233 < (l0.length : Int)) = false := decide_eq_false c4
  clear c4
  obtain rfl := Option.some.inj H
  go_enter Tryd.func50, Tryd.ntmps50
  go_wp2_with (first | (go_at_call 80; (with_reducible refine (remontoirref00_First.calls k _ _ l0 _ _ l1 t233 _ ?side1 ?side2 ?side3 ?side4 A3.out).mono ?_); (case side1 => repeat (first | exact HR0.out | (with_reducible refine Kd.C_alloc ?_ _) | (with_reducible refine Kd.C_drewN ?_ _) | (with_reducible refine Kd.C_drew ?_))); (case side2 => exact HC0.out); (case side3 => repeat (first | exact HR1.out | (with_reducible refine Kd.C_alloc ?_ _) | (with_reducible refine Kd.C_drewN ?_ _) | (with_reducible refine Kd.C_drew ?_))); (case side4 => exact HC1.out); rintro e w' ⟨rfl, ⟨nd, rfl⟩⟩; (try first | exact ⟨rfl, _, World.drewN_drewN _ _ _⟩ | exact ⟨rfl, _, Eq.trans (World.drewN_drewN _ _ _) (congrArg (World.drewN _) (Nat.add_assoc _ _ _))⟩)))
  repeat (go_quiet (first | (go_at_call 80; (with_reducible refine (remontoirref00_First.calls k _ _ l0 _ _ l1 t233 _ ?side1 ?side2 ?side3 ?side4 A3.out).mono ?_); (case side1 => repeat (first | exact HR0.out | (with_reducible refine Kd.C_alloc ?_ _) | (with_reducible refine Kd.C_drewN ?_ _) | (with_reducible refine Kd.C_drew ?_))); (case side2 => exact HC0.out); (case side3 => repeat (first | exact HR1.out | (with_reducible refine Kd.C_alloc ?_ _) | (with_reducible refine Kd.C_drewN ?_ _) | (with_reducible refine Kd.C_drew ?_))); (case side4 => exact HC1.out); rintro e w' ⟨rfl, ⟨nd, rfl⟩⟩; (try first | exact ⟨rfl, _, World.drewN_drewN _ _ _⟩ | exact ⟨rfl, _, Eq.trans (World.drewN_drewN _ _ _) (congrArg (World.drewN _) (Nat.add_assoc _ _ _))⟩))); try go_wp2_with (first | (go_at_call 80; (with_reducible refine (remontoirref00_First.calls k _ _ l0 _ _ l1 t233 _ ?side1 ?side2 ?side3 ?side4 A3.out).mono ?_); (case side1 => repeat (first | exact HR0.out | (with_reducible refine Kd.C_alloc ?_ _) | (with_reducible refine Kd.C_drewN ?_ _) | (with_reducible refine Kd.C_drew ?_))); (case side2 => exact HC0.out); (case side3 => repeat (first | exact HR1.out | (with_reducible refine Kd.C_alloc ?_ _) | (with_reducible refine Kd.C_drewN ?_ _) | (with_reducible refine Kd.C_drew ?_))); (case side4 => exact HC1.out); rintro e w' ⟨rfl, ⟨nd, rfl⟩⟩; (try first | exact ⟨rfl, _, World.drewN_drewN _ _ _⟩ | exact ⟨rfl, _, Eq.trans (World.drewN_drewN _ _ _) (congrArg (World.drewN _) (Nat.add_assoc _ _ _))⟩))))
  go_ret
  exact ⟨by first | rfl | (simp; done) | (simp [*]; done), by repeat (first | exact Drawn0.refl _ | apply Drawn0.step)⟩

end Go.Proofs.TrydX.X
end

section
-- Written by wip/tools/pr.py (a program of this repo over the kit's print.py).
namespace Go.Proofs.TrydX.X
open Go.RowKit Go.Proofs.YtohbeninpmmmpaaDoorW.PrintWords Go.Proofs.YtohbeninpmmmpaaDoorW.PrintLast Go.Proofs.YtohbeninpmmmpaaDoorW.PrintMore
attribute [local go_sem] max2_int min2_int max_two min_two max_three min_three max_four min_four   -- for this text's walks alone
set_option linter.unusedVariables false
set_option linter.unusedSimpArgs false

/-! ### remontoirref00_Find: function 51 -/
def remontoirref00_Find.l0 : Nat → List Int → Int → Int → Int → Option (Int)
 | 0, _, _, _, _ => none
 | k + 1, x0, x1, x7, x8 => if x8 < x7 then (if 0 ≤ x8 then (if x8 < (x0.length : Int) then (if (rd x0 x8) = x1 then (some x8) else (remontoirref00_Find.l0 k x0 x1 x7 (wrap64 (x8 + 1)))) else (none)) else (none)) else (some (-1))
def remontoirref00_Find.f (k : Nat) (l0 : List Int) (a1 : Int) : Option (Int) := remontoirref00_Find.l0 k l0 a1 (l0.length : Int) 0
set_option maxHeartbeats 8000000 in
set_option maxRecDepth 100000 in
theorem remontoirref00_Find.calls (k : Nat) (A0 : Option Addr) (c0 : Nat) (l0 : List Int) (a1 : Int) (r : Int) (w : World) (hr0 : Kd.C (Kd.int .i64) w A0 l0.length l0) (hc0 : l0.length ≤ c0) (h : remontoirref00_Find.f k l0 a1 = some r) :
  Calls Tryd.prog 51 #[.slice A0 l0.length c0, .int .i64 a1] w fun e w' => e = .returned (.int .i64 r) ∧ Drawn0 w w' := by
 have HR0 := Aside0.mk hr0
 have HC0 := Aside0.mk hc0
 clear hr0 hc0
 have H : (remontoirref00_Find.l0 k l0 a1 (l0.length : Int) 0) = some r := h
 clear h
 have H' := Aside0.mk H
 clear H
 go_enter Tryd.func51, Tryd.ntmps51
 go_wp2
 go_loopg [8] k (fun kq v8 w' => ∃ (x8_1 : Int), v8 = .int .i64 x8_1 ∧ Aside0 (remontoirref00_Find.l0 kq l0 a1 (l0.length : Int) x8_1 = some r) ∧ Aside0 (kq ≤ k) ∧ Drawn0 w w')
 case atStart => exact ⟨(0), (by first | rfl | (simp; done) | (simp [*]; done)), H', ⟨Nat.le_refl _⟩, by repeat (first | exact Drawn0.refl _ | apply Drawn0.step)⟩
 case round =>
  clear H'
  (try clear p2)
  obtain ⟨x8_1, rfl, HA, HK1, ⟨m1, rfl⟩⟩ := hrel
  cases gk with
  | zero => exact absurd HA.out (by simp [remontoirref00_Find.l0])
  | succ k1 =>
   have H := HA.out
   clear HA
   simp only [remontoirref00_Find.l0] at H
   by_cases c3 : x8_1 < (l0.length : Int)
   ·
    rw [if_pos c3] at H
    have c3b0 : decide (x8_1 < (l0.length : Int)) = true := decide_eq_true c3
    clear c3
    by_cases c4 : 0 ≤ x8_1
    ·
     rw [if_pos c4] at H
     have c4b0 : decide (0 ≤ x8_1) = true := decide_eq_true c4
     clear c4
     by_cases c5 : x8_1 < (l0.length : Int)
     ·
      rw [if_pos c5] at H
      have c5b0 : decide (x8_1 < (l0.length : Int)) = true := decide_eq_true c5
      clear c5
      by_cases c6 : (rd l0 x8_1) = a1
      ·
       rw [if_pos c6] at H
       have c6b0 : ((rd l0 x8_1) == a1) = true := beq_iff_eq.mpr c6
       have c6b1 : ((rd l0 x8_1) != a1) = false := bne_eq_false_iff_eq.mpr c6
       clear c6
       obtain rfl := Option.some.inj H
       have p598 : 0 ≤ (x8_1 : Int) := of_decide_eq_true (by first | (with_reducible assumption) | assumption)
       have q598 : x8_1 < (l0.length : Int) := of_decide_eq_true (by first | (with_reducible assumption) | assumption)
       obtain ⟨ad598, e598, hx598_0⟩ := Kd.at_int HR0.out x8_1 p598 q598
       cases e598
       replace p598 := eq_true p598
       replace q598 := eq_true q598
       go_wp2
       go_ret
       exact ⟨by first | rfl | (simp; done) | (simp [*]; done), by repeat (first | exact Drawn0.refl _ | apply Drawn0.step)⟩
      ·
       rw [if_neg c6] at H
       have c6b0 : ((rd l0 x8_1) == a1) = false := beq_eq_false_iff_ne.mpr c6
       have c6b1 : ((rd l0 x8_1) != a1) = true := bne_iff_ne.mpr c6
       have H' := Aside0.mk H
       clear H
       have p598 : 0 ≤ (x8_1 : Int) := of_decide_eq_true (by first | (with_reducible assumption) | assumption)
       have q598 : x8_1 < (l0.length : Int) := of_decide_eq_true (by first | (with_reducible assumption) | assumption)
       obtain ⟨ad598, e598, hx598_0⟩ := Kd.at_int HR0.out x8_1 p598 q598
       cases e598
       replace p598 := eq_true p598
       replace q598 := eq_true q598
       go_wp2
       go_roundg k1
       case measure => have := HK1.out; omega
       case rel => exact ⟨(wrap64 (x8_1 + 1)), (by first | rfl | (simp; done) | (simp [*]; done)), H', ⟨by have := HK1.out; omega⟩, by repeat (first | exact Drawn0.refl _ | apply Drawn0.step)⟩
     ·
      rw [if_neg c5] at H
      exact absurd H (by simp)
    ·
     rw [if_neg c4] at H
     exact absurd H (by simp)
   ·
    rw [if_neg c3] at H
    have c3b0 : decide (x8_1 < (l0.length : Int)) = false := decide_eq_false c3
    clear c3
    obtain rfl := Option.some.inj H
    go_wp2
    go_ret
    exact ⟨by first | rfl | (simp; done) | (simp [*]; done), by repeat (first | exact Drawn0.refl _ | apply Drawn0.step)⟩

end Go.Proofs.TrydX.X
end

section
-- Written by wip/tools/pr.py (a program of this repo over the kit's print.py).
namespace Go.Proofs.TrydX.X
open Go.RowKit Go.Proofs.YtohbeninpmmmpaaDoorW.PrintWords Go.Proofs.YtohbeninpmmmpaaDoorW.PrintLast Go.Proofs.YtohbeninpmmmpaaDoorW.PrintMore
attribute [local go_sem] max2_int min2_int max_two min_two max_three min_three max_four min_four   -- for this text's walks alone
set_option linter.unusedVariables false
set_option linter.unusedSimpArgs false

/-! ### remontoirlaw03_without: function 47 -/
def remontoirlaw03_without.l0 : Nat → List Int → Int → Int → Int → Int → Int → Int → List (S23) → List (S23) → List (S63) → Int → Int → Int → Int → Int → List (S23) → List (S23) → List (S63) → Option (Int × Int × Int × Int × Int × (List (S23)) × (List (S23)) × (List (S63)))
 | 0, _, _, _, _, _, _, _, _, _, _, _, _, _, _, _, _, _, _ => none
 | k + 1, x1, x6, x600000, x600001, x600002, x600003, x600004, x600005, x600006, x600007, x602000, x602001, x602002, x602003, x602004, x602005, x602006, x602007 => if x6 < (x600007.length : Int) then ((remontoirref00_Find.f k x1 x6).bind fun t602 => (if t602 < 0 then (if 0 ≤ x6 then (if x602007.length < 3518437208883 then (remontoirlaw03_without.l0 k x1 (wrap64 (x6 + 1)) x600000 x600001 x600002 x600003 x600004 x600005 x600006 x600007 x602000 x602001 x602002 x602003 x602004 x602005 x602006 (x602007 ++ [(⟨(rd_T63 x600007 x6).f0, (rd_T63 x600007 x6).f1, (rd_T63 x600007 x6).f2, (rd_T63 x600007 x6).f3, (rd_T63 x600007 x6).f4⟩ : S63)])) else (none)) else (none)) else (remontoirlaw03_without.l0 k x1 (wrap64 (x6 + 1)) x600000 x600001 x600002 x600003 x600004 x600005 x600006 x600007 x602000 x602001 x602002 x602003 x602004 x602005 x602006 x602007))) else (some (x602000, x602001, x602002, x602003, x602004, x602005, x602006, x602007))
def remontoirlaw03_without.f (k : Nat) (a0_0 : Int) (a0_1 : Int) (a0_2 : Int) (a0_3 : Int) (a0_4 : Int) (l0_5 : List (S23)) (l0_6 : List (S23)) (l0_7 : List (S63)) (l1 : List Int) : Option (Int × Int × Int × Int × Int × (List (S23)) × (List (S23)) × (List (S63))) := remontoirlaw03_without.l0 k l1 0 a0_0 a0_1 a0_2 a0_3 a0_4 l0_5 l0_6 l0_7 a0_0 a0_1 a0_2 a0_3 a0_4 l0_5 l0_6 ([] : List (S63))
def remontoirlaw03_without.T7 : Bool × List (List Nat × List Nat) := (true, [([], []), ([0], [0]), ([], []), ([2], [2]), ([], []), ([3, 4], [3, 4]), ([5], [5]), ([6], [6]), ([1, 7], [1, 7]), ([0, 1, 2, 3, 4, 5, 6, 7, 8], []), ([9, 8, 8, 0, 1, 2, 3, 4, 5, 6, 7, 8], [8, 9])])
def remontoirlaw03_without.B7 : List Nat := [0, 1, 0, 4, 0, 28, 60, 124, 255, 511, 1023]
theorem remontoirlaw03_without.tab7 : rtab .any (opsOf Tryd.f47 7) = remontoirlaw03_without.T7 := by kernel_rfl
theorem remontoirlaw03_without.bits7 : waitsOk remontoirlaw03_without.T7.2 remontoirlaw03_without.B7 = true := by kernel_rfl
set_option maxHeartbeats 8000000 in
set_option maxRecDepth 100000 in
theorem remontoirlaw03_without.calls (k : Nat) (a0_0 : Int) (a0_1 : Int) (a0_2 : Int) (a0_3 : Int) (a0_4 : Int) (P0_5_ : Nat → Prop) (A0_5 : Option Addr) (c0_5 : Nat) (l0_5 : List (S23)) (P0_6_ : Nat → Prop) (A0_6 : Option Addr) (c0_6 : Nat) (l0_6 : List (S23)) (A0_7 : Option Addr) (c0_7 : Nat) (l0_7 : List (S63)) (A1 : Option Addr) (c1 : Nat) (l1 : List Int) (r1 : Int) (r2 : Int) (r3 : Int) (r4 : Int) (r5 : Int) (r6 : List (S23)) (r7 : List (S23)) (r8 : List (S63)) (w : World) (hs0_5 : Kd.V k23 23 w w.heap.size (fun k_ => P0_5_ k_) (.slice A0_5 l0_5.length c0_5) l0_5) (hs0_6 : Kd.V k23 23 w w.heap.size (fun k_ => P0_6_ k_) (.slice A0_6 l0_6.length c0_6) l0_6) (hr0_7 : Kd.C k63 w A0_7 l0_7.length l0_7) (hc0_7 : l0_7.length ≤ c0_7) (hr1 : Kd.C (Kd.int .i64) w A1 l1.length l1) (hc1 : l1.length ≤ c1) (h : remontoirlaw03_without.f k a0_0 a0_1 a0_2 a0_3 a0_4 l0_5 l0_6 l0_7 l1 = some (r1, r2, r3, r4, r5, r6, r7, r8)) :
  Calls Tryd.prog 47 #[.agg #[.int .i64 a0_0, .int .i64 a0_1, .int .i64 a0_2, .int .i64 a0_3, .int .i64 a0_4, .slice A0_5 l0_5.length c0_5, .slice A0_6 l0_6.length c0_6, .slice A0_7 l0_7.length c0_7], .slice A1 l1.length c1] w fun e w' => ∃ v5_ v6_ v7_ : Value, e = .returned (.agg #[.int .i64 r1, .int .i64 r2, .int .i64 r3, .int .i64 r4, .int .i64 r5, v5_, v6_, v7_]) ∧ Kd.V k23 23 w' w.heap.size (fun k_ => ((P0_5_ k_ ∨ P0_6_ k_) ∨ w.heap.size ≤ k_) ∧ some k_ ≠ (v7_ : Value).ownBlock) v5_ r6 ∧ Kd.V k23 23 w' w.heap.size (fun k_ => ((P0_5_ k_ ∨ P0_6_ k_) ∨ w.heap.size ≤ k_) ∧ some k_ ≠ (v7_ : Value).ownBlock) v6_ r7 ∧ Kd.R k63 63 w' w.heap.size (fun k_ => (w.heap.size ≤ k_)) v7_ r8 ∧ Below w.heap.size w w' := by
 have hu27 := Tryd.underlying27
 have hu63 := Tryd.underlying63
 have HO0_5 := Aside0.mk (show Kd.V k23 23 w w.heap.size (fun k_ => ((P0_5_ k_ ∨ P0_6_ k_) ∨ w.heap.size ≤ k_)) (.slice A0_5 l0_5.length c0_5) l0_5 from Kd.V_mono hs0_5 (fun k_ hk => .inl (.inl hk)))
 have HO0_6 := Aside0.mk (show Kd.V k23 23 w w.heap.size (fun k_ => ((P0_5_ k_ ∨ P0_6_ k_) ∨ w.heap.size ≤ k_)) (.slice A0_6 l0_6.length c0_6) l0_6 from Kd.V_mono hs0_6 (fun k_ hk => .inl (.inr hk)))
 have HR0_7 := Aside0.mk hr0_7
 have HC0_7 := Aside0.mk hc0_7
 clear hr0_7 hc0_7
 have HR1 := Aside0.mk hr1
 have HC1 := Aside0.mk hc1
 clear hr1 hc1
 have HB := Aside0.mk (Below.refl w.heap.size w)
 have H : (remontoirlaw03_without.l0 k l1 0 a0_0 a0_1 a0_2 a0_3 a0_4 l0_5 l0_6 l0_7 a0_0 a0_1 a0_2 a0_3 a0_4 l0_5 l0_6 ([] : List (S63))) = some (r1, r2, r3, r4, r5, r6, r7, r8) := h
 clear h
 have H' := Aside0.mk H
 clear H
 go_enter Tryd.func47, Tryd.ntmps47
 go_wp2_with (first | ((with_reducible refine gate_dst (N := 2) rfl ?_); refine box_event ?hg (N := 2) ?hd (cs := #[.int .i64 a0_0, .int .i64 a0_1, .int .i64 a0_2, .int .i64 a0_3, .int .i64 a0_4, .slice A0_5 l0_5.length c0_5, .slice A0_6 l0_6.length c0_6, .slice A0_7 l0_7.length c0_7]) (t := 27) ?hr ?_; (case hd => rfl); (case hg => rfl); (case hr => first | (go_simp; done) | (go_simp; rfl)); intro gb599 hg w3 hbox hb; replace HO0_5 := Aside0.mk (Kd.V_below (Kd.V_elderB (by (with_reducible repeat (first | apply Kd.V_alloc | apply Kd.V_drewN | apply Kd.V_drew)); exact HO0_5.out) gb599 (Nat.le_of_eq hg.symm)) hb); replace HO0_6 := Aside0.mk (Kd.V_below (Kd.V_elderB (by (with_reducible repeat (first | apply Kd.V_alloc | apply Kd.V_drewN | apply Kd.V_drew)); exact HO0_6.out) gb599 (Nat.le_of_eq hg.symm)) hb); have BK599 := Aside0.mk (hbox); have GW599 := geB hg (bl HB); have GE599 := geB hg (bl HB); replace HB := Aside0.mk (below_step (bl HB) hb); clear hb hbox hg) | ((with_reducible refine gate_dst (N := 4) rfl ?_); refine box_event ?hg (N := 4) ?hd (cs := #[.int .i64 0, .int .i64 0, .int .i64 0, .int .i64 0, .int .i64 0, .slice none 0 0, .slice none 0 0, .slice none 0 0]) (t := 27) ?hr ?_; (case hd => rfl); (case hg => rfl); (case hr => first | (go_simp; done) | (go_simp; rfl)); intro gb600 hg w4 hbox hb; replace HO0_5 := Aside0.mk (Kd.V_below (Kd.V_elderB (by (with_reducible repeat (first | apply Kd.V_alloc | apply Kd.V_drewN | apply Kd.V_drew)); exact HO0_5.out) gb600 (Nat.le_of_eq hg.symm)) hb); replace HO0_6 := Aside0.mk (Kd.V_below (Kd.V_elderB (by (with_reducible repeat (first | apply Kd.V_alloc | apply Kd.V_drewN | apply Kd.V_drew)); exact HO0_6.out) gb600 (Nat.le_of_eq hg.symm)) hb); have BK600 := Aside0.mk (hbox); have GW600 := geB hg (bl HB); have GE600 := geB hg (bl HB); replace HB := Aside0.mk (below_step (bl HB) hb); have NB599_600 := nlt hg (bk BK599); have NB600_599 := ngt hg (bk BK599); replace BK599 := Aside0.mk (blk_below (bk BK599) hb); clear hb hbox hg; have hnb5 := NB599_600.out; have hnc5 := NB600_599.out; have hcz6_0 : w4.cell? ⟨gb599, 0, none⟩ = some (.int .i64 a0_0) := bc BK599 0; have hcz6_1 : w4.cell? ⟨gb599, 1, none⟩ = some (.int .i64 a0_1) := bc BK599 1; have hcz6_2 : w4.cell? ⟨gb599, 2, none⟩ = some (.int .i64 a0_2) := bc BK599 2; have hcz6_3 : w4.cell? ⟨gb599, 3, none⟩ = some (.int .i64 a0_3) := bc BK599 3; have hcz6_4 : w4.cell? ⟨gb599, 4, none⟩ = some (.int .i64 a0_4) := bc BK599 4; have hcz6_5 : w4.cell? ⟨gb599, 5, none⟩ = some (.slice A0_5 l0_5.length c0_5) := bc BK599 5; have hcz6_6 : w4.cell? ⟨gb599, 6, none⟩ = some (.slice A0_6 l0_6.length c0_6) := bc BK599 6; have hcz6_7 : w4.cell? ⟨gb599, 7, none⟩ = some (.slice A0_7 l0_7.length c0_7) := bc BK599 7; have hfz6_0 := blk_frozen BK599.out 0; have hfz6_1 := blk_frozen BK599.out 1; have hfz6_2 := blk_frozen BK599.out 2; have hfz6_3 := blk_frozen BK599.out 3; have hfz6_4 := blk_frozen BK599.out 4; have hfz6_5 := blk_frozen BK599.out 5; have hfz6_6 := blk_frozen BK599.out 6; have hfz6_7 := blk_frozen BK599.out 7) | ((with_reducible refine gate_dst (N := 5) rfl ?_); refine box_event ?hg (N := 5) ?hd (cs := #[.int .i64 0, .int .i64 0, .int .i64 0, .int .i64 0, .int .i64 0, .slice none 0 0, .slice none 0 0, .slice none 0 0]) (t := 27) ?hr ?_; (case hd => rfl); (case hg => rfl); (case hr => first | (go_simp; done) | (go_simp; rfl)); intro gb601 hg w7 hbox hb; replace HO0_5 := Aside0.mk (Kd.V_below (Kd.V_elderB (by (with_reducible repeat (first | apply Kd.V_alloc | apply Kd.V_drewN | apply Kd.V_drew)); exact HO0_5.out) gb601 (Nat.le_of_eq hg.symm)) hb); replace HO0_6 := Aside0.mk (Kd.V_below (Kd.V_elderB (by (with_reducible repeat (first | apply Kd.V_alloc | apply Kd.V_drewN | apply Kd.V_drew)); exact HO0_6.out) gb601 (Nat.le_of_eq hg.symm)) hb); have BK601 := Aside0.mk (hbox); have GW601 := geB hg (bl HB); have GE601 := geB hg (bl HB); replace HB := Aside0.mk (below_step (bl HB) hb); have NB599_601 := nlt hg (bk BK599); have NB601_599 := ngt hg (bk BK599); replace BK599 := Aside0.mk (blk_below (bk BK599) hb); have NB600_601 := nlt hg (bk BK600); have NB601_600 := ngt hg (bk BK600); replace BK600 := Aside0.mk (blk_below (bk BK600) hb); clear hb hbox hg; have hnb8 := NB601_599.out; have hnc8 := NB599_601.out; have hnb9 := NB601_600.out; have hnc9 := NB600_601.out; have hcz10_0 : w7.cell? ⟨gb601, 0, none⟩ = some (.int .i64 0) := bc BK601 0; have hcz10_1 : w7.cell? ⟨gb601, 1, none⟩ = some (.int .i64 0) := bc BK601 1; have hcz10_2 : w7.cell? ⟨gb601, 2, none⟩ = some (.int .i64 0) := bc BK601 2; have hcz10_3 : w7.cell? ⟨gb601, 3, none⟩ = some (.int .i64 0) := bc BK601 3; have hcz10_4 : w7.cell? ⟨gb601, 4, none⟩ = some (.int .i64 0) := bc BK601 4; have hcz10_5 : w7.cell? ⟨gb601, 5, none⟩ = some (.slice none 0 0) := bc BK601 5; have hcz10_6 : w7.cell? ⟨gb601, 6, none⟩ = some (.slice none 0 0) := bc BK601 6; have hcz10_7 : w7.cell? ⟨gb601, 7, none⟩ = some (.slice none 0 0) := bc BK601 7; have hfz10_0 := blk_frozen BK601.out 0; have hfz10_1 := blk_frozen BK601.out 1; have hfz10_2 := blk_frozen BK601.out 2; have hfz10_3 := blk_frozen BK601.out 3; have hfz10_4 := blk_frozen BK601.out 4; have hfz10_5 := blk_frozen BK601.out 5; have hfz10_6 := blk_frozen BK601.out 6; have hfz10_7 := blk_frozen BK601.out 7))
 go_loopg [6] k (fun kq v6 w' => ∃ (x6_1 : Int) (x602007_1 : List (S63)) (u602007 : Value), v6 = .int .i64 x6_1 ∧ Aside0 (remontoirlaw03_without.l0 kq l1 x6_1 a0_0 a0_1 a0_2 a0_3 a0_4 l0_5 l0_6 l0_7 a0_0 a0_1 a0_2 a0_3 a0_4 l0_5 l0_6 x602007_1 = some (r1, r2, r3, r4, r5, r6, r7, r8)) ∧ Aside0 (kq ≤ k) ∧ Aside0 (Kd.V k23 23 w' w.heap.size (fun k_ => ((P0_5_ k_ ∨ P0_6_ k_) ∨ w.heap.size ≤ k_) ∧ some k_ ≠ (u602007 : Value).ownBlock ∧ k_ ≠ gb599 ∧ k_ ≠ gb600 ∧ k_ ≠ gb601) (.slice A0_5 l0_5.length c0_5) l0_5) ∧ Aside0 (Kd.V k23 23 w' w.heap.size (fun k_ => ((P0_5_ k_ ∨ P0_6_ k_) ∨ w.heap.size ≤ k_) ∧ some k_ ≠ (u602007 : Value).ownBlock ∧ k_ ≠ gb599 ∧ k_ ≠ gb600 ∧ k_ ≠ gb601) (.slice A0_6 l0_6.length c0_6) l0_6) ∧ Aside0 (Kd.V k23 23 w' w.heap.size (fun k_ => ((P0_5_ k_ ∨ P0_6_ k_) ∨ w.heap.size ≤ k_) ∧ some k_ ≠ (u602007 : Value).ownBlock ∧ k_ ≠ gb599 ∧ k_ ≠ gb600 ∧ k_ ≠ gb601) (.slice A0_5 l0_5.length c0_5) l0_5) ∧ Aside0 (Kd.V k23 23 w' w.heap.size (fun k_ => ((P0_5_ k_ ∨ P0_6_ k_) ∨ w.heap.size ≤ k_) ∧ some k_ ≠ (u602007 : Value).ownBlock ∧ k_ ≠ gb599 ∧ k_ ≠ gb600 ∧ k_ ≠ gb601) (.slice A0_6 l0_6.length c0_6) l0_6) ∧ Aside0 (Kd.R k63 63 w' w.heap.size (fun k_ => (w.heap.size ≤ k_)) u602007 x602007_1) ∧ Aside0 (w'.heap[gb599]? = some (.cells #[.int .i64 a0_0, .int .i64 a0_1, .int .i64 a0_2, .int .i64 a0_3, .int .i64 a0_4, (.slice A0_5 l0_5.length c0_5), (.slice A0_6 l0_6.length c0_6), (.slice A0_7 l0_7.length c0_7)] 27 (0, 0))) ∧ Aside0 (w'.heap[gb600]? = some (.cells #[.int .i64 0, .int .i64 0, .int .i64 0, .int .i64 0, .int .i64 0, (.slice none 0 0), (.slice none 0 0), (.slice none 0 0)] 27 (0, 0))) ∧ Aside0 (w'.heap[gb601]? = some (.cells #[.int .i64 a0_0, .int .i64 a0_1, .int .i64 a0_2, .int .i64 a0_3, .int .i64 a0_4, (.slice A0_5 l0_5.length c0_5), (.slice A0_6 l0_6.length c0_6), u602007] 27 (0, 0))) ∧ Aside0 (Below w.heap.size w w'))
 case atStart => exact ⟨(0), (([] : List (S63))), (.slice none 0 0), (by first | rfl | (simp; done) | (simp [*]; done)), H', ⟨Nat.le_refl _⟩, ⟨by (with_reducible repeat (first | apply Kd.V_alloc | apply Kd.V_drewN | apply Kd.V_drew)); exact Kd.V_mono (Kd.V_far (p := ⟨gb601, 7, none⟩) (Kd.V_far (p := ⟨gb601, 7, none⟩) (Kd.V_far (p := ⟨gb601, 6, none⟩) (Kd.V_far (p := ⟨gb601, 5, none⟩) (Kd.V_far (p := ⟨gb601, 4, none⟩) (Kd.V_far (p := ⟨gb601, 3, none⟩) (Kd.V_far (p := ⟨gb601, 2, none⟩) (Kd.V_far (p := ⟨gb601, 1, none⟩) (Kd.V_far (p := ⟨gb601, 0, none⟩) (Kd.V_mono HO0_5.out (fun k_ hk => (⟨hk, hk.2⟩ : _ ∧ k_ ≠ gb601))) (fun _ hk => hk.2) (.int .i64 a0_0)) (fun _ hk => hk.2) (.int .i64 a0_1)) (fun _ hk => hk.2) (.int .i64 a0_2)) (fun _ hk => hk.2) (.int .i64 a0_3)) (fun _ hk => hk.2) (.int .i64 a0_4)) (fun _ hk => hk.2) (.slice A0_5 l0_5.length c0_5)) (fun _ hk => hk.2) (.slice A0_6 l0_6.length c0_6)) (fun _ hk => hk.2) (.slice A0_7 l0_7.length c0_7)) (fun _ hk => hk.2) (.slice none 0 0)) (fun _ hk => ⟨hk.1.1.1.1, ⟨(by simp [Value.ownBlock]), ⟨hk.1.1.1.2, ⟨hk.1.1.2, hk.1.2⟩⟩⟩⟩)⟩, ⟨by (with_reducible repeat (first | apply Kd.V_alloc | apply Kd.V_drewN | apply Kd.V_drew)); exact Kd.V_mono (Kd.V_far (p := ⟨gb601, 7, none⟩) (Kd.V_far (p := ⟨gb601, 7, none⟩) (Kd.V_far (p := ⟨gb601, 6, none⟩) (Kd.V_far (p := ⟨gb601, 5, none⟩) (Kd.V_far (p := ⟨gb601, 4, none⟩) (Kd.V_far (p := ⟨gb601, 3, none⟩) (Kd.V_far (p := ⟨gb601, 2, none⟩) (Kd.V_far (p := ⟨gb601, 1, none⟩) (Kd.V_far (p := ⟨gb601, 0, none⟩) (Kd.V_mono HO0_6.out (fun k_ hk => (⟨hk, hk.2⟩ : _ ∧ k_ ≠ gb601))) (fun _ hk => hk.2) (.int .i64 a0_0)) (fun _ hk => hk.2) (.int .i64 a0_1)) (fun _ hk => hk.2) (.int .i64 a0_2)) (fun _ hk => hk.2) (.int .i64 a0_3)) (fun _ hk => hk.2) (.int .i64 a0_4)) (fun _ hk => hk.2) (.slice A0_5 l0_5.length c0_5)) (fun _ hk => hk.2) (.slice A0_6 l0_6.length c0_6)) (fun _ hk => hk.2) (.slice A0_7 l0_7.length c0_7)) (fun _ hk => hk.2) (.slice none 0 0)) (fun _ hk => ⟨hk.1.1.1.1, ⟨(by simp [Value.ownBlock]), ⟨hk.1.1.1.2, ⟨hk.1.1.2, hk.1.2⟩⟩⟩⟩)⟩, ⟨by (with_reducible repeat (first | apply Kd.V_alloc | apply Kd.V_drewN | apply Kd.V_drew)); exact Kd.V_mono (Kd.V_far (p := ⟨gb601, 7, none⟩) (Kd.V_far (p := ⟨gb601, 7, none⟩) (Kd.V_far (p := ⟨gb601, 6, none⟩) (Kd.V_far (p := ⟨gb601, 5, none⟩) (Kd.V_far (p := ⟨gb601, 4, none⟩) (Kd.V_far (p := ⟨gb601, 3, none⟩) (Kd.V_far (p := ⟨gb601, 2, none⟩) (Kd.V_far (p := ⟨gb601, 1, none⟩) (Kd.V_far (p := ⟨gb601, 0, none⟩) (Kd.V_mono HO0_5.out (fun k_ hk => (⟨hk, hk.2⟩ : _ ∧ k_ ≠ gb601))) (fun _ hk => hk.2) (.int .i64 a0_0)) (fun _ hk => hk.2) (.int .i64 a0_1)) (fun _ hk => hk.2) (.int .i64 a0_2)) (fun _ hk => hk.2) (.int .i64 a0_3)) (fun _ hk => hk.2) (.int .i64 a0_4)) (fun _ hk => hk.2) (.slice A0_5 l0_5.length c0_5)) (fun _ hk => hk.2) (.slice A0_6 l0_6.length c0_6)) (fun _ hk => hk.2) (.slice A0_7 l0_7.length c0_7)) (fun _ hk => hk.2) (.slice none 0 0)) (fun _ hk => ⟨hk.1.1.1.1, ⟨(by simp [Value.ownBlock]), ⟨hk.1.1.1.2, ⟨hk.1.1.2, hk.1.2⟩⟩⟩⟩)⟩, ⟨by (with_reducible repeat (first | apply Kd.V_alloc | apply Kd.V_drewN | apply Kd.V_drew)); exact Kd.V_mono (Kd.V_far (p := ⟨gb601, 7, none⟩) (Kd.V_far (p := ⟨gb601, 7, none⟩) (Kd.V_far (p := ⟨gb601, 6, none⟩) (Kd.V_far (p := ⟨gb601, 5, none⟩) (Kd.V_far (p := ⟨gb601, 4, none⟩) (Kd.V_far (p := ⟨gb601, 3, none⟩) (Kd.V_far (p := ⟨gb601, 2, none⟩) (Kd.V_far (p := ⟨gb601, 1, none⟩) (Kd.V_far (p := ⟨gb601, 0, none⟩) (Kd.V_mono HO0_6.out (fun k_ hk => (⟨hk, hk.2⟩ : _ ∧ k_ ≠ gb601))) (fun _ hk => hk.2) (.int .i64 a0_0)) (fun _ hk => hk.2) (.int .i64 a0_1)) (fun _ hk => hk.2) (.int .i64 a0_2)) (fun _ hk => hk.2) (.int .i64 a0_3)) (fun _ hk => hk.2) (.int .i64 a0_4)) (fun _ hk => hk.2) (.slice A0_5 l0_5.length c0_5)) (fun _ hk => hk.2) (.slice A0_6 l0_6.length c0_6)) (fun _ hk => hk.2) (.slice A0_7 l0_7.length c0_7)) (fun _ hk => hk.2) (.slice none 0 0)) (fun _ hk => ⟨hk.1.1.1.1, ⟨(by simp [Value.ownBlock]), ⟨hk.1.1.1.2, ⟨hk.1.1.2, hk.1.2⟩⟩⟩⟩)⟩, ⟨by first | exact Kd.R_nil _ _ _ _ _ | exact Kd.N_nil _ _ _ _ _ | exact Kd.V_nil _ _ _ _ _ | exact Kd.Q_nil _ _ _ _ _ | exact Kd.S_nil _ _ _ _ _⟩, ⟨bk BK599⟩, ⟨bk BK600⟩, ⟨by (with_reducible repeat (first | refine blk_drewN ?_ _ | refine blk_drew ?_ | refine blk_alloc ?_ _)); refine blk_put (cs := #[.int .i64 a0_0, .int .i64 a0_1, .int .i64 a0_2, .int .i64 a0_3, .int .i64 a0_4, .slice A0_5 l0_5.length c0_5, .slice A0_6 l0_6.length c0_6, .slice A0_7 l0_7.length c0_7]) ?_ 7 _ rfl; (with_reducible repeat (first | refine blk_drewN ?_ _ | refine blk_drew ?_ | refine blk_alloc ?_ _)); refine blk_put (cs := #[.int .i64 a0_0, .int .i64 a0_1, .int .i64 a0_2, .int .i64 a0_3, .int .i64 a0_4, .slice A0_5 l0_5.length c0_5, .slice A0_6 l0_6.length c0_6, .slice none 0 0]) ?_ 7 _ rfl; (with_reducible repeat (first | refine blk_drewN ?_ _ | refine blk_drew ?_ | refine blk_alloc ?_ _)); refine blk_put (cs := #[.int .i64 a0_0, .int .i64 a0_1, .int .i64 a0_2, .int .i64 a0_3, .int .i64 a0_4, .slice A0_5 l0_5.length c0_5, .slice none 0 0, .slice none 0 0]) ?_ 6 _ rfl; (with_reducible repeat (first | refine blk_drewN ?_ _ | refine blk_drew ?_ | refine blk_alloc ?_ _)); refine blk_put (cs := #[.int .i64 a0_0, .int .i64 a0_1, .int .i64 a0_2, .int .i64 a0_3, .int .i64 a0_4, .slice none 0 0, .slice none 0 0, .slice none 0 0]) ?_ 5 _ rfl; (with_reducible repeat (first | refine blk_drewN ?_ _ | refine blk_drew ?_ | refine blk_alloc ?_ _)); refine blk_put (cs := #[.int .i64 a0_0, .int .i64 a0_1, .int .i64 a0_2, .int .i64 a0_3, .int .i64 0, .slice none 0 0, .slice none 0 0, .slice none 0 0]) ?_ 4 _ rfl; (with_reducible repeat (first | refine blk_drewN ?_ _ | refine blk_drew ?_ | refine blk_alloc ?_ _)); refine blk_put (cs := #[.int .i64 a0_0, .int .i64 a0_1, .int .i64 a0_2, .int .i64 0, .int .i64 0, .slice none 0 0, .slice none 0 0, .slice none 0 0]) ?_ 3 _ rfl; (with_reducible repeat (first | refine blk_drewN ?_ _ | refine blk_drew ?_ | refine blk_alloc ?_ _)); refine blk_put (cs := #[.int .i64 a0_0, .int .i64 a0_1, .int .i64 0, .int .i64 0, .int .i64 0, .slice none 0 0, .slice none 0 0, .slice none 0 0]) ?_ 2 _ rfl; (with_reducible repeat (first | refine blk_drewN ?_ _ | refine blk_drew ?_ | refine blk_alloc ?_ _)); refine blk_put (cs := #[.int .i64 a0_0, .int .i64 0, .int .i64 0, .int .i64 0, .int .i64 0, .slice none 0 0, .slice none 0 0, .slice none 0 0]) ?_ 1 _ rfl; (with_reducible repeat (first | refine blk_drewN ?_ _ | refine blk_drew ?_ | refine blk_alloc ?_ _)); refine blk_put (cs := #[.int .i64 0, .int .i64 0, .int .i64 0, .int .i64 0, .int .i64 0, .slice none 0 0, .slice none 0 0, .slice none 0 0]) ?_ 0 _ rfl; (with_reducible repeat (first | refine blk_drewN ?_ _ | refine blk_drew ?_ | refine blk_alloc ?_ _)); exact BK601.out⟩, ⟨bl HB⟩⟩
 case round =>
  clear H'
  (try clear c1); (try clear p2); (try clear c4); (try clear c5); (try clear c8); (try clear c9); (try clear hcz10_0); (try clear hcz10_1); (try clear hcz10_2); (try clear hcz10_3); (try clear hcz10_4); (try clear hcz10_5); (try clear hcz10_6); (try clear hcz10_7); (try clear hcz6_0); (try clear hcz6_1); (try clear hcz6_2); (try clear hcz6_3); (try clear hcz6_4); (try clear hcz6_5); (try clear hcz6_6); (try clear hcz6_7); (try clear hfz10_0); (try clear hfz10_1); (try clear hfz10_2); (try clear hfz10_3); (try clear hfz10_4); (try clear hfz10_5); (try clear hfz10_6); (try clear hfz10_7); (try clear hfz6_0); (try clear hfz6_1); (try clear hfz6_2); (try clear hfz6_3); (try clear hfz6_4); (try clear hfz6_5); (try clear hfz6_6); (try clear hfz6_7)
  (try clear HO_600005); (try clear HO_600006); (try clear HO_602005); (try clear HO_602006); (try clear HO_602007); (try clear BK599); (try clear BK600); (try clear BK601); (try clear HB)
  obtain ⟨x6_1, x602007_1, u602007, rfl, HA, HK1, HO_600005, HO_600006, HO_602005, HO_602006, HO_602007, BK599, BK600, BK601, HB⟩ := hrel
  cases gk with
  | zero => exact absurd HA.out (by simp [remontoirlaw03_without.l0])
  | succ k1 =>
   have H := HA.out
   clear HA
   simp only [remontoirlaw03_without.l0] at H
   by_cases c11 : x6_1 < (l0_7.length : Int)
   ·
    rw [if_pos c11] at H
    have c11b0 : decide (x6_1 < (l0_7.length : Int)) = true := decide_eq_true c11
    clear c11
    replace H := Option.bind_eq_some_iff.mp H
    obtain ⟨t602, A120, H⟩ := H
    replace H : (if t602 < 0 then (if 0 ≤ x6_1 then (if x602007_1.length < 3518437208883 then (remontoirlaw03_without.l0 k1 l1 (wrap64 (x6_1 + 1)) a0_0 a0_1 a0_2 a0_3 a0_4 l0_5 l0_6 l0_7 a0_0 a0_1 a0_2 a0_3 a0_4 l0_5 l0_6 (x602007_1 ++ [(⟨(rd_T63 l0_7 x6_1).f0, (rd_T63 l0_7 x6_1).f1, (rd_T63 l0_7 x6_1).f2, (rd_T63 l0_7 x6_1).f3, (rd_T63 l0_7 x6_1).f4⟩ : S63)])) else (none)) else (none)) else (remontoirlaw03_without.l0 k1 l1 (wrap64 (x6_1 + 1)) a0_0 a0_1 a0_2 a0_3 a0_4 l0_5 l0_6 l0_7 a0_0 a0_1 a0_2 a0_3 a0_4 l0_5 l0_6 x602007_1)) = some (r1, r2, r3, r4, r5, r6, r7, r8) := H
    have A12 := Aside0.mk A120
    clear A120
    by_cases c13 : t602 < 0
    ·
     rw [if_pos c13] at H
     have c13b0 : decide (t602 < 0) = true := decide_eq_true c13
     clear c13
     by_cases c14 : 0 ≤ x6_1
     ·
      rw [if_pos c14] at H
      have c14b0 : decide (0 ≤ x6_1) = true := decide_eq_true c14
      clear c14
      by_cases c15 : x602007_1.length < 3518437208883
      ·
       rw [if_pos c15] at H
       have LMc15 := Aside0.mk c15
       clear c15
       obtain ⟨y604, hy604⟩ : ∃ y_ : List (S63), y_ = (x602007_1 ++ [(⟨(rd_T63 l0_7 x6_1).f0, (rd_T63 l0_7 x6_1).f1, (rd_T63 l0_7 x6_1).f2, (rd_T63 l0_7 x6_1).f3, (rd_T63 l0_7 x6_1).f4⟩ : S63)]) := ⟨_, rfl⟩
       replace H : (remontoirlaw03_without.l0 k1 l1 (wrap64 (x6_1 + 1)) a0_0 a0_1 a0_2 a0_3 a0_4 l0_5 l0_6 l0_7 a0_0 a0_1 a0_2 a0_3 a0_4 l0_5 l0_6 y604) = some (r1, r2, r3, r4, r5, r6, r7, r8) := by first | (rw [hy604]; with_reducible exact H) | (have H2_ := (Option.bind_some _ _).symm.trans H; rw [hy604]; with_reducible exact H2_) | (have H2_ := (Option.bind_some _ _).symm.trans H; with_reducible exact H2_) | with_reducible exact H | (rw [hy604]; exact H) | exact H
       have Ny604 := Aside0.mk hy604
       clear hy604
       have H' := Aside0.mk H
       clear H
       have hnb16 := NB599_600.out
       have hnc16 := NB600_599.out
       have hnb17 := NB599_601.out
       have hnc17 := NB601_599.out
       have hcz18_0 : wr.cell? ⟨gb599, 0, none⟩ = some (.int .i64 a0_0) := bc BK599 0
       have hcz18_1 : wr.cell? ⟨gb599, 1, none⟩ = some (.int .i64 a0_1) := bc BK599 1
       have hcz18_2 : wr.cell? ⟨gb599, 2, none⟩ = some (.int .i64 a0_2) := bc BK599 2
       have hcz18_3 : wr.cell? ⟨gb599, 3, none⟩ = some (.int .i64 a0_3) := bc BK599 3
       have hcz18_4 : wr.cell? ⟨gb599, 4, none⟩ = some (.int .i64 a0_4) := bc BK599 4
       have hcz18_5 : wr.cell? ⟨gb599, 5, none⟩ = some (.slice A0_5 l0_5.length c0_5) := bc BK599 5
       have hcz18_6 : wr.cell? ⟨gb599, 6, none⟩ = some (.slice A0_6 l0_6.length c0_6) := bc BK599 6
       have hcz18_7 : wr.cell? ⟨gb599, 7, none⟩ = some (.slice A0_7 l0_7.length c0_7) := bc BK599 7
       have hfz18_0 := blk_frozen BK599.out 0
       have hfz18_1 := blk_frozen BK599.out 1
       have hfz18_2 := blk_frozen BK599.out 2
       have hfz18_3 := blk_frozen BK599.out 3
       have hfz18_4 := blk_frozen BK599.out 4
       have hfz18_5 := blk_frozen BK599.out 5
       have hfz18_6 := blk_frozen BK599.out 6
       have hfz18_7 := blk_frozen BK599.out 7
       try go_wp2_with (first | ((with_reducible refine gate_callee (f := 51) rfl ?_); refine goesL_ (some 18) rfl rfl Tryd.func51 (by kernel_rfl) rfl #[.slice A1 l1.length c1, .int .i64 x6_1] rfl (by (try simp only [List.map_toArray, List.map_cons, List.map_nil]); first | done | rfl | (simp only [List.length_drop, List.length_take]; rfl)) ?_; (with_reducible refine (remontoirref00_Find.calls k1 _ _ l1 x6_1 t602 _ ?side1 ?side2 A12.out).mono ?_); (case side1 => repeat (first | exact (Kd.C_below HR1.out HB.out) | (with_reducible refine Kd.C_alloc ?_ _) | (with_reducible refine Kd.C_drewN ?_ _) | (with_reducible refine Kd.C_drew ?_))); (case side2 => exact HC1.out); rintro e w' ⟨rfl, ⟨nd, rfl⟩⟩; refine ⟨_, rfl, ?_⟩; (try (rw [drewN_self wr]; generalize hq_ : World.drewN wr _ = wr; have n0_ : Aside0 (Kd.V k23 23 wr w.heap.size (fun k_ => ((P0_5_ k_ ∨ P0_6_ k_) ∨ w.heap.size ≤ k_) ∧ some k_ ≠ (u602007 : Value).ownBlock ∧ k_ ≠ gb599 ∧ k_ ≠ gb600 ∧ k_ ≠ gb601) (.slice A0_5 l0_5.length c0_5) l0_5) := ⟨by rw [← hq_]; exact (by (with_reducible repeat (first | apply Kd.V_alloc | apply Kd.V_drewN | apply Kd.V_drew)); exact HO_600005.out)⟩; have n1_ : Aside0 (Kd.V k23 23 wr w.heap.size (fun k_ => ((P0_5_ k_ ∨ P0_6_ k_) ∨ w.heap.size ≤ k_) ∧ some k_ ≠ (u602007 : Value).ownBlock ∧ k_ ≠ gb599 ∧ k_ ≠ gb600 ∧ k_ ≠ gb601) (.slice A0_6 l0_6.length c0_6) l0_6) := ⟨by rw [← hq_]; exact (by (with_reducible repeat (first | apply Kd.V_alloc | apply Kd.V_drewN | apply Kd.V_drew)); exact HO_600006.out)⟩; have n2_ : Aside0 (Kd.V k23 23 wr w.heap.size (fun k_ => ((P0_5_ k_ ∨ P0_6_ k_) ∨ w.heap.size ≤ k_) ∧ some k_ ≠ (u602007 : Value).ownBlock ∧ k_ ≠ gb599 ∧ k_ ≠ gb600 ∧ k_ ≠ gb601) (.slice A0_5 l0_5.length c0_5) l0_5) := ⟨by rw [← hq_]; exact (by (with_reducible repeat (first | apply Kd.V_alloc | apply Kd.V_drewN | apply Kd.V_drew)); exact HO_602005.out)⟩; have n3_ : Aside0 (Kd.V k23 23 wr w.heap.size (fun k_ => ((P0_5_ k_ ∨ P0_6_ k_) ∨ w.heap.size ≤ k_) ∧ some k_ ≠ (u602007 : Value).ownBlock ∧ k_ ≠ gb599 ∧ k_ ≠ gb600 ∧ k_ ≠ gb601) (.slice A0_6 l0_6.length c0_6) l0_6) := ⟨by rw [← hq_]; exact (by (with_reducible repeat (first | apply Kd.V_alloc | apply Kd.V_drewN | apply Kd.V_drew)); exact HO_602006.out)⟩; have n4_ : Aside0 (Kd.R k63 63 wr w.heap.size (fun k_ => (w.heap.size ≤ k_)) u602007 x602007_1) := ⟨by rw [← hq_]; exact (rk HO_602007)⟩; have n5_ : Aside0 (wr.heap[gb599]? = some (.cells #[.int .i64 a0_0, .int .i64 a0_1, .int .i64 a0_2, .int .i64 a0_3, .int .i64 a0_4, .slice A0_5 l0_5.length c0_5, .slice A0_6 l0_6.length c0_6, .slice A0_7 l0_7.length c0_7] 27 (0, 0))) := ⟨by rw [← hq_]; exact (bk BK599)⟩; have n6_ : Aside0 (wr.heap[gb600]? = some (.cells #[.int .i64 0, .int .i64 0, .int .i64 0, .int .i64 0, .int .i64 0, .slice none 0 0, .slice none 0 0, .slice none 0 0] 27 (0, 0))) := ⟨by rw [← hq_]; exact (bk BK600)⟩; have n7_ : Aside0 (wr.heap[gb601]? = some (.cells #[.int .i64 a0_0, .int .i64 a0_1, .int .i64 a0_2, .int .i64 a0_3, .int .i64 a0_4, .slice A0_5 l0_5.length c0_5, .slice A0_6 l0_6.length c0_6, u602007] 27 (0, 0))) := ⟨by rw [← hq_]; exact (bk BK601)⟩; have n8_ : Aside0 (Below w.heap.size w wr) := ⟨by rw [← hq_]; exact (bl HB)⟩; clear HO_600005 HO_600006 HO_602005 HO_602006 HO_602007 BK599 BK600 BK601 HB hq_; have HO_600005 := n0_; have HO_600006 := n1_; have HO_602005 := n2_; have HO_602006 := n3_; have HO_602007 := n4_; have BK599 := n5_; have BK600 := n6_; have BK601 := n7_; have HB := n8_; clear n0_ n1_ n2_ n3_ n4_ n5_ n6_ n7_ n8_))))
       replace HO_600005 := Aside0.mk (Kd.V_drew HO_600005.out)
       replace HO_600006 := Aside0.mk (Kd.V_drew HO_600006.out)
       replace HO_602005 := Aside0.mk (Kd.V_drew HO_602005.out)
       replace HO_602006 := Aside0.mk (Kd.V_drew HO_602006.out)
       replace HO_602007 := Aside0.mk (Kd.R_drew HO_602007.out)
       replace BK599 := Aside0.mk (blk_drew BK599.out)
       replace BK600 := Aside0.mk (blk_drew BK600.out)
       replace BK601 := Aside0.mk (blk_drew BK601.out)
       replace HB := Aside0.mk (below_drew1 HB.out)
       have p603 : 0 ≤ (x6_1 : Int) := of_decide_eq_true (by first | (with_reducible assumption) | assumption)
       have q603 : x6_1 < (l0_7.length : Int) := of_decide_eq_true (by first | (with_reducible assumption) | assumption)
       obtain ⟨ad603, e603, hx603_0, hx603_1, hx603_2, hx603_3, hx603_4⟩ := at_T63 HR0_7.out x6_1 p603 q603
       have hw603_4 := hx603_4
       have hw603_3 := hx603_3
       have hw603_2 := hx603_2
       have hw603_1 := hx603_1
       have hw603_0 := hx603_0
       cases e603
       replace hx603_0 := (HB.out.cell (World.block_lt_of_cell? w _ hx603_0)).trans hx603_0
       replace hx603_1 := (HB.out.cell (World.block_lt_of_cell? w _ hx603_1)).trans hx603_1
       replace hx603_2 := (HB.out.cell (World.block_lt_of_cell? w _ hx603_2)).trans hx603_2
       replace hx603_3 := (HB.out.cell (World.block_lt_of_cell? w _ hx603_3)).trans hx603_3
       replace hx603_4 := (HB.out.cell (World.block_lt_of_cell? w _ hx603_4)).trans hx603_4
       replace p603 := eq_true p603
       replace q603 := eq_true q603
       refine start_ (n := 11) (S := fun w' => w'.cell? ⟨gb601, 0, none⟩ = some (.int .i64 a0_0) ∧ w'.cell? ⟨gb601, 1, none⟩ = some (.int .i64 a0_1) ∧ w'.cell? ⟨gb601, 2, none⟩ = some (.int .i64 a0_2) ∧ w'.cell? ⟨gb601, 3, none⟩ = some (.int .i64 a0_3) ∧ w'.cell? ⟨gb601, 4, none⟩ = some (.int .i64 a0_4) ∧ w'.cell? ⟨gb601, 5, none⟩ = some (.slice A0_5 l0_5.length c0_5) ∧ w'.cell? ⟨gb601, 6, none⟩ = some (.slice A0_6 l0_6.length c0_6) ∧ w'.cell? ⟨gb601, 7, none⟩ = some (u602007) ∧ w'.cell? ⟨gb599, 0, none⟩ = some (.int .i64 a0_0) ∧ w'.cell? ⟨gb599, 1, none⟩ = some (.int .i64 a0_1) ∧ w'.cell? ⟨gb599, 2, none⟩ = some (.int .i64 a0_2) ∧ w'.cell? ⟨gb599, 3, none⟩ = some (.int .i64 a0_3) ∧ w'.cell? ⟨gb599, 4, none⟩ = some (.int .i64 a0_4) ∧ w'.cell? ⟨gb599, 5, none⟩ = some (.slice A0_5 l0_5.length c0_5) ∧ w'.cell? ⟨gb599, 6, none⟩ = some (.slice A0_6 l0_6.length c0_6) ∧ w'.cell? ⟨gb599, 7, none⟩ = some (.slice (some ad603) l0_7.length c0_7) ∧ w'.cell? (ad603.add ((x6_1).toNat * 5)) = some (.int .i64 ((rd_T63 l0_7 x6_1).f0)) ∧ w'.cell? ⟨(ad603.add ((x6_1).toNat * 5)).block, (ad603.add ((x6_1).toNat * 5)).off + 1, none⟩ = some (.int .i64 ((rd_T63 l0_7 x6_1).f1)) ∧ w'.cell? ⟨(ad603.add ((x6_1).toNat * 5)).block, (ad603.add ((x6_1).toNat * 5)).off + 2, none⟩ = some (.int .i64 ((rd_T63 l0_7 x6_1).f2)) ∧ w'.cell? ⟨(ad603.add ((x6_1).toNat * 5)).block, (ad603.add ((x6_1).toNat * 5)).off + 3, none⟩ = some (.int .i64 ((rd_T63 l0_7 x6_1).f3)) ∧ w'.cell? ⟨(ad603.add ((x6_1).toNat * 5)).block, (ad603.add ((x6_1).toNat * 5)).off + 4, none⟩ = some (.int .i64 ((rd_T63 l0_7 x6_1).f4))) (ds := [10]) #[false, false, false, false, false, false, false, false, false, false, false] (by kernel_rfl) rfl rfl ⟨bc BK601 0, bc BK601 1, bc BK601 2, bc BK601 3, bc BK601 4, bc BK601 5, bc BK601 6, bc BK601 7, bc BK599 0, bc BK599 1, bc BK599 2, bc BK599 3, bc BK599 4, bc BK599 5, bc BK599 6, bc BK599 7, ((HB.out.cell (World.block_lt_of_cell? w _ hw603_0)).trans hw603_0), ((HB.out.cell (World.block_lt_of_cell? w _ hw603_1)).trans hw603_1), ((HB.out.cell (World.block_lt_of_cell? w _ hw603_2)).trans hw603_2), ((HB.out.cell (World.block_lt_of_cell? w _ hw603_3)).trans hw603_3), ((HB.out.cell (World.block_lt_of_cell? w _ hw603_4)).trans hw603_4)⟩ (fun hHeld => ?_); refine with_tabW remontoirlaw03_without.tab7 remontoirlaw03_without.bits7 (fun HT_ HW_ => ?_)
       generalize wr.drew = w19 at HO_600005 HO_600006 HO_602005 HO_602006 HO_602007 BK599 BK600 BK601 HB hx603_0 hx603_1 hx603_2 hx603_3 hx603_4 hHeld ⊢
       refine pureA 0 20 ?_
       refine pureA 2 22 ?_
       refine pureA 4 24 ?_
       refine takeA 1 21 rfl rfl (by rintro w' ⟨s0, s1, s2, s3, s4, s5, s6, s7, s8, s9, s10, s11, s12, s13, s14, s15, s16, s17, s18, s19, s20⟩; go_simp; with_reducible rfl) ?_
       refine takeA 3 23 rfl rfl (by rintro w' ⟨s0, s1, s2, s3, s4, s5, s6, s7, s8, s9, s10, s11, s12, s13, s14, s15, s16, s17, s18, s19, s20⟩; go_simp; with_reducible rfl) ?_
       refine pureA 5 25 ?_
       refine takeA 6 26 rfl rfl (by rintro w' ⟨s0, s1, s2, s3, s4, s5, s6, s7, s8, s9, s10, s11, s12, s13, s14, s15, s16, s17, s18, s19, s20⟩; go_simp; with_reducible rfl) ?_
       refine oneA 7 (some 27) (fun K hK => ?_)
       refine value_ (w1 := ?_) (v := ?_) (by rfl) rfl ?_ ?_
       rotate_left 2
       ·
        go_simp
        constructor
        · rfl
        · rfl
       refine hK.out _ _ ⟨(blk_cell (blk_alloc BK601.out _) 0).trans rfl, (blk_cell (blk_alloc BK601.out _) 1).trans rfl, (blk_cell (blk_alloc BK601.out _) 2).trans rfl, (blk_cell (blk_alloc BK601.out _) 3).trans rfl, (blk_cell (blk_alloc BK601.out _) 4).trans rfl, (blk_cell (blk_alloc BK601.out _) 5).trans rfl, (blk_cell (blk_alloc BK601.out _) 6).trans rfl, (blk_cell (blk_alloc BK601.out _) 7).trans rfl, (blk_cell (blk_alloc BK599.out _) 0).trans rfl, (blk_cell (blk_alloc BK599.out _) 1).trans rfl, (blk_cell (blk_alloc BK599.out _) 2).trans rfl, (blk_cell (blk_alloc BK599.out _) 3).trans rfl, (blk_cell (blk_alloc BK599.out _) 4).trans rfl, (blk_cell (blk_alloc BK599.out _) 5).trans rfl, (blk_cell (blk_alloc BK599.out _) 6).trans rfl, (blk_cell (blk_alloc BK599.out _) 7).trans rfl, (World.cell?_alloc_lt _ _ _ (World.block_lt_of_cell? _ _ (((HB.out.cell (World.block_lt_of_cell? w _ hw603_0)).trans hw603_0)))).trans (((HB.out.cell (World.block_lt_of_cell? w _ hw603_0)).trans hw603_0)), (World.cell?_alloc_lt _ _ _ (World.block_lt_of_cell? _ _ (((HB.out.cell (World.block_lt_of_cell? w _ hw603_1)).trans hw603_1)))).trans (((HB.out.cell (World.block_lt_of_cell? w _ hw603_1)).trans hw603_1)), (World.cell?_alloc_lt _ _ _ (World.block_lt_of_cell? _ _ (((HB.out.cell (World.block_lt_of_cell? w _ hw603_2)).trans hw603_2)))).trans (((HB.out.cell (World.block_lt_of_cell? w _ hw603_2)).trans hw603_2)), (World.cell?_alloc_lt _ _ _ (World.block_lt_of_cell? _ _ (((HB.out.cell (World.block_lt_of_cell? w _ hw603_3)).trans hw603_3)))).trans (((HB.out.cell (World.block_lt_of_cell? w _ hw603_3)).trans hw603_3)), (World.cell?_alloc_lt _ _ _ (World.block_lt_of_cell? _ _ (((HB.out.cell (World.block_lt_of_cell? w _ hw603_4)).trans hw603_4)))).trans (((HB.out.cell (World.block_lt_of_cell? w _ hw603_4)).trans hw603_4))⟩ (fun hHeld => ?_)
       clear hK K
       refine normA 27 ?_
       refine oneA 8 (some 28) (fun K hK => ?_)
       refine Kd.R_append_step k63 (w0 := w) w.heap.size (by rfl) (.tmp 21) (.tmp 27) 25 63 (.agg #[(.int .i64 0), (.int .i64 0), (.int .i64 0), (.int .i64 0), (.int .i64 0)]) 40 rfl Tryd.underlying25 info63 rfl (by decide) (by omega) u602007 x602007_1 (⟨(rd_T63 l0_7 x6_1).f0, (rd_T63 l0_7 x6_1).f1, (rd_T63 l0_7 x6_1).f2, (rd_T63 l0_7 x6_1).f3, (rd_T63 l0_7 x6_1).f4⟩ : S63) [.int .i64 ((rd_T63 l0_7 x6_1).f0), .int .i64 ((rd_T63 l0_7 x6_1).f1), .int .i64 ((rd_T63 l0_7 x6_1).f2), .int .i64 ((rd_T63 l0_7 x6_1).f3), .int .i64 ((rd_T63 l0_7 x6_1).f4)] (fun k_ => (w.heap.size ≤ k_)) (fun _ => False) rfl rfl ?aP (fun _ hk => hk.elim) ?aF ?aO ?aB ?aS ?aL ?_
       (case aP => exact k63_mkM _ _ _ (⟨(rd_T63 l0_7 x6_1).f0, (rd_T63 l0_7 x6_1).f1, (rd_T63 l0_7 x6_1).f2, (rd_T63 l0_7 x6_1).f3, (rd_T63 l0_7 x6_1).f4⟩ : S63))
       (case aB => exact (bl HB))
       (case aF => exact (fun k_ hk => (Nat.le_trans (below_size (bl HB)) hk)))
       (case aO => exact (rk HO_602007))
       (case aS => exact (below_size (bl HB)))
       (case aL => have := LMc15.out; omega)
       intro v605 w20 ho hb hg hat
       rw [← Ny604.out] at ho
       have n0_ := Aside0.mk (Kd.V_afterv (ok := (fun k_ => ((P0_5_ k_ ∨ P0_6_ k_) ∨ w.heap.size ≤ k_) ∧ k_ ≠ gb599 ∧ k_ ≠ gb600 ∧ k_ ≠ gb601)) (by (with_reducible repeat (first | apply Kd.V_alloc | apply Kd.V_drewN | apply Kd.V_drew)); exact Kd.V_mono HO_600005.out (fun _ hk => ⟨⟨hk.1, ⟨hk.2.2.1, ⟨hk.2.2.2.1, hk.2.2.2.2⟩⟩⟩, hk.2.1⟩)) hg hat)
       have n1_ := Aside0.mk (Kd.V_afterv (ok := (fun k_ => ((P0_5_ k_ ∨ P0_6_ k_) ∨ w.heap.size ≤ k_) ∧ k_ ≠ gb599 ∧ k_ ≠ gb600 ∧ k_ ≠ gb601)) (by (with_reducible repeat (first | apply Kd.V_alloc | apply Kd.V_drewN | apply Kd.V_drew)); exact Kd.V_mono HO_600006.out (fun _ hk => ⟨⟨hk.1, ⟨hk.2.2.1, ⟨hk.2.2.2.1, hk.2.2.2.2⟩⟩⟩, hk.2.1⟩)) hg hat)
       have n2_ := Aside0.mk (Kd.V_afterv (ok := (fun k_ => ((P0_5_ k_ ∨ P0_6_ k_) ∨ w.heap.size ≤ k_) ∧ k_ ≠ gb599 ∧ k_ ≠ gb600 ∧ k_ ≠ gb601)) (by (with_reducible repeat (first | apply Kd.V_alloc | apply Kd.V_drewN | apply Kd.V_drew)); exact Kd.V_mono HO_602005.out (fun _ hk => ⟨⟨hk.1, ⟨hk.2.2.1, ⟨hk.2.2.2.1, hk.2.2.2.2⟩⟩⟩, hk.2.1⟩)) hg hat)
       have n3_ := Aside0.mk (Kd.V_afterv (ok := (fun k_ => ((P0_5_ k_ ∨ P0_6_ k_) ∨ w.heap.size ≤ k_) ∧ k_ ≠ gb599 ∧ k_ ≠ gb600 ∧ k_ ≠ gb601)) (by (with_reducible repeat (first | apply Kd.V_alloc | apply Kd.V_drewN | apply Kd.V_drew)); exact Kd.V_mono HO_602006.out (fun _ hk => ⟨⟨hk.1, ⟨hk.2.2.1, ⟨hk.2.2.2.1, hk.2.2.2.2⟩⟩⟩, hk.2.1⟩)) hg hat)
       have n4_ := Aside0.mk (blk_grown (bk BK599) hg (Kd.R_ne HO_602007.out BK599.out (by decide)))
       have n5_ := Aside0.mk (blk_grown (bk BK600) hg (Kd.R_ne HO_602007.out BK600.out (by decide)))
       have n6_ := Aside0.mk (blk_grown (bk BK601) hg (Kd.R_ne HO_602007.out BK601.out (by decide)))
       have n7_ := Aside0.mk (hb)
       have n8_ := Aside0.mk (ho)
       clear HO_600005
       clear HO_600006
       clear HO_602005
       clear HO_602006
       clear BK599
       clear BK600
       clear BK601
       clear HB
       clear HO_602007
       have HO_600005 := n0_
       have HO_600006 := n1_
       have HO_602005 := n2_
       have HO_602006 := n3_
       have BK599 := n4_
       have BK600 := n5_
       have BK601 := n6_
       have HB := n7_
       have HO606 := n8_
       clear n0_ n1_ n2_ n3_ n4_ n5_ n6_ n7_ n8_
       clear ho hb hg hat
       obtain ⟨Ao21, co21, eo21⟩ := Kd.R_slice HO606.out
       (first | subst eo21 | (injection eo21 with f1_ f2_ f3_; have f4_ := f1_.symm; have f5_ := f3_.symm; clear f1_ f2_ f3_; subst f4_; subst f5_))
       refine hK.out _ _ ⟨bc BK601 0, bc BK601 1, bc BK601 2, bc BK601 3, bc BK601 4, bc BK601 5, bc BK601 6, bc BK601 7, bc BK599 0, bc BK599 1, bc BK599 2, bc BK599 3, bc BK599 4, bc BK599 5, bc BK599 6, bc BK599 7, ((HB.out.cell (World.block_lt_of_cell? w _ hw603_0)).trans hw603_0), ((HB.out.cell (World.block_lt_of_cell? w _ hw603_1)).trans hw603_1), ((HB.out.cell (World.block_lt_of_cell? w _ hw603_2)).trans hw603_2), ((HB.out.cell (World.block_lt_of_cell? w _ hw603_3)).trans hw603_3), ((HB.out.cell (World.block_lt_of_cell? w _ hw603_4)).trans hw603_4)⟩ (fun hHeld => ?_)
       clear hK K
       refine normA 28 ?_
       refine pureA 9 29 ?_
       refine lastA 10 none (fun K hK => ?_)
       have hs22 : w20.cell? ⟨gb601, 7, none⟩ = some (u602007) := bc BK601 7
       have hfs22 := blk_frozen BK601.out 7
       have hns22_0 := NB599_601.out
       have hns22_1 := NB600_601.out
       have hms22_0 := NB601_599.out
       have hms22_1 := NB601_600.out
       refine skip_ (w1 := ?_) (by rfl) rfl ?_ ?_
       rotate_left
       ·
        go_simp
        rfl
       refine hK.out _ _ ?_
       clear hK K
       refine done_ (done_of HT_.out (by kernel_rfl)) ?_
       try go_wp2
       go_roundg k1
       case measure => have := HK1.out; omega
       case rel => exact ⟨(wrap64 (x6_1 + 1)), (y604), (.slice Ao21 y604.length co21), (by first | rfl | (simp; done) | (simp [*]; done)), H', ⟨by have := HK1.out; omega⟩, ⟨by (with_reducible repeat (first | apply Kd.V_alloc | apply Kd.V_drewN | apply Kd.V_drew)); exact Kd.V_mono (Kd.V_far (p := ⟨gb601, 7, none⟩) (Kd.V_mono HO_600005.out (fun k_ hk => (⟨hk, hk.1.2.2.2⟩ : _ ∧ k_ ≠ gb601))) (fun _ hk => hk.2) (.slice Ao21 y604.length co21)) (fun _ hk => ⟨hk.1.1.1, ⟨hk.1.2, ⟨hk.1.1.2.1, ⟨hk.1.1.2.2.1, hk.1.1.2.2.2⟩⟩⟩⟩)⟩, ⟨by (with_reducible repeat (first | apply Kd.V_alloc | apply Kd.V_drewN | apply Kd.V_drew)); exact Kd.V_mono (Kd.V_far (p := ⟨gb601, 7, none⟩) (Kd.V_mono HO_600006.out (fun k_ hk => (⟨hk, hk.1.2.2.2⟩ : _ ∧ k_ ≠ gb601))) (fun _ hk => hk.2) (.slice Ao21 y604.length co21)) (fun _ hk => ⟨hk.1.1.1, ⟨hk.1.2, ⟨hk.1.1.2.1, ⟨hk.1.1.2.2.1, hk.1.1.2.2.2⟩⟩⟩⟩)⟩, ⟨by (with_reducible repeat (first | apply Kd.V_alloc | apply Kd.V_drewN | apply Kd.V_drew)); exact Kd.V_mono (Kd.V_far (p := ⟨gb601, 7, none⟩) (Kd.V_mono HO_602005.out (fun k_ hk => (⟨hk, hk.1.2.2.2⟩ : _ ∧ k_ ≠ gb601))) (fun _ hk => hk.2) (.slice Ao21 y604.length co21)) (fun _ hk => ⟨hk.1.1.1, ⟨hk.1.2, ⟨hk.1.1.2.1, ⟨hk.1.1.2.2.1, hk.1.1.2.2.2⟩⟩⟩⟩)⟩, ⟨by (with_reducible repeat (first | apply Kd.V_alloc | apply Kd.V_drewN | apply Kd.V_drew)); exact Kd.V_mono (Kd.V_far (p := ⟨gb601, 7, none⟩) (Kd.V_mono HO_602006.out (fun k_ hk => (⟨hk, hk.1.2.2.2⟩ : _ ∧ k_ ≠ gb601))) (fun _ hk => hk.2) (.slice Ao21 y604.length co21)) (fun _ hk => ⟨hk.1.1.1, ⟨hk.1.2, ⟨hk.1.1.2.1, ⟨hk.1.1.2.2.1, hk.1.1.2.2.2⟩⟩⟩⟩)⟩, ⟨by (with_reducible repeat (first | apply Kd.R_alloc | apply Kd.R_drewN | apply Kd.R_drew)); exact Kd.R_mono (Kd.R_far (p := ⟨gb601, 7, none⟩) (Kd.R_types HO606.out BK601.out (by decide)) (fun _ hk => hk.2) (.slice Ao21 y604.length co21)) (fun _ hk => hk.1)⟩, ⟨bk BK599⟩, ⟨bk BK600⟩, ⟨by (with_reducible repeat (first | refine blk_drewN ?_ _ | refine blk_drew ?_ | refine blk_alloc ?_ _)); refine blk_put (cs := #[.int .i64 a0_0, .int .i64 a0_1, .int .i64 a0_2, .int .i64 a0_3, .int .i64 a0_4, .slice A0_5 l0_5.length c0_5, .slice A0_6 l0_6.length c0_6, u602007]) ?_ 7 _ rfl; (with_reducible repeat (first | refine blk_drewN ?_ _ | refine blk_drew ?_ | refine blk_alloc ?_ _)); exact BK601.out⟩, ⟨bl HB⟩⟩
      ·
       rw [if_neg c15] at H
       exact absurd H (by simp)
     ·
      rw [if_neg c14] at H
      exact absurd H (by simp)
    ·
     rw [if_neg c13] at H
     have c13b0 : decide (t602 < 0) = false := decide_eq_false c13
     clear c13
     have H' := Aside0.mk H
     clear H
     have hnb23 := NB599_600.out
     have hnc23 := NB600_599.out
     have hnb24 := NB599_601.out
     have hnc24 := NB601_599.out
     have hcz25_0 : wr.cell? ⟨gb599, 0, none⟩ = some (.int .i64 a0_0) := bc BK599 0
     have hcz25_1 : wr.cell? ⟨gb599, 1, none⟩ = some (.int .i64 a0_1) := bc BK599 1
     have hcz25_2 : wr.cell? ⟨gb599, 2, none⟩ = some (.int .i64 a0_2) := bc BK599 2
     have hcz25_3 : wr.cell? ⟨gb599, 3, none⟩ = some (.int .i64 a0_3) := bc BK599 3
     have hcz25_4 : wr.cell? ⟨gb599, 4, none⟩ = some (.int .i64 a0_4) := bc BK599 4
     have hcz25_5 : wr.cell? ⟨gb599, 5, none⟩ = some (.slice A0_5 l0_5.length c0_5) := bc BK599 5
     have hcz25_6 : wr.cell? ⟨gb599, 6, none⟩ = some (.slice A0_6 l0_6.length c0_6) := bc BK599 6
     have hcz25_7 : wr.cell? ⟨gb599, 7, none⟩ = some (.slice A0_7 l0_7.length c0_7) := bc BK599 7
     have hfz25_0 := blk_frozen BK599.out 0
     have hfz25_1 := blk_frozen BK599.out 1
     have hfz25_2 := blk_frozen BK599.out 2
     have hfz25_3 := blk_frozen BK599.out 3
     have hfz25_4 := blk_frozen BK599.out 4
     have hfz25_5 := blk_frozen BK599.out 5
     have hfz25_6 := blk_frozen BK599.out 6
     have hfz25_7 := blk_frozen BK599.out 7
     go_wp2_with (first | ((with_reducible refine gate_callee (f := 51) rfl ?_); refine goesL_ (some 18) rfl rfl Tryd.func51 (by kernel_rfl) rfl #[.slice A1 l1.length c1, .int .i64 x6_1] rfl (by (try simp only [List.map_toArray, List.map_cons, List.map_nil]); first | done | rfl | (simp only [List.length_drop, List.length_take]; rfl)) ?_; (with_reducible refine (remontoirref00_Find.calls k1 _ _ l1 x6_1 t602 _ ?side1 ?side2 A12.out).mono ?_); (case side1 => repeat (first | exact (Kd.C_below HR1.out HB.out) | (with_reducible refine Kd.C_alloc ?_ _) | (with_reducible refine Kd.C_drewN ?_ _) | (with_reducible refine Kd.C_drew ?_))); (case side2 => exact HC1.out); rintro e w' ⟨rfl, ⟨nd, rfl⟩⟩; refine ⟨_, rfl, ?_⟩))
     go_roundg k1
     case measure => have := HK1.out; omega
     case rel => exact ⟨(wrap64 (x6_1 + 1)), (x602007_1), (u602007), (by first | rfl | (simp; done) | (simp [*]; done)), H', ⟨by have := HK1.out; omega⟩, ⟨by (with_reducible repeat (first | apply Kd.V_alloc | apply Kd.V_drewN | apply Kd.V_drew)); exact HO_600005.out⟩, ⟨by (with_reducible repeat (first | apply Kd.V_alloc | apply Kd.V_drewN | apply Kd.V_drew)); exact HO_600006.out⟩, ⟨by (with_reducible repeat (first | apply Kd.V_alloc | apply Kd.V_drewN | apply Kd.V_drew)); exact HO_602005.out⟩, ⟨by (with_reducible repeat (first | apply Kd.V_alloc | apply Kd.V_drewN | apply Kd.V_drew)); exact HO_602006.out⟩, ⟨by (with_reducible repeat (first | apply Kd.R_alloc | apply Kd.R_drewN | apply Kd.R_drew)); exact HO_602007.out⟩, ⟨bk BK599⟩, ⟨bk BK600⟩, ⟨bk BK601⟩, ⟨bl HB⟩⟩
   ·
    rw [if_neg c11] at H
    have c11b0 : decide (x6_1 < (l0_7.length : Int)) = false := decide_eq_false c11
    clear c11
    simp only [Option.some.injEq, Prod.mk.injEq] at H
    obtain ⟨rfl, rfl, rfl, rfl, rfl, rfl, rfl, rfl⟩ := H
    have hnb26 := NB599_600.out
    have hnc26 := NB600_599.out
    have hnb27 := NB599_601.out
    have hnc27 := NB601_599.out
    have hcz28_0 : wr.cell? ⟨gb599, 0, none⟩ = some (.int .i64 a0_0) := bc BK599 0
    have hcz28_1 : wr.cell? ⟨gb599, 1, none⟩ = some (.int .i64 a0_1) := bc BK599 1
    have hcz28_2 : wr.cell? ⟨gb599, 2, none⟩ = some (.int .i64 a0_2) := bc BK599 2
    have hcz28_3 : wr.cell? ⟨gb599, 3, none⟩ = some (.int .i64 a0_3) := bc BK599 3
    have hcz28_4 : wr.cell? ⟨gb599, 4, none⟩ = some (.int .i64 a0_4) := bc BK599 4
    have hcz28_5 : wr.cell? ⟨gb599, 5, none⟩ = some (.slice A0_5 l0_5.length c0_5) := bc BK599 5
    have hcz28_6 : wr.cell? ⟨gb599, 6, none⟩ = some (.slice A0_6 l0_6.length c0_6) := bc BK599 6
    have hcz28_7 : wr.cell? ⟨gb599, 7, none⟩ = some (.slice A0_7 l0_7.length c0_7) := bc BK599 7
    have hfz28_0 := blk_frozen BK599.out 0
    have hfz28_1 := blk_frozen BK599.out 1
    have hfz28_2 := blk_frozen BK599.out 2
    have hfz28_3 := blk_frozen BK599.out 3
    have hfz28_4 := blk_frozen BK599.out 4
    have hfz28_5 := blk_frozen BK599.out 5
    have hfz28_6 := blk_frozen BK599.out 6
    have hfz28_7 := blk_frozen BK599.out 7
    have hnb29 := NB601_600.out
    have hnc29 := NB600_601.out
    have hcz30_0 : wr.cell? ⟨gb601, 0, none⟩ = some (.int .i64 a0_0) := bc BK601 0
    have hcz30_1 : wr.cell? ⟨gb601, 1, none⟩ = some (.int .i64 a0_1) := bc BK601 1
    have hcz30_2 : wr.cell? ⟨gb601, 2, none⟩ = some (.int .i64 a0_2) := bc BK601 2
    have hcz30_3 : wr.cell? ⟨gb601, 3, none⟩ = some (.int .i64 a0_3) := bc BK601 3
    have hcz30_4 : wr.cell? ⟨gb601, 4, none⟩ = some (.int .i64 a0_4) := bc BK601 4
    have hcz30_5 : wr.cell? ⟨gb601, 5, none⟩ = some (.slice A0_5 l0_5.length c0_5) := bc BK601 5
    have hcz30_6 : wr.cell? ⟨gb601, 6, none⟩ = some (.slice A0_6 l0_6.length c0_6) := bc BK601 6
    have hcz30_7 : wr.cell? ⟨gb601, 7, none⟩ = some (u602007) := bc BK601 7
    have hfz30_0 := blk_frozen BK601.out 0
    have hfz30_1 := blk_frozen BK601.out 1
    have hfz30_2 := blk_frozen BK601.out 2
    have hfz30_3 := blk_frozen BK601.out 3
    have hfz30_4 := blk_frozen BK601.out 4
    have hfz30_5 := blk_frozen BK601.out 5
    have hfz30_6 := blk_frozen BK601.out 6
    have hfz30_7 := blk_frozen BK601.out 7
    have hcz31_0 : wr.cell? ⟨gb600, 0, none⟩ = some (.int .i64 0) := bc BK600 0
    have hcz31_1 : wr.cell? ⟨gb600, 1, none⟩ = some (.int .i64 0) := bc BK600 1
    have hcz31_2 : wr.cell? ⟨gb600, 2, none⟩ = some (.int .i64 0) := bc BK600 2
    have hcz31_3 : wr.cell? ⟨gb600, 3, none⟩ = some (.int .i64 0) := bc BK600 3
    have hcz31_4 : wr.cell? ⟨gb600, 4, none⟩ = some (.int .i64 0) := bc BK600 4
    have hcz31_5 : wr.cell? ⟨gb600, 5, none⟩ = some (.slice none 0 0) := bc BK600 5
    have hcz31_6 : wr.cell? ⟨gb600, 6, none⟩ = some (.slice none 0 0) := bc BK600 6
    have hcz31_7 : wr.cell? ⟨gb600, 7, none⟩ = some (.slice none 0 0) := bc BK600 7
    have hfz31_0 := blk_frozen BK600.out 0
    have hfz31_1 := blk_frozen BK600.out 1
    have hfz31_2 := blk_frozen BK600.out 2
    have hfz31_3 := blk_frozen BK600.out 3
    have hfz31_4 := blk_frozen BK600.out 4
    have hfz31_5 := blk_frozen BK600.out 5
    have hfz31_6 := blk_frozen BK600.out 6
    have hfz31_7 := blk_frozen BK600.out 7
    obtain ⟨Ao32, co32, eo32⟩ := Kd.R_slice HO_602007.out
    subst eo32
    go_wp2
    refine bodyPost_ret (results_cell_row rfl _ _ gb600 27 #[.int .i64 a0_0, .int .i64 a0_1, .int .i64 a0_2, .int .i64 a0_3, .int .i64 a0_4, .slice A0_5 l0_5.length c0_5, .slice A0_6 l0_6.length c0_6, .slice Ao32 x602007_1.length co32] (0, 0) _ rfl (by (with_reducible repeat (first | refine blk_drewN ?_ _ | refine blk_drew ?_ | refine blk_alloc ?_ _)); refine blk_put (cs := #[.int .i64 a0_0, .int .i64 a0_1, .int .i64 a0_2, .int .i64 a0_3, .int .i64 a0_4, .slice A0_5 l0_5.length c0_5, .slice A0_6 l0_6.length c0_6, .slice none 0 0]) ?_ 7 _ rfl; (with_reducible repeat (first | refine blk_drewN ?_ _ | refine blk_drew ?_ | refine blk_alloc ?_ _)); refine blk_put (cs := #[.int .i64 a0_0, .int .i64 a0_1, .int .i64 a0_2, .int .i64 a0_3, .int .i64 a0_4, .slice A0_5 l0_5.length c0_5, .slice none 0 0, .slice none 0 0]) ?_ 6 _ rfl; (with_reducible repeat (first | refine blk_drewN ?_ _ | refine blk_drew ?_ | refine blk_alloc ?_ _)); refine blk_put (cs := #[.int .i64 a0_0, .int .i64 a0_1, .int .i64 a0_2, .int .i64 a0_3, .int .i64 a0_4, .slice none 0 0, .slice none 0 0, .slice none 0 0]) ?_ 5 _ rfl; (with_reducible repeat (first | refine blk_drewN ?_ _ | refine blk_drew ?_ | refine blk_alloc ?_ _)); refine blk_put (cs := #[.int .i64 a0_0, .int .i64 a0_1, .int .i64 a0_2, .int .i64 a0_3, .int .i64 0, .slice none 0 0, .slice none 0 0, .slice none 0 0]) ?_ 4 _ rfl; (with_reducible repeat (first | refine blk_drewN ?_ _ | refine blk_drew ?_ | refine blk_alloc ?_ _)); refine blk_put (cs := #[.int .i64 a0_0, .int .i64 a0_1, .int .i64 a0_2, .int .i64 0, .int .i64 0, .slice none 0 0, .slice none 0 0, .slice none 0 0]) ?_ 3 _ rfl; (with_reducible repeat (first | refine blk_drewN ?_ _ | refine blk_drew ?_ | refine blk_alloc ?_ _)); refine blk_put (cs := #[.int .i64 a0_0, .int .i64 a0_1, .int .i64 0, .int .i64 0, .int .i64 0, .slice none 0 0, .slice none 0 0, .slice none 0 0]) ?_ 2 _ rfl; (with_reducible repeat (first | refine blk_drewN ?_ _ | refine blk_drew ?_ | refine blk_alloc ?_ _)); refine blk_put (cs := #[.int .i64 a0_0, .int .i64 0, .int .i64 0, .int .i64 0, .int .i64 0, .slice none 0 0, .slice none 0 0, .slice none 0 0]) ?_ 1 _ rfl; (with_reducible repeat (first | refine blk_drewN ?_ _ | refine blk_drew ?_ | refine blk_alloc ?_ _)); refine blk_put (cs := #[.int .i64 0, .int .i64 0, .int .i64 0, .int .i64 0, .int .i64 0, .slice none 0 0, .slice none 0 0, .slice none 0 0]) ?_ 0 _ rfl; (with_reducible repeat (first | refine blk_drewN ?_ _ | refine blk_drew ?_ | refine blk_alloc ?_ _)); exact BK600.out) Tryd.underlying27 rfl (by kernel_rfl)) rfl ?_
    exact ⟨_, _, _, by first | rfl | (simp [errW_none, errW_some] <;> rfl) | (simp [*, errW_none, errW_some] <;> rfl), by (with_reducible repeat (first | apply Kd.V_alloc | apply Kd.V_drewN | apply Kd.V_drew)); exact Kd.V_mono (Kd.V_far (p := ⟨gb600, 7, none⟩) (Kd.V_far (p := ⟨gb600, 6, none⟩) (Kd.V_far (p := ⟨gb600, 5, none⟩) (Kd.V_far (p := ⟨gb600, 4, none⟩) (Kd.V_far (p := ⟨gb600, 3, none⟩) (Kd.V_far (p := ⟨gb600, 2, none⟩) (Kd.V_far (p := ⟨gb600, 1, none⟩) (Kd.V_far (p := ⟨gb600, 0, none⟩) (Kd.V_mono HO_602005.out (fun k_ hk => (⟨hk, hk.2.2.2.1⟩ : _ ∧ k_ ≠ gb600))) (fun _ hk => hk.2) (.int .i64 a0_0)) (fun _ hk => hk.2) (.int .i64 a0_1)) (fun _ hk => hk.2) (.int .i64 a0_2)) (fun _ hk => hk.2) (.int .i64 a0_3)) (fun _ hk => hk.2) (.int .i64 a0_4)) (fun _ hk => hk.2) (.slice A0_5 l0_5.length c0_5)) (fun _ hk => hk.2) (.slice A0_6 l0_6.length c0_6)) (fun _ hk => hk.2) (.slice Ao32 x602007_1.length co32)) (fun _ hk => ⟨hk.1.1, hk.1.2.1⟩), by (with_reducible repeat (first | apply Kd.V_alloc | apply Kd.V_drewN | apply Kd.V_drew)); exact Kd.V_mono (Kd.V_far (p := ⟨gb600, 7, none⟩) (Kd.V_far (p := ⟨gb600, 6, none⟩) (Kd.V_far (p := ⟨gb600, 5, none⟩) (Kd.V_far (p := ⟨gb600, 4, none⟩) (Kd.V_far (p := ⟨gb600, 3, none⟩) (Kd.V_far (p := ⟨gb600, 2, none⟩) (Kd.V_far (p := ⟨gb600, 1, none⟩) (Kd.V_far (p := ⟨gb600, 0, none⟩) (Kd.V_mono HO_602006.out (fun k_ hk => (⟨hk, hk.2.2.2.1⟩ : _ ∧ k_ ≠ gb600))) (fun _ hk => hk.2) (.int .i64 a0_0)) (fun _ hk => hk.2) (.int .i64 a0_1)) (fun _ hk => hk.2) (.int .i64 a0_2)) (fun _ hk => hk.2) (.int .i64 a0_3)) (fun _ hk => hk.2) (.int .i64 a0_4)) (fun _ hk => hk.2) (.slice A0_5 l0_5.length c0_5)) (fun _ hk => hk.2) (.slice A0_6 l0_6.length c0_6)) (fun _ hk => hk.2) (.slice Ao32 x602007_1.length co32)) (fun _ hk => ⟨hk.1.1, hk.1.2.1⟩), by (with_reducible repeat (first | apply Kd.R_alloc | apply Kd.R_drewN | apply Kd.R_drew)); exact Kd.R_mono (Kd.R_far (p := ⟨gb600, 7, none⟩) (Kd.R_far (p := ⟨gb600, 6, none⟩) (Kd.R_far (p := ⟨gb600, 5, none⟩) (Kd.R_far (p := ⟨gb600, 4, none⟩) (Kd.R_far (p := ⟨gb600, 3, none⟩) (Kd.R_far (p := ⟨gb600, 2, none⟩) (Kd.R_far (p := ⟨gb600, 1, none⟩) (Kd.R_far (p := ⟨gb600, 0, none⟩) (Kd.R_types HO_602007.out BK600.out (by decide)) (fun _ hk => hk.2) (.int .i64 a0_0)) (fun _ hk => hk.2) (.int .i64 a0_1)) (fun _ hk => hk.2) (.int .i64 a0_2)) (fun _ hk => hk.2) (.int .i64 a0_3)) (fun _ hk => hk.2) (.int .i64 a0_4)) (fun _ hk => hk.2) (.slice A0_5 l0_5.length c0_5)) (fun _ hk => hk.2) (.slice A0_6 l0_6.length c0_6)) (fun _ hk => hk.2) (.slice Ao32 x602007_1.length co32)) (fun _ hk => hk.1), by repeat (first | (with_reducible first | exact HB.out | apply below_alloc | apply pw_below_drewN | apply below_drew1 | refine below_set ?_ GE599.out | refine below_set ?_ GE600.out | refine below_set ?_ GE601.out) | exact HB.out)⟩

end Go.Proofs.TrydX.X
end

section
-- Written by wip/tools/pr.py (a program of this repo over the kit's print.py).
namespace Go.Proofs.TrydX.X
open Go.RowKit Go.Proofs.YtohbeninpmmmpaaDoorW.PrintWords Go.Proofs.YtohbeninpmmmpaaDoorW.PrintLast Go.Proofs.YtohbeninpmmmpaaDoorW.PrintMore
attribute [local go_sem] max2_int min2_int max_two min_two max_three min_three max_four min_four   -- for this text's walks alone
set_option linter.unusedVariables false
set_option linter.unusedSimpArgs false

/-! ### remontoirref00_Lies: function 61 -/
def remontoirref00_Lies.f (a0 : Int) (a1 : Int) (a2 : Int) : Option (Bool) := if a1 ≤ a0 then (some (decide (a0 ≤ a2))) else (some false)
set_option maxHeartbeats 8000000 in
set_option maxRecDepth 100000 in
theorem remontoirref00_Lies.calls (a0 : Int) (a1 : Int) (a2 : Int) (r : Bool) (w : World) (h : remontoirref00_Lies.f a0 a1 a2 = some r) :
  Calls Tryd.prog 61 #[.int .i64 a0, .int .i64 a1, .int .i64 a2] w fun e w' => e = .returned (.bool r) ∧ Drawn0 w w' := by
 have H : (if a1 ≤ a0 then (some (decide (a0 ≤ a2))) else (some false)) = some r := h
 clear h
 by_cases c4 : a1 ≤ a0
 ·
  rw [if_pos c4] at H
  have c4b0 : decide (a1 ≤ a0) = true := decide_eq_true c4
  clear c4
  obtain rfl := Option.some.inj H
  go_enter Tryd.func61, Tryd.ntmps61
  go_wp2
  go_ret
  exact ⟨by first | rfl | (simp; done) | (simp [*]; done), by repeat (first | exact Drawn0.refl _ | apply Drawn0.step)⟩
 ·
  rw [if_neg c4] at H
  have c4b0 : decide (a1 ≤ a0) = false := decide_eq_false c4
  clear c4
  obtain rfl := Option.some.inj H
  go_enter Tryd.func61, Tryd.ntmps61
  go_wp2
  go_ret
  exact ⟨by first | rfl | (simp; done) | (simp [*]; done), by repeat (first | exact Drawn0.refl _ | apply Drawn0.step)⟩

end Go.Proofs.TrydX.X
end

section
-- Written by wip/tools/pr.py (a program of this repo over the kit's print.py).
namespace Go.Proofs.TrydX.X
open Go.RowKit Go.Proofs.YtohbeninpmmmpaaDoorW.PrintWords Go.Proofs.YtohbeninpmmmpaaDoorW.PrintLast Go.Proofs.YtohbeninpmmmpaaDoorW.PrintMore
attribute [local go_sem] max2_int min2_int max_two min_two max_three min_three max_four min_four   -- for this text's walks alone
set_option linter.unusedVariables false
set_option linter.unusedSimpArgs false

/-! ### remontoirref00_Climbs: function 48 -/
def remontoirref00_Climbs.l0 : Nat → List Int → Int → Int → Int → Int → Option (Bool)
 | 0, _, _, _, _, _ => none
 | k + 1, x0, x1, x5, x8, x9 => if x9 < x8 then (if 0 ≤ x9 then (if x9 < (x0.length : Int) then ((remontoirref00_Lies.f (rd x0 x9) x5 (wrap64 (x1 - 1))).bind fun t608 => (if t608 = true then (remontoirref00_Climbs.l0 k x0 x1 (wrap64 ((rd x0 x9) + 1)) x8 (wrap64 (x9 + 1))) else (some false))) else (none)) else (none)) else (some true)
def remontoirref00_Climbs.f (k : Nat) (l0 : List Int) (a1 : Int) : Option (Bool) := remontoirref00_Climbs.l0 k l0 a1 0 (l0.length : Int) 0
set_option maxHeartbeats 8000000 in
set_option maxRecDepth 100000 in
theorem remontoirref00_Climbs.calls (k : Nat) (A0 : Option Addr) (c0 : Nat) (l0 : List Int) (a1 : Int) (r : Bool) (w : World) (hr0 : Kd.C (Kd.int .i64) w A0 l0.length l0) (hc0 : l0.length ≤ c0) (h : remontoirref00_Climbs.f k l0 a1 = some r) :
  Calls Tryd.prog 48 #[.slice A0 l0.length c0, .int .i64 a1] w fun e w' => e = .returned (.bool r) ∧ Drawn0 w w' := by
 have HR0 := Aside0.mk hr0
 have HC0 := Aside0.mk hc0
 clear hr0 hc0
 have H : (remontoirref00_Climbs.l0 k l0 a1 0 (l0.length : Int) 0) = some r := h
 clear h
 have H' := Aside0.mk H
 clear H
 go_enter Tryd.func48, Tryd.ntmps48
 go_wp2
 go_loopg [5, 9] k (fun kq v5 v9 w' => ∃ (x5_1 : Int) (x9_1 : Int), v5 = .int .i64 x5_1 ∧ v9 = .int .i64 x9_1 ∧ Aside0 (remontoirref00_Climbs.l0 kq l0 a1 x5_1 (l0.length : Int) x9_1 = some r) ∧ Aside0 (kq ≤ k) ∧ Drawn0 w w')
 case atStart => exact ⟨(0), (0), (by first | rfl | (simp; done) | (simp [*]; done)), (by first | rfl | (simp; done) | (simp [*]; done)), H', ⟨Nat.le_refl _⟩, by repeat (first | exact Drawn0.refl _ | apply Drawn0.step)⟩
 case round =>
  clear H'
  (try clear p2)
  obtain ⟨x5_1, x9_1, rfl, rfl, HA, HK1, ⟨m1, rfl⟩⟩ := hrel
  cases gk with
  | zero => exact absurd HA.out (by simp [remontoirref00_Climbs.l0])
  | succ k1 =>
   have H := HA.out
   clear HA
   simp only [remontoirref00_Climbs.l0] at H
   by_cases c3 : x9_1 < (l0.length : Int)
   ·
    rw [if_pos c3] at H
    have c3b0 : decide (x9_1 < (l0.length : Int)) = true := decide_eq_true c3
    clear c3
    by_cases c4 : 0 ≤ x9_1
    ·
     rw [if_pos c4] at H
     have c4b0 : decide (0 ≤ x9_1) = true := decide_eq_true c4
     clear c4
     by_cases c5 : x9_1 < (l0.length : Int)
     ·
      rw [if_pos c5] at H
      have c5b0 : decide (x9_1 < (l0.length : Int)) = true := decide_eq_true c5
      clear c5
      replace H := Option.bind_eq_some_iff.mp H
      obtain ⟨t608, A60, H⟩ := H
      replace H : (if t608 = true then (remontoirref00_Climbs.l0 k1 l0 a1 (wrap64 ((rd l0 x9_1) + 1)) (l0.length : Int) (wrap64 (x9_1 + 1))) else (some false)) = some r := H
      have A6 := Aside0.mk A60
      clear A60
      by_cases c7 : t608 = true
      ·
       subst c7
       have H1 : (remontoirref00_Climbs.l0 k1 l0 a1 (wrap64 ((rd l0 x9_1) + 1)) (l0.length : Int) (wrap64 (x9_1 + 1))) = some r := by rw [if_pos rfl] at H; exact H
       clear H
       have H := H1
       clear H1
       have H' := Aside0.mk H
       clear H
       have p607 : 0 ≤ (x9_1 : Int) := of_decide_eq_true (by first | (with_reducible assumption) | assumption)
       have q607 : x9_1 < (l0.length : Int) := of_decide_eq_true (by first | (with_reducible assumption) | assumption)
       obtain ⟨ad607, e607, hx607_0⟩ := Kd.at_int HR0.out x9_1 p607 q607
       cases e607
       replace p607 := eq_true p607
       replace q607 := eq_true q607
       go_wp2_with (first | ((with_reducible refine gate_callee (f := 61) rfl ?_); refine goesL_ (some 19) rfl rfl Tryd.func61 (by kernel_rfl) rfl #[.int .i64 (rd l0 x9_1), .int .i64 x5_1, .int .i64 (wrap64 (a1 - 1))] rfl (by (try simp only [List.map_toArray, List.map_cons, List.map_nil]); first | done | rfl | (simp only [List.length_drop, List.length_take]; rfl)) ?_; (with_reducible refine (remontoirref00_Lies.calls (rd l0 x9_1) x5_1 (wrap64 (a1 - 1)) true _ A6.out).mono ?_); rintro e w' ⟨rfl, ⟨nd, rfl⟩⟩; refine ⟨_, rfl, ?_⟩; have p609 : 0 ≤ (x9_1 : Int) := of_decide_eq_true (by first | (with_reducible assumption) | assumption); have q609 : x9_1 < (l0.length : Int) := of_decide_eq_true (by first | (with_reducible assumption) | assumption); obtain ⟨ad609, e609, hx609_0⟩ := Kd.at_int HR0.out x9_1 p609 q609; obtain rfl : ad607 = ad609 := (by injection e609); replace p609 := eq_true p609; replace q609 := eq_true q609))
       go_roundg k1
       case measure => have := HK1.out; omega
       case rel => exact ⟨(wrap64 ((rd l0 x9_1) + 1)), (wrap64 (x9_1 + 1)), (by first | rfl | (simp; done) | (simp [*]; done)), (by first | rfl | (simp; done) | (simp [*]; done)), H', ⟨by have := HK1.out; omega⟩, by repeat (first | exact Drawn0.refl _ | apply Drawn0.step)⟩
      ·
       replace c7 := Bool.eq_false_iff.mpr c7
       subst c7
       have H1 : (some false) = some r := by rw [if_neg (show ¬ (false = true) by decide)] at H; exact H
       clear H
       have H := H1
       clear H1
       obtain rfl := Option.some.inj H
       have p607 : 0 ≤ (x9_1 : Int) := of_decide_eq_true (by first | (with_reducible assumption) | assumption)
       have q607 : x9_1 < (l0.length : Int) := of_decide_eq_true (by first | (with_reducible assumption) | assumption)
       obtain ⟨ad607, e607, hx607_0⟩ := Kd.at_int HR0.out x9_1 p607 q607
       cases e607
       replace p607 := eq_true p607
       replace q607 := eq_true q607
       go_wp2_with (first | ((with_reducible refine gate_callee (f := 61) rfl ?_); refine goesL_ (some 19) rfl rfl Tryd.func61 (by kernel_rfl) rfl #[.int .i64 (rd l0 x9_1), .int .i64 x5_1, .int .i64 (wrap64 (a1 - 1))] rfl (by (try simp only [List.map_toArray, List.map_cons, List.map_nil]); first | done | rfl | (simp only [List.length_drop, List.length_take]; rfl)) ?_; (with_reducible refine (remontoirref00_Lies.calls (rd l0 x9_1) x5_1 (wrap64 (a1 - 1)) false _ A6.out).mono ?_); rintro e w' ⟨rfl, ⟨nd, rfl⟩⟩; refine ⟨_, rfl, ?_⟩))
       go_ret
       exact ⟨by first | rfl | (simp; done) | (simp [*]; done), by repeat (first | exact Drawn0.refl _ | apply Drawn0.step)⟩
     ·
      rw [if_neg c5] at H
      exact absurd H (by simp)
    ·
     rw [if_neg c4] at H
     exact absurd H (by simp)
   ·
    rw [if_neg c3] at H
    have c3b0 : decide (x9_1 < (l0.length : Int)) = false := decide_eq_false c3
    clear c3
    obtain rfl := Option.some.inj H
    go_wp2
    go_ret
    exact ⟨by first | rfl | (simp; done) | (simp [*]; done), by repeat (first | exact Drawn0.refl _ | apply Drawn0.step)⟩

end Go.Proofs.TrydX.X
end

section
-- Written by wip/tools/pr.py (a program of this repo over the kit's print.py).
namespace Go.Proofs.TrydX.X
open Go.RowKit Go.Proofs.YtohbeninpmmmpaaDoorW.PrintWords Go.Proofs.YtohbeninpmmmpaaDoorW.PrintLast Go.Proofs.YtohbeninpmmmpaaDoorW.PrintMore
attribute [local go_sem] max2_int min2_int max_two min_two max_three min_three max_four min_four   -- for this text's walks alone
set_option linter.unusedVariables false
set_option linter.unusedSimpArgs false

/-! ### remontoirref00_Valid: function 63 -/
def remontoirref00_Valid.f (a0_0 : Int) (a0_1 : Int) (a1 : Int) (a2 : Int) : Option (Bool) := if a0_0 ≤ a0_1 then (if a1 ≤ a0_0 then (some (decide (a0_1 ≤ a2))) else (some false)) else (some false)
set_option maxHeartbeats 8000000 in
set_option maxRecDepth 100000 in
theorem remontoirref00_Valid.calls (a0_0 : Int) (a0_1 : Int) (a1 : Int) (a2 : Int) (r : Bool) (w : World) (h : remontoirref00_Valid.f a0_0 a0_1 a1 a2 = some r) :
  Calls Tryd.prog 63 #[.agg #[.int .i64 a0_0, .int .i64 a0_1], .int .i64 a1, .int .i64 a2] w fun e w' => e = .returned (.bool r) ∧ Below w.heap.size w w' := by
 have hu23 := Tryd.underlying23
 have HB := Aside0.mk (Below.refl w.heap.size w)
 have H : (if a0_0 ≤ a0_1 then (if a1 ≤ a0_0 then (some (decide (a0_1 ≤ a2))) else (some false)) else (some false)) = some r := h
 clear h
 by_cases c4 : a0_0 ≤ a0_1
 ·
  rw [if_pos c4] at H
  have c4b0 : decide (a0_0 ≤ a0_1) = true := decide_eq_true c4
  clear c4
  by_cases c5 : a1 ≤ a0_0
  ·
   rw [if_pos c5] at H
   have c5b0 : decide (a1 ≤ a0_0) = true := decide_eq_true c5
   clear c5
   obtain rfl := Option.some.inj H
   go_enter Tryd.func63, Tryd.ntmps63
   go_wp2_with (first | ((with_reducible refine gate_dst (N := 3) rfl ?_); refine box_event ?hg (N := 3) ?hd (cs := #[.int .i64 a0_0, .int .i64 a0_1]) (t := 23) ?hr ?_; (case hd => rfl); (case hg => rfl); (case hr => first | (go_simp; done) | (go_simp; rfl)); intro gb101 hg w6 hbox hb; have BK101 := Aside0.mk (hbox); have GW101 := geB hg (bl HB); have GE101 := geB hg (bl HB); replace HB := Aside0.mk (below_step (bl HB) hb); clear hb hbox hg; have hcz7_0 : w6.cell? ⟨gb101, 0, none⟩ = some (.int .i64 a0_0) := bc BK101 0; have hcz7_1 : w6.cell? ⟨gb101, 1, none⟩ = some (.int .i64 a0_1) := bc BK101 1; have hfz7_0 := blk_frozen BK101.out 0; have hfz7_1 := blk_frozen BK101.out 1))
   go_ret
   exact ⟨by first | rfl | (simp [errW_none, errW_some] <;> rfl) | (simp [*, errW_none, errW_some] <;> rfl), by repeat (first | (with_reducible first | exact HB.out | apply below_alloc | apply pw_below_drewN | apply below_drew1 | refine below_set ?_ GE101.out) | exact HB.out)⟩
  ·
   rw [if_neg c5] at H
   have c5b0 : decide (a1 ≤ a0_0) = false := decide_eq_false c5
   clear c5
   obtain rfl := Option.some.inj H
   go_enter Tryd.func63, Tryd.ntmps63
   go_wp2_with (first | ((with_reducible refine gate_dst (N := 3) rfl ?_); refine box_event ?hg (N := 3) ?hd (cs := #[.int .i64 a0_0, .int .i64 a0_1]) (t := 23) ?hr ?_; (case hd => rfl); (case hg => rfl); (case hr => first | (go_simp; done) | (go_simp; rfl)); intro gb101 hg w8 hbox hb; have BK101 := Aside0.mk (hbox); have GW101 := geB hg (bl HB); have GE101 := geB hg (bl HB); replace HB := Aside0.mk (below_step (bl HB) hb); clear hb hbox hg; have hcz9_0 : w8.cell? ⟨gb101, 0, none⟩ = some (.int .i64 a0_0) := bc BK101 0; have hcz9_1 : w8.cell? ⟨gb101, 1, none⟩ = some (.int .i64 a0_1) := bc BK101 1; have hfz9_0 := blk_frozen BK101.out 0; have hfz9_1 := blk_frozen BK101.out 1))
   go_ret
   exact ⟨by first | rfl | (simp [errW_none, errW_some] <;> rfl) | (simp [*, errW_none, errW_some] <;> rfl), by repeat (first | (with_reducible first | exact HB.out | apply below_alloc | apply pw_below_drewN | apply below_drew1 | refine below_set ?_ GE101.out) | exact HB.out)⟩
 ·
  rw [if_neg c4] at H
  have c4b0 : decide (a0_0 ≤ a0_1) = false := decide_eq_false c4
  clear c4
  obtain rfl := Option.some.inj H
  go_enter Tryd.func63, Tryd.ntmps63
  go_wp2_with (first | ((with_reducible refine gate_dst (N := 3) rfl ?_); refine box_event ?hg (N := 3) ?hd (cs := #[.int .i64 a0_0, .int .i64 a0_1]) (t := 23) ?hr ?_; (case hd => rfl); (case hg => rfl); (case hr => first | (go_simp; done) | (go_simp; rfl)); intro gb101 hg w10 hbox hb; have BK101 := Aside0.mk (hbox); have GW101 := geB hg (bl HB); have GE101 := geB hg (bl HB); replace HB := Aside0.mk (below_step (bl HB) hb); clear hb hbox hg; have hcz11_0 : w10.cell? ⟨gb101, 0, none⟩ = some (.int .i64 a0_0) := bc BK101 0; have hcz11_1 : w10.cell? ⟨gb101, 1, none⟩ = some (.int .i64 a0_1) := bc BK101 1; have hfz11_0 := blk_frozen BK101.out 0; have hfz11_1 := blk_frozen BK101.out 1))
  go_ret
  exact ⟨by first | rfl | (simp [errW_none, errW_some] <;> rfl) | (simp [*, errW_none, errW_some] <;> rfl), by repeat (first | (with_reducible first | exact HB.out | apply below_alloc | apply pw_below_drewN | apply below_drew1 | refine below_set ?_ GE101.out) | exact HB.out)⟩

end Go.Proofs.TrydX.X
end

section
/- sound: is there a book, and is it as small as it can be? -/
set_option linter.unusedSimpArgs false
set_option linter.unusedVariables false
namespace Go.Proofs.YtohbeninpmmmpaaDoor
open Go.RowKit Go.Proofs.YtohbeninpmmmpaaDoorW.PrintWords Go.Proofs.YtohbeninpmmmpaaDoorW.PrintLast Go.Proofs.YtohbeninpmmmpaaDoorW.PrintMore TrydX.X
attribute [local go_sem] Oper.semAt_some
theorem lies_f (a b c : Int) : remontoirref00_Lies.f a b c = some (decide (b ≤ a ∧ a ≤ c)) := by
  unfold remontoirref00_Lies.f
  split <;> simp_all
  omega
theorem valid_f (x y a b : Int) : remontoirref00_Valid.f x y a b = some (decide (a ≤ x ∧ x ≤ y ∧ y ≤ b)) := by
  unfold remontoirref00_Valid.f
  repeat' split
  all_goals simp_all
  all_goals omega
theorem lies_yes {a b c : Int} (h : b ≤ a ∧ a ≤ c) (w : World) : Calls Tryd.prog 61 #[.int .i64 a, .int .i64 b, .int .i64 c] w fun e w' => e = .returned (.bool true) ∧ Below w.heap.size w w' :=
  (remontoirref00_Lies.calls a b c true w (by rw [lies_f, decide_eq_true h])).mono fun e w' h => ⟨h.1, h.2.below⟩
theorem valid_yes {x y a b : Int} (h : a ≤ x ∧ x ≤ y ∧ y ≤ b) (w : World) : Calls Tryd.prog 63 #[.agg #[.int .i64 x, .int .i64 y], .int .i64 a, .int .i64 b] w fun e w' => e = .returned (.bool true) ∧ Below w.heap.size w w' :=
  remontoirref00_Valid.calls x y a b true w (by rw [valid_f, decide_eq_true h])
set_option maxRecDepth 100000 in
set_option maxHeartbeats 8000000 in
theorem sound_no (N b0 b1 r0 r1 : Int) (A5 : Option Addr) (c5 : Nat) (l5 : List S23) (A6 : Option Addr) (c6 : Nat) (l6 : List S23) (A7 : Option Addr) (c7 : Nat) (l7 : List S63)
    (w : World) (hc : ∀ W, Below w.heap.size w W → Calls Tryd.prog 19 #[.agg #[.int .i64 N, .int .i64 b0, .int .i64 b1, .int .i64 r0, .int .i64 r1, .slice A5 l5.length c5, .slice A6 l6.length c6, .slice A7 l7.length c7]] W fun e w' => e = .returned (.int .i64 30) ∧ Below W.heap.size W w') :
    Calls Tryd.prog 38 #[.agg #[.int .i64 N, .int .i64 b0, .int .i64 b1, .int .i64 r0, .int .i64 r1, .slice A5 l5.length c5, .slice A6 l6.length c6, .slice A7 l7.length c7]] w fun e w' => e = .returned (.bool false) ∧ Below w.heap.size w w' := by
  have hxx := blk_new w (.cells #[.int .i64 N, .int .i64 b0, .int .i64 b1, .int .i64 r0, .int .i64 r1, .slice A5 l5.length c5, .slice A6 l6.length c6, .slice A7 l7.length c7] 27)
  have hb0 : Below w.heap.size w (w.alloc (.cells #[.int .i64 N, .int .i64 b0, .int .i64 b1, .int .i64 r0, .int .i64 r1, .slice A5 l5.length c5, .slice A6 l6.length c6, .slice A7 l7.length c7] 27)) := (Below.refl _ _).alloc (Nat.le_refl _) _
  go_enter Tryd.func38, Tryd.ntmps38
  go_wp2_with (first | (refine wpList_load_row rfl 27 _ rfl w.heap.size rfl 27 #[.int .i64 N, .int .i64 b0, .int .i64 b1, .int .i64 r0, .int .i64 r1, .slice A5 l5.length c5, .slice A6 l6.length c6, .slice A7 l7.length c7] (0, 0) _ hxx Tryd.underlying27 rfl (by kernel_rfl) ?_) | (go_at_call 19; refine (hc _ hb0).mono ?_; rintro e w2 ⟨rfl, hb2⟩))
  have hb3 := below_call hb0 hb2
  clear hc hxx hb0 hb2
  go_loopw [3, 4] (fun v3 v4 wr => v3 = .bool false ∧ v4 = .int .i64 0 ∧ Below w.heap.size w wr) (fun _ _ _ => 0)
  case atStart => exact ⟨rfl, rfl, hb3⟩
  case round =>
    obtain ⟨rfl, rfl, hb⟩ := hrel
    clear hb3
    go_wp2_with fail
    go_loopw [3, 5] (fun v3 v4 wr => v3 = .bool false ∧ v4 = .int .i64 0 ∧ Below w.heap.size w wr) (fun _ _ _ => 0)
    case atStart => exact ⟨rfl, rfl, hb⟩
    case round =>
      obtain ⟨rfl, rfl, hb2⟩ := hrel
      clear hb
      go_wp2_with fail
      go_loopw [3, 6] (fun v3 v4 wr => v3 = .bool false ∧ v4 = .int .i64 0 ∧ Below w.heap.size w wr) (fun _ _ _ => 0)
      case atStart => exact ⟨rfl, rfl, hb2⟩
      case round =>
        obtain ⟨rfl, rfl, hb⟩ := hrel
        clear hb2
        go_wp2_with fail
        refine bodyPost_ret (results_tmp rfl _ _ _) rfl ?_
        exact ⟨rfl, hb⟩
set_option maxRecDepth 100000 in
set_option maxHeartbeats 8000000 in
theorem sound_yes (N b0 b1 r0 r1 : Int) (A5 : Option Addr) (c5 : Nat) (l5 : List S23) (A6 : Option Addr) (c6 : Nat) (l6 : List S23) (A7 : Option Addr) (c7 : Nat) (l7 : List S63)
    (w : World) (h5 : Kd.C k23 w A5 l5.length l5) (h6 : Kd.C k23 w A6 l6.length l6) (h7 : Kd.C k63 w A7 l7.length l7) (hB : BookOk N b0 b1 r0 r1 l5 l6 l7)
    (hc : ∀ W, Below w.heap.size w W → Calls Tryd.prog 19 #[.agg #[.int .i64 N, .int .i64 b0, .int .i64 b1, .int .i64 r0, .int .i64 r1, .slice A5 l5.length c5, .slice A6 l6.length c6, .slice A7 l7.length c7]] W fun e w' => e = .returned (.int .i64 0) ∧ Below W.heap.size W w') :
    Calls Tryd.prog 38 #[.agg #[.int .i64 N, .int .i64 b0, .int .i64 b1, .int .i64 r0, .int .i64 r1, .slice A5 l5.length c5, .slice A6 l6.length c6, .slice A7 l7.length c7]] w fun e w' => e = .returned (.bool true) ∧ Below w.heap.size w w' := by
  have hxx := blk_new w (.cells #[.int .i64 N, .int .i64 b0, .int .i64 b1, .int .i64 r0, .int .i64 r1, .slice A5 l5.length c5, .slice A6 l6.length c6, .slice A7 l7.length c7] 27)
  have hb0 : Below w.heap.size w (w.alloc (.cells #[.int .i64 N, .int .i64 b0, .int .i64 b1, .int .i64 r0, .int .i64 r1, .slice A5 l5.length c5, .slice A6 l6.length c6, .slice A7 l7.length c7] 27)) := (Below.refl _ _).alloc (Nat.le_refl _) _
  have hN := hB.n
  have hb := hB.b
  have hr := hB.r
  obtain ⟨g5, g6, g7⟩ := hB.len
  have g5' : (l5.length : Int) ≤ 4 := by omega
  have g6' : (l6.length : Int) ≤ 4 := by omega
  have g7' : (l7.length : Int) ≤ 10 := by omega
  have HBK := Lib.hid hB
  have H5 := Lib.hid h5
  have H6 := Lib.hid h6
  have H7 := Lib.hid h7
  clear hB h5 h6 h7
  go_enter Tryd.func38, Tryd.ntmps38
  go_wp2_with (first | (refine wpList_load_row rfl 27 _ rfl w.heap.size rfl 27 #[.int .i64 N, .int .i64 b0, .int .i64 b1, .int .i64 r0, .int .i64 r1, .slice A5 l5.length c5, .slice A6 l6.length c6, .slice A7 l7.length c7] (0, 0) _ hxx Tryd.underlying27 rfl (by kernel_rfl) ?_) | (go_at_call 19; refine (hc _ hb0).mono ?_; rintro e w2 ⟨rfl, hb2⟩; have hx2 := blk_below hxx hb2; have h20 : w2.cell? ⟨w.heap.size, 0, none⟩ = some (.int .i64 N) := (blk_cell (hx2) 0).trans rfl; have h21 : w2.cell? ⟨w.heap.size, 1, none⟩ = some (.int .i64 b0) := (blk_cell (hx2) 1).trans rfl; have h22 : w2.cell? ⟨w.heap.size, 2, none⟩ = some (.int .i64 b1) := (blk_cell (hx2) 2).trans rfl; have h23 : w2.cell? ⟨w.heap.size, 3, none⟩ = some (.int .i64 r0) := (blk_cell (hx2) 3).trans rfl; have h24 : w2.cell? ⟨w.heap.size, 4, none⟩ = some (.int .i64 r1) := (blk_cell (hx2) 4).trans rfl; have h25 : w2.cell? ⟨w.heap.size, 5, none⟩ = some (.slice A5 l5.length c5) := (blk_cell (hx2) 5).trans rfl; have h26 : w2.cell? ⟨w.heap.size, 6, none⟩ = some (.slice A6 l6.length c6) := (blk_cell (hx2) 6).trans rfl; have h27 : w2.cell? ⟨w.heap.size, 7, none⟩ = some (.slice A7 l7.length c7) := (blk_cell (hx2) 7).trans rfl;  clear hxx))
  refine (lies_yes hN _).mono ?_
  rintro e w3 ⟨rfl, hb3⟩
  have hx3 := blk_below hx2 hb3
  have h30 : w3.cell? ⟨w.heap.size, 0, none⟩ = some (.int .i64 N) := (blk_cell (hx3) 0).trans rfl; have h31 : w3.cell? ⟨w.heap.size, 1, none⟩ = some (.int .i64 b0) := (blk_cell (hx3) 1).trans rfl; have h32 : w3.cell? ⟨w.heap.size, 2, none⟩ = some (.int .i64 b1) := (blk_cell (hx3) 2).trans rfl; have h33 : w3.cell? ⟨w.heap.size, 3, none⟩ = some (.int .i64 r0) := (blk_cell (hx3) 3).trans rfl; have h34 : w3.cell? ⟨w.heap.size, 4, none⟩ = some (.int .i64 r1) := (blk_cell (hx3) 4).trans rfl; have h35 : w3.cell? ⟨w.heap.size, 5, none⟩ = some (.slice A5 l5.length c5) := (blk_cell (hx3) 5).trans rfl; have h36 : w3.cell? ⟨w.heap.size, 6, none⟩ = some (.slice A6 l6.length c6) := (blk_cell (hx3) 6).trans rfl; have h37 : w3.cell? ⟨w.heap.size, 7, none⟩ = some (.slice A7 l7.length c7) := (blk_cell (hx3) 7).trans rfl; 
  clear hx2 h20 h21 h22 h23 h24 h25 h26 h27
  go_wp2_with fail
  refine (valid_yes hb _).mono ?_
  rintro e w4 ⟨rfl, hb4⟩
  have hx4 := blk_below hx3 hb4
  have h40 : w4.cell? ⟨w.heap.size, 0, none⟩ = some (.int .i64 N) := (blk_cell (hx4) 0).trans rfl; have h41 : w4.cell? ⟨w.heap.size, 1, none⟩ = some (.int .i64 b0) := (blk_cell (hx4) 1).trans rfl; have h42 : w4.cell? ⟨w.heap.size, 2, none⟩ = some (.int .i64 b1) := (blk_cell (hx4) 2).trans rfl; have h43 : w4.cell? ⟨w.heap.size, 3, none⟩ = some (.int .i64 r0) := (blk_cell (hx4) 3).trans rfl; have h44 : w4.cell? ⟨w.heap.size, 4, none⟩ = some (.int .i64 r1) := (blk_cell (hx4) 4).trans rfl; have h45 : w4.cell? ⟨w.heap.size, 5, none⟩ = some (.slice A5 l5.length c5) := (blk_cell (hx4) 5).trans rfl; have h46 : w4.cell? ⟨w.heap.size, 6, none⟩ = some (.slice A6 l6.length c6) := (blk_cell (hx4) 6).trans rfl; have h47 : w4.cell? ⟨w.heap.size, 7, none⟩ = some (.slice A7 l7.length c7) := (blk_cell (hx4) 7).trans rfl; 
  clear hx3 h30 h31 h32 h33 h34 h35 h36 h37
  go_wp2_with fail
  refine (valid_yes hr _).mono ?_
  rintro e w5 ⟨rfl, hb5⟩
  have hx5 := blk_below hx4 hb5
  have h50 : w5.cell? ⟨w.heap.size, 0, none⟩ = some (.int .i64 N) := (blk_cell (hx5) 0).trans rfl; have h51 : w5.cell? ⟨w.heap.size, 1, none⟩ = some (.int .i64 b0) := (blk_cell (hx5) 1).trans rfl; have h52 : w5.cell? ⟨w.heap.size, 2, none⟩ = some (.int .i64 b1) := (blk_cell (hx5) 2).trans rfl; have h53 : w5.cell? ⟨w.heap.size, 3, none⟩ = some (.int .i64 r0) := (blk_cell (hx5) 3).trans rfl; have h54 : w5.cell? ⟨w.heap.size, 4, none⟩ = some (.int .i64 r1) := (blk_cell (hx5) 4).trans rfl; have h55 : w5.cell? ⟨w.heap.size, 5, none⟩ = some (.slice A5 l5.length c5) := (blk_cell (hx5) 5).trans rfl; have h56 : w5.cell? ⟨w.heap.size, 6, none⟩ = some (.slice A6 l6.length c6) := (blk_cell (hx5) 6).trans rfl; have h57 : w5.cell? ⟨w.heap.size, 7, none⟩ = some (.slice A7 l7.length c7) := (blk_cell (hx5) 7).trans rfl; 
  clear hx4 h40 h41 h42 h43 h44 h45 h46 h47
  go_wp2_with fail
  have HB5 := Lib.hid (below_call (below_call (below_call (below_call hb0 hb2) hb3) hb4) hb5)
  have HX5 := Lib.hid hx5
  clear hb0 hb2 hb3 hb4 hb5 hx5 h50 h51 h52 h53 h54 h55 h56 h57 hc
  go_loopw [3, 4] (fun v3 v4 wr => ∃ k : Nat, k ≤ l5.length ∧ v3 = .bool true ∧ v4 = .int .i64 k ∧ Below w.heap.size w wr ∧ wr.heap[w.heap.size]? = some (.cells #[.int .i64 N, .int .i64 b0, .int .i64 b1, .int .i64 r0, .int .i64 r1, .slice A5 l5.length c5, .slice A6 l6.length c6, .slice A7 l7.length c7] 27 (0, 0))) (fun _ i _ => l5.length - (intOf i).toNat)
  case atStart => exact ⟨0, Nat.zero_le _, rfl, rfl, HB5.out, HX5.out⟩
  case round =>
    rename World => wr0
    obtain ⟨k, hk, rfl, rfl, hbr, hxr⟩ := hrel
    have p5 : wr0.cell? ⟨w.heap.size, 5, none⟩ = some (.slice A5 l5.length c5) := (blk_cell hxr 5).trans rfl
    by_cases hlt : k < l5.length
    · have hlt1 : (k : Int) < (l5.length : Int) := by omega
      have hpj := HBK.out.p5 k hlt
      obtain ⟨ad, e, hq0, hq1⟩ := at_T23 (Kd.C_below H5.out hbr) (k : Int) (by omega) (by omega)
      cases e
      rw [Int.toNat_natCast] at hq0 hq1
      go_wp2_with fail
      refine (valid_yes (by omega) _).mono ?_
      rintro e w6 ⟨rfl, hb6⟩
      go_wp2_with fail
      go_roundw
      case rel => exact ⟨k + 1, by omega, rfl, by go_num, below_call hbr hb6, blk_below hxr hb6⟩
      case measure => simp [intOf]; omega
    · have hge : ¬ ((k : Int) < (l5.length : Int)) := by omega
      have HBR0 := Lib.hid hbr
      have HXR0 := Lib.hid hxr
      go_wp2_with fail
      clear hbr hxr p5 hge hlt hk
      go_loopw [3, 5] (fun v3 v4 wr => ∃ k : Nat, k ≤ l6.length ∧ v3 = .bool true ∧ v4 = .int .i64 k ∧ Below w.heap.size w wr ∧ wr.heap[w.heap.size]? = some (.cells #[.int .i64 N, .int .i64 b0, .int .i64 b1, .int .i64 r0, .int .i64 r1, .slice A5 l5.length c5, .slice A6 l6.length c6, .slice A7 l7.length c7] 27 (0, 0))) (fun _ i _ => l6.length - (intOf i).toNat)
      case atStart => exact ⟨0, Nat.zero_le _, rfl, rfl, HBR0.out, HXR0.out⟩
      case round =>
        rename World => wr1
        obtain ⟨k, hk, rfl, rfl, hbr, hxr⟩ := hrel
        have p5 : wr1.cell? ⟨w.heap.size, 6, none⟩ = some (.slice A6 l6.length c6) := (blk_cell hxr 6).trans rfl
        by_cases hlt : k < l6.length
        · have hlt1 : (k : Int) < (l6.length : Int) := by omega
          have hpj := HBK.out.p6 k hlt
          obtain ⟨ad, e, hq0, hq1⟩ := at_T23 (Kd.C_below H6.out hbr) (k : Int) (by omega) (by omega)
          cases e
          rw [Int.toNat_natCast] at hq0 hq1
          go_wp2_with fail
          refine (valid_yes (by omega) _).mono ?_
          rintro e w6 ⟨rfl, hb6⟩
          go_wp2_with fail
          go_roundw
          case rel => exact ⟨k + 1, by omega, rfl, by go_num, below_call hbr hb6, blk_below hxr hb6⟩
          case measure => simp [intOf]; omega
        · have hge : ¬ ((k : Int) < (l6.length : Int)) := by omega
          have HBR1 := Lib.hid hbr
          have HXR1 := Lib.hid hxr
          go_wp2_with fail
          clear hbr hxr p5 hge hlt hk
          go_loopw [3, 6] (fun v3 v4 wr => ∃ k : Nat, k ≤ l7.length ∧ v3 = .bool true ∧ v4 = .int .i64 k ∧ Below w.heap.size w wr ∧ wr.heap[w.heap.size]? = some (.cells #[.int .i64 N, .int .i64 b0, .int .i64 b1, .int .i64 r0, .int .i64 r1, .slice A5 l5.length c5, .slice A6 l6.length c6, .slice A7 l7.length c7] 27 (0, 0))) (fun _ i _ => l7.length - (intOf i).toNat)
          case atStart => exact ⟨0, Nat.zero_le _, rfl, rfl, HBR1.out, HXR1.out⟩
          case round =>
            rename World => wr2
            obtain ⟨k, hk, rfl, rfl, hbr, hxr⟩ := hrel
            have p5 : wr2.cell? ⟨w.heap.size, 7, none⟩ = some (.slice A7 l7.length c7) := (blk_cell hxr 7).trans rfl
            have p0 : wr2.cell? ⟨w.heap.size, 0, none⟩ = some (.int .i64 N) := (blk_cell hxr 0).trans rfl
            have p3 : wr2.cell? ⟨w.heap.size, 5, none⟩ = some (.slice A5 l5.length c5) := (blk_cell hxr 5).trans rfl
            have p4 : wr2.cell? ⟨w.heap.size, 6, none⟩ = some (.slice A6 l6.length c6) := (blk_cell hxr 6).trans rfl
            by_cases hlt : k < l7.length
            · have hlt1 : (k : Int) < (l7.length : Int) := by omega
              have hpj := HBK.out.p7 k hlt
              obtain ⟨ad, e, hq0, hq1, hq2, hq3, hq4⟩ := at_T63 (Kd.C_below H7.out hbr) (k : Int) (by omega) (by omega)
              cases e
              rw [Int.toNat_natCast] at hq0 hq1 hq2 hq3 hq4
              obtain ⟨a1, a2, a3, a4, a5⟩ := hpj
              generalize (rd_T63 l7 (k : Int)).f0 = x0 at hq0 a1
              generalize (rd_T63 l7 (k : Int)).f1 = x1 at hq1 a2
              generalize (rd_T63 l7 (k : Int)).f2 = x2 at hq2 a2 a3
              generalize (rd_T63 l7 (k : Int)).f3 = x3 at hq3 a4
              generalize (rd_T63 l7 (k : Int)).f4 = x4 at hq4 a5
              have hz2 := blk_lt hxr
              have hzz2 := hbr.size
              have hwN : wrap64 (N - 1) = N - 1 := IntWalk.wrap64_in _ (by constructor <;> omega)
              have HW0 : Hid (wrap64 ((l5.length : Int) - 1) = (l5.length : Int) - 1) := Lib.hid (IntWalk.wrap64_in _ (by constructor <;> omega))
              have HW1 : Hid (wrap64 ((l6.length : Int) - 1) = (l6.length : Int) - 1) := Lib.hid (IntWalk.wrap64_in _ (by constructor <;> omega))
              rcases a2 with ⟨e1, a2⟩ | ⟨e1, a2⟩
              · rw [e1] at hq1
                go_wp2_with fail
                refine (lies_yes (by omega) _).mono ?_
                rintro e w6 ⟨rfl, hb6⟩
                have hx9 := blk_below (blk_alloc hxr (.cells #[.int .i64 x0, .int .i64 0, .int .i64 x2, .int .i64 x3, .int .i64 x4] 63)) hb6
                have hq9 := blk_below (blk_new wr2 (.cells #[.int .i64 x0, .int .i64 0, .int .i64 x2, .int .i64 x3, .int .i64 x4] 63)) hb6
                have y0 : w6.cell? ⟨w.heap.size, 0, none⟩ = some (.int .i64 N) := (blk_cell hx9 0).trans rfl
                have z0 : w6.cell? ⟨wr2.heap.size, 0, none⟩ = some (.int .i64 x0) := (blk_cell hq9 0).trans rfl
                have z1 : w6.cell? ⟨wr2.heap.size, 1, none⟩ = some (.int .i64 0) := (blk_cell hq9 1).trans rfl
                have z2 : w6.cell? ⟨wr2.heap.size, 2, none⟩ = some (.int .i64 x2) := (blk_cell hq9 2).trans rfl
                have z3 : w6.cell? ⟨wr2.heap.size, 3, none⟩ = some (.int .i64 x3) := (blk_cell hq9 3).trans rfl
                have z4 : w6.cell? ⟨wr2.heap.size, 4, none⟩ = some (.int .i64 x4) := (blk_cell hq9 4).trans rfl
                clear hq0 hq1 hq2 hq3 hq4 p5 p0 p3 p4
                go_wp2_with fail
                refine (lies_yes (by omega) _).mono ?_
                rintro e w7 ⟨rfl, hb7⟩
                clear y0 z0 z1 z2 z3 z4
                have hx9 := blk_below hx9 hb7
                have hq9 := blk_below hq9 hb7
                have y0 : w7.cell? ⟨w.heap.size, 0, none⟩ = some (.int .i64 N) := (blk_cell hx9 0).trans rfl
                have z0 : w7.cell? ⟨wr2.heap.size, 0, none⟩ = some (.int .i64 x0) := (blk_cell hq9 0).trans rfl
                have z1 : w7.cell? ⟨wr2.heap.size, 1, none⟩ = some (.int .i64 0) := (blk_cell hq9 1).trans rfl
                have z2 : w7.cell? ⟨wr2.heap.size, 2, none⟩ = some (.int .i64 x2) := (blk_cell hq9 2).trans rfl
                have z3 : w7.cell? ⟨wr2.heap.size, 3, none⟩ = some (.int .i64 x3) := (blk_cell hq9 3).trans rfl
                have z4 : w7.cell? ⟨wr2.heap.size, 4, none⟩ = some (.int .i64 x4) := (blk_cell hq9 4).trans rfl
                go_wp2_with fail
                refine (lies_yes (by omega) _).mono ?_
                rintro e w8 ⟨rfl, hb8⟩
                clear y0 z0 z1 z2 z3 z4
                have hx9 := blk_below hx9 hb8
                have hq9 := blk_below hq9 hb8
                have y0 : w8.cell? ⟨w.heap.size, 0, none⟩ = some (.int .i64 N) := (blk_cell hx9 0).trans rfl
                have z0 : w8.cell? ⟨wr2.heap.size, 0, none⟩ = some (.int .i64 x0) := (blk_cell hq9 0).trans rfl
                have z1 : w8.cell? ⟨wr2.heap.size, 1, none⟩ = some (.int .i64 0) := (blk_cell hq9 1).trans rfl
                have z2 : w8.cell? ⟨wr2.heap.size, 2, none⟩ = some (.int .i64 x2) := (blk_cell hq9 2).trans rfl
                have z3 : w8.cell? ⟨wr2.heap.size, 3, none⟩ = some (.int .i64 x3) := (blk_cell hq9 3).trans rfl
                have z4 : w8.cell? ⟨wr2.heap.size, 4, none⟩ = some (.int .i64 x4) := (blk_cell hq9 4).trans rfl
                go_wp2_with fail
                refine (lies_yes (by omega) _).mono ?_
                rintro e wz ⟨rfl, hbz⟩
                clear y0 z0 z1 z2 z3 z4
                go_wp2_with fail
                go_roundw
                case rel => exact ⟨k + 1, by omega, rfl, by go_num, below_call (below_call (below_call (below_call (hbr.alloc hzz2 _) hb6) hb7) hb8) hbz, blk_below hx9 hbz⟩
                case measure => simp [intOf]; omega
              · rw [e1] at hq1
                go_wp2_with fail
                refine (lies_yes (by omega) _).mono ?_
                rintro e w6 ⟨rfl, hb6⟩
                have hx9 := blk_below (blk_alloc hxr (.cells #[.int .i64 x0, .int .i64 1, .int .i64 x2, .int .i64 x3, .int .i64 x4] 63)) hb6
                have hq9 := blk_below (blk_new wr2 (.cells #[.int .i64 x0, .int .i64 1, .int .i64 x2, .int .i64 x3, .int .i64 x4] 63)) hb6
                have y0 : w6.cell? ⟨w.heap.size, 0, none⟩ = some (.int .i64 N) := (blk_cell hx9 0).trans rfl
                have z0 : w6.cell? ⟨wr2.heap.size, 0, none⟩ = some (.int .i64 x0) := (blk_cell hq9 0).trans rfl
                have z1 : w6.cell? ⟨wr2.heap.size, 1, none⟩ = some (.int .i64 1) := (blk_cell hq9 1).trans rfl
                have z2 : w6.cell? ⟨wr2.heap.size, 2, none⟩ = some (.int .i64 x2) := (blk_cell hq9 2).trans rfl
                have z3 : w6.cell? ⟨wr2.heap.size, 3, none⟩ = some (.int .i64 x3) := (blk_cell hq9 3).trans rfl
                have z4 : w6.cell? ⟨wr2.heap.size, 4, none⟩ = some (.int .i64 x4) := (blk_cell hq9 4).trans rfl
                clear hq0 hq1 hq2 hq3 hq4 p5 p0 p3 p4
                go_wp2_with fail
                refine (lies_yes (by omega) _).mono ?_
                rintro e w7 ⟨rfl, hb7⟩
                clear y0 z0 z1 z2 z3 z4
                have hx9 := blk_below hx9 hb7
                have hq9 := blk_below hq9 hb7
                have y0 : w7.cell? ⟨w.heap.size, 0, none⟩ = some (.int .i64 N) := (blk_cell hx9 0).trans rfl
                have z0 : w7.cell? ⟨wr2.heap.size, 0, none⟩ = some (.int .i64 x0) := (blk_cell hq9 0).trans rfl
                have z1 : w7.cell? ⟨wr2.heap.size, 1, none⟩ = some (.int .i64 1) := (blk_cell hq9 1).trans rfl
                have z2 : w7.cell? ⟨wr2.heap.size, 2, none⟩ = some (.int .i64 x2) := (blk_cell hq9 2).trans rfl
                have z3 : w7.cell? ⟨wr2.heap.size, 3, none⟩ = some (.int .i64 x3) := (blk_cell hq9 3).trans rfl
                have z4 : w7.cell? ⟨wr2.heap.size, 4, none⟩ = some (.int .i64 x4) := (blk_cell hq9 4).trans rfl
                go_wp2_with fail
                refine (lies_yes (by omega) _).mono ?_
                rintro e w8 ⟨rfl, hb8⟩
                clear y0 z0 z1 z2 z3 z4
                have hx9 := blk_below hx9 hb8
                have hq9 := blk_below hq9 hb8
                have y0 : w8.cell? ⟨w.heap.size, 0, none⟩ = some (.int .i64 N) := (blk_cell hx9 0).trans rfl
                have z0 : w8.cell? ⟨wr2.heap.size, 0, none⟩ = some (.int .i64 x0) := (blk_cell hq9 0).trans rfl
                have z1 : w8.cell? ⟨wr2.heap.size, 1, none⟩ = some (.int .i64 1) := (blk_cell hq9 1).trans rfl
                have z2 : w8.cell? ⟨wr2.heap.size, 2, none⟩ = some (.int .i64 x2) := (blk_cell hq9 2).trans rfl
                have z3 : w8.cell? ⟨wr2.heap.size, 3, none⟩ = some (.int .i64 x3) := (blk_cell hq9 3).trans rfl
                have z4 : w8.cell? ⟨wr2.heap.size, 4, none⟩ = some (.int .i64 x4) := (blk_cell hq9 4).trans rfl
                go_wp2_with fail
                refine (lies_yes (by omega) _).mono ?_
                rintro e wz ⟨rfl, hbz⟩
                clear y0 z0 z1 z2 z3 z4
                go_wp2_with fail
                go_roundw
                case rel => exact ⟨k + 1, by omega, rfl, by go_num, below_call (below_call (below_call (below_call (hbr.alloc hzz2 _) hb6) hb7) hb8) hbz, blk_below hx9 hbz⟩
                case measure => simp [intOf]; omega
            · have hge : ¬ ((k : Int) < (l7.length : Int)) := by omega
              have HBR2 := Lib.hid hbr
              have HXR2 := Lib.hid hxr
              go_wp2_with fail
              clear hbr hxr p5 hge hlt hk
              refine bodyPost_ret (results_tmp rfl _ _ _) rfl ?_
              exact ⟨rfl, HBR2.out⟩
end Go.Proofs.YtohbeninpmmmpaaDoor
namespace Go.Proofs.TrydX.X
open Go.RowKit Go.Proofs.YtohbeninpmmmpaaDoorW.PrintWords Go.Proofs.YtohbeninpmmmpaaDoorW.PrintLast
open Go.Proofs.YtohbeninpmmmpaaDoor (checkB checkB_iff sound_yes sound_no)
def remontoirlaw03_sound.f (a0_0 : Int) (a0_1 : Int) (a0_2 : Int) (a0_3 : Int) (a0_4 : Int) (l0_5 : List (S23)) (l0_6 : List (S23)) (l0_7 : List (S63)) : Option Bool := if l0_5.length ≤ 17592186044416 ∧ l0_6.length ≤ 17592186044416 ∧ l0_7.length ≤ 17592186044416 then some (checkB a0_0 a0_1 a0_2 a0_3 a0_4 l0_5 l0_6 l0_7) else none
theorem remontoirlaw03_sound.calls (a0_0 : Int) (a0_1 : Int) (a0_2 : Int) (a0_3 : Int) (a0_4 : Int) (A0_5 : Option Addr) (c0_5 : Nat) (l0_5 : List (S23)) (A0_6 : Option Addr) (c0_6 : Nat) (l0_6 : List (S23)) (A0_7 : Option Addr) (c0_7 : Nat) (l0_7 : List (S63)) (r : Bool) (w : World) (hr0_5 : Kd.C k23 w A0_5 l0_5.length l0_5) (hc0_5 : l0_5.length ≤ c0_5) (hr0_6 : Kd.C k23 w A0_6 l0_6.length l0_6) (hc0_6 : l0_6.length ≤ c0_6) (hr0_7 : Kd.C k63 w A0_7 l0_7.length l0_7) (hc0_7 : l0_7.length ≤ c0_7) (hWays : Go.Proofs.YtohbeninpmmmpaaDoor.Ways w) (h : remontoirlaw03_sound.f a0_0 a0_1 a0_2 a0_3 a0_4 l0_5 l0_6 l0_7 = some r) :
    Calls Tryd.prog 38 #[.agg #[.int .i64 a0_0, .int .i64 a0_1, .int .i64 a0_2, .int .i64 a0_3, .int .i64 a0_4, .slice A0_5 l0_5.length c0_5, .slice A0_6 l0_6.length c0_6, .slice A0_7 l0_7.length c0_7]] w fun e w' => e = .returned (.bool r) ∧ Below w.heap.size w w' := by
  unfold remontoirlaw03_sound.f at h
  split at h
  · rename_i hb
    have hck : ∀ W, Below w.heap.size w W → Calls Tryd.prog 19 #[.agg #[.int .i64 a0_0, .int .i64 a0_1, .int .i64 a0_2, .int .i64 a0_3, .int .i64 a0_4, .slice A0_5 l0_5.length c0_5, .slice A0_6 l0_6.length c0_6, .slice A0_7 l0_7.length c0_7]] W fun e w' => e = .returned (.int .i64 (if checkB a0_0 a0_1 a0_2 a0_3 a0_4 l0_5 l0_6 l0_7 = true then 0 else 30)) ∧ Below W.heap.size W w' :=
      fun W hW => YtohbeninpmmmpaaDoor.Check_any A0_5 c0_5 A0_6 c0_6 A0_7 c0_7 W (Kd.C_below hr0_5 hW) hc0_5 (Kd.C_below hr0_6 hW) hc0_6 (Kd.C_below hr0_7 hW) hc0_7 ⟨Nat.le_trans hb.1 (by decide), Nat.le_trans hb.2.1 (by decide), Nat.le_trans hb.2.2 (by decide)⟩
    simp only [Option.some.injEq] at h
    subst h
    by_cases hc : checkB a0_0 a0_1 a0_2 a0_3 a0_4 l0_5 l0_6 l0_7 = true
    · rw [hc]
      rw [if_pos hc] at hck
      exact sound_yes a0_0 a0_1 a0_2 a0_3 a0_4 A0_5 c0_5 l0_5 A0_6 c0_6 l0_6 A0_7 c0_7 l0_7 w hr0_5 hr0_6 hr0_7 (checkB_iff.1 hc) hck
    · rw [if_neg hc] at hck
      rw [Bool.not_eq_true] at hc
      rw [hc]
      exact sound_no a0_0 a0_1 a0_2 a0_3 a0_4 A0_5 c0_5 l0_5 A0_6 c0_6 l0_6 A0_7 c0_7 l0_7 w hck
  · cases h
end Go.Proofs.TrydX.X
end

section
/- Plain: what IsTruth asks, and what Case sets, in words of a book. -/
set_option linter.unusedVariables false
set_option linter.unusedSimpArgs false
namespace Go.Proofs.YtohbeninpmmmpaaDoor
open Go.RowKit Go.Proofs.YtohbeninpmmmpaaDoorW.PrintWords Go.Proofs.YtohbeninpmmmpaaDoorW.PrintLast Go.Proofs.YtohbeninpmmmpaaDoorW.PrintMore TrydX.X
theorem Bk.told_eq {b : Bk} (hb : b.ok) {wo : List Int} {i k : Nat} (hi : b.used i) (hk : b.used k) {M : Int} (o : Nat → Int) (ho : b.sat wo o) (hM : o i - o k = M) (h : ∀ o, b.sat wo o → o i - o k ≤ M) : b.told wo i k = M := by
  have h1 := Bk.so_told hb ho hi hk
  have h2 := Bk.told_le hb (Bk.can_of hb ho) hk h
  omega
/-- The numbers that a truth gives to all things. -/
def truthO (o0 o1 o2 : List Int) (i : Nat) : Int := if i = 0 then 0 else if i ≤ 8 then rd o0 ((i - 1 : Nat) : Int) else if i < 13 then wrap64 (-(rd o1 ((i - 9 : Nat) : Int))) else rd o2 ((i - 13 : Nat) : Int)
theorem mem_iPut : ∀ {es : List (Int × Int)} {s v : Int} {x : Int × Int}, x ∈ iPut es s v → x = (s, v) ∨ x ∈ es
  | [], s, v, x, h => by simpa [iPut] using h
  | y :: es, s, v, x, h => by
    unfold iPut at h
    split at h
    · rcases List.mem_cons.1 h with h | h
      · exact .inl h
      · exact .inr (List.mem_cons_of_mem _ h)
    · rcases List.mem_cons.1 h with h | h
      · exact .inr (by rw [h]; exact List.mem_cons_self)
      · rcases mem_iPut h with h | h
        · exact .inl h
        · exact .inr (List.mem_cons_of_mem _ h)
def putRow (c : Int) (f : Nat → Int) (es : List (Int × Int)) (k : Nat) : List (Int × Int) := (List.range k).foldl (fun es (j : Nat) => iPut es (c + (j : Int)) (f j)) es
theorem putRow_succ (c : Int) (f : Nat → Int) (es : List (Int × Int)) (k : Nat) : putRow c f es (k + 1) = iPut (putRow c f es k) (c + (k : Int)) (f k) := by simp [putRow, List.range_succ]
theorem mem_putRow {c : Int} {f : Nat → Int} {es : List (Int × Int)} {x : Int × Int} : ∀ {k : Nat}, x ∈ putRow c f es k → x ∈ es ∨ ∃ j, j < k ∧ x = (c + (j : Int), f j)
  | 0, h => .inl h
  | k + 1, h => by
    rw [putRow_succ] at h
    rcases mem_iPut h with h | h
    · exact .inr ⟨k, Nat.lt_succ_self k, h⟩
    · rcases mem_putRow h with h | ⟨j, hj, h⟩
      · exact .inl h
      · exact .inr ⟨j, by omega, h⟩
theorem putRow_hit {c : Int} {f : Nat → Int} {es : List (Int × Int)} : ∀ {k j : Nat}, j < k → iLook (putRow c f es k) (c + (j : Int)) = some (f j)
  | k + 1, j, h => by
    rw [putRow_succ, iLook_put]
    by_cases e : j = k
    · subst e
      rw [if_pos rfl]
    · rw [if_neg (by omega)]
      exact putRow_hit (by omega)
theorem putRow_miss {c : Int} {f : Nat → Int} {es : List (Int × Int)} {s : Int} : ∀ {k : Nat}, (∀ j : Nat, j < k → s ≠ c + (j : Int)) → iLook (putRow c f es k) s = iLook es s
  | 0, _ => rfl
  | k + 1, h => by
    rw [putRow_succ, iLook_put, if_neg (h k (Nat.lt_succ_self k))]
    exact putRow_miss fun j hj => h j (by omega)
theorem atAll_is (o0 o1 o2 : List Int) : atAll o0 o1 o2 = putRow 13 (fun j => rd o2 j) (putRow 9 (fun j => wrap64 (-(rd o1 j))) (putRow 1 (fun j => rd o0 j) [(0, 0)] o0.length) o1.length) o2.length := rfl
section
variable {N b0 b1 r0 r1 : Int} {l5 l6 : List S23} {l7 : List S63}
theorem isTruth_iff (hB : BookOk N b0 b1 r0 r1 l5 l6 l7) {o0 o1 o2 : List Int} : isTruthF N b0 b1 r0 r1 l5 l6 l7 o0 o1 o2 = true ↔ (o0.length : Int) = N ∧ o1.length = l5.length ∧ o2.length = l6.length ∧ Sat N b0 b1 r0 r1 l5 l6 l7 [] (truthO o0 o1 o2) := by
  have hN := hB.n
  obtain ⟨q5, q6, q7⟩ := hB.len
  unfold isTruthF
  rw [Bool.and_eq_true, Bool.and_eq_true, Bool.and_eq_true, decide_eq_true_eq, decide_eq_true_eq, decide_eq_true_eq]
  refine and_congr_right fun e0 => and_congr_right fun e1 => and_congr_right fun e2 => ?_
  have hat : ∀ i, Used N l5 l6 i → (iLook (atAll o0 o1 o2) (i : Int)).getD 0 = truthO o0 o1 o2 i := by
    intro i hi
    rw [atAll_is]
    unfold Used at hi
    unfold truthO
    rcases hi with rfl | hi | hi | hi
    · rw [putRow_miss (fun j hj => by omega), putRow_miss (fun j hj => by omega), putRow_miss (fun j hj => by omega)]
      rfl
    · rw [putRow_miss (fun j hj => by omega), putRow_miss (fun j hj => by omega)]
      have h := putRow_hit (c := 1) (f := fun j => rd o0 j) (es := [(0, 0)]) (k := o0.length) (j := i - 1) (by omega)
      rw [show (1 : Int) + ((i - 1 : Nat) : Int) = (i : Int) by omega] at h
      rw [h, if_neg (by omega), if_pos (by omega)]
      rfl
    · rw [putRow_miss (fun j hj => by omega)]
      have h := putRow_hit (c := 9) (f := fun j => wrap64 (-(rd o1 j))) (es := putRow 1 (fun j => rd o0 j) [(0, 0)] o0.length) (k := o1.length) (j := i - 9) (by omega)
      rw [show (9 : Int) + ((i - 9 : Nat) : Int) = (i : Int) by omega] at h
      rw [h, if_neg (by omega), if_neg (by omega), if_pos (by omega)]
      rfl
    · have h := putRow_hit (c := 13) (f := fun j => rd o2 j) (es := putRow 9 (fun j => wrap64 (-(rd o1 j))) (putRow 1 (fun j => rd o0 j) [(0, 0)] o0.length) o1.length) (k := o2.length) (j := i - 13) (by omega)
      rw [show (13 : Int) + ((i - 13 : Nat) : Int) = (i : Int) by omega] at h
      rw [h, if_neg (by omega), if_neg (by omega), if_neg (by omega)]
      rfl
  have hkn := all_known (bookC_ok hB []) (fun s => (iLook (atAll o0 o1 o2) s).getD 0) (truthO o0 o1 o2) hat
  rw [← openedM_is] at hkn
  unfold truthOk
  rw [Bool.and_eq_true, List.all_eq_true, List.all_eq_true]
  constructor
  · rintro ⟨_, h⟩
    refine (sat_is hB [] _).1 (hkn.1 fun x hx => ?_)
    have h9 := of_decide_eq_true (h x hx)
    unfold holdsC
    exact h9
  · intro h
    refine ⟨fun x hx => ?_, fun x hx => by have h9 := (hkn.2 ((sat_is hB [] _).2 h)) x hx; unfold holdsC at h9; exact decide_eq_true h9⟩
    have hn := sat_near hB [] h
    have h0 : truthO o0 o1 o2 0 = 0 := rfl
    rw [atAll_is] at hx
    have near : ∀ i, Used N l5 l6 i → -1099511627776 ≤ truthO o0 o1 o2 i ∧ truthO o0 o1 o2 i ≤ 1099511627776 := fun i hi => by
      have := hn i hi
      omega
    refine decide_eq_true ?_
    rcases mem_putRow hx with hx | ⟨j, hj, rfl⟩
    · rcases mem_putRow hx with hx | ⟨j, hj, rfl⟩
      · rcases mem_putRow hx with hx | ⟨j, hj, rfl⟩
        · have : x = (0, 0) := by simpa using hx
          subst this
          exact ⟨by decide, by decide⟩
        · have h1 := near (1 + j) (by unfold Used; omega)
          unfold truthO at h1
          rw [if_neg (by omega), if_pos (by omega), show 1 + j - 1 = j by omega] at h1
          exact h1
      · have h1 := near (9 + j) (by unfold Used; omega)
        unfold truthO at h1
        rw [if_neg (by omega), if_neg (by omega), if_pos (by omega), show 9 + j - 9 = j by omega] at h1
        exact h1
    · have h1 := near (13 + j) (by unfold Used; omega)
      unfold truthO at h1
      rw [if_neg (by omega), if_neg (by omega), if_neg (by omega), show 13 + j - 13 = j by omega] at h1
      exact h1
end
/-- What Case sets, of a book. -/
def Bk.caseR (b : Bk) (most : Bool) (n : Nat) : List Int × List Int × List Int := caseF most b.N.toNat b.l5.length b.l6.length n (openedM b.N b.b0 b.b1 b.r0 b.r1 b.l5 b.l6 b.l7 [])
theorem case_is {b : Bk} (hb : b.ok) (hc : b.can [] = true) (most : Bool) (n : Nat) (hn : (n : Int) < b.N) : ∃ o, b.sat [] o ∧ o 0 = 0 ∧ (∀ j, j < b.N.toNat → o (1 + j) = rd (b.caseR most n).1 j) ∧ (∀ j, j < b.l5.length → o (9 + j) = -(rd (b.caseR most n).2.1 j)) ∧ (∀ j, j < b.l6.length → o (13 + j) = rd (b.caseR most n).2.2 j) ∧
    (b.caseR most n).1.length = b.N.toNat ∧ (b.caseR most n).2.1.length = b.l5.length ∧ (b.caseR most n).2.2.length = b.l6.length ∧ rd (b.caseR most n).1 n = endT most (b.told []) (1 + n) := by
  have hN := BookOk.n hb
  obtain ⟨q5, q6, q7⟩ := BookOk.len hb
  have hrd := book_ready hb [] hc
  have hU : ∀ i ∈ (1 + n) :: ((List.range b.N.toNat).map (fun j => 1 + j) ++ ((List.range b.l5.length).map (fun j => 9 + j) ++ (List.range b.l6.length).map (fun j => 13 + j))), Used b.N b.l5 b.l6 i ∧ i ≠ 0 := by
    intro i hi
    simp only [List.mem_cons, List.mem_append, List.mem_map, List.mem_range] at hi
    unfold Used
    rcases hi with rfl | ⟨j, hj, rfl⟩ | ⟨j, hj, rfl⟩ | ⟨j, hj, rfl⟩ <;> omega
  obtain ⟨o, h1, h2, h3⟩ := sets_sat most _ _ hrd hU
  have hes : addC [] (bookC b.N b.b0 b.b1 b.r0 b.r1 b.l5 b.l6 b.l7 []) = openedM b.N b.b0 b.b1 b.r0 b.r1 b.l5 b.l6 b.l7 [] := (openedM_is _ _ _ _ _ _ _ _ _).symm
  rw [hes] at h3
  obtain ⟨e0, he0⟩ : ∃ e0, e0 = openedM b.N b.b0 b.b1 b.r0 b.r1 b.l5 b.l6 b.l7 [] := ⟨_, rfl⟩
  have hval : (setsF most ((1 + n) :: ((List.range b.N.toNat).map (fun j => 1 + j) ++ ((List.range b.l5.length).map (fun j => 9 + j) ++ (List.range b.l6.length).map (fun j => 13 + j)))) e0).2 = endT most (passF (tab0 e0)) (1 + n) :: ((setRow most 1 b.N.toNat (case0 most n e0)).2 ++ ((setRow most 9 b.l5.length (setRow most 1 b.N.toNat (case0 most n e0)).1).2 ++ (setRow most 13 b.l6.length (setRow most 9 b.l5.length (setRow most 1 b.N.toNat (case0 most n e0)).1).1).2)) := by
    simp only [setsF]
    rw [setsF_append, setsF_append]
    rfl
  have hR : b.caseR most n = ((setRow most 1 b.N.toNat (case0 most n e0)).2, (setRow most 9 b.l5.length (setRow most 1 b.N.toNat (case0 most n e0)).1).2.map fun x => -x, (setRow most 13 b.l6.length (setRow most 9 b.l5.length (setRow most 1 b.N.toNat (case0 most n e0)).1).1).2) := by rw [he0]; rfl
  rw [← he0, hval] at h3
  have l1 := setRow_length most 1 b.N.toNat (case0 most n e0)
  have l2 := setRow_length most 9 b.l5.length (setRow most 1 b.N.toNat (case0 most n e0)).1
  have l3 := setRow_length most 13 b.l6.length (setRow most 9 b.l5.length (setRow most 1 b.N.toNat (case0 most n e0)).1).1
  rw [hR]
  have htold : b.told [] = passF (tab0 e0) := by rw [he0]; rfl
  rw [htold]
  clear hR hval hes hrd hU he0 htold
  generalize (setRow most 13 b.l6.length (setRow most 9 b.l5.length (setRow most 1 b.N.toNat (case0 most n e0)).1).1).2 = V3 at *
  generalize (setRow most 9 b.l5.length (setRow most 1 b.N.toNat (case0 most n e0)).1).2 = V2 at *
  generalize (setRow most 1 b.N.toNat (case0 most n e0)).2 = V1 at *
  generalize endT most (passF (tab0 e0)) (1 + n) = y at *
  have hlen : ((1 + n) :: ((List.range b.N.toNat).map (fun j => 1 + j) ++ ((List.range b.l5.length).map (fun j => 9 + j) ++ (List.range b.l6.length).map (fun j => 13 + j)))).length = 1 + (b.N.toNat + (b.l5.length + b.l6.length)) := by
    simp
    omega
  have get : ∀ k i : Nat, ∀ x : Int, ((1 + n) :: ((List.range b.N.toNat).map (fun j => 1 + j) ++ ((List.range b.l5.length).map (fun j => 9 + j) ++ (List.range b.l6.length).map (fun j => 13 + j))))[k]? = some i → (y :: (V1 ++ (V2 ++ V3))).getD k 0 = x → o i = x := by
    intro k i x hk hx
    obtain ⟨hlt, e⟩ := List.getElem?_eq_some_iff.1 hk
    have := h3 k hlt
    rw [e, hx] at this
    exact this
  have g1 : ∀ j, j < b.N.toNat → o (1 + j) = rd V1 j := by
    intro j hj
    refine get (j + 1) _ _ ?_ ?_
    · rw [List.getElem?_cons_succ, List.getElem?_append_left (by simpa using hj)]
      simp [hj]
    · rw [List.getD_cons_succ, List.getD_eq_getElem?_getD, List.getElem?_append_left (by omega)]
      simp [rd, List.getD_eq_getElem?_getD]
  have g2 : ∀ j, j < b.l5.length → o (9 + j) = rd V2 j := by
    intro j hj
    refine get (b.N.toNat + j + 1) _ _ ?_ ?_
    · rw [List.getElem?_cons_succ, List.getElem?_append_right (by simp), List.getElem?_append_left (by simpa using hj)]
      simp [hj]
    · rw [List.getD_cons_succ, List.getD_eq_getElem?_getD, List.getElem?_append_right (by omega), List.getElem?_append_left (by omega)]
      simp [rd, List.getD_eq_getElem?_getD, l1]
  have g3 : ∀ j, j < b.l6.length → o (13 + j) = rd V3 j := by
    intro j hj
    refine get (b.N.toNat + (b.l5.length + j) + 1) _ _ ?_ ?_
    · rw [List.getElem?_cons_succ, List.getElem?_append_right (by simp), List.getElem?_append_right (by simp)]
      simp [hj]
    · rw [List.getD_cons_succ, List.getD_eq_getElem?_getD, List.getElem?_append_right (by omega), List.getElem?_append_right (by omega)]
      have e : b.N.toNat + (b.l5.length + j) - V1.length - V2.length = j := by omega
      rw [e]
      simp [rd, List.getD_eq_getElem?_getD]
  refine ⟨o, (sat_is hb [] _).1 h1, h2, g1, fun j hj => ?_, g3, l1, by simpa using l2, l3, ?_⟩
  · rw [g2 j hj]
    have : rd (V2.map fun x => -x) (j : Int) = -(rd V2 (j : Int)) := by
      unfold rd
      rw [List.getD_eq_getElem?_getD, List.getD_eq_getElem?_getD, List.getElem?_map]
      cases V2[(j : Int).toNat]? <;> simp
    rw [this]
    omega
  · rw [← g1 n (by omega)]
    exact get 0 _ _ rfl rfl
end Go.Proofs.YtohbeninpmmmpaaDoor
end

section
/- What the chapter's example tells: plain. Written by wip/tools/mkEX03.py. -/
set_option linter.unusedVariables false
set_option linter.unusedSimpArgs false
namespace Go.Proofs.YtohbeninpmmmpaaDoor
open TrydX.X
/-- The chapter's book; with what the look 3 read, and perhaps a look more. -/
def exL (r : Int) (c : Bool) : List S63 := [⟨0, 0, 0, 40, 5⟩, ⟨0, 0, 1, 60, 10⟩, ⟨1, 1, 0, 20, 5⟩, ⟨2, 0, 0, r, 5⟩] ++ (if c = true then [⟨0, 0, 1, 60, 30⟩] else [])
abbrev exP : List S23 := [⟨-50, 50⟩, ⟨-20, 20⟩]
abbrev exH : List S23 := [⟨30, 60⟩]
def exB (r : Int) (c : Bool) : Bk := ⟨3, 0, 100, -10, 20, exP, exH, exL r c⟩
def satX (r : Int) (c : Bool) (wo : List Int) (o : Nat → Int) : Prop := (0 ≤ o 1 - o 0 ∧ o 1 - o 0 ≤ 100) ∧ (-10 ≤ o 2 - o 1 ∧ o 2 - o 1 ≤ 20) ∧ (-10 ≤ o 3 - o 2 ∧ o 3 - o 2 ≤ 20) ∧ ((0 : Int) ∉ wo → 35 ≤ o 1 - o 9 ∧ o 1 - o 9 ≤ 45) ∧ ((1 : Int) ∉ wo → 50 ≤ o 1 - o 10 ∧ o 1 - o 10 ≤ 70) ∧ ((2 : Int) ∉ wo → 15 ≤ o 2 - o 13 ∧ o 2 - o 13 ≤ 25) ∧ ((3 : Int) ∉ wo → r - 5 ≤ o 3 - o 9 ∧ o 3 - o 9 ≤ r + 5) ∧ (c = true → (4 : Int) ∉ wo → 30 ≤ o 1 - o 10 ∧ o 1 - o 10 ≤ 90) ∧ (-50 ≤ o 9 - o 0 ∧ o 9 - o 0 ≤ 50) ∧ (-20 ≤ o 10 - o 0 ∧ o 10 - o 0 ≤ 20) ∧ (30 ≤ o 13 - o 0 ∧ o 13 - o 0 ≤ 60)
theorem sat_ex {r : Int} {c : Bool} {wo : List Int} {o : Nat → Int} : (exB r c).sat wo o ↔ satX r c wo o := by
  unfold Bk.sat satX
  constructor
  · intro h
    refine ⟨h.start, h.rate 1 (by decide) (show (1 : Int) < 3 by decide), h.rate 2 (by decide) (show (2 : Int) < 3 by decide), fun hw => ?_, fun hw => ?_, fun hw => ?_, fun hw => ?_, fun hc hw => ?_, h.person 0 (show 0 < 2 by decide), h.person 1 (show 1 < 2 by decide), h.path 0 (show 0 < 1 by decide)⟩
    · exact h.look 0 (by simp [exB, exL]) hw
    · exact h.look 1 (by simp [exB, exL]) hw
    · exact h.look 2 (by simp [exB, exL]) hw
    · exact h.look 3 (by simp [exB, exL]) hw
    · subst hc
      exact h.look 4 (by simp [exB, exL]) hw
  · rintro ⟨h1, h2, h3, h4, h5, h6, h7, h8, h9, h10, h11⟩
    refine ⟨h1, fun n hn hN => ?_, fun j hj hw => ?_, fun i hi => ?_, fun i hi => ?_⟩
    · have hN' : (n : Int) < 3 := hN
      have : n = 1 ∨ n = 2 := by omega
      rcases this with rfl | rfl
      · exact h2
      · exact h3
    · cases c with
      | false =>
        have hj' : j < 4 := hj
        have : j = 0 ∨ j = 1 ∨ j = 2 ∨ j = 3 := by omega
        rcases this with rfl | rfl | rfl | rfl
        · exact h4 hw
        · exact h5 hw
        · exact h6 hw
        · exact h7 hw
      | true =>
        have hj' : j < 5 := hj
        have : j = 0 ∨ j = 1 ∨ j = 2 ∨ j = 3 ∨ j = 4 := by omega
        rcases this with rfl | rfl | rfl | rfl | rfl
        · exact h4 hw
        · exact h5 hw
        · exact h6 hw
        · exact h7 hw
        · exact h8 rfl hw
    · have hi' : i < 2 := hi
      have : i = 0 ∨ i = 1 := by omega
      rcases this with rfl | rfl
      · exact h9
      · exact h10
    · have hi' : i < 1 := hi
      have : i = 0 := by omega
      subst this
      exact h11
theorem exA_ok : (exB 70 false).ok := checkB_iff.1 (by rfl)
theorem exD_ok : (exB 200 false).ok := checkB_iff.1 (by rfl)
theorem exC_ok : (exB 70 true).ok := checkB_iff.1 (by rfl)
theorem ex_used {r : Int} {c : Bool} {i : Nat} (h : i = 0 ∨ i = 1 ∨ i = 2 ∨ i = 3 ∨ i = 9 ∨ i = 10 ∨ i = 13) : (exB r c).used i := by
  have e : ((exB r c).N : Int) = 3 := rfl
  have e5 : (exB r c).l5.length = 2 := rfl
  have e6 : (exB r c).l6.length = 1 := rfl
  show Used _ _ _ _
  unfold Used
  rw [e, e5, e6]
  omega
def oMax : Nat → Int := (fun i => match i with | 0 => 0 | 1 => 85 | 2 => 85 | 3 => 105 | 9 => 40 | 10 => 20 | 13 => 60 | _ => 0)
def oMin : Nat → Int := (fun i => match i with | 0 => 0 | 1 => 30 | 2 => 45 | 3 => 50 | 9 => -15 | 10 => -20 | 13 => 30 | _ => 0)
def oR1 : Nat → Int := (fun i => match i with | 0 => -30 | 1 => 0 | 2 => 20 | 3 => 40 | 9 => -35 | 10 => -50 | 13 => 5 | _ => 0)
def oR3 : Nat → Int := (fun i => match i with | 0 => -50 | 1 => -20 | 2 => 0 | 3 => 0 | 9 => -65 | 10 => -70 | 13 => -15 | _ => 0)
theorem oMax_sat : satX 70 false [] oMax := by unfold satX oMax; decide
theorem oMin_sat : satX 70 false [] oMin := by unfold satX oMin; decide
theorem oR1_sat : satX 70 false [] oR1 := by unfold satX oR1; decide
theorem oR3_sat : satX 70 false [] oR3 := by unfold satX oR3; decide
theorem exA_1_0 : (exB 70 false).told [] 1 0 = 85 := Bk.told_eq exA_ok (ex_used (by decide)) (ex_used (by decide)) oMax (sat_ex.2 oMax_sat) (by unfold oMax; decide) (fun o h => by
    have h := sat_ex.1 h
    unfold satX at h
    simp at h
    omega)
theorem exA_0_1 : (exB 70 false).told [] 0 1 = -30 := Bk.told_eq exA_ok (ex_used (by decide)) (ex_used (by decide)) oMin (sat_ex.2 oMin_sat) (by unfold oMin; decide) (fun o h => by
    have h := sat_ex.1 h
    unfold satX at h
    simp at h
    omega)
theorem exA_2_0 : (exB 70 false).told [] 2 0 = 85 := Bk.told_eq exA_ok (ex_used (by decide)) (ex_used (by decide)) oMax (sat_ex.2 oMax_sat) (by unfold oMax; decide) (fun o h => by
    have h := sat_ex.1 h
    unfold satX at h
    simp at h
    omega)
theorem exA_0_2 : (exB 70 false).told [] 0 2 = -45 := Bk.told_eq exA_ok (ex_used (by decide)) (ex_used (by decide)) oMin (sat_ex.2 oMin_sat) (by unfold oMin; decide) (fun o h => by
    have h := sat_ex.1 h
    unfold satX at h
    simp at h
    omega)
theorem exA_3_0 : (exB 70 false).told [] 3 0 = 105 := Bk.told_eq exA_ok (ex_used (by decide)) (ex_used (by decide)) oMax (sat_ex.2 oMax_sat) (by unfold oMax; decide) (fun o h => by
    have h := sat_ex.1 h
    unfold satX at h
    simp at h
    omega)
theorem exA_0_3 : (exB 70 false).told [] 0 3 = -50 := Bk.told_eq exA_ok (ex_used (by decide)) (ex_used (by decide)) oMin (sat_ex.2 oMin_sat) (by unfold oMin; decide) (fun o h => by
    have h := sat_ex.1 h
    unfold satX at h
    simp at h
    omega)
theorem exA_9_0 : (exB 70 false).told [] 9 0 = 40 := Bk.told_eq exA_ok (ex_used (by decide)) (ex_used (by decide)) oMax (sat_ex.2 oMax_sat) (by unfold oMax; decide) (fun o h => by
    have h := sat_ex.1 h
    unfold satX at h
    simp at h
    omega)
theorem exA_0_9 : (exB 70 false).told [] 0 9 = 15 := Bk.told_eq exA_ok (ex_used (by decide)) (ex_used (by decide)) oMin (sat_ex.2 oMin_sat) (by unfold oMin; decide) (fun o h => by
    have h := sat_ex.1 h
    unfold satX at h
    simp at h
    omega)
theorem exA_13_0 : (exB 70 false).told [] 13 0 = 60 := Bk.told_eq exA_ok (ex_used (by decide)) (ex_used (by decide)) oMax (sat_ex.2 oMax_sat) (by unfold oMax; decide) (fun o h => by
    have h := sat_ex.1 h
    unfold satX at h
    simp at h
    omega)
theorem exA_0_13 : (exB 70 false).told [] 0 13 = -30 := Bk.told_eq exA_ok (ex_used (by decide)) (ex_used (by decide)) oMin (sat_ex.2 oMin_sat) (by unfold oMin; decide) (fun o h => by
    have h := sat_ex.1 h
    unfold satX at h
    simp at h
    omega)
theorem exA_3_1 : (exB 70 false).told [] 3 1 = 40 := Bk.told_eq exA_ok (ex_used (by decide)) (ex_used (by decide)) oR1 (sat_ex.2 oR1_sat) (by unfold oR1; decide) (fun o h => by
    have h := sat_ex.1 h
    unfold satX at h
    simp at h
    omega)
theorem exA_1_3 : (exB 70 false).told [] 1 3 = -20 := Bk.told_eq exA_ok (ex_used (by decide)) (ex_used (by decide)) oR3 (sat_ex.2 oR3_sat) (by unfold oR3; decide) (fun o h => by
    have h := sat_ex.1 h
    unfold satX at h
    simp at h
    omega)
theorem exA_can : (exB 70 false).can [] = true := Bk.can_of exA_ok (sat_ex.2 oMax_sat)
theorem exD_not : (exB 200 false).can [] = false := by
  rw [← Bool.not_eq_true, Bk.can_iff exD_ok]
  rintro ⟨o, h⟩
  have h := sat_ex.1 h
  unfold satX at h
  simp at h
  omega
theorem exD_not0 : (exB 200 false).can [0] = false := by
  rw [← Bool.not_eq_true, Bk.can_iff exD_ok]
  rintro ⟨o, h⟩
  have h := sat_ex.1 h
  unfold satX at h
  simp at h
  omega
theorem exD_not1 : (exB 200 false).can [1] = false := by
  rw [← Bool.not_eq_true, Bk.can_iff exD_ok]
  rintro ⟨o, h⟩
  have h := sat_ex.1 h
  unfold satX at h
  simp at h
  omega
theorem exD_not2 : (exB 200 false).can [2] = false := by
  rw [← Bool.not_eq_true, Bk.can_iff exD_ok]
  rintro ⟨o, h⟩
  have h := sat_ex.1 h
  unfold satX at h
  simp at h
  omega
def oD3 : Nat → Int := (fun i => match i with | 0 => 0 | 1 => 90 | 2 => 85 | 3 => 105 | 9 => 50 | 10 => 20 | 13 => 60 | _ => 0)
theorem exD_can : (exB 200 false).can [3] = true := Bk.can_of exD_ok ((sat_ex (o := oD3)).2 (by unfold satX oD3; decide))
theorem wrong_ex {f : List Int → Bool} (h : f [] = false) (h0 : f [0] = false) (h1 : f [1] = false) (h2 : f [2] = false) (h3 : f [3] = true) : wrongF 4 f = some [3] := by
  simp [wrongF, firstOf, chooseF, h, h0, h1, h2, h3]
theorem exD_wrong : wrongF 4 ((exB 200 false).can) = some [3] := wrong_ex exD_not exD_not0 exD_not1 exD_not2 exD_can
theorem same_ex {T S : Tb} : sameT T S 3 2 1 = true ↔ (T 1 0 = S 1 0 ∧ T 0 1 = S 0 1) ∧ (T 2 0 = S 2 0 ∧ T 0 2 = S 0 2) ∧ (T 3 0 = S 3 0 ∧ T 0 3 = S 0 3) ∧ (T 9 0 = S 9 0 ∧ T 0 9 = S 0 9) ∧ (T 10 0 = S 10 0 ∧ T 0 10 = S 0 10) ∧ (T 13 0 = S 13 0 ∧ T 0 13 = S 0 13) := by
  have e : ∀ T : Tb, spansF T 3 2 1 = [spanT T 1, spanT T 2, spanT T 3, spanT T 9, spanT T 10, spanT T 13] := fun _ => rfl
  rw [sameT_iff, e, e]
  unfold spanT
  simp only [List.cons.injEq, S23.mk.injEq, and_true]
  omega
theorem idle_ex {p : Nat → Bool} (h0 : p 0 = false) (h1 : p 1 = false) (h2 : p 2 = false) (h3 : p 3 = false) (h4 : p 4 = true) : idleTo p 5 = [4] := by
  simp [idleTo, List.range, List.range.loop, List.filter, h0, h1, h2, h3, h4]
theorem oMax_satC : satX 70 true [] oMax := by unfold satX oMax; decide
theorem oMin_satC : satX 70 true [] oMin := by unfold satX oMin; decide
theorem exC_1_0 : (exB 70 true).told [] 1 0 = 85 := Bk.told_eq exC_ok (ex_used (by decide)) (ex_used (by decide)) oMax (sat_ex.2 oMax_satC) (by unfold oMax; decide) (fun o h => by
    have h := sat_ex.1 h
    unfold satX at h
    simp at h
    omega)
theorem exC_0_1 : (exB 70 true).told [] 0 1 = -30 := Bk.told_eq exC_ok (ex_used (by decide)) (ex_used (by decide)) oMin (sat_ex.2 oMin_satC) (by unfold oMin; decide) (fun o h => by
    have h := sat_ex.1 h
    unfold satX at h
    simp at h
    omega)
theorem exC_2_0 : (exB 70 true).told [] 2 0 = 85 := Bk.told_eq exC_ok (ex_used (by decide)) (ex_used (by decide)) oMax (sat_ex.2 oMax_satC) (by unfold oMax; decide) (fun o h => by
    have h := sat_ex.1 h
    unfold satX at h
    simp at h
    omega)
theorem exC_0_2 : (exB 70 true).told [] 0 2 = -45 := Bk.told_eq exC_ok (ex_used (by decide)) (ex_used (by decide)) oMin (sat_ex.2 oMin_satC) (by unfold oMin; decide) (fun o h => by
    have h := sat_ex.1 h
    unfold satX at h
    simp at h
    omega)
theorem exC_3_0 : (exB 70 true).told [] 3 0 = 105 := Bk.told_eq exC_ok (ex_used (by decide)) (ex_used (by decide)) oMax (sat_ex.2 oMax_satC) (by unfold oMax; decide) (fun o h => by
    have h := sat_ex.1 h
    unfold satX at h
    simp at h
    omega)
theorem exC_0_3 : (exB 70 true).told [] 0 3 = -50 := Bk.told_eq exC_ok (ex_used (by decide)) (ex_used (by decide)) oMin (sat_ex.2 oMin_satC) (by unfold oMin; decide) (fun o h => by
    have h := sat_ex.1 h
    unfold satX at h
    simp at h
    omega)
theorem exC_9_0 : (exB 70 true).told [] 9 0 = 40 := Bk.told_eq exC_ok (ex_used (by decide)) (ex_used (by decide)) oMax (sat_ex.2 oMax_satC) (by unfold oMax; decide) (fun o h => by
    have h := sat_ex.1 h
    unfold satX at h
    simp at h
    omega)
theorem exC_0_9 : (exB 70 true).told [] 0 9 = 15 := Bk.told_eq exC_ok (ex_used (by decide)) (ex_used (by decide)) oMin (sat_ex.2 oMin_satC) (by unfold oMin; decide) (fun o h => by
    have h := sat_ex.1 h
    unfold satX at h
    simp at h
    omega)
theorem exC_10_0 : (exB 70 true).told [] 10 0 = 20 := Bk.told_eq exC_ok (ex_used (by decide)) (ex_used (by decide)) oMax (sat_ex.2 oMax_satC) (by unfold oMax; decide) (fun o h => by
    have h := sat_ex.1 h
    unfold satX at h
    simp at h
    omega)
theorem exC_0_10 : (exB 70 true).told [] 0 10 = 20 := Bk.told_eq exC_ok (ex_used (by decide)) (ex_used (by decide)) oMin (sat_ex.2 oMin_satC) (by unfold oMin; decide) (fun o h => by
    have h := sat_ex.1 h
    unfold satX at h
    simp at h
    omega)
theorem exC_13_0 : (exB 70 true).told [] 13 0 = 60 := Bk.told_eq exC_ok (ex_used (by decide)) (ex_used (by decide)) oMax (sat_ex.2 oMax_satC) (by unfold oMax; decide) (fun o h => by
    have h := sat_ex.1 h
    unfold satX at h
    simp at h
    omega)
theorem exC_0_13 : (exB 70 true).told [] 0 13 = -30 := Bk.told_eq exC_ok (ex_used (by decide)) (ex_used (by decide)) oMin (sat_ex.2 oMin_satC) (by unfold oMin; decide) (fun o h => by
    have h := sat_ex.1 h
    unfold satX at h
    simp at h
    omega)
theorem oMax_satC4 : satX 70 true [4] oMax := by unfold satX oMax; decide
theorem oMin_satC4 : satX 70 true [4] oMin := by unfold satX oMin; decide
theorem exC4_1_0 : (exB 70 true).told [4] 1 0 = 85 := Bk.told_eq exC_ok (ex_used (by decide)) (ex_used (by decide)) oMax (sat_ex.2 oMax_satC4) (by unfold oMax; decide) (fun o h => by
    have h := sat_ex.1 h
    unfold satX at h
    simp at h
    omega)
theorem exC4_0_1 : (exB 70 true).told [4] 0 1 = -30 := Bk.told_eq exC_ok (ex_used (by decide)) (ex_used (by decide)) oMin (sat_ex.2 oMin_satC4) (by unfold oMin; decide) (fun o h => by
    have h := sat_ex.1 h
    unfold satX at h
    simp at h
    omega)
theorem exC4_2_0 : (exB 70 true).told [4] 2 0 = 85 := Bk.told_eq exC_ok (ex_used (by decide)) (ex_used (by decide)) oMax (sat_ex.2 oMax_satC4) (by unfold oMax; decide) (fun o h => by
    have h := sat_ex.1 h
    unfold satX at h
    simp at h
    omega)
theorem exC4_0_2 : (exB 70 true).told [4] 0 2 = -45 := Bk.told_eq exC_ok (ex_used (by decide)) (ex_used (by decide)) oMin (sat_ex.2 oMin_satC4) (by unfold oMin; decide) (fun o h => by
    have h := sat_ex.1 h
    unfold satX at h
    simp at h
    omega)
theorem exC4_3_0 : (exB 70 true).told [4] 3 0 = 105 := Bk.told_eq exC_ok (ex_used (by decide)) (ex_used (by decide)) oMax (sat_ex.2 oMax_satC4) (by unfold oMax; decide) (fun o h => by
    have h := sat_ex.1 h
    unfold satX at h
    simp at h
    omega)
theorem exC4_0_3 : (exB 70 true).told [4] 0 3 = -50 := Bk.told_eq exC_ok (ex_used (by decide)) (ex_used (by decide)) oMin (sat_ex.2 oMin_satC4) (by unfold oMin; decide) (fun o h => by
    have h := sat_ex.1 h
    unfold satX at h
    simp at h
    omega)
theorem exC4_9_0 : (exB 70 true).told [4] 9 0 = 40 := Bk.told_eq exC_ok (ex_used (by decide)) (ex_used (by decide)) oMax (sat_ex.2 oMax_satC4) (by unfold oMax; decide) (fun o h => by
    have h := sat_ex.1 h
    unfold satX at h
    simp at h
    omega)
theorem exC4_0_9 : (exB 70 true).told [4] 0 9 = 15 := Bk.told_eq exC_ok (ex_used (by decide)) (ex_used (by decide)) oMin (sat_ex.2 oMin_satC4) (by unfold oMin; decide) (fun o h => by
    have h := sat_ex.1 h
    unfold satX at h
    simp at h
    omega)
theorem exC4_10_0 : (exB 70 true).told [4] 10 0 = 20 := Bk.told_eq exC_ok (ex_used (by decide)) (ex_used (by decide)) oMax (sat_ex.2 oMax_satC4) (by unfold oMax; decide) (fun o h => by
    have h := sat_ex.1 h
    unfold satX at h
    simp at h
    omega)
theorem exC4_0_10 : (exB 70 true).told [4] 0 10 = 20 := Bk.told_eq exC_ok (ex_used (by decide)) (ex_used (by decide)) oMin (sat_ex.2 oMin_satC4) (by unfold oMin; decide) (fun o h => by
    have h := sat_ex.1 h
    unfold satX at h
    simp at h
    omega)
theorem exC4_13_0 : (exB 70 true).told [4] 13 0 = 60 := Bk.told_eq exC_ok (ex_used (by decide)) (ex_used (by decide)) oMax (sat_ex.2 oMax_satC4) (by unfold oMax; decide) (fun o h => by
    have h := sat_ex.1 h
    unfold satX at h
    simp at h
    omega)
theorem exC4_0_13 : (exB 70 true).told [4] 0 13 = -30 := Bk.told_eq exC_ok (ex_used (by decide)) (ex_used (by decide)) oMin (sat_ex.2 oMin_satC4) (by unfold oMin; decide) (fun o h => by
    have h := sat_ex.1 h
    unfold satX at h
    simp at h
    omega)
theorem exC_can : (exB 70 true).can [] = true := Bk.can_of exC_ok (sat_ex.2 oMax_satC)
def oC0 : Nat → Int := (fun i => match i with | 0 => 0 | 1 => 90 | 2 => 85 | 3 => 105 | 9 => 40 | 10 => 20 | 13 => 60 | _ => 0)
theorem exC0_more : (exB 70 true).told [0] 1 0 ≠ 85 := by
  have h := Bk.so_told exC_ok (wo := [0]) (o := oC0) ((sat_ex (o := oC0)).2 (by unfold satX oC0; decide)) (ex_used (i := 1) (by decide)) (ex_used (i := 0) (by decide))
  have e : oC0 1 - oC0 0 = 90 := by unfold oC0; decide
  omega
theorem exC0_not : sameT ((exB 70 true).told [0]) ((exB 70 true).told []) 3 2 1 = false := by
  rw [← Bool.not_eq_true, same_ex]
  have h3 := exC_1_0
  have h4 := exC0_more
  omega
def oC1 : Nat → Int := (fun i => match i with | 0 => 0 | 1 => 25 | 2 => 45 | 3 => 45 | 9 => -20 | 10 => -20 | 13 => 30 | _ => 0)
theorem exC1_more : (exB 70 true).told [1] 0 1 ≠ -30 := by
  have h := Bk.so_told exC_ok (wo := [1]) (o := oC1) ((sat_ex (o := oC1)).2 (by unfold satX oC1; decide)) (ex_used (i := 0) (by decide)) (ex_used (i := 1) (by decide))
  have e : oC1 0 - oC1 1 = -25 := by unfold oC1; decide
  omega
theorem exC1_not : sameT ((exB 70 true).told [1]) ((exB 70 true).told []) 3 2 1 = false := by
  rw [← Bool.not_eq_true, same_ex]
  have h3 := exC_0_1
  have h4 := exC1_more
  omega
def oC2 : Nat → Int := (fun i => match i with | 0 => 0 | 1 => 90 | 2 => 110 | 3 => 125 | 9 => 50 | 10 => 20 | 13 => 60 | _ => 0)
theorem exC2_more : (exB 70 true).told [2] 1 0 ≠ 85 := by
  have h := Bk.so_told exC_ok (wo := [2]) (o := oC2) ((sat_ex (o := oC2)).2 (by unfold satX oC2; decide)) (ex_used (i := 1) (by decide)) (ex_used (i := 0) (by decide))
  have e : oC2 1 - oC2 0 = 90 := by unfold oC2; decide
  omega
theorem exC2_not : sameT ((exB 70 true).told [2]) ((exB 70 true).told []) 3 2 1 = false := by
  rw [← Bool.not_eq_true, same_ex]
  have h3 := exC_1_0
  have h4 := exC2_more
  omega
def oC3 : Nat → Int := (fun i => match i with | 0 => 0 | 1 => 90 | 2 => 85 | 3 => 105 | 9 => 50 | 10 => 20 | 13 => 60 | _ => 0)
theorem exC3_more : (exB 70 true).told [3] 1 0 ≠ 85 := by
  have h := Bk.so_told exC_ok (wo := [3]) (o := oC3) ((sat_ex (o := oC3)).2 (by unfold satX oC3; decide)) (ex_used (i := 1) (by decide)) (ex_used (i := 0) (by decide))
  have e : oC3 1 - oC3 0 = 90 := by unfold oC3; decide
  omega
theorem exC3_not : sameT ((exB 70 true).told [3]) ((exB 70 true).told []) 3 2 1 = false := by
  rw [← Bool.not_eq_true, same_ex]
  have h3 := exC_1_0
  have h4 := exC3_more
  omega
theorem exC4_same : sameT ((exB 70 true).told [4]) ((exB 70 true).told []) 3 2 1 = true := by
  rw [same_ex, exC_1_0, exC_0_1, exC_2_0, exC_0_2, exC_3_0, exC_0_3, exC_9_0, exC_0_9, exC_10_0, exC_0_10, exC_13_0, exC_0_13, exC4_1_0, exC4_0_1, exC4_2_0, exC4_0_2, exC4_3_0, exC4_0_3, exC4_9_0, exC4_0_9, exC4_10_0, exC4_0_10, exC4_13_0, exC4_0_13]
  decide
theorem exC_idle : idleTo (fun j => sameT ((exB 70 true).told [(j : Int)]) ((exB 70 true).told []) 3 2 1) 5 = [4] := idle_ex exC0_not exC1_not exC2_not exC3_not exC4_same
theorem askE_yes {N b0 b1 r0 r1 : Int} {l5 l6 : List S23} {l7 : List S63} {ok : Bool} (h1 : checkB N b0 b1 r0 r1 l5 l6 l7 = true) (h2 : ok = true) (h3 : canB N b0 b1 r0 r1 l5 l6 l7 [] = true) : askE N b0 b1 r0 r1 l5 l6 l7 ok = 0 := by
  unfold askE
  rw [if_pos h1, if_pos h2, if_pos h3]
theorem exE (ok : Bool) (h : ok = true) : askE 3 0 100 (-10) 20 exP exH (exL 70 false) ok = 0 := askE_yes (checkB_iff.2 exA_ok) h exA_can
theorem ex_Offset : star_Offset.f 3 0 100 (-10) 20 exP exH (exL 70 false) 2 = some (50, 105, 0) := by
  have h1 : told 3 0 100 (-10) 20 exP exH (exL 70 false) [] 0 3 = -50 := exA_0_3
  have h2 : told 3 0 100 (-10) 20 exP exH (exL 70 false) [] 3 0 = 105 := exA_3_0
  unfold star_Offset.f
  rw [if_pos (by decide), exE _ (by decide +kernel), if_pos rfl, if_pos rfl]
  show some (-(told 3 0 100 (-10) 20 exP exH (exL 70 false) [] 0 3), told 3 0 100 (-10) 20 exP exH (exL 70 false) [] 3 0, (0 : Int)) = _
  rw [h1, h2]
  first | done | rfl
theorem ex_Person : star_Person.f 3 0 100 (-10) 20 exP exH (exL 70 false) 0 = some (-40, 15, 0) := by
  have h1 : told 3 0 100 (-10) 20 exP exH (exL 70 false) [] 9 0 = 40 := exA_9_0
  have h2 : told 3 0 100 (-10) 20 exP exH (exL 70 false) [] 0 9 = 15 := exA_0_9
  unfold star_Person.f
  rw [if_pos (by decide), exE _ (by decide +kernel), if_pos rfl, if_pos rfl]
  show some (-(told 3 0 100 (-10) 20 exP exH (exL 70 false) [] 9 0), told 3 0 100 (-10) 20 exP exH (exL 70 false) [] 0 9, (0 : Int)) = _
  rw [h1, h2]
  first | done | rfl
theorem ex_Path : star_Path.f 3 0 100 (-10) 20 exP exH (exL 70 false) 0 = some (30, 60, 0) := by
  have h1 : told 3 0 100 (-10) 20 exP exH (exL 70 false) [] 0 13 = -30 := exA_0_13
  have h2 : told 3 0 100 (-10) 20 exP exH (exL 70 false) [] 13 0 = 60 := exA_13_0
  unfold star_Path.f
  rw [if_pos (by decide), exE _ (by decide +kernel), if_pos rfl, if_pos rfl]
  show some (-(told 3 0 100 (-10) 20 exP exH (exL 70 false) [] 0 13), told 3 0 100 (-10) 20 exP exH (exL 70 false) [] 13 0, (0 : Int)) = _
  rw [h1, h2]
  first | done | rfl
theorem ex_Between : star_Between.f 3 0 100 (-10) 20 exP exH (exL 70 false) 2 0 = some (-40, -20, 0) := by
  have h1 : told 3 0 100 (-10) 20 exP exH (exL 70 false) [] 3 1 = 40 := exA_3_1
  have h2 : told 3 0 100 (-10) 20 exP exH (exL 70 false) [] 1 3 = -20 := exA_1_3
  unfold star_Between.f
  rw [if_pos (by decide), exE _ (by decide +kernel), if_pos rfl, if_pos rfl]
  show some (-(told 3 0 100 (-10) 20 exP exH (exL 70 false) [] 3 1), told 3 0 100 (-10) 20 exP exH (exL 70 false) [] 1 3, (0 : Int)) = _
  rw [h1, h2]
  first | done | rfl
theorem worst_ex {T : Tb} (h1 : T 1 0 = 85) (h2 : T 0 1 = -30) (h3 : T 2 0 = 85) (h4 : T 0 2 = -45) (h5 : T 3 0 = 105) (h6 : T 0 3 = -50) : worstF T 3 0 = ((0, 55), 0) := by
  simp [worstF, worstTo, h1, h2, h3, h4, h5, h6]
theorem ex_Worst : star_Worst.f 3 0 100 (-10) 20 exP exH (exL 70 false) = some (0, 55, 0) := by
  have h : worstF (told 3 0 100 (-10) 20 exP exH (exL 70 false) []) 3 0 = ((0, 55), 0) := worst_ex exA_1_0 exA_0_1 exA_2_0 exA_0_2 exA_3_0 exA_0_3
  unfold star_Worst.f
  rw [if_pos (by decide), exE _ rfl]
  rw [show (3 : Int).toNat = 3 from rfl, h]
theorem ex_Wrong : star_Wrong.f 3 0 100 (-10) 20 exP exH (exL 200 false) = some ([3], 0) := by
  have hw : wrongF 4 (canB 3 0 100 (-10) 20 exP exH (exL 200 false)) = some [3] := exD_wrong
  have hc : checkB 3 0 100 (-10) 20 exP exH (exL 200 false) = true := checkB_iff.2 exD_ok
  unfold star_Wrong.f
  rw [if_pos (by decide), if_pos hc, if_pos hc]
  show some ((wrongF 4 (canB 3 0 100 (-10) 20 exP exH (exL 200 false))).getD [], (0 : Int)) = _
  rw [hw]
  rfl
theorem ex_Idle : star_Idle.f 3 0 100 (-10) 20 exP exH (exL 70 true) = some ([4], 0) := by
  have hE : askE 3 0 100 (-10) 20 exP exH (exL 70 true) true = 0 := askE_yes (checkB_iff.2 exC_ok) rfl exC_can
  have h : idleF 3 0 100 (-10) 20 exP exH (exL 70 true) = [4] := exC_idle
  unfold star_Idle.f
  rw [if_pos (by decide), hE, if_pos rfl, h]
theorem ex_Check : star_Check.f 3 0 100 (-10) 20 exP exH (exL 70 false) = some 0 := by
  have hc : checkB 3 0 100 (-10) 20 exP exH (exL 70 false) = true := checkB_iff.2 exA_ok
  unfold star_Check.f
  rw [if_pos (by decide), if_pos hc]
theorem ex_IsTruth : star_IsTruth.f 3 0 100 (-10) 20 exP exH (exL 70 false) [50, 60, 75] [-5, 10] [40] = some (true, 0) := by
  have h : isTruthF 3 0 100 (-10) 20 exP exH (exL 70 false) [50, 60, 75] [-5, 10] [40] = true := (isTruth_iff exA_ok).2 ⟨rfl, rfl, rfl, sat_ex.2 (by unfold satX; decide +kernel)⟩
  have hc : checkB 3 0 100 (-10) 20 exP exH (exL 70 false) = true := checkB_iff.2 exA_ok
  unfold star_IsTruth.f
  rw [if_pos (by decide), h, if_pos hc, hc]
  rfl
theorem endT_true (T : Tb) (i : Nat) : endT true T i = T i 0 := rfl
theorem ex_Case : ∃ a b c d, star_Case.f 3 0 100 (-10) 20 exP exH (exL 70 false) 0 true = some ([85, a, b], c, d, 0) := by
  obtain ⟨_, _, _, _, _, _, h1, _, _, h2⟩ := case_is (b := exB 70 false) exA_ok exA_can true 0 (by decide)
  have h3 : endT true ((exB 70 false).told []) 1 = 85 := (endT_true _ _).trans exA_1_0
  rw [Nat.add_zero, h3] at h2
  have h4 : star_Case.f 3 0 100 (-10) 20 exP exH (exL 70 false) 0 true = some (((exB 70 false).caseR true 0).1, ((exB 70 false).caseR true 0).2.1, ((exB 70 false).caseR true 0).2.2, 0) := by
    unfold star_Case.f
    rw [if_pos (by decide), exE _ (by decide +kernel), if_pos rfl]
    rfl
  rw [h4]
  generalize (exB 70 false).caseR true 0 = R at h1 h2
  obtain ⟨R1, R2, R3⟩ := R
  have h1' : R1.length = 3 := h1
  match R1, h1' with
  | [x, a, b], _ =>
    have hx : x = 85 := h2
    subst hx
    exact ⟨a, b, R2, R3, rfl⟩
end Go.Proofs.YtohbeninpmmmpaaDoor
end

section
-- Written by wip/tools/pr.py (a program of this repo over the kit's print.py).
namespace Go.Proofs.TrydX.X
open Go.RowKit Go.Proofs.YtohbeninpmmmpaaDoorW.PrintWords Go.Proofs.YtohbeninpmmmpaaDoorW.PrintLast Go.Proofs.YtohbeninpmmmpaaDoorW.PrintMore
attribute [local go_sem] max2_int min2_int max_two min_two max_three min_three max_four min_four   -- for this text's walks alone
set_option linter.unusedVariables false
set_option linter.unusedSimpArgs false

/-! ### remontoirref00_To: function 43 -/
def remontoirref00_To.f (a0 : Int) (a1 : Int) : Option (Int × Int) := some (a0, a1)
set_option maxHeartbeats 8000000 in
set_option maxRecDepth 100000 in
theorem remontoirref00_To.calls (a0 : Int) (a1 : Int) (r1 : Int) (r2 : Int) (w : World) (h : remontoirref00_To.f a0 a1 = some (r1, r2)) :
  Calls Tryd.prog 43 #[.int .i64 a0, .int .i64 a1] w fun e w' => e = .returned (.agg #[.int .i64 r1, .int .i64 r2]) ∧ Below w.heap.size w w' := by
 have hu23 := Tryd.underlying23
 have HB := Aside0.mk (Below.refl w.heap.size w)
 have H : (some (a0, a1)) = some (r1, r2) := h
 clear h
 simp only [Option.some.injEq, Prod.mk.injEq] at H
 obtain ⟨rfl, rfl⟩ := H
 go_enter Tryd.func43, Tryd.ntmps43
 go_wp2_with (first | ((with_reducible refine gate_dst (N := 4) rfl ?_); refine box_event ?hg (N := 4) ?hd (cs := #[.int .i64 0, .int .i64 0]) (t := 23) ?hr ?_; (case hd => rfl); (case hg => rfl); (case hr => first | (go_simp; done) | (go_simp; rfl)); intro gb150 hg w3 hbox hb; have BK150 := Aside0.mk (hbox); have GW150 := geB hg (bl HB); have GE150 := geB hg (bl HB); replace HB := Aside0.mk (below_step (bl HB) hb); clear hb hbox hg; have hcz4_0 : w3.cell? ⟨gb150, 0, none⟩ = some (.int .i64 0) := bc BK150 0; have hcz4_1 : w3.cell? ⟨gb150, 1, none⟩ = some (.int .i64 0) := bc BK150 1; have hfz4_0 := blk_frozen BK150.out 0; have hfz4_1 := blk_frozen BK150.out 1))
 refine bodyPost_ret (results_cell_row rfl _ _ gb150 23 #[.int .i64 a0, .int .i64 a1] (0, 0) _ rfl (by (with_reducible repeat (first | refine blk_drewN ?_ _ | refine blk_drew ?_ | refine blk_alloc ?_ _)); refine blk_put (cs := #[.int .i64 a0, .int .i64 0]) ?_ 1 _ rfl; (with_reducible repeat (first | refine blk_drewN ?_ _ | refine blk_drew ?_ | refine blk_alloc ?_ _)); refine blk_put (cs := #[.int .i64 0, .int .i64 0]) ?_ 0 _ rfl; (with_reducible repeat (first | refine blk_drewN ?_ _ | refine blk_drew ?_ | refine blk_alloc ?_ _)); exact BK150.out) Tryd.underlying23 rfl (by kernel_rfl)) rfl ?_
 exact ⟨by first | rfl | (simp [errW_none, errW_some] <;> rfl) | (simp [*, errW_none, errW_some] <;> rfl), by repeat (first | (with_reducible first | exact HB.out | apply below_alloc | apply pw_below_drewN | apply below_drew1 | refine below_set ?_ GE150.out) | exact HB.out)⟩

end Go.Proofs.TrydX.X
end

section
-- Written by wip/tools/pr.py (a program of this repo over the kit's print.py).
namespace Go.Proofs.TrydX.X
open Go.RowKit Go.Proofs.YtohbeninpmmmpaaDoorW.PrintWords Go.Proofs.YtohbeninpmmmpaaDoorW.PrintLast Go.Proofs.YtohbeninpmmmpaaDoorW.PrintMore
attribute [local go_sem] max2_int min2_int max_two min_two max_three min_three max_four min_four   -- for this text's walks alone
set_option linter.unusedVariables false
set_option linter.unusedSimpArgs false

/-! ### remontoirref00_Alike: function 33 -/
def remontoirref00_Alike.f (k : Nat) (l0 : List Int) (l1 : List Int) : Option (Bool) := if (l0.length : Int) = (l1.length : Int) then ((remontoirref00_First.f k l0 l1).bind fun t245 => (some (t245 == (l0.length : Int)))) else (some false)
set_option maxHeartbeats 8000000 in
set_option maxRecDepth 100000 in
theorem remontoirref00_Alike.calls (k : Nat) (A0 : Option Addr) (c0 : Nat) (l0 : List Int) (A1 : Option Addr) (c1 : Nat) (l1 : List Int) (r : Bool) (w : World) (hr0 : Kd.C (Kd.int .i64) w A0 l0.length l0) (hc0 : l0.length ≤ c0) (hr1 : Kd.C (Kd.int .i64) w A1 l1.length l1) (hc1 : l1.length ≤ c1) (h : remontoirref00_Alike.f k l0 l1 = some r) :
  Calls Tryd.prog 33 #[.slice A0 l0.length c0, .slice A1 l1.length c1] w fun e w' => e = .returned (.bool r) ∧ Drawn0 w w' := by
 have HR0 := Aside0.mk hr0
 have HC0 := Aside0.mk hc0
 clear hr0 hc0
 have HR1 := Aside0.mk hr1
 have HC1 := Aside0.mk hc1
 clear hr1 hc1
 have H : (if (l0.length : Int) = (l1.length : Int) then ((remontoirref00_First.f k l0 l1).bind fun t245 => (some (t245 == (l0.length : Int)))) else (some false)) = some r := h
 clear h
 by_cases c3 : (l0.length : Int) = (l1.length : Int)
 ·
  rw [if_pos c3] at H
  have c3b0 : ((l0.length : Int) == (l1.length : Int)) = true := beq_iff_eq.mpr c3
  have c3b1 : ((l0.length : Int) != (l1.length : Int)) = false := bne_eq_false_iff_eq.mpr c3
  have c3b2 : (l0.length == l1.length) = true := by first | simpa using c3 | (simp at c3 ⊢; omega)
  clear c3
  replace H := Option.bind_eq_some_iff.mp H
  obtain ⟨t245, A40, H⟩ := H
  replace H : (some (t245 == (l0.length : Int))) = some r := H
  have A4 := Aside0.mk A40
  clear A40
  obtain rfl := Option.some.inj H
  go_enter Tryd.func33, Tryd.ntmps33
  go_wp2_with (first | (go_at_call 80; (with_reducible refine (remontoirref00_First.calls k _ _ l0 _ _ l1 t245 _ ?side1 ?side2 ?side3 ?side4 A4.out).mono ?_); (case side1 => repeat (first | exact HR0.out | (with_reducible refine Kd.C_alloc ?_ _) | (with_reducible refine Kd.C_drewN ?_ _) | (with_reducible refine Kd.C_drew ?_))); (case side2 => exact HC0.out); (case side3 => repeat (first | exact HR1.out | (with_reducible refine Kd.C_alloc ?_ _) | (with_reducible refine Kd.C_drewN ?_ _) | (with_reducible refine Kd.C_drew ?_))); (case side4 => exact HC1.out); rintro e w' ⟨rfl, ⟨nd, rfl⟩⟩))
  go_ret
  exact ⟨by first | rfl | (simp; done) | (simp [*]; done), by repeat (first | exact Drawn0.refl _ | apply Drawn0.step)⟩
 ·
  rw [if_neg c3] at H
  have c3b0 : ((l0.length : Int) == (l1.length : Int)) = false := beq_eq_false_iff_ne.mpr c3
  have c3b1 : ((l0.length : Int) != (l1.length : Int)) = true := bne_iff_ne.mpr c3
  have c3b2 : (l0.length == l1.length) = false := by first | simpa using c3 | (simp at c3 ⊢; omega)
  obtain rfl := Option.some.inj H
  go_enter Tryd.func33, Tryd.ntmps33
  go_wp2
  go_ret
  exact ⟨by first | rfl | (simp; done) | (simp [*]; done), by repeat (first | exact Drawn0.refl _ | apply Drawn0.step)⟩

end Go.Proofs.TrydX.X
end

section
-- Written by wip/tools/pr.py (a program of this repo over the kit's print.py).
namespace Go.Proofs.TrydX.X
open Go.RowKit Go.Proofs.YtohbeninpmmmpaaDoorW.PrintWords Go.Proofs.YtohbeninpmmmpaaDoorW.PrintLast Go.Proofs.YtohbeninpmmmpaaDoorW.PrintMore
attribute [local go_sem] max2_int min2_int max_two min_two max_three min_three max_four min_four   -- for this text's walks alone
set_option linter.unusedVariables false
set_option linter.unusedSimpArgs false

/-! ### remontoirlaw03_look: function 53 -/
def remontoirlaw03_look.f (a0 : Int) (a1 : Int) (a2 : Int) (a3 : Int) (a4 : Int) : Option (Int × Int × Int × Int × Int) := some (a0, a1, a2, a3, a4)
set_option maxHeartbeats 8000000 in
set_option maxRecDepth 100000 in
theorem remontoirlaw03_look.calls (a0 : Int) (a1 : Int) (a2 : Int) (a3 : Int) (a4 : Int) (r1 : Int) (r2 : Int) (r3 : Int) (r4 : Int) (r5 : Int) (w : World) (h : remontoirlaw03_look.f a0 a1 a2 a3 a4 = some (r1, r2, r3, r4, r5)) :
  Calls Tryd.prog 53 #[.int .i64 a0, .int .i64 a1, .int .i64 a2, .int .i64 a3, .int .i64 a4] w fun e w' => e = .returned (.agg #[.int .i64 r1, .int .i64 r2, .int .i64 r3, .int .i64 r4, .int .i64 r5]) ∧ Below w.heap.size w w' := by
 have hu63 := Tryd.underlying63
 have HB := Aside0.mk (Below.refl w.heap.size w)
 have H : (some (a0, a1, a2, a3, a4)) = some (r1, r2, r3, r4, r5) := h
 clear h
 simp only [Option.some.injEq, Prod.mk.injEq] at H
 obtain ⟨rfl, rfl, rfl, rfl, rfl⟩ := H
 go_enter Tryd.func53, Tryd.ntmps53
 go_wp2_with (first | ((with_reducible refine gate_dst (N := 10) rfl ?_); refine box_event ?hg (N := 10) ?hd (cs := #[.int .i64 0, .int .i64 0, .int .i64 0, .int .i64 0, .int .i64 0]) (t := 63) ?hr ?_; (case hd => rfl); (case hg => rfl); (case hr => first | (go_simp; done) | (go_simp; rfl)); intro gb840 hg w6 hbox hb; have BK840 := Aside0.mk (hbox); have GW840 := geB hg (bl HB); have GE840 := geB hg (bl HB); replace HB := Aside0.mk (below_step (bl HB) hb); clear hb hbox hg; have hcz7_0 : w6.cell? ⟨gb840, 0, none⟩ = some (.int .i64 0) := bc BK840 0; have hcz7_1 : w6.cell? ⟨gb840, 1, none⟩ = some (.int .i64 0) := bc BK840 1; have hcz7_2 : w6.cell? ⟨gb840, 2, none⟩ = some (.int .i64 0) := bc BK840 2; have hcz7_3 : w6.cell? ⟨gb840, 3, none⟩ = some (.int .i64 0) := bc BK840 3; have hcz7_4 : w6.cell? ⟨gb840, 4, none⟩ = some (.int .i64 0) := bc BK840 4; have hfz7_0 := blk_frozen BK840.out 0; have hfz7_1 := blk_frozen BK840.out 1; have hfz7_2 := blk_frozen BK840.out 2; have hfz7_3 := blk_frozen BK840.out 3; have hfz7_4 := blk_frozen BK840.out 4))
 refine bodyPost_ret (results_cell_row rfl _ _ gb840 63 #[.int .i64 a0, .int .i64 a1, .int .i64 a2, .int .i64 a3, .int .i64 a4] (0, 0) _ rfl (by (with_reducible repeat (first | refine blk_drewN ?_ _ | refine blk_drew ?_ | refine blk_alloc ?_ _)); refine blk_put (cs := #[.int .i64 a0, .int .i64 a1, .int .i64 a2, .int .i64 a3, .int .i64 0]) ?_ 4 _ rfl; (with_reducible repeat (first | refine blk_drewN ?_ _ | refine blk_drew ?_ | refine blk_alloc ?_ _)); refine blk_put (cs := #[.int .i64 a0, .int .i64 a1, .int .i64 a2, .int .i64 0, .int .i64 0]) ?_ 3 _ rfl; (with_reducible repeat (first | refine blk_drewN ?_ _ | refine blk_drew ?_ | refine blk_alloc ?_ _)); refine blk_put (cs := #[.int .i64 a0, .int .i64 a1, .int .i64 0, .int .i64 0, .int .i64 0]) ?_ 2 _ rfl; (with_reducible repeat (first | refine blk_drewN ?_ _ | refine blk_drew ?_ | refine blk_alloc ?_ _)); refine blk_put (cs := #[.int .i64 a0, .int .i64 0, .int .i64 0, .int .i64 0, .int .i64 0]) ?_ 1 _ rfl; (with_reducible repeat (first | refine blk_drewN ?_ _ | refine blk_drew ?_ | refine blk_alloc ?_ _)); refine blk_put (cs := #[.int .i64 0, .int .i64 0, .int .i64 0, .int .i64 0, .int .i64 0]) ?_ 0 _ rfl; (with_reducible repeat (first | refine blk_drewN ?_ _ | refine blk_drew ?_ | refine blk_alloc ?_ _)); exact BK840.out) Tryd.underlying63 rfl (by kernel_rfl)) rfl ?_
 exact ⟨by first | rfl | (simp [errW_none, errW_some] <;> rfl) | (simp [*, errW_none, errW_some] <;> rfl), by repeat (first | (with_reducible first | exact HB.out | apply below_alloc | apply pw_below_drewN | apply below_drew1 | refine below_set ?_ GE840.out) | exact HB.out)⟩

end Go.Proofs.TrydX.X
end

section
-- Written by wip/tools/pr.py (a program of this repo over the kit's print.py).
namespace Go.Proofs.TrydX.X
open Go.RowKit Go.Proofs.YtohbeninpmmmpaaDoorW.PrintWords Go.Proofs.YtohbeninpmmmpaaDoorW.PrintLast Go.Proofs.YtohbeninpmmmpaaDoorW.PrintMore
attribute [local go_sem] max2_int min2_int max_two min_two max_three min_three max_four min_four   -- for this text's walks alone
set_option linter.unusedVariables false
set_option linter.unusedSimpArgs false

/-! ### remontoirlaw03_book: function 52 -/
def remontoirlaw03_book.f (a0 : Int) (l1 : List (S63)) : Option (Int × Int × Int × Int × Int × (List (S23)) × (List (S23)) × (List (S63))) := (remontoirref00_To.f 0 100).bind fun bt842 => ((remontoirref00_To.f (-10) 20).bind fun bt844 => ((remontoirref00_To.f (-50) 50).bind fun bt846 => ((remontoirref00_To.f (-20) 20).bind fun bt848 => ((remontoirref00_To.f 30 60).bind fun bt853 => ((remontoirlaw03_look.f 0 0 0 40 5).bind fun bt858 => ((remontoirlaw03_look.f 0 0 1 60 10).bind fun bt863 => ((remontoirlaw03_look.f 1 1 0 20 5).bind fun bt868 => ((remontoirlaw03_look.f 2 0 0 a0 5).bind fun bt873 => ((some (([(⟨bt858.1, bt858.2.1, bt858.2.2.1, bt858.2.2.2.1, bt858.2.2.2.2⟩ : S63), (⟨bt863.1, bt863.2.1, bt863.2.2.1, bt863.2.2.2.1, bt863.2.2.2.2⟩ : S63), (⟨bt868.1, bt868.2.1, bt868.2.2.1, bt868.2.2.2.1, bt868.2.2.2.2⟩ : S63), (⟨bt873.1, bt873.2.1, bt873.2.2.1, bt873.2.2.2.1, bt873.2.2.2.2⟩ : S63)] : List (S63)) : List (S63))).bind fun y878 => (if y878.length + l1.length < 3518437208883 then (some (3, bt842.1, bt842.2, bt844.1, bt844.2, (([(⟨bt846.1, bt846.2⟩ : S23), (⟨bt848.1, bt848.2⟩ : S23)] : List (S23))), (([(⟨bt853.1, bt853.2⟩ : S23)] : List (S23))), (y878 ++ l1))) else (none)))))))))))
set_option maxHeartbeats 8000000 in
set_option maxRecDepth 100000 in
theorem remontoirlaw03_book.calls (a0 : Int) (A1 : Option Addr) (c1 : Nat) (l1 : List (S63)) (r1 : Int) (r2 : Int) (r3 : Int) (r4 : Int) (r5 : Int) (r6 : List (S23)) (r7 : List (S23)) (r8 : List (S63)) (w : World) (hr1 : Kd.C k63 w A1 l1.length l1) (hc1 : l1.length ≤ c1) (h : remontoirlaw03_book.f a0 l1 = some (r1, r2, r3, r4, r5, r6, r7, r8)) :
  Calls Tryd.prog 52 #[.int .i64 a0, .slice A1 l1.length c1] w fun e w' => ∃ v5_ v6_ v7_ : Value, e = .returned (.agg #[.int .i64 r1, .int .i64 r2, .int .i64 r3, .int .i64 r4, .int .i64 r5, v5_, v6_, v7_]) ∧ Kd.R k23 23 w' w.heap.size (fun k_ => some k_ ≠ (v6_ : Value).ownBlock) v5_ r6 ∧ Kd.R k23 23 w' w.heap.size (fun k_ => some k_ ≠ (v5_ : Value).ownBlock) v6_ r7 ∧ Kd.R k63 63 w' w.heap.size (fun _ => True) v7_ r8 ∧ Below w.heap.size w w' := by
 have hu27 := Tryd.underlying27
 have HR1 := Aside0.mk hr1
 have HC1 := Aside0.mk hc1
 clear hr1 hc1
 have HB := Aside0.mk (Below.refl w.heap.size w)
 have H : ((remontoirref00_To.f 0 100).bind fun bt842 => ((remontoirref00_To.f (-10) 20).bind fun bt844 => ((remontoirref00_To.f (-50) 50).bind fun bt846 => ((remontoirref00_To.f (-20) 20).bind fun bt848 => ((remontoirref00_To.f 30 60).bind fun bt853 => ((remontoirlaw03_look.f 0 0 0 40 5).bind fun bt858 => ((remontoirlaw03_look.f 0 0 1 60 10).bind fun bt863 => ((remontoirlaw03_look.f 1 1 0 20 5).bind fun bt868 => ((remontoirlaw03_look.f 2 0 0 a0 5).bind fun bt873 => ((some (([(⟨bt858.1, bt858.2.1, bt858.2.2.1, bt858.2.2.2.1, bt858.2.2.2.2⟩ : S63), (⟨bt863.1, bt863.2.1, bt863.2.2.1, bt863.2.2.2.1, bt863.2.2.2.2⟩ : S63), (⟨bt868.1, bt868.2.1, bt868.2.2.1, bt868.2.2.2.1, bt868.2.2.2.2⟩ : S63), (⟨bt873.1, bt873.2.1, bt873.2.2.1, bt873.2.2.2.1, bt873.2.2.2.2⟩ : S63)] : List (S63)) : List (S63))).bind fun y878 => (if y878.length + l1.length < 3518437208883 then (some (3, bt842.1, bt842.2, bt844.1, bt844.2, (([(⟨bt846.1, bt846.2⟩ : S23), (⟨bt848.1, bt848.2⟩ : S23)] : List (S23))), (([(⟨bt853.1, bt853.2⟩ : S23)] : List (S23))), (y878 ++ l1))) else (none)))))))))))) = some (r1, r2, r3, r4, r5, r6, r7, r8) := h
 clear h
 replace H := Option.bind_eq_some_iff.mp H
 obtain ⟨⟨t842, t843⟩, A30, H⟩ := H
 replace H : ((remontoirref00_To.f (-10) 20).bind fun bt844 => ((remontoirref00_To.f (-50) 50).bind fun bt846 => ((remontoirref00_To.f (-20) 20).bind fun bt848 => ((remontoirref00_To.f 30 60).bind fun bt853 => ((remontoirlaw03_look.f 0 0 0 40 5).bind fun bt858 => ((remontoirlaw03_look.f 0 0 1 60 10).bind fun bt863 => ((remontoirlaw03_look.f 1 1 0 20 5).bind fun bt868 => ((remontoirlaw03_look.f 2 0 0 a0 5).bind fun bt873 => ((some (([(⟨bt858.1, bt858.2.1, bt858.2.2.1, bt858.2.2.2.1, bt858.2.2.2.2⟩ : S63), (⟨bt863.1, bt863.2.1, bt863.2.2.1, bt863.2.2.2.1, bt863.2.2.2.2⟩ : S63), (⟨bt868.1, bt868.2.1, bt868.2.2.1, bt868.2.2.2.1, bt868.2.2.2.2⟩ : S63), (⟨bt873.1, bt873.2.1, bt873.2.2.1, bt873.2.2.2.1, bt873.2.2.2.2⟩ : S63)] : List (S63)) : List (S63))).bind fun y878 => (if y878.length + l1.length < 3518437208883 then (some (3, t842, t843, bt844.1, bt844.2, (([(⟨bt846.1, bt846.2⟩ : S23), (⟨bt848.1, bt848.2⟩ : S23)] : List (S23))), (([(⟨bt853.1, bt853.2⟩ : S23)] : List (S23))), (y878 ++ l1))) else (none))))))))))) = some (r1, r2, r3, r4, r5, r6, r7, r8) := H
 have A3 := Aside0.mk A30
 clear A30
 replace H := Option.bind_eq_some_iff.mp H
 obtain ⟨⟨t844, t845⟩, A40, H⟩ := H
 replace H : ((remontoirref00_To.f (-50) 50).bind fun bt846 => ((remontoirref00_To.f (-20) 20).bind fun bt848 => ((remontoirref00_To.f 30 60).bind fun bt853 => ((remontoirlaw03_look.f 0 0 0 40 5).bind fun bt858 => ((remontoirlaw03_look.f 0 0 1 60 10).bind fun bt863 => ((remontoirlaw03_look.f 1 1 0 20 5).bind fun bt868 => ((remontoirlaw03_look.f 2 0 0 a0 5).bind fun bt873 => ((some (([(⟨bt858.1, bt858.2.1, bt858.2.2.1, bt858.2.2.2.1, bt858.2.2.2.2⟩ : S63), (⟨bt863.1, bt863.2.1, bt863.2.2.1, bt863.2.2.2.1, bt863.2.2.2.2⟩ : S63), (⟨bt868.1, bt868.2.1, bt868.2.2.1, bt868.2.2.2.1, bt868.2.2.2.2⟩ : S63), (⟨bt873.1, bt873.2.1, bt873.2.2.1, bt873.2.2.2.1, bt873.2.2.2.2⟩ : S63)] : List (S63)) : List (S63))).bind fun y878 => (if y878.length + l1.length < 3518437208883 then (some (3, t842, t843, t844, t845, (([(⟨bt846.1, bt846.2⟩ : S23), (⟨bt848.1, bt848.2⟩ : S23)] : List (S23))), (([(⟨bt853.1, bt853.2⟩ : S23)] : List (S23))), (y878 ++ l1))) else (none)))))))))) = some (r1, r2, r3, r4, r5, r6, r7, r8) := H
 have A4 := Aside0.mk A40
 clear A40
 replace H := Option.bind_eq_some_iff.mp H
 obtain ⟨⟨t846, t847⟩, A50, H⟩ := H
 replace H : ((remontoirref00_To.f (-20) 20).bind fun bt848 => ((remontoirref00_To.f 30 60).bind fun bt853 => ((remontoirlaw03_look.f 0 0 0 40 5).bind fun bt858 => ((remontoirlaw03_look.f 0 0 1 60 10).bind fun bt863 => ((remontoirlaw03_look.f 1 1 0 20 5).bind fun bt868 => ((remontoirlaw03_look.f 2 0 0 a0 5).bind fun bt873 => ((some (([(⟨bt858.1, bt858.2.1, bt858.2.2.1, bt858.2.2.2.1, bt858.2.2.2.2⟩ : S63), (⟨bt863.1, bt863.2.1, bt863.2.2.1, bt863.2.2.2.1, bt863.2.2.2.2⟩ : S63), (⟨bt868.1, bt868.2.1, bt868.2.2.1, bt868.2.2.2.1, bt868.2.2.2.2⟩ : S63), (⟨bt873.1, bt873.2.1, bt873.2.2.1, bt873.2.2.2.1, bt873.2.2.2.2⟩ : S63)] : List (S63)) : List (S63))).bind fun y878 => (if y878.length + l1.length < 3518437208883 then (some (3, t842, t843, t844, t845, (([(⟨t846, t847⟩ : S23), (⟨bt848.1, bt848.2⟩ : S23)] : List (S23))), (([(⟨bt853.1, bt853.2⟩ : S23)] : List (S23))), (y878 ++ l1))) else (none))))))))) = some (r1, r2, r3, r4, r5, r6, r7, r8) := H
 have A5 := Aside0.mk A50
 clear A50
 replace H := Option.bind_eq_some_iff.mp H
 obtain ⟨⟨t848, t849⟩, A60, H⟩ := H
 replace H : ((remontoirref00_To.f 30 60).bind fun bt853 => ((remontoirlaw03_look.f 0 0 0 40 5).bind fun bt858 => ((remontoirlaw03_look.f 0 0 1 60 10).bind fun bt863 => ((remontoirlaw03_look.f 1 1 0 20 5).bind fun bt868 => ((remontoirlaw03_look.f 2 0 0 a0 5).bind fun bt873 => ((some (([(⟨bt858.1, bt858.2.1, bt858.2.2.1, bt858.2.2.2.1, bt858.2.2.2.2⟩ : S63), (⟨bt863.1, bt863.2.1, bt863.2.2.1, bt863.2.2.2.1, bt863.2.2.2.2⟩ : S63), (⟨bt868.1, bt868.2.1, bt868.2.2.1, bt868.2.2.2.1, bt868.2.2.2.2⟩ : S63), (⟨bt873.1, bt873.2.1, bt873.2.2.1, bt873.2.2.2.1, bt873.2.2.2.2⟩ : S63)] : List (S63)) : List (S63))).bind fun y878 => (if y878.length + l1.length < 3518437208883 then (some (3, t842, t843, t844, t845, (([(⟨t846, t847⟩ : S23), (⟨t848, t849⟩ : S23)] : List (S23))), (([(⟨bt853.1, bt853.2⟩ : S23)] : List (S23))), (y878 ++ l1))) else (none)))))))) = some (r1, r2, r3, r4, r5, r6, r7, r8) := H
 have A6 := Aside0.mk A60
 clear A60
 obtain ⟨y850, hy850⟩ : ∃ y_ : List (S23), y_ = (([(⟨t846, t847⟩ : S23), (⟨t848, t849⟩ : S23)] : List (S23))) := ⟨_, rfl⟩
 replace H : ((remontoirref00_To.f 30 60).bind fun bt853 => ((remontoirlaw03_look.f 0 0 0 40 5).bind fun bt858 => ((remontoirlaw03_look.f 0 0 1 60 10).bind fun bt863 => ((remontoirlaw03_look.f 1 1 0 20 5).bind fun bt868 => ((remontoirlaw03_look.f 2 0 0 a0 5).bind fun bt873 => ((some (([(⟨bt858.1, bt858.2.1, bt858.2.2.1, bt858.2.2.2.1, bt858.2.2.2.2⟩ : S63), (⟨bt863.1, bt863.2.1, bt863.2.2.1, bt863.2.2.2.1, bt863.2.2.2.2⟩ : S63), (⟨bt868.1, bt868.2.1, bt868.2.2.1, bt868.2.2.2.1, bt868.2.2.2.2⟩ : S63), (⟨bt873.1, bt873.2.1, bt873.2.2.1, bt873.2.2.2.1, bt873.2.2.2.2⟩ : S63)] : List (S63)) : List (S63))).bind fun y878 => (if y878.length + l1.length < 3518437208883 then (some (3, t842, t843, t844, t845, y850, (([(⟨bt853.1, bt853.2⟩ : S23)] : List (S23))), (y878 ++ l1))) else (none)))))))) = some (r1, r2, r3, r4, r5, r6, r7, r8) := by first | (rw [hy850]; with_reducible exact H) | (have H2_ := (Option.bind_some _ _).symm.trans H; rw [hy850]; with_reducible exact H2_) | (have H2_ := (Option.bind_some _ _).symm.trans H; with_reducible exact H2_) | with_reducible exact H | (rw [hy850]; exact H) | exact H
 have Ny850 := Aside0.mk hy850
 clear hy850
 replace H := Option.bind_eq_some_iff.mp H
 obtain ⟨⟨t853, t854⟩, A70, H⟩ := H
 replace H : ((remontoirlaw03_look.f 0 0 0 40 5).bind fun bt858 => ((remontoirlaw03_look.f 0 0 1 60 10).bind fun bt863 => ((remontoirlaw03_look.f 1 1 0 20 5).bind fun bt868 => ((remontoirlaw03_look.f 2 0 0 a0 5).bind fun bt873 => ((some (([(⟨bt858.1, bt858.2.1, bt858.2.2.1, bt858.2.2.2.1, bt858.2.2.2.2⟩ : S63), (⟨bt863.1, bt863.2.1, bt863.2.2.1, bt863.2.2.2.1, bt863.2.2.2.2⟩ : S63), (⟨bt868.1, bt868.2.1, bt868.2.2.1, bt868.2.2.2.1, bt868.2.2.2.2⟩ : S63), (⟨bt873.1, bt873.2.1, bt873.2.2.1, bt873.2.2.2.1, bt873.2.2.2.2⟩ : S63)] : List (S63)) : List (S63))).bind fun y878 => (if y878.length + l1.length < 3518437208883 then (some (3, t842, t843, t844, t845, y850, (([(⟨t853, t854⟩ : S23)] : List (S23))), (y878 ++ l1))) else (none))))))) = some (r1, r2, r3, r4, r5, r6, r7, r8) := H
 have A7 := Aside0.mk A70
 clear A70
 obtain ⟨y855, hy855⟩ : ∃ y_ : List (S23), y_ = (([(⟨t853, t854⟩ : S23)] : List (S23))) := ⟨_, rfl⟩
 replace H : ((remontoirlaw03_look.f 0 0 0 40 5).bind fun bt858 => ((remontoirlaw03_look.f 0 0 1 60 10).bind fun bt863 => ((remontoirlaw03_look.f 1 1 0 20 5).bind fun bt868 => ((remontoirlaw03_look.f 2 0 0 a0 5).bind fun bt873 => ((some (([(⟨bt858.1, bt858.2.1, bt858.2.2.1, bt858.2.2.2.1, bt858.2.2.2.2⟩ : S63), (⟨bt863.1, bt863.2.1, bt863.2.2.1, bt863.2.2.2.1, bt863.2.2.2.2⟩ : S63), (⟨bt868.1, bt868.2.1, bt868.2.2.1, bt868.2.2.2.1, bt868.2.2.2.2⟩ : S63), (⟨bt873.1, bt873.2.1, bt873.2.2.1, bt873.2.2.2.1, bt873.2.2.2.2⟩ : S63)] : List (S63)) : List (S63))).bind fun y878 => (if y878.length + l1.length < 3518437208883 then (some (3, t842, t843, t844, t845, y850, y855, (y878 ++ l1))) else (none))))))) = some (r1, r2, r3, r4, r5, r6, r7, r8) := by first | (rw [hy855]; with_reducible exact H) | (have H2_ := (Option.bind_some _ _).symm.trans H; rw [hy855]; with_reducible exact H2_) | (have H2_ := (Option.bind_some _ _).symm.trans H; with_reducible exact H2_) | with_reducible exact H | (rw [hy855]; exact H) | exact H
 have Ny855 := Aside0.mk hy855
 clear hy855
 replace H := Option.bind_eq_some_iff.mp H
 obtain ⟨⟨t858, t859, t860, t861, t862⟩, A80, H⟩ := H
 replace H : ((remontoirlaw03_look.f 0 0 1 60 10).bind fun bt863 => ((remontoirlaw03_look.f 1 1 0 20 5).bind fun bt868 => ((remontoirlaw03_look.f 2 0 0 a0 5).bind fun bt873 => ((some (([(⟨t858, t859, t860, t861, t862⟩ : S63), (⟨bt863.1, bt863.2.1, bt863.2.2.1, bt863.2.2.2.1, bt863.2.2.2.2⟩ : S63), (⟨bt868.1, bt868.2.1, bt868.2.2.1, bt868.2.2.2.1, bt868.2.2.2.2⟩ : S63), (⟨bt873.1, bt873.2.1, bt873.2.2.1, bt873.2.2.2.1, bt873.2.2.2.2⟩ : S63)] : List (S63)) : List (S63))).bind fun y878 => (if y878.length + l1.length < 3518437208883 then (some (3, t842, t843, t844, t845, y850, y855, (y878 ++ l1))) else (none)))))) = some (r1, r2, r3, r4, r5, r6, r7, r8) := H
 have A8 := Aside0.mk A80
 clear A80
 replace H := Option.bind_eq_some_iff.mp H
 obtain ⟨⟨t863, t864, t865, t866, t867⟩, A90, H⟩ := H
 replace H : ((remontoirlaw03_look.f 1 1 0 20 5).bind fun bt868 => ((remontoirlaw03_look.f 2 0 0 a0 5).bind fun bt873 => ((some (([(⟨t858, t859, t860, t861, t862⟩ : S63), (⟨t863, t864, t865, t866, t867⟩ : S63), (⟨bt868.1, bt868.2.1, bt868.2.2.1, bt868.2.2.2.1, bt868.2.2.2.2⟩ : S63), (⟨bt873.1, bt873.2.1, bt873.2.2.1, bt873.2.2.2.1, bt873.2.2.2.2⟩ : S63)] : List (S63)) : List (S63))).bind fun y878 => (if y878.length + l1.length < 3518437208883 then (some (3, t842, t843, t844, t845, y850, y855, (y878 ++ l1))) else (none))))) = some (r1, r2, r3, r4, r5, r6, r7, r8) := H
 have A9 := Aside0.mk A90
 clear A90
 replace H := Option.bind_eq_some_iff.mp H
 obtain ⟨⟨t868, t869, t870, t871, t872⟩, A100, H⟩ := H
 replace H : ((remontoirlaw03_look.f 2 0 0 a0 5).bind fun bt873 => ((some (([(⟨t858, t859, t860, t861, t862⟩ : S63), (⟨t863, t864, t865, t866, t867⟩ : S63), (⟨t868, t869, t870, t871, t872⟩ : S63), (⟨bt873.1, bt873.2.1, bt873.2.2.1, bt873.2.2.2.1, bt873.2.2.2.2⟩ : S63)] : List (S63)) : List (S63))).bind fun y878 => (if y878.length + l1.length < 3518437208883 then (some (3, t842, t843, t844, t845, y850, y855, (y878 ++ l1))) else (none)))) = some (r1, r2, r3, r4, r5, r6, r7, r8) := H
 have A10 := Aside0.mk A100
 clear A100
 replace H := Option.bind_eq_some_iff.mp H
 obtain ⟨⟨t873, t874, t875, t876, t877⟩, A110, H⟩ := H
 replace H : ((some (([(⟨t858, t859, t860, t861, t862⟩ : S63), (⟨t863, t864, t865, t866, t867⟩ : S63), (⟨t868, t869, t870, t871, t872⟩ : S63), (⟨t873, t874, t875, t876, t877⟩ : S63)] : List (S63)) : List (S63))).bind fun y878 => (if y878.length + l1.length < 3518437208883 then (some (3, t842, t843, t844, t845, y850, y855, (y878 ++ l1))) else (none))) = some (r1, r2, r3, r4, r5, r6, r7, r8) := H
 have A11 := Aside0.mk A110
 clear A110
 obtain ⟨y878, hy878⟩ : ∃ y_ : List (S63), y_ = (([(⟨t858, t859, t860, t861, t862⟩ : S63), (⟨t863, t864, t865, t866, t867⟩ : S63), (⟨t868, t869, t870, t871, t872⟩ : S63), (⟨t873, t874, t875, t876, t877⟩ : S63)] : List (S63))) := ⟨_, rfl⟩
 replace H : (if y878.length + l1.length < 3518437208883 then (some (3, t842, t843, t844, t845, y850, y855, (y878 ++ l1))) else (none)) = some (r1, r2, r3, r4, r5, r6, r7, r8) := by first | (rw [hy878]; with_reducible exact H) | (have H2_ := (Option.bind_some _ _).symm.trans H; rw [hy878]; with_reducible exact H2_) | (have H2_ := (Option.bind_some _ _).symm.trans H; with_reducible exact H2_) | with_reducible exact H | (rw [hy878]; exact H) | exact H
 have Ny878 := Aside0.mk hy878
 clear hy878
 by_cases c12 : y878.length + l1.length < 3518437208883
 ·
  rw [if_pos c12] at H
  have LMc12 := Aside0.mk c12
  clear c12
  obtain ⟨y882, hy882⟩ : ∃ y_ : List (S63), y_ = (y878 ++ l1) := ⟨_, rfl⟩
  replace H : (some (3, t842, t843, t844, t845, y850, y855, y882)) = some (r1, r2, r3, r4, r5, r6, r7, r8) := by first | (rw [hy882]; with_reducible exact H) | (have H2_ := (Option.bind_some _ _).symm.trans H; rw [hy882]; with_reducible exact H2_) | (have H2_ := (Option.bind_some _ _).symm.trans H; with_reducible exact H2_) | with_reducible exact H | (rw [hy882]; exact H) | exact H
  have Ny882 := Aside0.mk hy882
  clear hy882
  simp only [Option.some.injEq, Prod.mk.injEq] at H
  obtain ⟨rfl, rfl, rfl, rfl, rfl, rfl, rfl, rfl⟩ := H
  go_enter Tryd.func52, Tryd.ntmps52
  go_wp2_with (first | ((with_reducible refine gate_dst (N := 4) rfl ?_); refine box_event ?hg (N := 4) ?hd (cs := #[.int .i64 0, .int .i64 0, .int .i64 0, .int .i64 0, .int .i64 0, .slice none 0 0, .slice none 0 0, .slice none 0 0]) (t := 27) ?hr ?_; (case hd => rfl); (case hg => rfl); (case hr => first | (go_simp; done) | (go_simp; rfl)); intro gb841 hg w13 hbox hb; have BK841 := Aside0.mk (hbox); have GW841 := geB hg (bl HB); have GE841 := geB hg (bl HB); replace HB := Aside0.mk (below_step (bl HB) hb); clear hb hbox hg) | ((with_reducible refine gate_callee (f := 43) rfl ?_); refine goesL_ (some 6) rfl rfl Tryd.func43 (by kernel_rfl) rfl #[.int .i64 0, .int .i64 100] rfl (by (try simp only [List.map_toArray, List.map_cons, List.map_nil]); first | done | rfl | (simp only [List.length_drop, List.length_take]; rfl)) ?_; (with_reducible refine (remontoirref00_To.calls 0 100 t842 t843 _ A3.out).mono ?_); rintro e w14 ⟨rfl, hb⟩; refine ⟨_, rfl, ?_⟩; replace BK841 := Aside0.mk (blk_below (bk BK841) hb); replace HB := Aside0.mk (below_step (bl HB) hb); (try clear hb); (try clear hb2); (try clear hk); (try clear hi)) | ((with_reducible refine gate_callee (f := 43) rfl ?_); refine goesL_ (some 7) rfl rfl Tryd.func43 (by kernel_rfl) rfl #[.int .i64 (-10), .int .i64 20] rfl (by (try simp only [List.map_toArray, List.map_cons, List.map_nil]); first | done | rfl | (simp only [List.length_drop, List.length_take]; rfl)) ?_; (with_reducible refine (remontoirref00_To.calls (-10) 20 t844 t845 _ A4.out).mono ?_); rintro e w15 ⟨rfl, hb⟩; refine ⟨_, rfl, ?_⟩; replace BK841 := Aside0.mk (blk_below (bk BK841) hb); replace HB := Aside0.mk (below_step (bl HB) hb); (try clear hb); (try clear hb2); (try clear hk); (try clear hi)) | ((with_reducible refine gate_callee (f := 43) rfl ?_); refine goesL_ (some 8) rfl rfl Tryd.func43 (by kernel_rfl) rfl #[.int .i64 (-50), .int .i64 50] rfl (by (try simp only [List.map_toArray, List.map_cons, List.map_nil]); first | done | rfl | (simp only [List.length_drop, List.length_take]; rfl)) ?_; (with_reducible refine (remontoirref00_To.calls (-50) 50 t846 t847 _ A5.out).mono ?_); rintro e w16 ⟨rfl, hb⟩; refine ⟨_, rfl, ?_⟩; replace BK841 := Aside0.mk (blk_below (bk BK841) hb); replace HB := Aside0.mk (below_step (bl HB) hb); (try clear hb); (try clear hb2); (try clear hk); (try clear hi)) | ((with_reducible refine gate_callee (f := 43) rfl ?_); refine goesL_ (some 9) rfl rfl Tryd.func43 (by kernel_rfl) rfl #[.int .i64 (-20), .int .i64 20] rfl (by (try simp only [List.map_toArray, List.map_cons, List.map_nil]); first | done | rfl | (simp only [List.length_drop, List.length_take]; rfl)) ?_; (with_reducible refine (remontoirref00_To.calls (-20) 20 t848 t849 _ A6.out).mono ?_); rintro e w17 ⟨rfl, hb⟩; refine ⟨_, rfl, ?_⟩; replace BK841 := Aside0.mk (blk_below (bk BK841) hb); replace HB := Aside0.mk (below_step (bl HB) hb); (try clear hb); (try clear hb2); (try clear hk); (try clear hi)) | ((with_reducible refine gate_dst (N := 10) rfl ?_); refine Kd.R_lit k23 _ 23 ?hg (N := 10) ?hd (xs := ([(⟨t846, t847⟩ : S23), (⟨t848, t849⟩ : S23)] : List (S23))) (inner := [.int .i64 t846, .int .i64 t847, .int .i64 t848, .int .i64 t849]) (ok := fun _ => True) (okp := fun _ => True) ?hr ?hp (fun _ hk => hk) trivial (Below.refl _ _) (Nat.le_refl _) (by simp) ?_; (case hd => rfl); (case hg => rfl); (case hr => first | (go_simp; done) | (go_simp; rfl)); (case hp => exact (Reps.c2 (show Kd.M k23 _ _ _ (⟨t846, t847⟩ : S23) [.int .i64 t846, .int .i64 t847] from (k23_mkM _ _ _ (⟨t846, t847⟩ : S23) )) (Reps.c2 (show Kd.M k23 _ _ _ (⟨t848, t849⟩ : S23) [.int .i64 t848, .int .i64 t849] from (k23_mkM _ _ _ (⟨t848, t849⟩ : S23) )) (Reps.none _ _)))); intro v851 w18 ho19 hb hg_ hnew_; clear hg_ hnew_; (first | rw [← Ny850.out] at ho19 | (simp only [Int.reduceToNat] at ho19; rw [← Ny850.out] at ho19)); have HO852 := Aside0.mk (Kd.R_lower ho19 (below_size (bl HB))); replace BK841 := Aside0.mk (blk_below (bk BK841) hb); replace HB := Aside0.mk (below_step (bl HB) hb); clear hb ho19) | ((with_reducible refine gate_callee (f := 43) rfl ?_); refine goesL_ (some 11) rfl rfl Tryd.func43 (by kernel_rfl) rfl #[.int .i64 30, .int .i64 60] rfl (by (try simp only [List.map_toArray, List.map_cons, List.map_nil]); first | done | rfl | (simp only [List.length_drop, List.length_take]; rfl)) ?_; (with_reducible refine (remontoirref00_To.calls 30 60 t853 t854 _ A7.out).mono ?_); rintro e w20 ⟨rfl, hb⟩; refine ⟨_, rfl, ?_⟩; replace HO852 := Aside0.mk (Kd.R_below (rk HO852) hb); replace BK841 := Aside0.mk (blk_below (bk BK841) hb); replace HB := Aside0.mk (below_step (bl HB) hb); (try clear hb); (try clear hb2); (try clear hk); (try clear hi)) | ((with_reducible refine gate_dst (N := 12) rfl ?_); refine Kd.R_lit k23 _ 23 ?hg (N := 12) ?hd (xs := ([(⟨t853, t854⟩ : S23)] : List (S23))) (inner := [.int .i64 t853, .int .i64 t854]) (ok := fun _ => True) (okp := fun _ => True) ?hr ?hp (fun _ hk => hk) trivial (Below.refl _ _) (Nat.le_refl _) (by simp) ?_; (case hd => rfl); (case hg => rfl); (case hr => first | (go_simp; done) | (go_simp; rfl)); (case hp => exact (Reps.c2 (show Kd.M k23 _ _ _ (⟨t853, t854⟩ : S23) [.int .i64 t853, .int .i64 t854] from (k23_mkM _ _ _ (⟨t853, t854⟩ : S23) )) (Reps.none _ _))); intro v856 w21 ho22 hb hg_ hnew_; clear hg_ hnew_; (first | rw [← Ny855.out] at ho22 | (simp only [Int.reduceToNat] at ho22; rw [← Ny855.out] at ho22)); have HO857 := Aside0.mk (Kd.R_lower (Kd.R_new' ho22 (Kd.R_lt (rk HO852))) (below_size (bl HB))); replace HO852 := Aside0.mk (Kd.R_elder' (rk HO852) (Kd.R_base ho22) hb); replace BK841 := Aside0.mk (blk_below (bk BK841) hb); replace HB := Aside0.mk (below_step (bl HB) hb); clear hb ho22) | ((with_reducible refine gate_callee (f := 53) rfl ?_); refine goesL_ (some 13) rfl rfl Tryd.func53 (by kernel_rfl) rfl #[.int .i64 0, .int .i64 0, .int .i64 0, .int .i64 40, .int .i64 5] rfl (by (try simp only [List.map_toArray, List.map_cons, List.map_nil]); first | done | rfl | (simp only [List.length_drop, List.length_take]; rfl)) ?_; (with_reducible refine (remontoirlaw03_look.calls 0 0 0 40 5 t858 t859 t860 t861 t862 _ A8.out).mono ?_); rintro e w23 ⟨rfl, hb⟩; refine ⟨_, rfl, ?_⟩; replace HO852 := Aside0.mk (Kd.R_below (rk HO852) hb); replace HO857 := Aside0.mk (Kd.R_below (rk HO857) hb); replace BK841 := Aside0.mk (blk_below (bk BK841) hb); replace HB := Aside0.mk (below_step (bl HB) hb); (try clear hb); (try clear hb2); (try clear hk); (try clear hi)) | ((with_reducible refine gate_callee (f := 53) rfl ?_); refine goesL_ (some 14) rfl rfl Tryd.func53 (by kernel_rfl) rfl #[.int .i64 0, .int .i64 0, .int .i64 1, .int .i64 60, .int .i64 10] rfl (by (try simp only [List.map_toArray, List.map_cons, List.map_nil]); first | done | rfl | (simp only [List.length_drop, List.length_take]; rfl)) ?_; (with_reducible refine (remontoirlaw03_look.calls 0 0 1 60 10 t863 t864 t865 t866 t867 _ A9.out).mono ?_); rintro e w24 ⟨rfl, hb⟩; refine ⟨_, rfl, ?_⟩; replace HO852 := Aside0.mk (Kd.R_below (rk HO852) hb); replace HO857 := Aside0.mk (Kd.R_below (rk HO857) hb); replace BK841 := Aside0.mk (blk_below (bk BK841) hb); replace HB := Aside0.mk (below_step (bl HB) hb); (try clear hb); (try clear hb2); (try clear hk); (try clear hi)) | ((with_reducible refine gate_callee (f := 53) rfl ?_); refine goesL_ (some 15) rfl rfl Tryd.func53 (by kernel_rfl) rfl #[.int .i64 1, .int .i64 1, .int .i64 0, .int .i64 20, .int .i64 5] rfl (by (try simp only [List.map_toArray, List.map_cons, List.map_nil]); first | done | rfl | (simp only [List.length_drop, List.length_take]; rfl)) ?_; (with_reducible refine (remontoirlaw03_look.calls 1 1 0 20 5 t868 t869 t870 t871 t872 _ A10.out).mono ?_); rintro e w25 ⟨rfl, hb⟩; refine ⟨_, rfl, ?_⟩; replace HO852 := Aside0.mk (Kd.R_below (rk HO852) hb); replace HO857 := Aside0.mk (Kd.R_below (rk HO857) hb); replace BK841 := Aside0.mk (blk_below (bk BK841) hb); replace HB := Aside0.mk (below_step (bl HB) hb); (try clear hb); (try clear hb2); (try clear hk); (try clear hi)) | ((with_reducible refine gate_callee (f := 53) rfl ?_); refine goesL_ (some 17) rfl rfl Tryd.func53 (by kernel_rfl) rfl #[.int .i64 2, .int .i64 0, .int .i64 0, .int .i64 a0, .int .i64 5] rfl (by (try simp only [List.map_toArray, List.map_cons, List.map_nil]); first | done | rfl | (simp only [List.length_drop, List.length_take]; rfl)) ?_; (with_reducible refine (remontoirlaw03_look.calls 2 0 0 a0 5 t873 t874 t875 t876 t877 _ A11.out).mono ?_); rintro e w26 ⟨rfl, hb⟩; refine ⟨_, rfl, ?_⟩; replace HO852 := Aside0.mk (Kd.R_below (rk HO852) hb); replace HO857 := Aside0.mk (Kd.R_below (rk HO857) hb); replace BK841 := Aside0.mk (blk_below (bk BK841) hb); replace HB := Aside0.mk (below_step (bl HB) hb); (try clear hb); (try clear hb2); (try clear hk); (try clear hi)) | ((with_reducible refine gate_dst (N := 18) rfl ?_); refine Kd.R_lit k63 _ 63 ?hg (N := 18) ?hd (xs := ([(⟨t858, t859, t860, t861, t862⟩ : S63), (⟨t863, t864, t865, t866, t867⟩ : S63), (⟨t868, t869, t870, t871, t872⟩ : S63), (⟨t873, t874, t875, t876, t877⟩ : S63)] : List (S63))) (inner := [.int .i64 t858, .int .i64 t859, .int .i64 t860, .int .i64 t861, .int .i64 t862, .int .i64 t863, .int .i64 t864, .int .i64 t865, .int .i64 t866, .int .i64 t867, .int .i64 t868, .int .i64 t869, .int .i64 t870, .int .i64 t871, .int .i64 t872, .int .i64 t873, .int .i64 t874, .int .i64 t875, .int .i64 t876, .int .i64 t877]) (ok := fun _ => True) (okp := fun _ => True) ?hr ?hp (fun _ hk => hk) trivial (Below.refl _ _) (Nat.le_refl _) (by simp) ?_; (case hd => rfl); (case hg => rfl); (case hr => first | (go_simp; done) | (go_simp; rfl)); (case hp => exact (Reps.c5 (show Kd.M k63 _ _ _ (⟨t858, t859, t860, t861, t862⟩ : S63) [.int .i64 t858, .int .i64 t859, .int .i64 t860, .int .i64 t861, .int .i64 t862] from (k63_mkM _ _ _ (⟨t858, t859, t860, t861, t862⟩ : S63) )) (Reps.c5 (show Kd.M k63 _ _ _ (⟨t863, t864, t865, t866, t867⟩ : S63) [.int .i64 t863, .int .i64 t864, .int .i64 t865, .int .i64 t866, .int .i64 t867] from (k63_mkM _ _ _ (⟨t863, t864, t865, t866, t867⟩ : S63) )) (Reps.c5 (show Kd.M k63 _ _ _ (⟨t868, t869, t870, t871, t872⟩ : S63) [.int .i64 t868, .int .i64 t869, .int .i64 t870, .int .i64 t871, .int .i64 t872] from (k63_mkM _ _ _ (⟨t868, t869, t870, t871, t872⟩ : S63) )) (Reps.c5 (show Kd.M k63 _ _ _ (⟨t873, t874, t875, t876, t877⟩ : S63) [.int .i64 t873, .int .i64 t874, .int .i64 t875, .int .i64 t876, .int .i64 t877] from (k63_mkM _ _ _ (⟨t873, t874, t875, t876, t877⟩ : S63) )) (Reps.none _ _)))))); intro v879 w27 ho28 hb hg_ hnew_; clear hg_ hnew_; (first | rw [← Ny878.out] at ho28 | (simp only [Int.reduceToNat] at ho28; rw [← Ny878.out] at ho28)); replace HO852 := Aside0.mk (Kd.R_below (rk HO852) hb); replace HO857 := Aside0.mk (Kd.R_below (rk HO857) hb); have HO880 := Aside0.mk (Kd.R_lower ho28 (below_size (bl HB))); replace BK841 := Aside0.mk (blk_below (bk BK841) hb); replace HB := Aside0.mk (below_step (bl HB) hb); clear hb ho28; obtain ⟨Ao29, co29, eo29⟩ := Kd.R_slice HO880.out; subst eo29; obtain ⟨Ao30, co30, eo30⟩ := Kd.R_slice HO857.out; subst eo30; obtain ⟨Ao31, co31, eo31⟩ := Kd.R_slice HO852.out; subst eo31) | ((with_reducible refine gate_dst (N := 5) rfl ?_); refine box_event ?hg (N := 5) ?hd (cs := #[.int .i64 0, .int .i64 0, .int .i64 0, .int .i64 0, .int .i64 0, .slice none 0 0, .slice none 0 0, .slice none 0 0]) (t := 27) ?hr ?_; (case hd => rfl); (case hg => rfl); (case hr => first | (go_simp; done) | (go_simp; rfl)); intro gb881 hg w32 hbox hb; replace HO852 := Aside0.mk (Kd.R_below (rk HO852) hb); replace HO857 := Aside0.mk (Kd.R_below (rk HO857) hb); replace HO880 := Aside0.mk (Kd.R_below (rk HO880) hb); have BK881 := Aside0.mk (hbox); have GW881 := geB hg (bl HB); have GE881 := geB hg (bl HB); replace HB := Aside0.mk (below_step (bl HB) hb); have NB841_881 := nlt hg (bk BK841); have NB881_841 := ngt hg (bk BK841); replace BK841 := Aside0.mk (blk_below (bk BK841) hb); clear hb hbox hg; have hnb33 := NB881_841.out; have hnc33 := NB841_881.out; have hcz34_0 : w32.cell? ⟨gb881, 0, none⟩ = some (.int .i64 0) := bc BK881 0; have hcz34_1 : w32.cell? ⟨gb881, 1, none⟩ = some (.int .i64 0) := bc BK881 1; have hcz34_2 : w32.cell? ⟨gb881, 2, none⟩ = some (.int .i64 0) := bc BK881 2; have hcz34_3 : w32.cell? ⟨gb881, 3, none⟩ = some (.int .i64 0) := bc BK881 3; have hcz34_4 : w32.cell? ⟨gb881, 4, none⟩ = some (.int .i64 0) := bc BK881 4; have hcz34_5 : w32.cell? ⟨gb881, 5, none⟩ = some (.slice none 0 0) := bc BK881 5; have hcz34_6 : w32.cell? ⟨gb881, 6, none⟩ = some (.slice none 0 0) := bc BK881 6; have hcz34_7 : w32.cell? ⟨gb881, 7, none⟩ = some (.slice none 0 0) := bc BK881 7; have hfz34_0 := blk_frozen BK881.out 0; have hfz34_1 := blk_frozen BK881.out 1; have hfz34_2 := blk_frozen BK881.out 2; have hfz34_3 := blk_frozen BK881.out 3; have hfz34_4 := blk_frozen BK881.out 4; have hfz34_5 := blk_frozen BK881.out 5; have hfz34_6 := blk_frozen BK881.out 6; have hfz34_7 := blk_frozen BK881.out 7) | ((with_reducible refine gate_builtin (b := .append) (xs := #[.tmp 21, .tmp 22]) rfl ?_); at_builtin; refine Kd.R_append_rows k63 (w0 := w) w.heap.size rfl (.tmp 21) (.tmp 22) 25 63 (.agg #[(.int .i64 0), (.int .i64 0), (.int .i64 0), (.int .i64 0), (.int .i64 0)]) 40 rfl Tryd.underlying25 info63 rfl (by decide) (by omega) (.slice Ao29 y878.length co29) y878 l1 _ _ _ (fun _ => True) (fun _ => False) rfl rfl ?aO ?aR (fun _ _ h => h) (fun _ h => h.elim) ?aF ?aB ?aS ?aL ?_; (case aR => exact Kd.C_below HR1.out (bl HB)); (case aB => exact (bl HB)); (case aF => exact (fun _ _ => trivial)); (case aO => exact (by (with_reducible repeat (first | apply Kd.R_alloc | apply Kd.R_drewN | apply Kd.R_drew)); exact Kd.R_mono (Kd.R_far (p := ⟨gb881, 7, none⟩) (Kd.R_far (p := ⟨gb881, 6, none⟩) (Kd.R_far (p := ⟨gb881, 5, none⟩) (Kd.R_far (p := ⟨gb881, 4, none⟩) (Kd.R_far (p := ⟨gb881, 3, none⟩) (Kd.R_far (p := ⟨gb881, 2, none⟩) (Kd.R_far (p := ⟨gb881, 1, none⟩) (Kd.R_far (p := ⟨gb881, 0, none⟩) (Kd.R_types HO880.out BK881.out (by decide)) (fun _ hk => hk.2) (.int .i64 3)) (fun _ hk => hk.2) (.int .i64 t842)) (fun _ hk => hk.2) (.int .i64 t843)) (fun _ hk => hk.2) (.int .i64 t844)) (fun _ hk => hk.2) (.int .i64 t845)) (fun _ hk => hk.2) (.slice Ao31 y850.length co31)) (fun _ hk => hk.2) (.slice Ao30 y855.length co30)) (fun _ hk => hk.2) (.slice Ao29 y878.length co29)) (fun _ hk => trivial))); (case aS => exact (below_size (bl HB))); (case aL => have := LMc12.out; omega); intro v883 w35 ho hb hg hat; rw [← Ny882.out] at ho; have n0_ := Aside0.mk (blk_grown (bk BK841) hg (Kd.R_ne HO880.out BK841.out (by decide))); have n1_ := Aside0.mk (Kd.R_over' (by (with_reducible repeat (first | apply Kd.R_alloc | apply Kd.R_drewN | apply Kd.R_drew)); exact (Kd.R_mono (Kd.R_far (p := ⟨gb881, 7, none⟩) (Kd.R_far (p := ⟨gb881, 6, none⟩) (Kd.R_far (p := ⟨gb881, 5, none⟩) (Kd.R_far (p := ⟨gb881, 4, none⟩) (Kd.R_far (p := ⟨gb881, 3, none⟩) (Kd.R_far (p := ⟨gb881, 2, none⟩) (Kd.R_far (p := ⟨gb881, 1, none⟩) (Kd.R_far (p := ⟨gb881, 0, none⟩) (Kd.R_types HO852.out BK881.out (by decide)) (fun _ hk => hk.2) (.int .i64 3)) (fun _ hk => hk.2) (.int .i64 t842)) (fun _ hk => hk.2) (.int .i64 t843)) (fun _ hk => hk.2) (.int .i64 t844)) (fun _ hk => hk.2) (.int .i64 t845)) (fun _ hk => hk.2) (.slice Ao31 y850.length co31)) (fun _ hk => hk.2) (.slice Ao30 y855.length co30)) (fun _ hk => hk.2) (.slice Ao29 y878.length co29)) (fun _ h_ => h_.1))) (Kd.R_typed (by (with_reducible repeat (first | apply Kd.R_alloc | apply Kd.R_drewN | apply Kd.R_drew)); exact (Kd.R_mono (Kd.R_far (p := ⟨gb881, 7, none⟩) (Kd.R_far (p := ⟨gb881, 6, none⟩) (Kd.R_far (p := ⟨gb881, 5, none⟩) (Kd.R_far (p := ⟨gb881, 4, none⟩) (Kd.R_far (p := ⟨gb881, 3, none⟩) (Kd.R_far (p := ⟨gb881, 2, none⟩) (Kd.R_far (p := ⟨gb881, 1, none⟩) (Kd.R_far (p := ⟨gb881, 0, none⟩) (Kd.R_types HO880.out BK881.out (by decide)) (fun _ hk => hk.2) (.int .i64 3)) (fun _ hk => hk.2) (.int .i64 t842)) (fun _ hk => hk.2) (.int .i64 t843)) (fun _ hk => hk.2) (.int .i64 t844)) (fun _ hk => hk.2) (.int .i64 t845)) (fun _ hk => hk.2) (.slice Ao31 y850.length co31)) (fun _ hk => hk.2) (.slice Ao30 y855.length co30)) (fun _ hk => hk.2) (.slice Ao29 y878.length co29)) (fun _ h_ => h_.1)))) (by decide) hg); have n2_ := Aside0.mk (Kd.R_over' (by (with_reducible repeat (first | apply Kd.R_alloc | apply Kd.R_drewN | apply Kd.R_drew)); exact (Kd.R_mono (Kd.R_far (p := ⟨gb881, 7, none⟩) (Kd.R_far (p := ⟨gb881, 6, none⟩) (Kd.R_far (p := ⟨gb881, 5, none⟩) (Kd.R_far (p := ⟨gb881, 4, none⟩) (Kd.R_far (p := ⟨gb881, 3, none⟩) (Kd.R_far (p := ⟨gb881, 2, none⟩) (Kd.R_far (p := ⟨gb881, 1, none⟩) (Kd.R_far (p := ⟨gb881, 0, none⟩) (Kd.R_types HO857.out BK881.out (by decide)) (fun _ hk => hk.2) (.int .i64 3)) (fun _ hk => hk.2) (.int .i64 t842)) (fun _ hk => hk.2) (.int .i64 t843)) (fun _ hk => hk.2) (.int .i64 t844)) (fun _ hk => hk.2) (.int .i64 t845)) (fun _ hk => hk.2) (.slice Ao31 y850.length co31)) (fun _ hk => hk.2) (.slice Ao30 y855.length co30)) (fun _ hk => hk.2) (.slice Ao29 y878.length co29)) (fun _ h_ => h_.1))) (Kd.R_typed (by (with_reducible repeat (first | apply Kd.R_alloc | apply Kd.R_drewN | apply Kd.R_drew)); exact (Kd.R_mono (Kd.R_far (p := ⟨gb881, 7, none⟩) (Kd.R_far (p := ⟨gb881, 6, none⟩) (Kd.R_far (p := ⟨gb881, 5, none⟩) (Kd.R_far (p := ⟨gb881, 4, none⟩) (Kd.R_far (p := ⟨gb881, 3, none⟩) (Kd.R_far (p := ⟨gb881, 2, none⟩) (Kd.R_far (p := ⟨gb881, 1, none⟩) (Kd.R_far (p := ⟨gb881, 0, none⟩) (Kd.R_types HO880.out BK881.out (by decide)) (fun _ hk => hk.2) (.int .i64 3)) (fun _ hk => hk.2) (.int .i64 t842)) (fun _ hk => hk.2) (.int .i64 t843)) (fun _ hk => hk.2) (.int .i64 t844)) (fun _ hk => hk.2) (.int .i64 t845)) (fun _ hk => hk.2) (.slice Ao31 y850.length co31)) (fun _ hk => hk.2) (.slice Ao30 y855.length co30)) (fun _ hk => hk.2) (.slice Ao29 y878.length co29)) (fun _ h_ => h_.1)))) (by decide) hg); have n3_ := Aside0.mk (blk_grown (g := gb881) (o := .cells #[.int .i64 3, .int .i64 t842, .int .i64 t843, .int .i64 t844, .int .i64 t845, .slice Ao31 y850.length co31, .slice Ao30 y855.length co30, .slice Ao29 y878.length co29] 27 (0, 0)) (by (with_reducible repeat (first | refine blk_drewN ?_ _ | refine blk_drew ?_ | refine blk_alloc ?_ _)); refine blk_put (cs := #[.int .i64 3, .int .i64 t842, .int .i64 t843, .int .i64 t844, .int .i64 t845, .slice Ao31 y850.length co31, .slice Ao30 y855.length co30, .slice none 0 0]) ?_ 7 _ rfl; (with_reducible repeat (first | refine blk_drewN ?_ _ | refine blk_drew ?_ | refine blk_alloc ?_ _)); refine blk_put (cs := #[.int .i64 3, .int .i64 t842, .int .i64 t843, .int .i64 t844, .int .i64 t845, .slice Ao31 y850.length co31, .slice none 0 0, .slice none 0 0]) ?_ 6 _ rfl; (with_reducible repeat (first | refine blk_drewN ?_ _ | refine blk_drew ?_ | refine blk_alloc ?_ _)); refine blk_put (cs := #[.int .i64 3, .int .i64 t842, .int .i64 t843, .int .i64 t844, .int .i64 t845, .slice none 0 0, .slice none 0 0, .slice none 0 0]) ?_ 5 _ rfl; (with_reducible repeat (first | refine blk_drewN ?_ _ | refine blk_drew ?_ | refine blk_alloc ?_ _)); refine blk_put (cs := #[.int .i64 3, .int .i64 t842, .int .i64 t843, .int .i64 t844, .int .i64 0, .slice none 0 0, .slice none 0 0, .slice none 0 0]) ?_ 4 _ rfl; (with_reducible repeat (first | refine blk_drewN ?_ _ | refine blk_drew ?_ | refine blk_alloc ?_ _)); refine blk_put (cs := #[.int .i64 3, .int .i64 t842, .int .i64 t843, .int .i64 0, .int .i64 0, .slice none 0 0, .slice none 0 0, .slice none 0 0]) ?_ 3 _ rfl; (with_reducible repeat (first | refine blk_drewN ?_ _ | refine blk_drew ?_ | refine blk_alloc ?_ _)); refine blk_put (cs := #[.int .i64 3, .int .i64 t842, .int .i64 0, .int .i64 0, .int .i64 0, .slice none 0 0, .slice none 0 0, .slice none 0 0]) ?_ 2 _ rfl; (with_reducible repeat (first | refine blk_drewN ?_ _ | refine blk_drew ?_ | refine blk_alloc ?_ _)); refine blk_put (cs := #[.int .i64 3, .int .i64 0, .int .i64 0, .int .i64 0, .int .i64 0, .slice none 0 0, .slice none 0 0, .slice none 0 0]) ?_ 1 _ rfl; (with_reducible repeat (first | refine blk_drewN ?_ _ | refine blk_drew ?_ | refine blk_alloc ?_ _)); refine blk_put (cs := #[.int .i64 0, .int .i64 0, .int .i64 0, .int .i64 0, .int .i64 0, .slice none 0 0, .slice none 0 0, .slice none 0 0]) ?_ 0 _ rfl; (with_reducible repeat (first | refine blk_drewN ?_ _ | refine blk_drew ?_ | refine blk_alloc ?_ _)); exact BK881.out) hg (Kd.R_ne HO880.out BK881.out (by decide))); have n4_ := Aside0.mk (hb); have n5_ := Aside0.mk (ho); clear BK841; clear HO852; clear HO857; clear BK881; clear HB; clear HO880; have BK841 := n0_; have HO852 := n1_; have HO857 := n2_; have BK881 := n3_; have HB := n4_; have HO884 := n5_; clear n0_ n1_ n2_ n3_ n4_ n5_; clear ho hb hg hat; obtain ⟨Ao36, co36, eo36⟩ := Kd.R_slice HO884.out; subst eo36; have hcz37_0 : w35.cell? ⟨gb881, 0, none⟩ = some (.int .i64 3) := bc BK881 0; have hcz37_1 : w35.cell? ⟨gb881, 1, none⟩ = some (.int .i64 t842) := bc BK881 1; have hcz37_2 : w35.cell? ⟨gb881, 2, none⟩ = some (.int .i64 t843) := bc BK881 2; have hcz37_3 : w35.cell? ⟨gb881, 3, none⟩ = some (.int .i64 t844) := bc BK881 3; have hcz37_4 : w35.cell? ⟨gb881, 4, none⟩ = some (.int .i64 t845) := bc BK881 4; have hcz37_5 : w35.cell? ⟨gb881, 5, none⟩ = some (.slice Ao31 y850.length co31) := bc BK881 5; have hcz37_6 : w35.cell? ⟨gb881, 6, none⟩ = some (.slice Ao30 y855.length co30) := bc BK881 6; have hcz37_7 : w35.cell? ⟨gb881, 7, none⟩ = some (.slice Ao29 y878.length co29) := bc BK881 7; have hfz37_0 := blk_frozen BK881.out 0; have hfz37_1 := blk_frozen BK881.out 1; have hfz37_2 := blk_frozen BK881.out 2; have hfz37_3 := blk_frozen BK881.out 3; have hfz37_4 := blk_frozen BK881.out 4; have hfz37_5 := blk_frozen BK881.out 5; have hfz37_6 := blk_frozen BK881.out 6; have hfz37_7 := blk_frozen BK881.out 7; have hcz38_0 : w35.cell? ⟨gb841, 0, none⟩ = some (.int .i64 0) := bc BK841 0; have hcz38_1 : w35.cell? ⟨gb841, 1, none⟩ = some (.int .i64 0) := bc BK841 1; have hcz38_2 : w35.cell? ⟨gb841, 2, none⟩ = some (.int .i64 0) := bc BK841 2; have hcz38_3 : w35.cell? ⟨gb841, 3, none⟩ = some (.int .i64 0) := bc BK841 3; have hcz38_4 : w35.cell? ⟨gb841, 4, none⟩ = some (.int .i64 0) := bc BK841 4; have hcz38_5 : w35.cell? ⟨gb841, 5, none⟩ = some (.slice none 0 0) := bc BK841 5; have hcz38_6 : w35.cell? ⟨gb841, 6, none⟩ = some (.slice none 0 0) := bc BK841 6; have hcz38_7 : w35.cell? ⟨gb841, 7, none⟩ = some (.slice none 0 0) := bc BK841 7; have hfz38_0 := blk_frozen BK841.out 0; have hfz38_1 := blk_frozen BK841.out 1; have hfz38_2 := blk_frozen BK841.out 2; have hfz38_3 := blk_frozen BK841.out 3; have hfz38_4 := blk_frozen BK841.out 4; have hfz38_5 := blk_frozen BK841.out 5; have hfz38_6 := blk_frozen BK841.out 6; have hfz38_7 := blk_frozen BK841.out 7))
  refine bodyPost_ret (results_cell_row rfl _ _ gb841 27 #[.int .i64 3, .int .i64 t842, .int .i64 t843, .int .i64 t844, .int .i64 t845, .slice Ao31 y850.length co31, .slice Ao30 y855.length co30, .slice Ao36 y882.length co36] (0, 0) _ rfl (by (with_reducible repeat (first | refine blk_drewN ?_ _ | refine blk_drew ?_ | refine blk_alloc ?_ _)); refine blk_put (cs := #[.int .i64 3, .int .i64 t842, .int .i64 t843, .int .i64 t844, .int .i64 t845, .slice Ao31 y850.length co31, .slice Ao30 y855.length co30, .slice none 0 0]) ?_ 7 _ rfl; (with_reducible repeat (first | refine blk_drewN ?_ _ | refine blk_drew ?_ | refine blk_alloc ?_ _)); refine blk_put (cs := #[.int .i64 3, .int .i64 t842, .int .i64 t843, .int .i64 t844, .int .i64 t845, .slice Ao31 y850.length co31, .slice none 0 0, .slice none 0 0]) ?_ 6 _ rfl; (with_reducible repeat (first | refine blk_drewN ?_ _ | refine blk_drew ?_ | refine blk_alloc ?_ _)); refine blk_put (cs := #[.int .i64 3, .int .i64 t842, .int .i64 t843, .int .i64 t844, .int .i64 t845, .slice none 0 0, .slice none 0 0, .slice none 0 0]) ?_ 5 _ rfl; (with_reducible repeat (first | refine blk_drewN ?_ _ | refine blk_drew ?_ | refine blk_alloc ?_ _)); refine blk_put (cs := #[.int .i64 3, .int .i64 t842, .int .i64 t843, .int .i64 t844, .int .i64 0, .slice none 0 0, .slice none 0 0, .slice none 0 0]) ?_ 4 _ rfl; (with_reducible repeat (first | refine blk_drewN ?_ _ | refine blk_drew ?_ | refine blk_alloc ?_ _)); refine blk_put (cs := #[.int .i64 3, .int .i64 t842, .int .i64 t843, .int .i64 0, .int .i64 0, .slice none 0 0, .slice none 0 0, .slice none 0 0]) ?_ 3 _ rfl; (with_reducible repeat (first | refine blk_drewN ?_ _ | refine blk_drew ?_ | refine blk_alloc ?_ _)); refine blk_put (cs := #[.int .i64 3, .int .i64 t842, .int .i64 0, .int .i64 0, .int .i64 0, .slice none 0 0, .slice none 0 0, .slice none 0 0]) ?_ 2 _ rfl; (with_reducible repeat (first | refine blk_drewN ?_ _ | refine blk_drew ?_ | refine blk_alloc ?_ _)); refine blk_put (cs := #[.int .i64 3, .int .i64 0, .int .i64 0, .int .i64 0, .int .i64 0, .slice none 0 0, .slice none 0 0, .slice none 0 0]) ?_ 1 _ rfl; (with_reducible repeat (first | refine blk_drewN ?_ _ | refine blk_drew ?_ | refine blk_alloc ?_ _)); refine blk_put (cs := #[.int .i64 0, .int .i64 0, .int .i64 0, .int .i64 0, .int .i64 0, .slice none 0 0, .slice none 0 0, .slice none 0 0]) ?_ 0 _ rfl; (with_reducible repeat (first | refine blk_drewN ?_ _ | refine blk_drew ?_ | refine blk_alloc ?_ _)); refine blk_far ?_ NB841_881.out _; (with_reducible repeat (first | refine blk_drewN ?_ _ | refine blk_drew ?_ | refine blk_alloc ?_ _)); exact BK841.out) Tryd.underlying27 rfl (by kernel_rfl)) rfl ?_
  exact ⟨_, _, _, by first | rfl | (simp [errW_none, errW_some] <;> rfl) | (simp [*, errW_none, errW_some] <;> rfl), by (with_reducible repeat (first | apply Kd.R_alloc | apply Kd.R_drewN | apply Kd.R_drew)); exact Kd.R_mono (Kd.R_far (p := ⟨gb841, 7, none⟩) (Kd.R_far (p := ⟨gb841, 6, none⟩) (Kd.R_far (p := ⟨gb841, 5, none⟩) (Kd.R_far (p := ⟨gb841, 4, none⟩) (Kd.R_far (p := ⟨gb841, 3, none⟩) (Kd.R_far (p := ⟨gb841, 2, none⟩) (Kd.R_far (p := ⟨gb841, 1, none⟩) (Kd.R_far (p := ⟨gb841, 0, none⟩) (Kd.R_far (p := ⟨gb881, 7, none⟩) (Kd.R_types (Kd.R_types HO852.out BK881.out (by decide)) BK841.out (by decide)) (fun _ hk => hk.1.2) (.slice Ao36 y882.length co36)) (fun _ hk => hk.2) (.int .i64 3)) (fun _ hk => hk.2) (.int .i64 t842)) (fun _ hk => hk.2) (.int .i64 t843)) (fun _ hk => hk.2) (.int .i64 t844)) (fun _ hk => hk.2) (.int .i64 t845)) (fun _ hk => hk.2) (.slice Ao31 y850.length co31)) (fun _ hk => hk.2) (.slice Ao30 y855.length co30)) (fun _ hk => hk.2) (.slice Ao36 y882.length co36)) (fun _ hk => hk.1.1.2), by (with_reducible repeat (first | apply Kd.R_alloc | apply Kd.R_drewN | apply Kd.R_drew)); exact Kd.R_mono (Kd.R_far (p := ⟨gb841, 7, none⟩) (Kd.R_far (p := ⟨gb841, 6, none⟩) (Kd.R_far (p := ⟨gb841, 5, none⟩) (Kd.R_far (p := ⟨gb841, 4, none⟩) (Kd.R_far (p := ⟨gb841, 3, none⟩) (Kd.R_far (p := ⟨gb841, 2, none⟩) (Kd.R_far (p := ⟨gb841, 1, none⟩) (Kd.R_far (p := ⟨gb841, 0, none⟩) (Kd.R_far (p := ⟨gb881, 7, none⟩) (Kd.R_types (Kd.R_types HO857.out BK881.out (by decide)) BK841.out (by decide)) (fun _ hk => hk.1.2) (.slice Ao36 y882.length co36)) (fun _ hk => hk.2) (.int .i64 3)) (fun _ hk => hk.2) (.int .i64 t842)) (fun _ hk => hk.2) (.int .i64 t843)) (fun _ hk => hk.2) (.int .i64 t844)) (fun _ hk => hk.2) (.int .i64 t845)) (fun _ hk => hk.2) (.slice Ao31 y850.length co31)) (fun _ hk => hk.2) (.slice Ao30 y855.length co30)) (fun _ hk => hk.2) (.slice Ao36 y882.length co36)) (fun _ hk => hk.1.1.2), by (with_reducible repeat (first | apply Kd.R_alloc | apply Kd.R_drewN | apply Kd.R_drew)); exact Kd.R_mono (Kd.R_far (p := ⟨gb841, 7, none⟩) (Kd.R_far (p := ⟨gb841, 6, none⟩) (Kd.R_far (p := ⟨gb841, 5, none⟩) (Kd.R_far (p := ⟨gb841, 4, none⟩) (Kd.R_far (p := ⟨gb841, 3, none⟩) (Kd.R_far (p := ⟨gb841, 2, none⟩) (Kd.R_far (p := ⟨gb841, 1, none⟩) (Kd.R_far (p := ⟨gb841, 0, none⟩) (Kd.R_far (p := ⟨gb881, 7, none⟩) (Kd.R_types (Kd.R_types HO884.out BK881.out (by decide)) BK841.out (by decide)) (fun _ hk => hk.1.2) (.slice Ao36 y882.length co36)) (fun _ hk => hk.2) (.int .i64 3)) (fun _ hk => hk.2) (.int .i64 t842)) (fun _ hk => hk.2) (.int .i64 t843)) (fun _ hk => hk.2) (.int .i64 t844)) (fun _ hk => hk.2) (.int .i64 t845)) (fun _ hk => hk.2) (.slice Ao31 y850.length co31)) (fun _ hk => hk.2) (.slice Ao30 y855.length co30)) (fun _ hk => hk.2) (.slice Ao36 y882.length co36)) (fun _ hk => trivial), by repeat (first | (with_reducible first | exact HB.out | apply below_alloc | apply pw_below_drewN | apply below_drew1 | refine below_set ?_ GE841.out | refine below_set ?_ GE881.out) | exact HB.out)⟩
 ·
  rw [if_neg c12] at H
  exact absurd H (by simp)

end Go.Proofs.TrydX.X
end

section
-- Written by wip/tools/pr.py (a program of this repo over the kit's print.py).
namespace Go.Proofs.TrydX.X
open Go.RowKit Go.Proofs.YtohbeninpmmmpaaDoorW.PrintWords Go.Proofs.YtohbeninpmmmpaaDoorW.PrintLast Go.Proofs.YtohbeninpmmmpaaDoorW.PrintMore
attribute [local go_sem] max2_int min2_int max_two min_two max_three min_three max_four min_four   -- for this text's walks alone
set_option linter.unusedVariables false
set_option linter.unusedSimpArgs false

/-! ### remontoirlaw03_truth: function 54 -/
def remontoirlaw03_truth.f  : Option (List Int × List Int × List Int) := some ((([50, 60, 75] : List Int)), (([(-5), 10] : List Int)), (([40] : List Int)))
set_option maxHeartbeats 8000000 in
set_option maxRecDepth 100000 in
theorem remontoirlaw03_truth.calls  (r1 : List Int) (r2 : List Int) (r3 : List Int) (w : World) (h : remontoirlaw03_truth.f  = some (r1, r2, r3)) :
  Calls Tryd.prog 54 #[] w fun e w' => ∃ v0_ v1_ v2_ : Value, e = .returned (.agg #[v0_, v1_, v2_]) ∧ Kd.R (Kd.int .i64) 3 w' w.heap.size (fun k_ => some k_ ≠ (v1_ : Value).ownBlock ∧ some k_ ≠ (v2_ : Value).ownBlock) v0_ r1 ∧ Kd.R (Kd.int .i64) 3 w' w.heap.size (fun k_ => some k_ ≠ (v0_ : Value).ownBlock ∧ some k_ ≠ (v2_ : Value).ownBlock) v1_ r2 ∧ Kd.R (Kd.int .i64) 3 w' w.heap.size (fun k_ => some k_ ≠ (v0_ : Value).ownBlock ∧ some k_ ≠ (v1_ : Value).ownBlock) v2_ r3 ∧ Below w.heap.size w w' := by
 have hu30 := Tryd.underlying30
 have HB := Aside0.mk (Below.refl w.heap.size w)
 have H : (some ((([50, 60, 75] : List Int)), (([(-5), 10] : List Int)), (([40] : List Int)))) = some (r1, r2, r3) := h
 clear h
 obtain ⟨y886, hy886⟩ : ∃ y_ : List Int, y_ = (([50, 60, 75] : List Int)) := ⟨_, rfl⟩
 replace H : (some (y886, (([(-5), 10] : List Int)), (([40] : List Int)))) = some (r1, r2, r3) := by first | (rw [hy886]; with_reducible exact H) | (have H2_ := (Option.bind_some _ _).symm.trans H; rw [hy886]; with_reducible exact H2_) | (have H2_ := (Option.bind_some _ _).symm.trans H; with_reducible exact H2_) | with_reducible exact H | (rw [hy886]; exact H) | exact H
 have Ny886 := Aside0.mk hy886
 clear hy886
 obtain ⟨y889, hy889⟩ : ∃ y_ : List Int, y_ = (([(-5), 10] : List Int)) := ⟨_, rfl⟩
 replace H : (some (y886, y889, (([40] : List Int)))) = some (r1, r2, r3) := by first | (rw [hy889]; with_reducible exact H) | (have H2_ := (Option.bind_some _ _).symm.trans H; rw [hy889]; with_reducible exact H2_) | (have H2_ := (Option.bind_some _ _).symm.trans H; with_reducible exact H2_) | with_reducible exact H | (rw [hy889]; exact H) | exact H
 have Ny889 := Aside0.mk hy889
 clear hy889
 obtain ⟨y892, hy892⟩ : ∃ y_ : List Int, y_ = (([40] : List Int)) := ⟨_, rfl⟩
 replace H : (some (y886, y889, y892)) = some (r1, r2, r3) := by first | (rw [hy892]; with_reducible exact H) | (have H2_ := (Option.bind_some _ _).symm.trans H; rw [hy892]; with_reducible exact H2_) | (have H2_ := (Option.bind_some _ _).symm.trans H; with_reducible exact H2_) | with_reducible exact H | (rw [hy892]; exact H) | exact H
 have Ny892 := Aside0.mk hy892
 clear hy892
 simp only [Option.some.injEq, Prod.mk.injEq] at H
 obtain ⟨rfl, rfl, rfl⟩ := H
 go_enter Tryd.func54, Tryd.ntmps54
 go_wp2_with (first | ((with_reducible refine gate_dst (N := 0) rfl ?_); refine box_event ?hg (N := 0) ?hd (cs := #[.slice none 0 0, .slice none 0 0, .slice none 0 0]) (t := 30) ?hr ?_; (case hd => rfl); (case hg => rfl); (case hr => first | (go_simp; done) | (go_simp; rfl)); intro gb885 hg w1 hbox hb; have BK885 := Aside0.mk (hbox); have GW885 := geB hg (bl HB); have GE885 := geB hg (bl HB); replace HB := Aside0.mk (below_step (bl HB) hb); clear hb hbox hg) | ((with_reducible refine gate_dst (N := 1) rfl ?_); refine Kd.R_lit (Kd.int .i64) _ 3 ?hg (N := 1) ?hd (xs := ([50, 60, 75] : List Int)) (inner := [.int .i64 50, .int .i64 60, .int .i64 75]) (ok := fun _ => True) (okp := fun _ => True) ?hr ?hp (fun _ hk => hk) trivial (Below.refl _ _) (Nat.le_refl _) (by simp) ?_; (case hd => rfl); (case hg => rfl); (case hr => first | (go_simp; done) | (go_simp; rfl)); (case hp => exact (Reps.one (show Kd.M (Kd.int .i64) _ _ _ 50 [.int .i64 50] from rfl) (Reps.one (show Kd.M (Kd.int .i64) _ _ _ 60 [.int .i64 60] from rfl) (Reps.one (show Kd.M (Kd.int .i64) _ _ _ 75 [.int .i64 75] from rfl) (Reps.none _ _))))); intro v887 w2 ho3 hb hg_ hnew_; clear hg_ hnew_; (first | rw [← Ny886.out] at ho3 | (simp only [Int.reduceToNat] at ho3; rw [← Ny886.out] at ho3)); have HO888 := Aside0.mk (Kd.R_lower ho3 (below_size (bl HB))); replace BK885 := Aside0.mk (blk_below (bk BK885) hb); replace HB := Aside0.mk (below_step (bl HB) hb); clear hb ho3) | ((with_reducible refine gate_dst (N := 2) rfl ?_); refine Kd.R_lit (Kd.int .i64) _ 3 ?hg (N := 2) ?hd (xs := ([(-5), 10] : List Int)) (inner := [.int .i64 (-5), .int .i64 10]) (ok := fun _ => True) (okp := fun _ => True) ?hr ?hp (fun _ hk => hk) trivial (Below.refl _ _) (Nat.le_refl _) (by simp) ?_; (case hd => rfl); (case hg => rfl); (case hr => first | (go_simp; done) | (go_simp; rfl)); (case hp => exact (Reps.one (show Kd.M (Kd.int .i64) _ _ _ (-5) [.int .i64 (-5)] from rfl) (Reps.one (show Kd.M (Kd.int .i64) _ _ _ 10 [.int .i64 10] from rfl) (Reps.none _ _)))); intro v890 w4 ho5 hb hg_ hnew_; clear hg_ hnew_; (first | rw [← Ny889.out] at ho5 | (simp only [Int.reduceToNat] at ho5; rw [← Ny889.out] at ho5)); have HO891 := Aside0.mk (Kd.R_lower (Kd.R_new' ho5 (Kd.R_lt (rk HO888))) (below_size (bl HB))); replace HO888 := Aside0.mk (Kd.R_elder' (rk HO888) (Kd.R_base ho5) hb); replace BK885 := Aside0.mk (blk_below (bk BK885) hb); replace HB := Aside0.mk (below_step (bl HB) hb); clear hb ho5) | ((with_reducible refine gate_dst (N := 3) rfl ?_); refine Kd.R_lit (Kd.int .i64) _ 3 ?hg (N := 3) ?hd (xs := ([40] : List Int)) (inner := [.int .i64 40]) (ok := fun _ => True) (okp := fun _ => True) ?hr ?hp (fun _ hk => hk) trivial (Below.refl _ _) (Nat.le_refl _) (by simp) ?_; (case hd => rfl); (case hg => rfl); (case hr => first | (go_simp; done) | (go_simp; rfl)); (case hp => exact (Reps.one (show Kd.M (Kd.int .i64) _ _ _ 40 [.int .i64 40] from rfl) (Reps.none _ _))); intro v893 w6 ho7 hb hg_ hnew_; clear hg_ hnew_; (first | rw [← Ny892.out] at ho7 | (simp only [Int.reduceToNat] at ho7; rw [← Ny892.out] at ho7)); have HO894 := Aside0.mk (Kd.R_lower (Kd.R_new' (Kd.R_new' ho7 (Kd.R_lt (rk HO888))) (Kd.R_lt (rk HO891))) (below_size (bl HB))); replace HO888 := Aside0.mk (Kd.R_elder' (rk HO888) (Kd.R_base ho7) hb); replace HO891 := Aside0.mk (Kd.R_elder' (rk HO891) (Kd.R_base ho7) hb); replace BK885 := Aside0.mk (blk_below (bk BK885) hb); replace HB := Aside0.mk (below_step (bl HB) hb); clear hb ho7; obtain ⟨Ao8, co8, eo8⟩ := Kd.R_slice HO894.out; subst eo8; obtain ⟨Ao9, co9, eo9⟩ := Kd.R_slice HO891.out; subst eo9; obtain ⟨Ao10, co10, eo10⟩ := Kd.R_slice HO888.out; subst eo10; have hcz11_0 : w6.cell? ⟨gb885, 0, none⟩ = some (.slice none 0 0) := bc BK885 0; have hcz11_1 : w6.cell? ⟨gb885, 1, none⟩ = some (.slice none 0 0) := bc BK885 1; have hcz11_2 : w6.cell? ⟨gb885, 2, none⟩ = some (.slice none 0 0) := bc BK885 2; have hfz11_0 := blk_frozen BK885.out 0; have hfz11_1 := blk_frozen BK885.out 1; have hfz11_2 := blk_frozen BK885.out 2))
 refine bodyPost_ret (results_cell_row rfl _ _ gb885 30 #[.slice Ao10 y886.length co10, .slice Ao9 y889.length co9, .slice Ao8 y892.length co8] (0, 0) _ rfl (by (with_reducible repeat (first | refine blk_drewN ?_ _ | refine blk_drew ?_ | refine blk_alloc ?_ _)); refine blk_put (cs := #[.slice Ao10 y886.length co10, .slice Ao9 y889.length co9, .slice none 0 0]) ?_ 2 _ rfl; (with_reducible repeat (first | refine blk_drewN ?_ _ | refine blk_drew ?_ | refine blk_alloc ?_ _)); refine blk_put (cs := #[.slice Ao10 y886.length co10, .slice none 0 0, .slice none 0 0]) ?_ 1 _ rfl; (with_reducible repeat (first | refine blk_drewN ?_ _ | refine blk_drew ?_ | refine blk_alloc ?_ _)); refine blk_put (cs := #[.slice none 0 0, .slice none 0 0, .slice none 0 0]) ?_ 0 _ rfl; (with_reducible repeat (first | refine blk_drewN ?_ _ | refine blk_drew ?_ | refine blk_alloc ?_ _)); exact BK885.out) Tryd.underlying30 rfl (by kernel_rfl)) rfl ?_
 exact ⟨_, _, _, by first | rfl | (simp [errW_none, errW_some] <;> rfl) | (simp [*, errW_none, errW_some] <;> rfl), by (with_reducible repeat (first | apply Kd.R_alloc | apply Kd.R_drewN | apply Kd.R_drew)); exact Kd.R_mono (Kd.R_far (p := ⟨gb885, 2, none⟩) (Kd.R_far (p := ⟨gb885, 1, none⟩) (Kd.R_far (p := ⟨gb885, 0, none⟩) (Kd.R_types HO888.out BK885.out (by decide)) (fun _ hk => hk.2) (.slice Ao10 y886.length co10)) (fun _ hk => hk.2) (.slice Ao9 y889.length co9)) (fun _ hk => hk.2) (.slice Ao8 y892.length co8)) (fun _ hk => ⟨hk.1.1.2, hk.1.2⟩), by (with_reducible repeat (first | apply Kd.R_alloc | apply Kd.R_drewN | apply Kd.R_drew)); exact Kd.R_mono (Kd.R_far (p := ⟨gb885, 2, none⟩) (Kd.R_far (p := ⟨gb885, 1, none⟩) (Kd.R_far (p := ⟨gb885, 0, none⟩) (Kd.R_types HO891.out BK885.out (by decide)) (fun _ hk => hk.2) (.slice Ao10 y886.length co10)) (fun _ hk => hk.2) (.slice Ao9 y889.length co9)) (fun _ hk => hk.2) (.slice Ao8 y892.length co8)) (fun _ hk => ⟨hk.1.1.2, hk.1.2⟩), by (with_reducible repeat (first | apply Kd.R_alloc | apply Kd.R_drewN | apply Kd.R_drew)); exact Kd.R_mono (Kd.R_far (p := ⟨gb885, 2, none⟩) (Kd.R_far (p := ⟨gb885, 1, none⟩) (Kd.R_far (p := ⟨gb885, 0, none⟩) (Kd.R_types HO894.out BK885.out (by decide)) (fun _ hk => hk.2) (.slice Ao10 y886.length co10)) (fun _ hk => hk.2) (.slice Ao9 y889.length co9)) (fun _ hk => hk.2) (.slice Ao8 y892.length co8)) (fun _ hk => ⟨hk.1.1.2, hk.1.2⟩), by repeat (first | (with_reducible first | exact HB.out | apply below_alloc | apply pw_below_drewN | apply below_drew1 | refine below_set ?_ GE885.out) | exact HB.out)⟩

end Go.Proofs.TrydX.X
end

section
/- The chapter's examples work. Written by wip/tools/mkXW03.py. -/
set_option linter.unusedSimpArgs false
set_option linter.unusedVariables false
namespace Go.Proofs.TrydX.X
open Go.RowKit Go.Proofs.YtohbeninpmmmpaaDoorW.PrintWords Go.Proofs.YtohbeninpmmmpaaDoorW.PrintLast
open Go.Proofs.YtohbeninpmmmpaaDoor (exL exP exH ex_Offset ex_Person ex_Path ex_Between ex_Worst ex_Wrong ex_Idle ex_Check ex_IsTruth ex_Case cell_below)
attribute [local go_sem] Oper.semAt_some
/-- The rows of the chapter's book. -/
structure BkIs (w : World) (A5 : Option Addr) (c5 : Nat) (A6 : Option Addr) (c6 : Nat) (A7 : Option Addr) (c7 : Nat) (L : List S63) : Prop where
  r5 : Kd.C k23 w A5 exP.length exP
  h5 : exP.length ≤ c5
  r6 : Kd.C k23 w A6 exH.length exH
  h6 : exH.length ≤ c6
  r7 : Kd.C k63 w A7 L.length L
  h7 : L.length ≤ c7
theorem BkIs.below {w w1 : World} {A5 A6 A7 : Option Addr} {c5 c6 c7 : Nat} {L : List S63} (h : BkIs w A5 c5 A6 c6 A7 c7 L) (hb : Below w.heap.size w w1) : BkIs w1 A5 c5 A6 c6 A7 c7 L :=
  ⟨Kd.C_below h.r5 hb, h.h5, Kd.C_below h.r6 hb, h.h6, Kd.C_below h.r7 hb, h.h7⟩
theorem exc_book (r : Int) (w : World) : Calls Tryd.prog 52 #[.int .i64 r, .slice none 0 0] w fun e w' => ∃ A5 c5 A6 c6 A7 c7, e = .returned (.agg #[.int .i64 3, .int .i64 0, .int .i64 100, .int .i64 (-10), .int .i64 20, .slice A5 2 c5, .slice A6 1 c6, .slice A7 4 c7]) ∧ BkIs w' A5 c5 A6 c6 A7 c7 (exL r false) ∧ Below w.heap.size w w' := by
  refine (remontoirlaw03_book.calls r none 0 [] 3 0 100 (-10) 20 exP exH (exL r false) w (Kd.C_nil _ _) (Nat.le_refl _) (by rfl)).mono ?_
  rintro e w' ⟨v5, v6, v7, rfl, h5, h6, h7, hb⟩
  obtain ⟨A5, c5, rfl⟩ := Kd.R_slice h5
  obtain ⟨A6, c6, rfl⟩ := Kd.R_slice h6
  obtain ⟨A7, c7, rfl⟩ := Kd.R_slice h7
  have a5 := Kd.R_reads' h5
  have a6 := Kd.R_reads' h6
  have a7 := Kd.R_reads' h7
  exact ⟨A5, c5, A6, c6, A7, c7, rfl, ⟨a5.2.2, a5.2.1, a6.2.2, a6.2.1, a7.2.2, a7.2.1⟩, hb⟩
theorem exc_bookC (A : Option Addr) (c : Nat) (w : World) (h : Kd.C k63 w A 1 [⟨0, 0, 1, 60, 30⟩]) (hc : 1 ≤ c) : Calls Tryd.prog 52 #[.int .i64 70, .slice A 1 c] w fun e w' => ∃ A5 c5 A6 c6 A7 c7, e = .returned (.agg #[.int .i64 3, .int .i64 0, .int .i64 100, .int .i64 (-10), .int .i64 20, .slice A5 2 c5, .slice A6 1 c6, .slice A7 5 c7]) ∧ BkIs w' A5 c5 A6 c6 A7 c7 (exL 70 true) ∧ Below w.heap.size w w' := by
  refine (remontoirlaw03_book.calls 70 A c [⟨0, 0, 1, 60, 30⟩] 3 0 100 (-10) 20 exP exH (exL 70 true) w h hc (by rfl)).mono ?_
  rintro e w' ⟨v5, v6, v7, rfl, h5, h6, h7, hb⟩
  obtain ⟨A5, c5, rfl⟩ := Kd.R_slice h5
  obtain ⟨A6, c6, rfl⟩ := Kd.R_slice h6
  obtain ⟨A7, c7, rfl⟩ := Kd.R_slice h7
  have a5 := Kd.R_reads' h5
  have a6 := Kd.R_reads' h6
  have a7 := Kd.R_reads' h7
  exact ⟨A5, c5, A6, c6, A7, c7, rfl, ⟨a5.2.2, a5.2.1, a6.2.2, a6.2.1, a7.2.2, a7.2.1⟩, hb⟩
theorem exc_truth (w : World) : Calls Tryd.prog 54 #[] w fun e w' => ∃ A0 c0 A1 c1 A2 c2, e = .returned (.agg #[.slice A0 3 c0, .slice A1 2 c1, .slice A2 1 c2]) ∧ (Kd.C (Kd.int .i64) w' A0 3 [50, 60, 75] ∧ 3 ≤ c0 ∧ Kd.C (Kd.int .i64) w' A1 2 [-5, 10] ∧ 2 ≤ c1 ∧ Kd.C (Kd.int .i64) w' A2 1 [40] ∧ 1 ≤ c2) ∧ Below w.heap.size w w' := by
  refine (remontoirlaw03_truth.calls [50, 60, 75] [-5, 10] [40] w (by rfl)).mono ?_
  rintro e w' ⟨v5, v6, v7, rfl, h5, h6, h7, hb⟩
  obtain ⟨A5, c5, rfl⟩ := Kd.R_slice h5
  obtain ⟨A6, c6, rfl⟩ := Kd.R_slice h6
  obtain ⟨A7, c7, rfl⟩ := Kd.R_slice h7
  have a5 := Kd.R_reads' h5
  have a6 := Kd.R_reads' h6
  have a7 := Kd.R_reads' h7
  exact ⟨A5, c5, A6, c6, A7, c7, rfl, ⟨a5.2.2, a5.2.1, a6.2.2, a6.2.1, a7.2.2, a7.2.1⟩, hb⟩
theorem exc_Offset (A5 A6 A7 : Option Addr) (c5 c6 c7 : Nat) (w : World) (hw : YtohbeninpmmmpaaDoor.Ways w) (hk : BkIs w A5 c5 A6 c6 A7 c7 (exL 70 false)) : Calls Tryd.prog 24 #[.agg #[.int .i64 3, .int .i64 0, .int .i64 100, .int .i64 (-10), .int .i64 20, .slice A5 2 c5, .slice A6 1 c6, .slice A7 4 c7], .int .i64 2] w fun e w' => e = .returned (.tuple #[.agg #[.int .i64 50, .int .i64 105], .int .i64 0]) ∧ Below w.heap.size w w' :=
  star_Offset.calls 3 0 100 (-10) 20 A5 c5 exP A6 c6 exH A7 c7 (exL 70 false) 2 50 105 0 w hk.r5 hk.h5 hk.r6 hk.h6 hk.r7 hk.h7 hw ex_Offset
theorem exc_Between (A5 A6 A7 : Option Addr) (c5 c6 c7 : Nat) (w : World) (hw : YtohbeninpmmmpaaDoor.Ways w) (hk : BkIs w A5 c5 A6 c6 A7 c7 (exL 70 false)) : Calls Tryd.prog 21 #[.agg #[.int .i64 3, .int .i64 0, .int .i64 100, .int .i64 (-10), .int .i64 20, .slice A5 2 c5, .slice A6 1 c6, .slice A7 4 c7], .int .i64 2, .int .i64 0] w fun e w' => e = .returned (.tuple #[.agg #[.int .i64 (-40), .int .i64 (-20)], .int .i64 0]) ∧ Below w.heap.size w w' :=
  star_Between.calls 3 0 100 (-10) 20 A5 c5 exP A6 c6 exH A7 c7 (exL 70 false) 2 0 (-40) (-20) 0 w hk.r5 hk.h5 hk.r6 hk.h6 hk.r7 hk.h7 hw ex_Between
theorem exc_Person (A5 A6 A7 : Option Addr) (c5 c6 c7 : Nat) (w : World) (hw : YtohbeninpmmmpaaDoor.Ways w) (hk : BkIs w A5 c5 A6 c6 A7 c7 (exL 70 false)) : Calls Tryd.prog 26 #[.agg #[.int .i64 3, .int .i64 0, .int .i64 100, .int .i64 (-10), .int .i64 20, .slice A5 2 c5, .slice A6 1 c6, .slice A7 4 c7], .int .i64 0] w fun e w' => e = .returned (.tuple #[.agg #[.int .i64 (-40), .int .i64 15], .int .i64 0]) ∧ Below w.heap.size w w' :=
  star_Person.calls 3 0 100 (-10) 20 A5 c5 exP A6 c6 exH A7 c7 (exL 70 false) 0 (-40) 15 0 w hk.r5 hk.h5 hk.r6 hk.h6 hk.r7 hk.h7 hw ex_Person
theorem exc_Path (A5 A6 A7 : Option Addr) (c5 c6 c7 : Nat) (w : World) (hw : YtohbeninpmmmpaaDoor.Ways w) (hk : BkIs w A5 c5 A6 c6 A7 c7 (exL 70 false)) : Calls Tryd.prog 28 #[.agg #[.int .i64 3, .int .i64 0, .int .i64 100, .int .i64 (-10), .int .i64 20, .slice A5 2 c5, .slice A6 1 c6, .slice A7 4 c7], .int .i64 0] w fun e w' => e = .returned (.tuple #[.agg #[.int .i64 30, .int .i64 60], .int .i64 0]) ∧ Below w.heap.size w w' :=
  star_Path.calls 3 0 100 (-10) 20 A5 c5 exP A6 c6 exH A7 c7 (exL 70 false) 0 30 60 0 w hk.r5 hk.h5 hk.r6 hk.h6 hk.r7 hk.h7 hw ex_Path
theorem exc_Worst (A5 A6 A7 : Option Addr) (c5 c6 c7 : Nat) (w : World) (hw : YtohbeninpmmmpaaDoor.Ways w) (hk : BkIs w A5 c5 A6 c6 A7 c7 (exL 70 false)) : Calls Tryd.prog 36 #[.agg #[.int .i64 3, .int .i64 0, .int .i64 100, .int .i64 (-10), .int .i64 20, .slice A5 2 c5, .slice A6 1 c6, .slice A7 4 c7]] w fun e w' => e = .returned (.tuple #[.int .i64 0, .int .i64 55, .int .i64 0]) ∧ Below w.heap.size w w' :=
  star_Worst.calls 3 0 100 (-10) 20 A5 c5 exP A6 c6 exH A7 c7 (exL 70 false) 0 55 0 w hk.r5 hk.h5 hk.r6 hk.h6 hk.r7 hk.h7 hw ex_Worst
theorem exc_IsTruth (A5 A6 A7 : Option Addr) (c5 c6 c7 : Nat) (w : World) (hw : YtohbeninpmmmpaaDoor.Ways w) (hk : BkIs w A5 c5 A6 c6 A7 c7 (exL 70 false)) (A0 A1 A2 : Option Addr) (c0 c1 c2 : Nat) (ht : Kd.C (Kd.int .i64) w A0 3 [50, 60, 75] ∧ 3 ≤ c0 ∧ Kd.C (Kd.int .i64) w A1 2 [-5, 10] ∧ 2 ≤ c1 ∧ Kd.C (Kd.int .i64) w A2 1 [40] ∧ 1 ≤ c2) : Calls Tryd.prog 17 #[.agg #[.int .i64 3, .int .i64 0, .int .i64 100, .int .i64 (-10), .int .i64 20, .slice A5 2 c5, .slice A6 1 c6, .slice A7 4 c7], .agg #[.slice A0 3 c0, .slice A1 2 c1, .slice A2 1 c2]] w fun e w' => e = .returned (.tuple #[.bool true, .int .i64 0]) ∧ Below w.heap.size w w' :=
  star_IsTruth.calls 3 0 100 (-10) 20 A5 c5 exP A6 c6 exH A7 c7 (exL 70 false) A0 c0 [50, 60, 75] A1 c1 [-5, 10] A2 c2 [40] true 0 w hk.r5 hk.h5 hk.r6 hk.h6 hk.r7 hk.h7 ht.1 ht.2.1 ht.2.2.1 ht.2.2.2.1 ht.2.2.2.2.1 ht.2.2.2.2.2 hw ex_IsTruth
theorem exc_Case (A5 A6 A7 : Option Addr) (c5 c6 c7 : Nat) (w : World) (hw : YtohbeninpmmmpaaDoor.Ways w) (hk : BkIs w A5 c5 A6 c6 A7 c7 (exL 70 false)) : Calls Tryd.prog 30 #[.agg #[.int .i64 3, .int .i64 0, .int .i64 100, .int .i64 (-10), .int .i64 20, .slice A5 2 c5, .slice A6 1 c6, .slice A7 4 c7], .int .i64 0, .bool true] w fun e w' => ∃ (A : Option Addr) (c : Nat) (B1 B2 : Option Addr) (n1 n2 d1 d2 : Nat) (a b : Int), e = .returned (.tuple #[.agg #[.slice A 3 c, .slice B1 n1 d1, .slice B2 n2 d2], .int .i64 0]) ∧ Kd.C (Kd.int .i64) w' A 3 [85, a, b] ∧ 3 ≤ c ∧ Below w.heap.size w w' := by
  obtain ⟨a, b, l1, l2, h⟩ := ex_Case
  refine (star_Case.calls 3 0 100 (-10) 20 A5 c5 exP A6 c6 exH A7 c7 (exL 70 false) 0 true [85, a, b] l1 l2 0 w hk.r5 hk.h5 hk.r6 hk.h6 hk.r7 hk.h7 hw h).mono ?_
  rintro e w' ⟨v0, v1, v2, rfl, h0, h1, h2, hb⟩
  obtain ⟨A, c, rfl⟩ := Kd.V_slice h0
  obtain ⟨A1, c1, rfl⟩ := Kd.V_slice h1
  obtain ⟨A2, c2, rfl⟩ := Kd.V_slice h2
  have a0 := Kd.V_reads' h0
  exact ⟨A, c, A1, A2, _, _, c1, c2, a, b, rfl, a0.2.2, a0.2.1, hb⟩
theorem exc_Wrong (A5 A6 A7 : Option Addr) (c5 c6 c7 : Nat) (w : World) (hw : YtohbeninpmmmpaaDoor.Ways w) (hk : BkIs w A5 c5 A6 c6 A7 c7 (exL 200 false)) : Calls Tryd.prog 31 #[.agg #[.int .i64 3, .int .i64 0, .int .i64 100, .int .i64 (-10), .int .i64 20, .slice A5 2 c5, .slice A6 1 c6, .slice A7 4 c7]] w fun e w' => ∃ (A : Option Addr) (c : Nat), e = .returned (.tuple #[.slice A 1 c, .int .i64 0]) ∧ Kd.C (Kd.int .i64) w' A 1 [3] ∧ 1 ≤ c ∧ Below w.heap.size w w' := by
  refine (star_Wrong.calls 3 0 100 (-10) 20 A5 c5 exP A6 c6 exH A7 c7 (exL 200 false) [3] 0 w hk.r5 hk.h5 hk.r6 hk.h6 hk.r7 hk.h7 hw ex_Wrong).mono ?_
  rintro e w' ⟨v0, rfl, h0, hb⟩
  obtain ⟨A, c, rfl⟩ := Kd.V_slice h0
  have a0 := Kd.V_reads' h0
  exact ⟨A, c, rfl, a0.2.2, a0.2.1, hb⟩
theorem exc_Idle (A5 A6 A7 : Option Addr) (c5 c6 c7 : Nat) (w : World) (hw : YtohbeninpmmmpaaDoor.Ways w) (hk : BkIs w A5 c5 A6 c6 A7 c7 (exL 70 true)) : Calls Tryd.prog 34 #[.agg #[.int .i64 3, .int .i64 0, .int .i64 100, .int .i64 (-10), .int .i64 20, .slice A5 2 c5, .slice A6 1 c6, .slice A7 5 c7]] w fun e w' => ∃ (A : Option Addr) (c : Nat), e = .returned (.tuple #[.slice A 1 c, .int .i64 0]) ∧ Kd.C (Kd.int .i64) w' A 1 [4] ∧ 1 ≤ c ∧ Below w.heap.size w w' := by
  refine (star_Idle.calls 3 0 100 (-10) 20 A5 c5 exP A6 c6 exH A7 c7 (exL 70 true) [4] 0 w hk.r5 hk.h5 hk.r6 hk.h6 hk.r7 hk.h7 hw ex_Idle).mono ?_
  rintro e w' ⟨v0, rfl, h0, hb⟩
  obtain ⟨A, c, rfl⟩ := Kd.V_slice h0
  have a0 := Kd.V_reads' h0
  exact ⟨A, c, rfl, a0.2.2, a0.2.1, hb⟩
theorem exc_Alike (n : Int) (hA : remontoirref00_Alike.f 5 [n] [n] = some true) (A0 A1 : Option Addr) (c0 c1 : Nat) (w : World) (h0 : Kd.C (Kd.int .i64) w A0 1 [n]) (k0 : 1 ≤ c0) (h1 : Kd.C (Kd.int .i64) w A1 1 [n]) (k1 : 1 ≤ c1) : Calls Tryd.prog 33 #[.slice A0 1 c0, .slice A1 1 c1] w fun e w' => e = .returned (.bool true) ∧ Drawn0 w w' :=
  remontoirref00_Alike.calls 5 A0 c0 [n] A1 c1 [n] true w h0 k0 h1 k1 hA
theorem C_look (w : World) : Kd.C k63 (w.alloc (.cells #[.int .i64 0, .int .i64 0, .int .i64 1, .int .i64 60, .int .i64 30] 63)) (some ⟨w.heap.size, 0, none⟩) 1 [⟨0, 0, 1, 60, 30⟩] := by
  refine ⟨rfl, by decide, fun hn => ⟨_, rfl, fun j p hj => ?_⟩⟩
  have hn := blk_new w (.cells #[.int .i64 0, .int .i64 0, .int .i64 1, .int .i64 60, .int .i64 30] 63)
  match j with
  | 0 =>
    simp at hj
    subst hj
    refine ⟨_, rfl, k63_mk _ _, fun i u hu => ?_⟩
    match i with
    | 0 => simp at hu; subst hu; exact (blk_cell hn 0).trans rfl
    | 1 => simp at hu; subst hu; exact (blk_cell hn 1).trans rfl
    | 2 => simp at hu; subst hu; exact (blk_cell hn 2).trans rfl
    | 3 => simp at hu; subst hu; exact (blk_cell hn 3).trans rfl
    | 4 => simp at hu; subst hu; exact (blk_cell hn 4).trans rfl
    | i + 5 => cases hu
  | j + 1 => cases hj
theorem C_lit1 (w : World) (n : Int) : Kd.C (Kd.int .i64) (w.alloc (.cells #[.int .i64 n] 3)) (some ⟨w.heap.size, 0, none⟩) 1 [n] := by
  refine Kd.C_of_reads (d := (0 : Int)) (h1 := fun _ => rfl) ⟨rfl, by decide, fun _ => ⟨_, rfl, fun j hj => ?_⟩⟩
  obtain rfl : j = 0 := by simpa using hj
  exact (blk_cell (blk_new w _) 0).trans rfl
theorem works_held {w W W1 : World} {p0 p1 p2 p3 : Nat} {a0 a1 a2 a3 b0 b1 b2 b3 : Int} (h : ((W.cell? ⟨p0, 0, none⟩ = some (.int .i64 a0) ∧ W.cell? ⟨p0, 1, none⟩ = some (.int .i64 b0)) ∧ (W.cell? ⟨p1, 0, none⟩ = some (.int .i64 a1) ∧ W.cell? ⟨p1, 1, none⟩ = some (.int .i64 b1)) ∧ (W.cell? ⟨p2, 0, none⟩ = some (.int .i64 a2) ∧ W.cell? ⟨p2, 1, none⟩ = some (.int .i64 b2)) ∧ (W.cell? ⟨p3, 0, none⟩ = some (.int .i64 a3) ∧ W.cell? ⟨p3, 1, none⟩ = some (.int .i64 b3))) ∧ Below w.heap.size w W) (hb : Below W.heap.size W W1) :
    ((W1.cell? ⟨p0, 0, none⟩ = some (.int .i64 a0) ∧ W1.cell? ⟨p0, 1, none⟩ = some (.int .i64 b0)) ∧ (W1.cell? ⟨p1, 0, none⟩ = some (.int .i64 a1) ∧ W1.cell? ⟨p1, 1, none⟩ = some (.int .i64 b1)) ∧ (W1.cell? ⟨p2, 0, none⟩ = some (.int .i64 a2) ∧ W1.cell? ⟨p2, 1, none⟩ = some (.int .i64 b2)) ∧ (W1.cell? ⟨p3, 0, none⟩ = some (.int .i64 a3) ∧ W1.cell? ⟨p3, 1, none⟩ = some (.int .i64 b3))) ∧ Below w.heap.size w W1 := by
  obtain ⟨⟨⟨h1, h2⟩, ⟨h3, h4⟩, ⟨h5, h6⟩, ⟨h7, h8⟩⟩, h9⟩ := h
  exact ⟨⟨⟨cell_below hb h1, cell_below hb h2⟩, ⟨cell_below hb h3, cell_below hb h4⟩, ⟨cell_below hb h5, cell_below hb h6⟩, ⟨cell_below hb h7, cell_below hb h8⟩⟩, below_step h9 hb⟩
set_option maxRecDepth 100000 in
set_option maxHeartbeats 16000000 in
theorem works_calls (w : World) (hWays : YtohbeninpmmmpaaDoor.Ways w) : Calls Tryd.prog 23 #[] w fun e w' => e = .returned (.bool true) ∧ Below w.heap.size w w' := by
  have hB0 : Below w.heap.size w w := Below.refl _ _
  go_enter Tryd.func23, Tryd.ntmps23
  go_wp2_with fail
  refine (exc_book 70 _).mono ?_
  rintro e w1 ⟨A5_1, c5_1, A6_1, c6_1, A7_1, c7_1, rfl, hk, hb⟩
  have hB1 := below_step (by repeat (first | (with_reducible first | exact hB0 | apply below_alloc | apply pw_below_drewN | apply below_drew1) | exact hB0)) hb
  clear hb
  go_wp2_with fail
  refine (exc_truth _).mono ?_
  rintro e w2 ⟨A0, c0, A1, c1, A2, c2, rfl, ht, hb⟩
  have hB2 := below_step (by repeat (first | (with_reducible first | exact hB1 | apply below_alloc | apply pw_below_drewN | apply below_drew1) | exact hB1)) hb
  replace hk := hk.below hb
  clear hb
  go_wp2_with fail
  refine (exc_IsTruth A5_1 A6_1 A7_1 c5_1 c6_1 c7_1 _ (hWays.below (by repeat (first | (with_reducible first | exact hB2 | apply below_alloc | apply pw_below_drewN | apply below_drew1) | exact hB2))) hk A0 A1 A2 c0 c1 c2 ht).mono ?_
  rintro e w3 ⟨rfl, hb⟩
  have hB3 := below_step (by repeat (first | (with_reducible first | exact hB2 | apply below_alloc | apply pw_below_drewN | apply below_drew1) | exact hB2)) hb
  clear hb hk ht
  go_wp2_with fail
  refine (exc_book 70 _).mono ?_
  rintro e w4 ⟨A5_4, c5_4, A6_4, c6_4, A7_4, c7_4, rfl, hk, hb⟩
  have hB4 := below_step (by repeat (first | (with_reducible first | exact hB3 | apply below_alloc | apply pw_below_drewN | apply below_drew1) | exact hB3)) hb
  clear hb
  go_wp2_with fail
  refine (exc_Offset A5_4 A6_4 A7_4 c5_4 c6_4 c7_4 _ (hWays.below (by repeat (first | (with_reducible first | exact hB4 | apply below_alloc | apply pw_below_drewN | apply below_drew1) | exact hB4))) hk).mono ?_
  rintro e w5 ⟨rfl, hb⟩
  have hB5 := below_step (by repeat (first | (with_reducible first | exact hB4 | apply below_alloc | apply pw_below_drewN | apply below_drew1) | exact hB4)) hb
  clear hb hk
  go_wp2_with fail
  refine (exc_book 70 _).mono ?_
  rintro e w6 ⟨A5_6, c5_6, A6_6, c6_6, A7_6, c7_6, rfl, hk, hb⟩
  have hB6 := below_step (by repeat (first | (with_reducible first | exact hB5 | apply below_alloc | apply pw_below_drewN | apply below_drew1) | exact hB5)) hb
  have q5 := blk_below (blk_new w5 (.cells #[.int .i64 50, .int .i64 105] 23)) hb
  clear hb
  go_wp2_with fail
  refine (exc_Between A5_6 A6_6 A7_6 c5_6 c6_6 c7_6 _ (hWays.below (by repeat (first | (with_reducible first | exact hB6 | apply below_alloc | apply pw_below_drewN | apply below_drew1) | exact hB6))) hk).mono ?_
  rintro e w7 ⟨rfl, hb⟩
  have hB7 := below_step (by repeat (first | (with_reducible first | exact hB6 | apply below_alloc | apply pw_below_drewN | apply below_drew1) | exact hB6)) hb
  have q5 := blk_below q5 hb
  clear hb hk
  go_wp2_with fail
  refine (exc_book 70 _).mono ?_
  rintro e w8 ⟨A5_8, c5_8, A6_8, c6_8, A7_8, c7_8, rfl, hk, hb⟩
  have hB8 := below_step (by repeat (first | (with_reducible first | exact hB7 | apply below_alloc | apply pw_below_drewN | apply below_drew1) | exact hB7)) hb
  have q7 := blk_below (blk_new w7 (.cells #[.int .i64 (-40), .int .i64 (-20)] 23)) hb
  have q5 := blk_below (blk_alloc q5 _) hb
  clear hb
  go_wp2_with fail
  refine (exc_Person A5_8 A6_8 A7_8 c5_8 c6_8 c7_8 _ (hWays.below (by repeat (first | (with_reducible first | exact hB8 | apply below_alloc | apply pw_below_drewN | apply below_drew1) | exact hB8))) hk).mono ?_
  rintro e w9 ⟨rfl, hb⟩
  have hB9 := below_step (by repeat (first | (with_reducible first | exact hB8 | apply below_alloc | apply pw_below_drewN | apply below_drew1) | exact hB8)) hb
  have q5 := blk_below q5 hb
  have q7 := blk_below q7 hb
  clear hb hk
  go_wp2_with fail
  refine (exc_book 70 _).mono ?_
  rintro e w10 ⟨A5_10, c5_10, A6_10, c6_10, A7_10, c7_10, rfl, hk, hb⟩
  have hB10 := below_step (by repeat (first | (with_reducible first | exact hB9 | apply below_alloc | apply pw_below_drewN | apply below_drew1) | exact hB9)) hb
  have q9 := blk_below (blk_new w9 (.cells #[.int .i64 (-40), .int .i64 15] 23)) hb
  have q5 := blk_below (blk_alloc q5 _) hb
  have q7 := blk_below (blk_alloc q7 _) hb
  clear hb
  go_wp2_with fail
  refine (exc_Path A5_10 A6_10 A7_10 c5_10 c6_10 c7_10 _ (hWays.below (by repeat (first | (with_reducible first | exact hB10 | apply below_alloc | apply pw_below_drewN | apply below_drew1) | exact hB10))) hk).mono ?_
  rintro e w11 ⟨rfl, hb⟩
  have hB11 := below_step (by repeat (first | (with_reducible first | exact hB10 | apply below_alloc | apply pw_below_drewN | apply below_drew1) | exact hB10)) hb
  have q5 := blk_below q5 hb
  have q7 := blk_below q7 hb
  have q9 := blk_below q9 hb
  clear hb hk
  go_wp2_with fail
  have q11 := blk_new w11 (.cells #[.int .i64 30, .int .i64 60] 23)
  have q5 := blk_alloc q5 (.cells #[.int .i64 30, .int .i64 60] 23)
  have q7 := blk_alloc q7 (.cells #[.int .i64 30, .int .i64 60] 23)
  have q9 := blk_alloc q9 (.cells #[.int .i64 30, .int .i64 60] 23)
  have hB11' : Below w.heap.size w (w11.alloc (.cells #[.int .i64 30, .int .i64 60] 23)) := (by repeat (first | (with_reducible first | exact hB11 | apply below_alloc | apply pw_below_drewN | apply below_drew1) | exact hB11))
  generalize w11.alloc (.cells #[.int .i64 30, .int .i64 60] 23) = V0 at *
  have hS0 : ((V0.cell? ⟨w5.heap.size, 0, none⟩ = some (.int .i64 50) ∧ V0.cell? ⟨w5.heap.size, 1, none⟩ = some (.int .i64 105)) ∧ (V0.cell? ⟨w7.heap.size, 0, none⟩ = some (.int .i64 (-40)) ∧ V0.cell? ⟨w7.heap.size, 1, none⟩ = some (.int .i64 (-20))) ∧ (V0.cell? ⟨w9.heap.size, 0, none⟩ = some (.int .i64 (-40)) ∧ V0.cell? ⟨w9.heap.size, 1, none⟩ = some (.int .i64 15)) ∧ (V0.cell? ⟨w11.heap.size, 0, none⟩ = some (.int .i64 30) ∧ V0.cell? ⟨w11.heap.size, 1, none⟩ = some (.int .i64 60))) ∧ Below w.heap.size w V0 := ⟨⟨⟨(blk_cell q5 0).trans rfl, (blk_cell q5 1).trans rfl⟩, ⟨(blk_cell q7 0).trans rfl, (blk_cell q7 1).trans rfl⟩, ⟨(blk_cell q9 0).trans rfl, (blk_cell q9 1).trans rfl⟩, ⟨(blk_cell q11 0).trans rfl, (blk_cell q11 1).trans rfl⟩⟩, hB11'⟩
  clear q5 q7 q9 q11
  go_region_held3 (fun W : World => ((W.cell? ⟨w5.heap.size, 0, none⟩ = some (.int .i64 50) ∧ W.cell? ⟨w5.heap.size, 1, none⟩ = some (.int .i64 105)) ∧ (W.cell? ⟨w7.heap.size, 0, none⟩ = some (.int .i64 (-40)) ∧ W.cell? ⟨w7.heap.size, 1, none⟩ = some (.int .i64 (-20))) ∧ (W.cell? ⟨w9.heap.size, 0, none⟩ = some (.int .i64 (-40)) ∧ W.cell? ⟨w9.heap.size, 1, none⟩ = some (.int .i64 15)) ∧ (W.cell? ⟨w11.heap.size, 0, none⟩ = some (.int .i64 30) ∧ W.cell? ⟨w11.heap.size, 1, none⟩ = some (.int .i64 60))) ∧ Below w.heap.size w W)
    (first | with_reducible exact works_held (by assumption) (by assumption) | exact works_held hS0 (Below.refl _ _).drew | assumption)
    (first | (go_at_call 43; refine (remontoirref00_To.calls _ _ _ _ _ rfl).mono ?_; rintro e wT ⟨rfl, hbT⟩))
  rename_i hh
  have hB12 := hh.2
  clear hh hS0 hB11'
  clear hB0 hB1 hB2 hB3 hB4 hB5 hB6 hB7 hB8 hB9 hB10 hB11
  go_wp2_with fail
  refine (exc_book 70 _).mono ?_
  rintro e w13 ⟨A5_13, c5_13, A6_13, c6_13, A7_13, c7_13, rfl, hk, hb⟩
  have hB13 := below_step (by repeat (first | (with_reducible first | exact hB12 | apply below_alloc | apply pw_below_drewN | apply below_drew1) | exact hB12)) hb
  clear hb
  go_wp2_with fail
  refine (exc_Case A5_13 A6_13 A7_13 c5_13 c6_13 c7_13 _ (hWays.below (by repeat (first | (with_reducible first | exact hB13 | apply below_alloc | apply pw_below_drewN | apply below_drew1) | exact hB13))) hk).mono ?_
  rintro e w14 ⟨Ac, cc, B1, B2, n1, n2, d1, d2, xa, xb, rfl, hC, hcc, hb⟩
  have hB14 := below_step (by repeat (first | (with_reducible first | exact hB13 | apply below_alloc | apply pw_below_drewN | apply below_drew1) | exact hB13)) hb
  clear hb hk
  go_wp2_with fail
  refine (exc_book 200 _).mono ?_
  rintro e w15 ⟨A5_15, c5_15, A6_15, c6_15, A7_15, c7_15, rfl, hk, hb⟩
  have hB15 := below_step (by repeat (first | (with_reducible first | exact hB14 | apply below_alloc | apply pw_below_drewN | apply below_drew1) | exact hB14)) hb
  have qc := blk_below (blk_new w14 (.cells #[.slice Ac 3 cc, .slice B1 n1 d1, .slice B2 n2 d2] 30)) hb
  replace hC := Kd.C_below (Kd.C_alloc hC (.cells #[.slice Ac 3 cc, .slice B1 n1 d1, .slice B2 n2 d2] 30)) hb
  clear hb
  go_wp2_with fail
  refine (exc_Wrong A5_15 A6_15 A7_15 c5_15 c6_15 c7_15 _ (hWays.below (by repeat (first | (with_reducible first | exact hB15 | apply below_alloc | apply pw_below_drewN | apply below_drew1) | exact hB15))) hk).mono ?_
  rintro e w16 ⟨Aw, cw, rfl, hW, hcw, hb⟩
  have hB16 := below_step (by repeat (first | (with_reducible first | exact hB15 | apply below_alloc | apply pw_below_drewN | apply below_drew1) | exact hB15)) hb
  replace qc := blk_below qc hb
  replace hC := Kd.C_below hC hb
  clear hb hk
  go_wp2_with fail
  refine (remontoirlaw03_look.calls 0 0 1 60 30 0 0 1 60 30 _ (by rfl)).mono ?_
  rintro e w17 ⟨rfl, hb⟩
  have hB17 := below_step (by repeat (first | (with_reducible first | exact hB16 | apply below_alloc | apply pw_below_drewN | apply below_drew1) | exact hB16)) hb
  replace qc := blk_below qc hb
  replace hC := Kd.C_below hC hb
  replace hW := Kd.C_below hW hb
  clear hb
  go_wp2_with fail
  refine (exc_bookC _ _ _ (C_look _) (by decide)).mono ?_
  rintro e w18 ⟨A5_18, c5_18, A6_18, c6_18, A7_18, c7_18, rfl, hk, hb⟩
  have hB18 := below_step (by repeat (first | (with_reducible first | exact hB17 | apply below_alloc | apply pw_below_drewN | apply below_drew1) | exact hB17)) hb
  replace qc := blk_below (blk_alloc qc _) hb
  replace hC := Kd.C_below (Kd.C_alloc hC _) hb
  replace hW := Kd.C_below (Kd.C_alloc hW _) hb
  clear hb
  go_wp2_with fail
  refine (exc_Idle A5_18 A6_18 A7_18 c5_18 c6_18 c7_18 _ (hWays.below (by repeat (first | (with_reducible first | exact hB18 | apply below_alloc | apply pw_below_drewN | apply below_drew1) | exact hB18))) hk).mono ?_
  rintro e w19 ⟨Ai, ci, rfl, hI, hci, hb⟩
  have hB19 := below_step (by repeat (first | (with_reducible first | exact hB18 | apply below_alloc | apply pw_below_drewN | apply below_drew1) | exact hB18)) hb
  replace qc := blk_below qc hb
  replace hC := Kd.C_below hC hb
  replace hW := Kd.C_below hW hb
  clear hb hk
  go_wp2_with fail
  refine (exc_book 70 _).mono ?_
  rintro e w20 ⟨A5_20, c5_20, A6_20, c6_20, A7_20, c7_20, rfl, hk, hb⟩
  have hB20 := below_step (by repeat (first | (with_reducible first | exact hB19 | apply below_alloc | apply pw_below_drewN | apply below_drew1) | exact hB19)) hb
  replace qc := blk_below qc hb
  replace hC := Kd.C_below hC hb
  replace hW := Kd.C_below hW hb
  replace hI := Kd.C_below hI hb
  clear hb
  go_wp2_with fail
  refine (exc_Worst A5_20 A6_20 A7_20 c5_20 c6_20 c7_20 _ (hWays.below (by repeat (first | (with_reducible first | exact hB20 | apply below_alloc | apply pw_below_drewN | apply below_drew1) | exact hB20))) hk).mono ?_
  rintro e w21 ⟨rfl, hb⟩
  have hB21 := below_step (by repeat (first | (with_reducible first | exact hB20 | apply below_alloc | apply pw_below_drewN | apply below_drew1) | exact hB20)) hb
  replace qc := blk_below qc hb
  replace hC := Kd.C_below hC hb
  replace hW := Kd.C_below hW hb
  replace hI := Kd.C_below hI hb
  clear hb hk
  obtain ⟨ad, rfl, hcell⟩ := (Kd.reads_of_C (enc := Value.int .i64) (d := (0 : Int)) (h1 := fun _ => rfl) hC).2.2 (by decide)
  have hc0 := hcell 0 (by decide)
  have hc0 : w21.cell? ad = some (.int .i64 85) := by
    obtain ⟨b, off, sp⟩ := ad
    exact hc0
  have hqc : w21.cell? ⟨w14.heap.size, 0, none⟩ = some (.slice (some ad) 3 cc) := (blk_cell qc 0).trans rfl
  clear hcell qc hC
  go_wp2_with fail
  refine (exc_Alike 3 (by decide +kernel) _ _ _ _ _ (Kd.C_alloc hW _) hcw (C_lit1 _ _) (by decide)).mono ?_
  rintro e wa ⟨rfl, hda⟩
  have hba := hda.below
  go_wp2_with fail
  refine (exc_Alike 4 (by decide +kernel) _ _ _ _ _ (Kd.C_alloc (Kd.C_below (Kd.C_alloc hI _) hba) _) hci (C_lit1 _ _) (by decide)).mono ?_
  rintro e wb ⟨rfl, hdb⟩
  have hbb := hdb.below
  go_wp2_with fail
  have hfin : Below w.heap.size w wb := below_step (below_alloc (below_step (below_alloc hB21 _) hba) _) hbb
  clear hba hbb hda hdb hqc hc0 hW hI
  refine bodyPost_ret (results_tmp rfl _ _ _) rfl ?_
  exact ⟨rfl, hfin⟩
/-- What the print takes for the examples: they work. -/
def remontoirlaw03_works.f : Option Bool := some true
theorem remontoirlaw03_works.calls (r : Bool) (w : World) (hWays : Go.Proofs.YtohbeninpmmmpaaDoor.Ways w) (h : remontoirlaw03_works.f = some r) : Calls Tryd.prog 23 #[] w fun e w' => e = .returned (.bool r) ∧ Below w.heap.size w w' := by
  obtain rfl : true = r := Option.some.inj h
  exact works_calls w hWays
end Go.Proofs.TrydX.X
end
